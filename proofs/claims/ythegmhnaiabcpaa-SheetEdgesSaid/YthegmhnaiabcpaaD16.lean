/- Own texts, merged: PEd Tk1 Rn6 Tk. -/
import Derived.Test.YthegmhnaiabcpaaD15
import Derived.RangeFuncNested
set_option linter.unusedSimpArgs false
set_option linter.unusedVariables false
set_option linter.unnecessarySimpa false
section
/- Plain: edges of two sheets: matches are chains of pairs; levels, tables and lists of levels tell how long the longest is. -/
namespace Sheet
/-- Pairs in order, both numbers rising, each one of marks that can be the same, from (i, k) on and below (n, m). -/
structure Chain (S : Nat → Nat → Bool) (n m i k : Nat) (l : List (Nat × Nat)) : Prop where
  rise : l.Pairwise fun p q => p.1 < q.1 ∧ p.2 < q.2
  same : ∀ p ∈ l, S p.1 p.2 = true
  low : ∀ p ∈ l, i ≤ p.1 ∧ k ≤ p.2
  high : ∀ p ∈ l, p.1 < n ∧ p.2 < m
variable {S : Nat → Nat → Bool} {n m : Nat}
theorem Chain.nil (i k : Nat) : Chain S n m i k [] := ⟨.nil, (fun _ h => by cases h), (fun _ h => by cases h), (fun _ h => by cases h)⟩
/-- The longest of the chains from (i, k) on. -/
structure Long (S : Nat → Nat → Bool) (n m i k t : Nat) : Prop where
  has : ∃ l, Chain S n m i k l ∧ l.length = t
  all : ∀ l, Chain S n m i k l → l.length ≤ t
theorem Long.same {i k t t' : Nat} (h : Long S n m i k t) (h' : Long S n m i k t') : t = t' := by
  obtain ⟨l, h1, h2⟩ := h.has
  obtain ⟨l', h3, h4⟩ := h'.has
  have := h.all l' h3
  have := h'.all l h1
  omega
theorem Long.out {i k : Nat} (h : n ≤ i ∨ m ≤ k) : Long S n m i k 0 := by
  refine ⟨⟨[], .nil i k, rfl⟩, fun l hl => ?_⟩
  match l, hl with
  | [], _ => exact Nat.le_refl _
  | p :: r, hl =>
    have h1 := hl.low p (by simp)
    have h2 := hl.high p (by simp)
    omega
theorem Chain.down {i k i' k' : Nat} {l : List (Nat × Nat)} (h : Chain S n m i k l) (hi : i' ≤ i) (hk : k' ≤ k) : Chain S n m i' k' l :=
  ⟨h.rise, h.same, fun p hp => by have := h.low p hp; omega, h.high⟩
/-- A step of the table. -/
theorem Long.step {i k a b c : Nat} (hi : i < n) (hk : k < m) (ha : Long S n m (i + 1) k a) (hb : Long S n m i (k + 1) b) (hc : Long S n m (i + 1) (k + 1) c) :
    Long S n m i k (if S i k = true then max (max a b) (c + 1) else max a b) := by
  obtain ⟨la, a1, a2⟩ := ha.has
  obtain ⟨lb, b1, b2⟩ := hb.has
  obtain ⟨lc, c1, c2⟩ := hc.has
  have base : ∃ l, Chain S n m i k l ∧ l.length = max a b := by
    by_cases e : a ≤ b
    · exact ⟨lb, b1.down (by omega) (by omega), by omega⟩
    · exact ⟨la, a1.down (by omega) (by omega), by omega⟩
  refine ⟨?_, fun l hl => ?_⟩
  · split
    · rename_i hs
      by_cases e : max a b ≤ c + 1
      · refine ⟨(i, k) :: lc, ⟨List.pairwise_cons.2 ⟨fun p hp => by have := c1.low p hp; exact ⟨by omega, by omega⟩, c1.rise⟩, fun p hp => ?_, fun p hp => ?_, fun p hp => ?_⟩, by simp; omega⟩
        · rcases List.mem_cons.1 hp with rfl | hp
          · exact hs
          · exact c1.same p hp
        · rcases List.mem_cons.1 hp with rfl | hp
          · exact ⟨Nat.le_refl _, Nat.le_refl _⟩
          · have := c1.low p hp; omega
        · rcases List.mem_cons.1 hp with rfl | hp
          · exact ⟨hi, hk⟩
          · exact c1.high p hp
      · obtain ⟨l, h1, h2⟩ := base
        exact ⟨l, h1, by omega⟩
    · exact base
  · match l, hl with
    | [], _ => exact Nat.zero_le _
    | p :: r, hl =>
      have h1 := hl.low p (by simp)
      have hr := List.pairwise_cons.1 hl.rise
      by_cases e1 : i < p.1
      · have := ha.all (p :: r) ⟨hl.rise, hl.same, fun q hq => by
          rcases List.mem_cons.1 hq with rfl | hq
          · omega
          · have := hr.1 q hq; omega, hl.high⟩
        split <;> omega
      · by_cases e2 : k < p.2
        · have := hb.all (p :: r) ⟨hl.rise, hl.same, fun q hq => by
            rcases List.mem_cons.1 hq with rfl | hq
            · omega
            · have := hr.1 q hq; omega, hl.high⟩
          split <;> omega
        · have ep : p = (i, k) := Prod.ext (by omega) (by omega)
          have hs := hl.same p (by simp)
          rw [ep] at hs
          have := hc.all r ⟨hr.2, fun q hq => hl.same q (by simp [hq]), fun q hq => by have := hr.1 q hq; omega, fun q hq => hl.high q (by simp [hq])⟩
          have hs : S i k = true := hs
          rw [if_pos hs]
          simp
          omega
/-- The program's levels: how long a chain can be that ends with a pair. -/
structure Levels (S : Nat → Nat → Bool) (n m : Nat) (L : Nat → Nat → Nat) : Prop where
  off : ∀ i k, i < n → k < m → S i k = false → L i k = 0
  up : ∀ i k, i < n → k < m → S i k = true → 0 < L i k ∧ ∀ i' k', i' < i → k' < k → L i' k' < L i k
  has : ∀ i k, i < n → k < m → S i k = true → L i k = 1 ∨ ∃ i' k', i' < i ∧ k' < k ∧ L i' k' + 1 = L i k
theorem Levels.pos {L : Nat → Nat → Nat} (h : Levels S n m L) {i k : Nat} (hi : i < n) (hk : k < m) (hp : 0 < L i k) : S i k = true := by
  cases hs : S i k with
  | true => rfl
  | false => have := h.off i k hi hk hs; omega
/-- A chain that ends with a pair, of as many pairs as its level. -/
theorem Levels.chain {L : Nat → Nat → Nat} (h : Levels S n m L) : ∀ (t i k : Nat), i < n → k < m → L i k = t → 0 < t → ∃ l, Chain S n m 0 0 l ∧ l.length = t ∧ ∀ p ∈ l, p.1 ≤ i ∧ p.2 ≤ k
  | 0, _, _, _, _, _, h0 => absurd h0 (Nat.lt_irrefl _)
  | t + 1, i, k, hi, hk, ht, _ => by
    have hs := h.pos hi hk (by omega)
    rcases h.has i k hi hk hs with e | ⟨i', k', h1, h2, h3⟩
    · have : t = 0 := by omega
      subst this
      refine ⟨[(i, k)], ⟨List.pairwise_singleton _ _, fun p hp => ?_, fun p hp => ?_, fun p hp => ?_⟩, rfl, fun p hp => ?_⟩
      all_goals rw [List.mem_singleton] at hp; subst hp
      · exact hs
      · exact ⟨Nat.zero_le _, Nat.zero_le _⟩
      · exact ⟨hi, hk⟩
      · exact ⟨Nat.le_refl _, Nat.le_refl _⟩
    · by_cases ht0 : t = 0
      · have h4 : L i' k' = 0 := by omega
        subst ht0
        refine ⟨[(i, k)], ⟨List.pairwise_singleton _ _, fun p hp => ?_, fun p hp => ?_, fun p hp => ?_⟩, rfl, fun p hp => ?_⟩
        all_goals rw [List.mem_singleton] at hp; subst hp
        · exact hs
        · exact ⟨Nat.zero_le _, Nat.zero_le _⟩
        · exact ⟨hi, hk⟩
        · exact ⟨Nat.le_refl _, Nat.le_refl _⟩
      · obtain ⟨l, c1, c2, c3⟩ := Levels.chain h t i' k' (by omega) (by omega) (by omega) (by omega)
        refine ⟨l ++ [(i, k)], ⟨List.pairwise_append.2 ⟨c1.rise, List.pairwise_singleton _ _, fun p hp q hq => ?_⟩, fun p hp => ?_, fun p hp => ⟨Nat.zero_le _, Nat.zero_le _⟩, fun p hp => ?_⟩, by simp [c2], fun p hp => ?_⟩
        · rw [List.mem_singleton] at hq; subst hq
          have := c3 p hp
          exact ⟨by show p.1 < i; omega, by show p.2 < k; omega⟩
        all_goals rcases List.mem_append.1 hp with hp | hp
        · exact c1.same p hp
        · rw [List.mem_singleton] at hp; subst hp; exact hs
        · exact c1.high p hp
        · rw [List.mem_singleton] at hp; subst hp; exact ⟨hi, hk⟩
        · have := c3 p hp; omega
        · rw [List.mem_singleton] at hp; subst hp; exact ⟨Nat.le_refl _, Nat.le_refl _⟩
/-- Numbers that differ on a chain, from 1 to a greatest one: no more pairs than that. -/
theorem distinct_le : ∀ (t : Nat) (l : List Nat), l.Pairwise (· ≠ ·) → (∀ x ∈ l, 0 < x ∧ x ≤ t) → l.length ≤ t
  | 0, [], _, _ => Nat.le_refl _
  | 0, x :: r, _, h => by have := h x (by simp); omega
  | t + 1, l, hp, h => by
    have h1 := distinct_le t (l.filter (· != t + 1)) (hp.filter _) fun x hx => by
      have h2 := List.mem_filter.1 hx
      have h3 := h x h2.1
      have h4 : x ≠ t + 1 := by simpa using h2.2
      omega
    have h2 : l.length ≤ (l.filter (· != t + 1)).length + 1 := by
      clear h1 h
      induction l with
      | nil => exact Nat.zero_le _
      | cons x r ih =>
        have hr := List.pairwise_cons.1 hp
        by_cases e : x = t + 1
        · have : r.filter (· != t + 1) = r := List.filter_eq_self.2 fun y hy => by
            have := hr.1 y hy
            simp
            omega
          simp [e, this]
        · have := ih hr.2
          simp [e]
          omega
    omega
/-- A list of levels that holds: a number above 0 just where marks can be the same, never the same one twice on the way. -/
structure Bar (S : Nat → Nat → Bool) (n m : Nat) (V : Nat → Nat → Nat) : Prop where
  iff : ∀ i k, i < n → k < m → (0 < V i k ↔ S i k = true)
  ne : ∀ i k i' k', i < n → k < m → i' < i → k' < k → 0 < V i k → V i' k' ≠ V i k
theorem Bar.le {V : Nat → Nat → Nat} (h : Bar S n m V) {t : Nat} (ht : ∀ i k, i < n → k < m → V i k ≤ t) {l : List (Nat × Nat)} (hl : Chain S n m 0 0 l) : l.length ≤ t := by
  have h1 := distinct_le t (l.map fun p => V p.1 p.2) (List.pairwise_map.2 (hl.rise.imp_of_mem fun {p q} hp hq hpq => by
    have hp' := hl.high p hp
    have hq' := hl.high q hq
    exact h.ne q.1 q.2 p.1 p.2 hq'.1 hq'.2 hpq.1 hpq.2 ((h.iff _ _ hq'.1 hq'.2).2 (hl.same q hq)))) fun x hx => by
      obtain ⟨p, hp, rfl⟩ := List.mem_map.1 hx
      have hp' := hl.high p hp
      exact ⟨(h.iff _ _ hp'.1 hp'.2).2 (hl.same p hp), ht _ _ hp'.1 hp'.2⟩
  simpa using h1
theorem Levels.bar {L : Nat → Nat → Nat} (h : Levels S n m L) : Bar S n m L :=
  ⟨fun i k hi hk => ⟨h.pos hi hk, fun hs => (h.up i k hi hk hs).1⟩, fun i k i' k' hi hk h1 h2 hp => Nat.ne_of_lt ((h.up i k hi hk (h.pos hi hk hp)).2 i' k' h1 h2)⟩
/-- The greatest of the levels is how long the longest chain is. -/
theorem Levels.long {L : Nat → Nat → Nat} (h : Levels S n m L) {t : Nat} (ht : ∀ i k, i < n → k < m → L i k ≤ t) (hh : t = 0 ∨ ∃ i k, i < n ∧ k < m ∧ L i k = t) : Long S n m 0 0 t := by
  refine ⟨?_, fun l hl => h.bar.le ht hl⟩
  by_cases e : t = 0
  · subst e; exact ⟨[], .nil 0 0, rfl⟩
  · rcases hh with hh | ⟨i, k, hi, hk, hL⟩
    · exact absurd hh e
    · obtain ⟨l, h1, h2, _⟩ := h.chain t i k hi hk hL (by omega)
      exact ⟨l, h1, h2⟩
end Sheet
end

section
/- Levels: what is plain of the program's way to reckon them. -/
namespace Sheet
/-- A pair's level is right. -/
structure LvOk (S : Nat → Nat → Bool) (V : Nat × Nat → Nat) (a b : Nat) : Prop where
  off : S a b = false → V (a, b) = 0
  up : S a b = true → 0 < V (a, b) ∧ ∀ a' b', a' < a → b' < b → V (a', b') < V (a, b)
  has : S a b = true → V (a, b) = 1 ∨ ∃ a' b', a' < a ∧ b' < b ∧ V (a', b') + 1 = V (a, b)
  small : V (a, b) ≤ a + 1
/-- The rows below i, and row i below k, are done; nothing else is. -/
structure Lv (S : Nat → Nat → Bool) (n m : Nat) (V : Nat × Nat → Nat) (i k : Nat) : Prop where
  done : ∀ a b, a < n → b < m → (a < i ∨ (a = i ∧ b < k)) → LvOk S V a b
  rest : ∀ a b, ¬ (a < i ∨ (a = i ∧ b < k)) → V (a, b) = 0
theorem Lv.start (S : Nat → Nat → Bool) (n m : Nat) : Lv S n m (fun _ => 0) 0 0 := ⟨fun a b _ _ h => by omega, fun _ _ _ => rfl⟩
theorem Lv.row {S : Nat → Nat → Bool} {n m : Nat} {V : Nat × Nat → Nat} {i : Nat} (h : Lv S n m V i m) (hz : ∀ a b, m ≤ b → V (a, b) = 0) : Lv S n m V (i + 1) 0 :=
  ⟨fun a b ha hb hd => h.done a b ha hb (by omega), fun a b hd => by
    by_cases hb : m ≤ b
    · exact hz a b hb
    · exact h.rest a b (by omega)⟩
theorem Lv.levels {S : Nat → Nat → Bool} {n m : Nat} {V : Nat × Nat → Nat} (h : Lv S n m V n 0) : Levels S n m fun a b => V (a, b) :=
  ⟨fun a b ha hb => (h.done a b ha hb (.inl ha)).off, fun a b ha hb => (h.done a b ha hb (.inl ha)).up, fun a b ha hb => (h.done a b ha hb (.inl ha)).has⟩
theorem Lv.skip {S : Nat → Nat → Bool} {n m : Nat} {V : Nat × Nat → Nat} {i k : Nat} (h : Lv S n m V i k) (hs : S i k = false) : Lv S n m V i (k + 1) :=
  ⟨fun a b ha hb hd => by
    by_cases e : a = i ∧ b = k
    · obtain ⟨rfl, rfl⟩ := e
      have h0 := h.rest a b (by omega)
      exact ⟨fun _ => h0, fun h1 => absurd h1 (by rw [hs]; decide), fun h1 => absurd h1 (by rw [hs]; decide), by omega⟩
    · exact h.done a b ha hb (by omega), fun a b hd => h.rest a b (by omega)⟩
/-- Within a pair's round: r of the pairs below it are asked. -/
structure LvIn (S : Nat → Nat → Bool) (n m : Nat) (V : Nat × Nat → Nat) (i k r : Nat) : Prop where
  done : ∀ a b, a < n → b < m → (a < i ∨ (a = i ∧ b < k)) → LvOk S V a b
  rest : ∀ a b, ¬ (a < i ∨ (a = i ∧ b < k)) → (a, b) ≠ (i, k) → V (a, b) = 0
  pos : 0 < V (i, k)
  up : ∀ a b, b < k → a * k + b < r → V (a, b) < V (i, k)
  has : V (i, k) = 1 ∨ ∃ a b, a < i ∧ b < k ∧ V (a, b) + 1 = V (i, k)
  small : V (i, k) ≤ i + 1
theorem lvok_put {S : Nat → Nat → Bool} {V : Nat × Nat → Nat} {i k x a b : Nat} (h : LvOk S V a b) (hd : a < i ∨ (a = i ∧ b < k)) : LvOk S (fun t => if t = (i, k) then x else V t) a b := by
  have e1 : ((a, b) : Nat × Nat) ≠ (i, k) := fun e => by cases e; omega
  have e2 : ∀ a' b', a' < a → b' < b → ((a', b') : Nat × Nat) ≠ (i, k) := fun a' b' h1 h2 e => by cases e; omega
  refine ⟨fun hs => ?_, fun hs => ?_, fun hs => ?_, ?_⟩
  · (try dsimp only); rw [if_neg e1]; exact h.off hs
  · try dsimp only
    rw [if_neg e1]
    exact ⟨(h.up hs).1, fun a' b' h1 h2 => by rw [if_neg (e2 a' b' h1 h2)]; exact (h.up hs).2 a' b' h1 h2⟩
  · try dsimp only
    rw [if_neg e1]
    rcases h.has hs with e | ⟨a', b', h1, h2, h3⟩
    · exact .inl e
    · exact .inr ⟨a', b', h1, h2, by rw [if_neg (e2 a' b' h1 h2)]; exact h3⟩
  · (try dsimp only); rw [if_neg e1]; exact h.small
theorem Lv.begin {S : Nat → Nat → Bool} {n m : Nat} {V : Nat × Nat → Nat} {i k : Nat} (h : Lv S n m V i k) : LvIn S n m (fun t => if t = (i, k) then 1 else V t) i k 0 :=
  ⟨fun a b ha hb hd => lvok_put (h.done a b ha hb hd) hd, fun a b hd hne => by (try dsimp only); rw [if_neg hne]; exact h.rest a b hd, by (try dsimp only); rw [if_pos rfl]; decide, fun a b _ hr => absurd hr (Nat.not_lt_zero _), .inl (by (try dsimp only); rw [if_pos rfl]), by (try dsimp only); rw [if_pos rfl]; omega⟩
theorem LvIn.round {S : Nat → Nat → Bool} {n m : Nat} {V : Nat × Nat → Nat} {i k a b : Nat} (h : LvIn S n m V i k (a * k + b)) (ha : a < i) (hb : b < k) (hi : i < n) (hk : k < m) : LvIn S n m (fun t => if t = (i, k) then max (V (i, k)) (V (a, b) + 1) else V t) i k (a * k + b + 1) := by
  have hsm := (h.done a b (by omega) (by omega) (.inl ha)).small
  have hne : ∀ a' b', b' < k → ((a', b') : Nat × Nat) ≠ (i, k) := fun a' b' h1 e => by cases e; omega
  refine ⟨fun a' b' ha' hb' hd => lvok_put (h.done a' b' ha' hb' hd) hd, fun a' b' hd hn => ?_, ?_, fun a' b' hb' hr => ?_, ?_, ?_⟩
  · (try dsimp only); rw [if_neg hn]; exact h.rest a' b' hd hn
  · (try dsimp only); rw [if_pos rfl]; omega
  · try dsimp only
    rw [if_pos rfl, if_neg (hne a' b' hb')]
    by_cases e : a' * k + b' < a * k + b
    · have := h.up a' b' hb' e; omega
    · have e1 : a' * k + b' = a * k + b := by omega
      have e2 : a' = a ∧ b' = b := by
        have h1 : (a' * k + b') / k = a' := by rw [Nat.mul_comm, Nat.mul_add_div (by omega), Nat.div_eq_of_lt hb']; omega
        have h2 : (a * k + b) / k = a := by rw [Nat.mul_comm, Nat.mul_add_div (by omega), Nat.div_eq_of_lt hb]; omega
        have h3 : a' = a := by rw [← h1, e1, h2]
        subst h3
        exact ⟨rfl, by omega⟩
      obtain ⟨rfl, rfl⟩ := e2
      omega
  · try dsimp only
    rw [if_pos rfl]
    by_cases e : V (a, b) + 1 ≤ V (i, k)
    · rw [Nat.max_eq_left e]
      rcases h.has with h1 | ⟨a', b', h1, h2, h3⟩
      · exact .inl h1
      · exact .inr ⟨a', b', h1, h2, by rw [if_neg (hne a' b' h2)]; exact h3⟩
    · rw [Nat.max_eq_right (by omega)]
      exact .inr ⟨a, b, ha, hb, by rw [if_neg (hne a b hb)]⟩
  · try dsimp only
    rw [if_pos rfl]
    have := h.small
    omega
theorem LvIn.end_ {S : Nat → Nat → Bool} {n m : Nat} {V : Nat × Nat → Nat} {i k : Nat} (h : LvIn S n m V i k (i * k)) (hs : S i k = true) : Lv S n m V i (k + 1) :=
  ⟨fun a b ha hb hd => by
    by_cases e : a = i ∧ b = k
    · obtain ⟨rfl, rfl⟩ := e
      refine ⟨fun h1 => absurd h1 (by rw [hs]; decide), fun _ => ⟨h.pos, fun a' b' h1 h2 => h.up a' b' h2 ?_⟩, fun _ => h.has, h.small⟩
      have : (a' + 1) * b ≤ a * b := Nat.mul_le_mul_right b (by omega)
      rw [Nat.add_mul, Nat.one_mul] at this
      omega
    · exact h.done a b ha hb (by omega), fun a b hd => h.rest a b (by omega) (fun e => by cases e; omega)⟩
end Sheet
end

section
/- Words: a range over an iterator within a round of another one. -/
namespace Go.Proofs
open Go.RowKit

/-- .. where the body is told of its own record. -/
theorem wpIn_range5r {g : Operand} {p : Tmp} {assign body : Code} {Q : Exit → Act → World → Prop} {a : Act} {w : World} {n : Nat} {gf : Nat} {lb : Array Value} (hg : a.eval g = .func (.func gf) #[] lb) (eg : ∀ args w, (callFunc gf args).run Try.prog w = .ok (.enter gf args) w)
    {N : Nat} {Gv : Nat → World → World → Value → Prop} {Rep : World → Prop} (hseq : Iter2 (n - 1) gf lb w.heap.size N Gv Rep)
    (I : Nat → World → Prop) (Ix : Code → World → Prop) (hI : Two w.heap.size I) (hIx : ∀ c, Two w.heap.size (fun (_ : Unit) => Ix c)) (hrep : ∀ k W, I k W → Rep W) (h0 : I 0 w) (a₁ : World → Value → Act) (aw : World → Value → World) (haw : ∀ W v, Aft W (aw W v))
    (hassign : ∀ (l k : Nat) (v : Value) (W0 W : World) (K : Act → World → Prop), Gv k W0 W v → K (a₁ W v) (aw W v) →
      assign.wpIn (Fence.wide.inRound l) (n - 1 - 1) Try.prog (Exit.then K (fun _ _ _ => False)) { tmps := a.tmps.setIfInBounds p v, defers := [] } W)
    (hbody : ∀ (l k : Nat) (v : Value) (W0 W : World), k < N → I k W0 → Aft W0 W → w.heap.size + 2 ≤ W0.heap.size → Gv k W0 W v → ∀ X, (∃ o, X = (aw W v).putObj (w.heap.size + 1) o) → l = w.heap.size + 1 → (∃ r, X.heap[l]? = some (.loop r)) → body.wpIn (Fence.wide.inRound l) (n - 1 - 1) Try.prog (post2 w.heap.size I Ix (k + 1) X) (a₁ W v) X)
    (hdone : ∀ (D : Nat) (W : World), w.heap.size = D → I N W → W.heap[D]? = some (.deferred (some [])) → Q .normal { a with defers := { target := .collected D, args := #[] } :: a.defers } W)
    (hstop : ∀ (D : Nat) (c : Code) (W : World), w.heap.size = D → Ix c W → W.heap[D]? = some (.deferred (some [])) → c.wpIn Fence.wide n Try.prog Q { a with defers := { target := .collected D, args := #[] } :: a.defers } W) :
    (Code.rangeFunc g #[p] assign body).wpIn Fence.wide n Try.prog Q a w := by
  refine wpIn_rangeFunc ?_
  intro fn hfn
  obtain ⟨rec, hrec⟩ : ∃ rec : LoopState → Option Code → Loop, rec = fun st pe => { state := st, pending := pe, fn, tmps := a.tmps, params := #[p], assign, body, defers := w.heap.size } := ⟨_, rfl⟩
  obtain ⟨W1, hW1⟩ : ∃ W1, (w.alloc (.deferred (some []))).alloc (.loop (rec .ready none)) = W1 := ⟨_, rfl⟩
  have hL1 : W1.heap[w.heap.size + 1]? = some (.loop (rec .ready none)) := by
    rw [← hW1]; have := World.alloc_heap_new (w.alloc (.deferred (some []))) (.loop (rec .ready none)); rwa [World.size_alloc] at this
  have hK1 : W1.heap[w.heap.size]? = some (.deferred (some [])) := by
    rw [← hW1]; exact (Below.heap_alloc _ _ _ (by simp)).trans (World.alloc_heap_new w _)
  have hs1 : W1.heap.size = w.heap.size + 2 := by rw [← hW1]; simp
  have hI1 : I 0 W1 := by
    have := only_of_aft ((Aft.alloc w (.deferred (some []))).then_alloc (.loop (rec .ready none))) (some w.heap.size)
    rw [hW1] at this
    exact hI _ _ _ _ h0 this (Nat.le_refl _) (by omega)
  refine ⟨w.heap.size + 1, [{ target := .collected w.heap.size, args := #[] }], W1, { target := .fn (.func gf) lb, args := #[.func (.yield (w.heap.size + 1)) #[] #[]] }, W1, gf,
    #[.func (.yield (w.heap.size + 1)) #[] #[]] ++ lb, W1, ?_, ?_, ?_, ?_, (fun h => by cases h), ?_⟩
  · rw [← hW1, hrec]; exact run_enterLoop_outer _ _ _ _ _
  · simp only [resolve, hg]
    simp [go_sem]
  · intro f' hf'; trivial
  · simp [invoke, go_sem, eg]
  · refine (hseq (w.heap.size + 1)
      (fun k W => I k W ∧ W.heap[w.heap.size + 1]? = some (.loop (rec .ready none)) ∧ W.heap[w.heap.size]? = some (.deferred (some [])))
      (fun W => ∃ c, Ix c W ∧ W.heap[w.heap.size + 1]? = some (.loop (rec .done (some c))) ∧ W.heap[w.heap.size]? = some (.deferred (some [])))
      W1 hs1 (fun k W h => hrep k W h.1) ?_ ⟨hI1, hL1, hK1⟩).mono ?_
    · rintro k v W0 W hkN ⟨hi, hl', hk'⟩ ha hB hgv
      have hl : W.heap[w.heap.size + 1]? = some (.loop (rec .ready none)) := (ha.below.block _ (by omega)).trans hl'
      have hk : W.heap[w.heap.size]? = some (.deferred (some [])) := (ha.below.block _ (by omega)).trans hk'
      have hlt : w.heap.size + 1 < W.heap.size := (Array.getElem?_eq_some_iff.1 hl).1
      have hy := run_yield (P := Try.prog) (args := #[v]) hl (by rw [hrec]; rfl)
      rw [hrec] at hy
      have hz : ((#[p] : Array Tmp).zip #[v]).foldl (fun tmps (t, a) => tmps.setIfInBounds t a) a.tmps = a.tmps.setIfInBounds p v := by simp
      dsimp only at hy
      rw [hz] at hy
      refine ⟨fn, _, assign, body, hy, ?_⟩
      refine roundIn_of_wpIn hfn ?_
      refine hassign _ k v W0 W _ hgv ?_
      have hs0 := (haw W v).size
      have hl'' : (aw W v).heap[w.heap.size + 1]? = some (.loop (rec .ready none)) := ((haw W v).below.block _ hlt).trans hl
      have hk'' : (aw W v).heap[w.heap.size]? = some (.deferred (some [])) := ((haw W v).below.block _ (by omega)).trans hk
      have hbody2 := hbody (w.heap.size + 1) k v W0 W
      obtain ⟨Wa, hWa⟩ : ∃ Wa, aw W v = Wa := ⟨_, rfl⟩
      rw [hWa] at hl'' hk'' hs0 hbody2 ⊢
      have hlta : w.heap.size + 1 < Wa.heap.size := (Array.getElem?_eq_some_iff.1 hl'').1
      refine ⟨_, run_beginRound hl'' (by rw [hrec]), ?_⟩
      have hl2 : (Wa.putObj (w.heap.size + 1) (.loop { rec .ready none with state := .busy })).heap[w.heap.size + 1]? = some (.loop { rec .ready none with state := .busy }) := World.putObj_heap_same hlta
      have hk2 : (Wa.putObj (w.heap.size + 1) (.loop { rec .ready none with state := .busy })).heap[w.heap.size]? = some (.deferred (some [])) := (World.putObj_heap_other (by omega)).trans hk''
      have hsz2 : (Wa.putObj (w.heap.size + 1) (.loop { rec .ready none with state := .busy })).heap.size = Wa.heap.size := by simp [World.putObj]
      refine wpIn_mono (hbody2 hkN hi ha hB hgv _ ⟨_, rfl⟩ rfl ⟨_, hl2⟩) ?_
      have fin : ∀ (jump : Option Code) (W3 : World), Kept2 w.heap.size (Wa.putObj (w.heap.size + 1) (.loop { rec .ready none with state := .busy })) W3 →
          (Instr.endRound (w.heap.size + 1) jump).run Try.prog W3 = .ok (.bool jump.isNone) (W3.putObj (w.heap.size + 1) (.loop (rec (if jump.isNone then .ready else .done) jump))) ∧
          (W3.putObj (w.heap.size + 1) (.loop (rec (if jump.isNone then .ready else .done) jump))).heap[w.heap.size + 1]? = some (.loop (rec (if jump.isNone then .ready else .done) jump)) ∧
          (W3.putObj (w.heap.size + 1) (.loop (rec (if jump.isNone then .ready else .done) jump))).heap[w.heap.size]? = some (.deferred (some [])) ∧
          W.heap.size ≤ (W3.putObj (w.heap.size + 1) (.loop (rec (if jump.isNone then .ready else .done) jump))).heap.size := fun jump W3 hk3 => by
        have hl3 := (hk3.same _ (by omega) (by omega)).trans hl2
        have := run_endRound (P := Try.prog) jump hl3
        rw [hrec] at this ⊢
        exact ⟨this, World.putObj_heap_same (Array.getElem?_eq_some_iff.1 hl3).1, (World.putObj_heap_other (by omega)).trans ((hk3.same _ (by omega) (by omega)).trans hk2), by have := hk3.size; simp [World.putObj] at this ⊢; omega⟩
      rintro e a3 W3 hp
      cases e with
      | normal =>
        obtain ⟨hk3, hi3⟩ := hp
        obtain ⟨hr, hl4, hk4, h6⟩ := fin none W3 hk3
        exact ⟨_, _, hr, .inl ⟨rfl, ⟨hI _ _ _ _ hi3 (grownBy_putObj' _ _ _) (by omega) (by omega), hl4, hk4⟩, h6⟩⟩
      | ret =>
        obtain ⟨hk3, hi3⟩ := hp
        obtain ⟨hr, hl4, hk4, h6⟩ := fin (some .ret) W3 hk3
        exact ⟨_, _, hr, .inr ⟨rfl, .ret, hIx _ () _ _ _ hi3 (grownBy_putObj' _ _ _) (by omega) (by omega), hl4, hk4⟩⟩
      | exit id =>
        obtain ⟨hk3, hi3⟩ := hp
        obtain ⟨hr, hl4, hk4, h6⟩ := fin (some (.exit id)) W3 hk3
        exact ⟨_, _, hr, .inr ⟨rfl, .exit id, hIx _ () _ _ _ hi3 (grownBy_putObj' _ _ _) (by omega) (by omega), hl4, hk4⟩⟩
      | goto t =>
        obtain ⟨hk3, hi3⟩ := hp
        obtain ⟨hr, hl4, hk4, h6⟩ := fin (some (.goto t)) W3 hk3
        exact ⟨_, _, hr, .inr ⟨rfl, .goto t, hIx _ () _ _ _ hi3 (grownBy_putObj' _ _ _) (by omega) (by omega), hl4, hk4⟩⟩
      | panic ch => exact hp.elim
      | outgrown => exact hp.elim
    · rintro e W2 ⟨⟨v, rfl⟩, (⟨hi, hl, hk⟩ | ⟨c, hi, hl, hk⟩)⟩
      · exact ⟨none, _, by have := run_endLoop (P := Try.prog) hl (by rw [hrec]; simp); rw [hrec] at this; exact this, hdone _ _ rfl (hI _ _ _ _ hi (grownBy_putObj' _ _ _) (by omega) (by omega)) ((World.putObj_heap_other (by omega)).trans hk)⟩
      · exact ⟨some c, _, by have := run_endLoop (P := Try.prog) hl (by rw [hrec]; simp); rw [hrec] at this; exact this, hstop _ c _ rfl (hIx c () _ _ _ hi (grownBy_putObj' _ _ _) (by omega) (by omega)) ((World.putObj_heap_other (by omega)).trans hk)⟩
/-- As Kept2, within a round: one block. -/
structure Kept1 (B : Nat) (w w' : World) : Prop where
  same : w'.heap[B]? = w.heap[B]?
  size : w.heap.size ≤ w'.heap.size
def One {β : Type} (B : Nat) (I : β → World → Prop) : Prop := ∀ s W W', I s W → W.grownBy W' (some B) → I s W'
def post1 (B : Nat) (I : Nat → World → Prop) (Ix : Code → World → Prop) (k : Nat) (W : World) : Exit → Act → World → Prop
  | .normal, _, W' => Kept1 B W W' ∧ I k W'
  | .ret, _, W' => Kept1 B W W' ∧ Ix .ret W'
  | .exit id, _, W' => Kept1 B W W' ∧ Ix (.exit id) W'
  | .goto t, _, W' => Kept1 B W W' ∧ Ix (.goto t) W'
  | .panic _, _, _ => False
  | .outgrown, _, _ => False

/-- 'for x := range seq' within a round of another such loop. -/
theorem wpIn_range6 {g : Operand} {p : Tmp} {assign body : Code} {Q : Exit → Act → World → Prop} {a : Act} {w : World} {n l₀ : Nat} {r₀ : Loop} (hl₀ : w.heap[l₀]? = some (.loop r₀)) {gf : Nat} {lb : Array Value} (hg : a.eval g = .func (.func gf) #[] lb) (eg : ∀ args w, (callFunc gf args).run Try.prog w = .ok (.enter gf args) w)
    {N : Nat} {Gv : Nat → World → World → Value → Prop} {Rep : World → Prop} (hseq : Iter2 (n - 1) gf lb (w.heap.size - 1) N Gv Rep)
    (I : Nat → World → Prop) (Ix : Code → World → Prop) (hI : One w.heap.size I) (hIx : ∀ c, One w.heap.size (fun (_ : Unit) => Ix c)) (hrep : ∀ k W, I k W → Rep W) (h0 : I 0 w) (a₁ : World → Value → Act) (aw : World → Value → World) (haw : ∀ W v, Aft W (aw W v))
    (hassign : ∀ (l k : Nat) (v : Value) (W0 W : World) (K : Act → World → Prop), Gv k W0 W v → K (a₁ W v) (aw W v) →
      assign.wpIn (Fence.wide.inRound l) (n - 1 - 1) Try.prog (Exit.then K (fun _ _ _ => False)) { tmps := a.tmps.setIfInBounds p v, defers := [] } W)
    (hbody : ∀ (l k : Nat) (v : Value) (W0 W : World), k < N → I k W0 → Aft W0 W → w.heap.size + 1 ≤ W0.heap.size → Gv k W0 W v → ∀ X, (∃ o, X = (aw W v).putObj w.heap.size o) → body.wpIn (Fence.wide.inRound l) (n - 1 - 1) Try.prog (post1 w.heap.size I Ix (k + 1) X) (a₁ W v) X)
    (hdone : ∀ W : World, I N W → Q .normal a W)
    (hstop : ∀ (c : Code) (W : World), Ix c W → c.wpIn (Fence.wide.inRound l₀) n Try.prog Q a W) :
    (Code.rangeFunc g #[p] assign body).wpIn (Fence.wide.inRound l₀) n Try.prog Q a w := by
  have hpos : w.heap.size - 1 + 1 = w.heap.size := by have := (Array.getElem?_eq_some_iff.1 hl₀).1; omega
  refine wpIn_rangeFunc ?_
  intro fn hfn
  obtain ⟨rec, hrec⟩ : ∃ rec : LoopState → Option Code → Loop, rec = fun st pe => { state := st, pending := pe, fn, tmps := a.tmps, params := #[p], assign, body, defers := r₀.defers } := ⟨_, rfl⟩
  obtain ⟨W1, hW1⟩ : ∃ W1, w.alloc (.loop (rec .ready none)) = W1 := ⟨_, rfl⟩
  have hL1 : W1.heap[w.heap.size]? = some (.loop (rec .ready none)) := by rw [← hW1]; exact World.alloc_heap_new w _
  have hs1 : W1.heap.size = w.heap.size + 1 := by rw [← hW1]; simp
  have hI1 : I 0 W1 := by
    have := only_of_aft (Aft.alloc w (.loop (rec .ready none))) (some w.heap.size)
    rw [hW1] at this
    exact hI _ _ _ h0 this
  refine ⟨w.heap.size, [], W1, { target := .fn (.func gf) lb, args := #[.func (.yield w.heap.size) #[] #[]] }, W1, gf,
    #[.func (.yield w.heap.size) #[] #[]] ++ lb, W1, ?_, ?_, ?_, ?_, (fun h => by cases h), ?_⟩
  · rw [← hW1, hrec]; exact run_enterLoop_inner hl₀ _ _ _ _ _
  · simp only [resolve, hg]
    simp [go_sem]
  · intro f' hf'; trivial
  · simp [invoke, go_sem, eg]
  · refine CallsIn.mono (CallsIn.inRound l₀ (hseq w.heap.size
      (fun k W => I k W ∧ W.heap[w.heap.size]? = some (.loop (rec .ready none)))
      (fun W => ∃ c, Ix c W ∧ W.heap[w.heap.size]? = some (.loop (rec .done (some c))))
      W1 (by omega) (fun k W h => hrep k W h.1) ?_ ⟨hI1, hL1⟩)) ?_
    · rintro k v W0 W hkN ⟨hi, hl'⟩ ha hB hgv
      have hl : W.heap[w.heap.size]? = some (.loop (rec .ready none)) := (ha.below.block _ (by omega)).trans hl'
      have hlt : w.heap.size < W.heap.size := (Array.getElem?_eq_some_iff.1 hl).1
      have hy := run_yield (P := Try.prog) (args := #[v]) hl (by rw [hrec]; rfl)
      rw [hrec] at hy
      have hz : ((#[p] : Array Tmp).zip #[v]).foldl (fun tmps (t, a) => tmps.setIfInBounds t a) a.tmps = a.tmps.setIfInBounds p v := by simp
      dsimp only at hy
      rw [hz] at hy
      refine ⟨fn, _, assign, body, hy, ?_⟩
      refine roundIn_of_wpIn hfn ?_
      refine hassign _ k v W0 W _ hgv ?_
      have hs0 := (haw W v).size
      have hl'' : (aw W v).heap[w.heap.size]? = some (.loop (rec .ready none)) := ((haw W v).below.block _ hlt).trans hl
      have hbody2 := hbody w.heap.size k v W0 W
      obtain ⟨Wa, hWa⟩ : ∃ Wa, aw W v = Wa := ⟨_, rfl⟩
      rw [hWa] at hl'' hs0 hbody2 ⊢
      have hlta : w.heap.size < Wa.heap.size := (Array.getElem?_eq_some_iff.1 hl'').1
      refine ⟨_, run_beginRound hl'' (by rw [hrec]), ?_⟩
      have hl2 : (Wa.putObj w.heap.size (.loop { rec .ready none with state := .busy })).heap[w.heap.size]? = some (.loop { rec .ready none with state := .busy }) := World.putObj_heap_same hlta
      have hsz2 : (Wa.putObj w.heap.size (.loop { rec .ready none with state := .busy })).heap.size = Wa.heap.size := by simp [World.putObj]
      refine wpIn_mono (hbody2 hkN hi ha (by omega) hgv _ ⟨_, rfl⟩) ?_
      have fin : ∀ (jump : Option Code) (W3 : World), Kept1 w.heap.size (Wa.putObj w.heap.size (.loop { rec .ready none with state := .busy })) W3 →
          (Instr.endRound w.heap.size jump).run Try.prog W3 = .ok (.bool jump.isNone) (W3.putObj w.heap.size (.loop (rec (if jump.isNone then .ready else .done) jump))) ∧
          (W3.putObj w.heap.size (.loop (rec (if jump.isNone then .ready else .done) jump))).heap[w.heap.size]? = some (.loop (rec (if jump.isNone then .ready else .done) jump)) ∧
          W.heap.size ≤ (W3.putObj w.heap.size (.loop (rec (if jump.isNone then .ready else .done) jump))).heap.size := fun jump W3 hk3 => by
        have hl3 := hk3.same.trans hl2
        have := run_endRound (P := Try.prog) jump hl3
        rw [hrec] at this ⊢
        exact ⟨this, World.putObj_heap_same (Array.getElem?_eq_some_iff.1 hl3).1, by have := hk3.size; simp [World.putObj] at this ⊢; omega⟩
      rintro e a3 W3 hp
      cases e with
      | normal =>
        obtain ⟨hk3, hi3⟩ := hp
        obtain ⟨hr, hl4, h6⟩ := fin none W3 hk3
        exact ⟨_, _, hr, .inl ⟨rfl, ⟨hI _ _ _ hi3 (grownBy_putObj' _ _ _), hl4⟩, h6⟩⟩
      | ret =>
        obtain ⟨hk3, hi3⟩ := hp
        obtain ⟨hr, hl4, h6⟩ := fin (some .ret) W3 hk3
        exact ⟨_, _, hr, .inr ⟨rfl, .ret, hIx _ () _ _ hi3 (grownBy_putObj' _ _ _), hl4⟩⟩
      | exit id =>
        obtain ⟨hk3, hi3⟩ := hp
        obtain ⟨hr, hl4, h6⟩ := fin (some (.exit id)) W3 hk3
        exact ⟨_, _, hr, .inr ⟨rfl, .exit id, hIx _ () _ _ hi3 (grownBy_putObj' _ _ _), hl4⟩⟩
      | goto t =>
        obtain ⟨hk3, hi3⟩ := hp
        obtain ⟨hr, hl4, h6⟩ := fin (some (.goto t)) W3 hk3
        exact ⟨_, _, hr, .inr ⟨rfl, .goto t, hIx _ () _ _ hi3 (grownBy_putObj' _ _ _), hl4⟩⟩
      | panic ch => exact hp.elim
      | outgrown => exact hp.elim
    · rintro e W2 ⟨⟨v, rfl⟩, (⟨hi, hl⟩ | ⟨c, hi, hl⟩)⟩
      · exact ⟨none, _, by have := run_endLoop (P := Try.prog) hl (by rw [hrec]; simp); rw [hrec] at this; exact this, hdone _ (hI _ _ _ hi (grownBy_putObj' _ _ _))⟩
      · exact ⟨some c, _, by have := run_endLoop (P := Try.prog) hl (by rw [hrec]; simp); rw [hrec] at this; exact this, hstop c _ (hIx c () _ _ hi (grownBy_putObj' _ _ _))⟩
end Go.Proofs
end

section
/- Walks: a range over pairs; levels. -/
namespace Go.Proofs
open Go.RowKit
attribute [local go_sem] Oper.semAt_some

def unP : Value → Nat × Nat
  | .agg c => (unI (c.getD 0 undef), unI (c.getD 1 undef))
  | _ => (0, 0)
theorem unP_prV (i j : Nat) : unP (.agg #[.int .i64 (i : Nat), .int .i64 (j : Nat)]) = (i, j) := by
  unfold unP
  simp [unI]
theorem lt_of_idx {i j N M k : Nat} (e : k = i * M + j) (hk : k < N * M) : i < N := by
  refine Classical.byContradiction fun h => ?_
  have := Nat.mul_le_mul_right M (show N ≤ i by omega)
  omega
/-- A range over pairs. -/
theorem wpIn_pairs {g : Operand} {p : Tmp} {assign body : Code} {Q : Exit → Act → World → Prop} {a : Act} {w : World} {n b1 b2 N M : Nat} (hN : N ≤ 1000) (hM : M ≤ 1000)
    (hg : a.eval g = .func (.func 97) #[] #[.pointer (some ⟨b1, 0, none⟩), .pointer (some ⟨b2, 0, none⟩)])
    (I : Nat → World → Prop) (Ix : Code → World → Prop) (hI : Two w.heap.size I) (hIx : ∀ c, Two w.heap.size (fun (_ : Unit) => Ix c)) (hIa : ∀ k W W', I k W → Aft W W' → I k W') (hrep : ∀ k W, I k W → RepP b1 b2 N M W) (h0 : I 0 w) (a₁ : Nat → Nat → Nat → Act)
    (hassign : ∀ (l i j : Nat) (W : World) (K : Act → World → Prop), K (a₁ W.heap.size i j) (W.alloc (.cells #[.int .i64 (i : Nat), .int .i64 (j : Nat)] 57)) →
      assign.wpIn (Fence.wide.inRound l) (n - 1 - 1) Try.prog (Exit.then K (fun _ _ _ => False)) { tmps := a.tmps.setIfInBounds p (.agg #[.int .i64 (i : Nat), .int .i64 (j : Nat)]), defers := [] } W)
    (hbody : ∀ (l i j z : Nat) (W : World), i < N → j < M → I (i * M + j) W → w.heap.size + 2 ≤ z → z < W.heap.size → Blk W z 57 #[.int .i64 (i : Nat), .int .i64 (j : Nat)] → l = w.heap.size + 1 → (∃ r, W.heap[l]? = some (.loop r)) → body.wpIn (Fence.wide.inRound l) (n - 1 - 1) Try.prog (post2 w.heap.size I Ix (i * M + j + 1) W) (a₁ z i j) W)
    (hdone : ∀ (D : Nat) (W : World), w.heap.size = D → I (N * M) W → W.heap[D]? = some (.deferred (some [])) → Q .normal { a with defers := { target := .collected D, args := #[] } :: a.defers } W)
    (hstop : ∀ (D : Nat) (c : Code) (W : World), w.heap.size = D → Ix c W → W.heap[D]? = some (.deferred (some [])) → c.wpIn Fence.wide n Try.prog Q { a with defers := { target := .collected D, args := #[] } :: a.defers } W) :
    (Code.rangeFunc g #[p] assign body).wpIn Fence.wide n Try.prog Q a w := by
  refine wpIn_range5r hg runs_97 (iter97 (n - 1) b1 b2 N M w.heap.size hN hM) I Ix hI hIx hrep h0 (fun W v => a₁ W.heap.size (unP v).1 (unP v).2) (fun W v => W.alloc (.cells #[.int .i64 ((unP v).1 : Nat), .int .i64 ((unP v).2 : Nat)] 57)) (fun W v => Aft.alloc _ _)
    (fun l k v W0 W K hgv hK => ?_) (fun l k v W0 W hk hi ha hB hgv X hX hl hr => ?_) hdone hstop
  · obtain ⟨i, j, rfl, hj, rfl⟩ := hgv
    rw [unP_prV] at hK
    exact hassign l i j W K hK
  · obtain ⟨i, j, rfl, hj, rfl⟩ := hgv
    obtain ⟨o, rfl⟩ := hX
    rw [unP_prV] at hr ⊢
    dsimp only at hr ⊢
    have hz : w.heap.size + 2 ≤ W.heap.size := Nat.le_trans hB ha.size
    refine hbody l i j W.heap.size _ (lt_of_idx rfl hk) hj ?_ hz (by simp [World.putObj]) ?_ hl hr
    · exact hI _ _ _ _ (hIa _ _ _ hi (ha.then_alloc _)) (grownBy_putObj' _ _ _) (by omega) (by omega)
    · exact (World.putObj_heap_other (by omega)).trans (Blk.new W 57 _)
/-- .. within a round of another one. -/
theorem wpIn_pairs2 {g : Operand} {p : Tmp} {assign body : Code} {Q : Exit → Act → World → Prop} {a : Act} {w : World} {n b1 b2 N M l₀ : Nat} {r₀ : Loop} (hl₀ : w.heap[l₀]? = some (.loop r₀)) (hN : N ≤ 1000) (hM : M ≤ 1000)
    (hg : a.eval g = .func (.func 97) #[] #[.pointer (some ⟨b1, 0, none⟩), .pointer (some ⟨b2, 0, none⟩)])
    (I : Nat → World → Prop) (Ix : Code → World → Prop) (hI : One w.heap.size I) (hIx : ∀ c, One w.heap.size (fun (_ : Unit) => Ix c)) (hIa : ∀ k W W', I k W → Aft W W' → I k W') (hrep : ∀ k W, I k W → RepP b1 b2 N M W) (h0 : I 0 w) (a₁ : Nat → Nat → Nat → Act)
    (hassign : ∀ (l i j : Nat) (W : World) (K : Act → World → Prop), K (a₁ W.heap.size i j) (W.alloc (.cells #[.int .i64 (i : Nat), .int .i64 (j : Nat)] 57)) →
      assign.wpIn (Fence.wide.inRound l) (n - 1 - 1) Try.prog (Exit.then K (fun _ _ _ => False)) { tmps := a.tmps.setIfInBounds p (.agg #[.int .i64 (i : Nat), .int .i64 (j : Nat)]), defers := [] } W)
    (hbody : ∀ (l i j z : Nat) (W : World), i < N → j < M → I (i * M + j) W → w.heap.size + 1 ≤ z → z < W.heap.size → Blk W z 57 #[.int .i64 (i : Nat), .int .i64 (j : Nat)] → body.wpIn (Fence.wide.inRound l) (n - 1 - 1) Try.prog (post1 w.heap.size I Ix (i * M + j + 1) W) (a₁ z i j) W)
    (hdone : ∀ W : World, I (N * M) W → Q .normal a W)
    (hstop : ∀ (c : Code) (W : World), Ix c W → c.wpIn (Fence.wide.inRound l₀) n Try.prog Q a W) :
    (Code.rangeFunc g #[p] assign body).wpIn (Fence.wide.inRound l₀) n Try.prog Q a w := by
  refine wpIn_range6 hl₀ hg runs_97 (iter97 (n - 1) b1 b2 N M (w.heap.size - 1) hN hM) I Ix hI hIx hrep h0 (fun W v => a₁ W.heap.size (unP v).1 (unP v).2) (fun W v => W.alloc (.cells #[.int .i64 ((unP v).1 : Nat), .int .i64 ((unP v).2 : Nat)] 57)) (fun W v => Aft.alloc _ _)
    (fun l k v W0 W K hgv hK => ?_) (fun l k v W0 W hk hi ha hB hgv X hX => ?_) hdone hstop
  · obtain ⟨i, j, rfl, hj, rfl⟩ := hgv
    rw [unP_prV] at hK
    exact hassign l i j W K hK
  · obtain ⟨i, j, rfl, hj, rfl⟩ := hgv
    obtain ⟨o, rfl⟩ := hX
    rw [unP_prV]
    dsimp only
    have hz : w.heap.size + 1 ≤ W.heap.size := Nat.le_trans hB ha.size
    refine hbody l i j W.heap.size _ (lt_of_idx rfl hk) hj ?_ hz (by simp [World.putObj]) ?_
    · exact hI _ _ _ (hIa _ _ _ hi (ha.then_alloc _)) (grownBy_putObj' _ _ _)
    · exact (World.putObj_heap_other (by omega)).trans (Blk.new W 57 _)
end Go.Proofs
end
