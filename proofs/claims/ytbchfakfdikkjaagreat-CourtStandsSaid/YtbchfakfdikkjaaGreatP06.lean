/- Own texts, merged: PSt PSo PDe PNm CtC0 WkD CtC. -/
import Derived.Test.YtbchfakfdikkjaaGreatP02
import Derived.Test.YtbchfakfdikkjaaGreatP05
import Derived.Deep.MidRow
import Derived.Handy
set_option linter.unusedSimpArgs false
set_option linter.unusedVariables false
set_option linter.unnecessarySimpa false
section
namespace Court

def strikeL (S : List (Int × Int)) (L : Int → Bool) (n : Int) : Bool := S.any fun s => decide (s.2 = n) && L s.1
theorem strikeL_iff {S : List (Int × Int)} {L : Int → Bool} {n : Int} : strikeL S L n = true ↔ ∃ s ∈ S, s.2 = n ∧ L s.1 = true := by
  unfold strikeL
  rw [List.any_eq_true]
  constructor
  · rintro ⟨s, hs, h⟩
    simp only [Bool.and_eq_true, decide_eq_true_eq] at h
    exact ⟨s, hs, h.1, h.2⟩
  · rintro ⟨s, hs, h1, h2⟩
    exact ⟨s, hs, by simp [h1, h2]⟩
theorem strikeL_false {S : List (Int × Int)} {L : Int → Bool} {n : Int} : strikeL S L n = false ↔ ∀ s ∈ S, s.2 = n → L s.1 = false := by
  constructor
  · intro h s hs h1
    cases q : L s.1 with
    | false => rfl
    | true => rw [strikeL_iff.2 ⟨s, hs, h1, q⟩] at h; cases h
  · intro h
    cases q : strikeL S L n with
    | false => rfl
    | true =>
      obtain ⟨s, hs, h1, h2⟩ := strikeL_iff.1 q
      rw [h s hs h1] at h2; cases h2
def standB (S : List (Int × Int)) (ref : Int → Bool) (l : List Int) : Bool :=
  l.all fun n => !ref n && !strikeL S (fun x => l.contains x) n && S.all fun s => !decide (s.2 = n) || ref s.1 || strikeL S (fun x => l.contains x) s.1
def coverB (S : List (Int × Int)) (ref : Int → Bool) (N : Nat) (l : List Int) : Bool := (List.range N).all fun (n : Nat) => l.contains (n : Int) || ref n || strikeL S (fun x => l.contains x) n
def niceB (S : List (Int × Int)) (ref : Int → Bool) (l : List Int) : Bool := l.all fun n => !ref n && !strikeL S (fun x => l.contains x) n
theorem niceB_iff {S : List (Int × Int)} {ref : Int → Bool} {l : List Int} : niceB S ref l = true ↔ ∀ n ∈ l, ref n = false ∧ ∀ s ∈ S, s.2 = n → s.1 ∉ l := by
  unfold niceB
  rw [List.all_eq_true]
  constructor
  · intro h n hn
    have := h n hn
    simp only [Bool.and_eq_true, Bool.not_eq_true'] at this
    refine ⟨this.1, fun s hs h2 hm => ?_⟩
    have := strikeL_false.1 this.2 s hs h2
    rw [List.contains_iff_mem.2 hm] at this; cases this
  · intro h n hn
    obtain ⟨h1, h2⟩ := h n hn
    simp only [Bool.and_eq_true, Bool.not_eq_true']
    refine ⟨h1, strikeL_false.2 fun s hs e => ?_⟩
    cases q : l.contains s.1 with
    | false => rfl
    | true => exact absurd (List.contains_iff_mem.1 q) (h2 s hs e)
theorem coverB_iff {S : List (Int × Int)} {ref : Int → Bool} {N : Nat} {l : List Int} : coverB S ref N l = true ↔ ∀ n : Int, 0 ≤ n → n < N → n ∈ l ∨ ref n = true ∨ ∃ s ∈ S, s.2 = n ∧ s.1 ∈ l := by
  unfold coverB
  rw [List.all_eq_true]
  constructor
  · intro h n h0 h1
    obtain ⟨k, rfl⟩ := Int.eq_ofNat_of_zero_le h0
    have := h k (List.mem_range.2 (by omega))
    simp only [Bool.or_eq_true] at this
    rcases this with (h | h) | h
    · exact .inl (List.contains_iff_mem.1 h)
    · exact .inr (.inl h)
    · obtain ⟨s, hs, h2, h3⟩ := strikeL_iff.1 h
      exact .inr (.inr ⟨s, hs, h2, List.contains_iff_mem.1 h3⟩)
  · intro h k hk
    have hk := List.mem_range.1 hk
    simp only [Bool.or_eq_true]
    rcases h k (by omega) (by omega) with h | h | ⟨s, hs, h2, h3⟩
    · exact .inl (.inl (List.contains_iff_mem.2 h))
    · exact .inl (.inr h)
    · exact .inr (strikeL_iff.2 ⟨s, hs, h2, List.contains_iff_mem.2 h3⟩)
theorem stand_of {S : List (Int × Int)} {ref : Int → Bool} {N : Nat} {l : List Int} (hS : ∀ s ∈ S, 0 ≤ s.1 ∧ s.1 < N) (h1 : niceB S ref l = true) (h2 : coverB S ref N l = true) : standB S ref l = true := by
  unfold standB
  rw [List.all_eq_true]
  intro n hn
  obtain ⟨a, b⟩ := niceB_iff.1 h1 n hn
  simp only [Bool.and_eq_true, Bool.not_eq_true', List.all_eq_true, Bool.or_eq_true, decide_eq_false_iff_not]
  refine ⟨⟨a, strikeL_false.2 fun s hs e => ?_⟩, fun s hs => ?_⟩
  · cases q : l.contains s.1 with
    | false => rfl
    | true => exact absurd (List.contains_iff_mem.1 q) (b s hs e)
  · by_cases e : s.2 = n
    · rcases coverB_iff.1 h2 s.1 (hS s hs).1 (hS s hs).2 with h | h | ⟨t, ht, e1, e2⟩
      · exact absurd h (b s hs e)
      · exact .inl (.inr h)
      · exact .inr (strikeL_iff.2 ⟨t, ht, e1, List.contains_iff_mem.2 e2⟩)
    · exact .inl (.inl e)
theorem nice_of {S : List (Int × Int)} {ref : Int → Bool} {l : List Int} (h : standB S ref l = true) : niceB S ref l = true := by
  unfold standB at h
  unfold niceB
  rw [List.all_eq_true] at h ⊢
  intro n hn
  have := h n hn
  simp only [Bool.and_eq_true] at this ⊢
  exact this.1
def fullB (S : List (Int × Int)) (ref : Int → Bool) (N : Nat) (l : List Int) : Bool := niceB S ref l && coverB S ref N l
theorem full_iff {S : List (Int × Int)} {ref : Int → Bool} {N : Nat} {l : List Int} (hS : ∀ s ∈ S, 0 ≤ s.1 ∧ s.1 < N) : (standB S ref l && coverB S ref N l) = fullB S ref N l := by
  unfold fullB
  cases hc : coverB S ref N l with
  | false => simp
  | true =>
    simp only [Bool.and_true]
    cases hn : niceB S ref l with
    | true => exact stand_of hS hn hc
    | false =>
      cases hs : standB S ref l with
      | false => rfl
      | true => rw [nice_of hs] at hn; cases hn

def canB (S : List (Int × Int)) (ref : Int → Bool) (l : List Int) (n : Int) : Bool := !ref n && !strikeL S (fun x => (l ++ [n]).contains x) n && l.all fun o => !strikeL S (fun x => decide (x = n)) o
theorem can_nice {S : List (Int × Int)} {ref : Int → Bool} {l : List Int} {n : Int} (hl : niceB S ref l = true) : canB S ref l n = niceB S ref (l ++ [n]) := by
  rw [Bool.eq_iff_iff]
  rw [niceB_iff]
  have hl := niceB_iff.1 hl
  unfold canB
  simp only [Bool.and_eq_true, Bool.not_eq_true', List.all_eq_true]
  constructor
  · rintro ⟨⟨h1, h2⟩, h3⟩ m hm
    rcases List.mem_append.1 hm with hm | hm
    · refine ⟨(hl m hm).1, fun s hs e hs1 => ?_⟩
      rcases List.mem_append.1 hs1 with q | q
      · exact (hl m hm).2 s hs e q
      · have := strikeL_false.1 (h3 m hm) s hs e
        rw [decide_eq_true (List.mem_singleton.1 q)] at this; cases this
    · rw [List.mem_singleton] at hm
      subst hm
      refine ⟨h1, fun s hs e hs1 => ?_⟩
      have := strikeL_false.1 h2 s hs e
      rw [List.contains_iff_mem.2 hs1] at this; cases this
  · intro h
    have hn := h n (by simp)
    refine ⟨⟨hn.1, strikeL_false.2 fun s hs e => ?_⟩, fun o ho => strikeL_false.2 fun s hs e => ?_⟩
    · cases q : (l ++ [n]).contains s.1 with
      | false => rfl
      | true => exact absurd (List.contains_iff_mem.1 q) (hn.2 s hs e)
    · refine decide_eq_false fun q => ?_
      exact (h o (by simp [ho])).2 s hs e (by simp [q])
theorem nice_pre {S : List (Int × Int)} {ref : Int → Bool} {l t : List Int} (h : niceB S ref (l ++ t) = true) : niceB S ref l = true :=
  niceB_iff.2 fun n hn => by
    have := niceB_iff.1 h n (by simp [hn])
    exact ⟨this.1, fun s hs e q => this.2 s hs e (by simp [q])⟩
def grow (S : List (Int × Int)) (ref : Int → Bool) (N : Nat) : Nat → Nat → List Int → List (List Int)
  | 0, _, l => if coverB S ref N l then [l] else []
  | k + 1, n, l => (if canB S ref l n then grow S ref N k (n + 1) (l ++ [(n : Int)]) else []) ++ grow S ref N k (n + 1) l
theorem mem_grow {S : List (Int × Int)} {ref : Int → Bool} {N : Nat} : ∀ (k n : Nat) (l : List Int), niceB S ref l = true → ∀ l', l' ∈ grow S ref N k n l ↔ ∃ t, l' = l ++ t ∧ t.Pairwise (· < ·) ∧ (∀ x ∈ t, (n : Int) ≤ x ∧ x < n + k) ∧ fullB S ref N l' = true
  | 0, n, l, hl, l' => by
    unfold grow
    constructor
    · intro h
      split at h
      · rename_i hc
        rw [List.mem_singleton] at h
        subst h
        exact ⟨[], by simp, .nil, by simp, by unfold fullB; rw [hl, hc]; rfl⟩
      · cases h
    · rintro ⟨t, rfl, -, ht, hf⟩
      have : t = [] := by
        cases t with
        | nil => rfl
        | cons x r => have := ht x List.mem_cons_self; omega
      subst this
      rw [List.append_nil] at hf ⊢
      unfold fullB at hf
      rw [hl, Bool.true_and] at hf
      rw [if_pos hf]; exact List.mem_singleton.2 rfl
  | k + 1, n, l, hl, l' => by
    have e : grow S ref N (k + 1) n l = (if canB S ref l n then grow S ref N k (n + 1) (l ++ [(n : Int)]) else []) ++ grow S ref N k (n + 1) l := rfl
    rw [e, List.mem_append]
    constructor
    · rintro (h | h)
      · split at h
        · rename_i hc
          rw [can_nice hl] at hc
          obtain ⟨t, rfl, h1, h2, h3⟩ := (mem_grow k (n + 1) _ hc l').1 h
          refine ⟨(n : Int) :: t, by simp, List.pairwise_cons.2 ⟨fun x hx => by have := h2 x hx; omega, h1⟩, fun x hx => ?_, h3⟩
          rcases List.mem_cons.1 hx with rfl | hx
          · omega
          · have := h2 x hx; omega
        · cases h
      · obtain ⟨t, rfl, h1, h2, h3⟩ := (mem_grow k (n + 1) l hl l').1 h
        exact ⟨t, rfl, h1, fun x hx => by have := h2 x hx; omega, h3⟩
    · rintro ⟨t, rfl, h1, h2, h3⟩
      have key : ∀ r : List Int, r.Pairwise (· < ·) → (∀ x ∈ r, (n : Int) ≤ x ∧ x < n + (k + 1 : Nat)) → (∀ x ∈ r, x ≠ (n : Int)) → ∀ x ∈ r, ((n + 1 : Nat) : Int) ≤ x ∧ x < (n + 1 : Nat) + k := fun r _ hr hne x hx => by have := hr x hx; have := hne x hx; omega
      cases t with
      | nil => exact .inr ((mem_grow k (n + 1) l hl _).2 ⟨[], rfl, .nil, by simp, h3⟩)
      | cons y r =>
        rw [List.pairwise_cons] at h1
        have hy := h2 y List.mem_cons_self
        by_cases e : y = (n : Int)
        · subst e
          have hnice : niceB S ref (l ++ [(n : Int)]) = true := by
            refine nice_pre (t := r) ?_
            unfold fullB at h3
            rw [Bool.and_eq_true] at h3
            simpa using h3.1
          left
          rw [if_pos (by rw [can_nice hl]; exact hnice)]
          refine (mem_grow k (n + 1) _ hnice _).2 ⟨r, by simp, h1.2, key r h1.2 (fun x hx => h2 x (List.mem_cons_of_mem _ hx)) (fun x hx => by have := h1.1 x hx; omega), h3⟩
        · right
          refine (mem_grow k (n + 1) l hl _).2 ⟨y :: r, rfl, List.pairwise_cons.2 h1, key _ (List.pairwise_cons.2 h1) h2 (fun x hx => ?_), h3⟩
          rcases List.mem_cons.1 hx with rfl | hx
          · exact e
          · have := h1.1 x hx; omega
theorem nodup_grow {S : List (Int × Int)} {ref : Int → Bool} {N : Nat} : ∀ (k n : Nat) (l : List Int), niceB S ref l = true → (grow S ref N k n l).Nodup
  | 0, n, l, _ => by unfold grow; split <;> simp
  | k + 1, n, l, hl => by
    have e : grow S ref N (k + 1) n l = (if canB S ref l n then grow S ref N k (n + 1) (l ++ [(n : Int)]) else []) ++ grow S ref N k (n + 1) l := rfl
    rw [e, List.nodup_append]
    refine ⟨?_, nodup_grow k (n + 1) l hl, fun a ha b hb e => ?_⟩
    · split
      · rename_i hc
        exact nodup_grow k (n + 1) _ (by rw [← can_nice hl]; exact hc)
      · exact .nil
    · subst e
      split at ha
      · rename_i hc
        obtain ⟨t, e1, -, -, -⟩ := (mem_grow k (n + 1) _ (by rw [← can_nice hl]; exact hc) a).1 ha
        obtain ⟨t', e2, -, h2, -⟩ := (mem_grow k (n + 1) l hl a).1 hb
        rw [e1, List.append_assoc] at e2
        have := List.append_cancel_left e2
        have := h2 n (by rw [← this]; simp)
        omega
      · cases ha
theorem mem_full {S : List (Int × Int)} {ref : Int → Bool} {N : Nat} {l : List Int} : l ∈ grow S ref N N 0 [] ↔ l.Pairwise (· < ·) ∧ (∀ x ∈ l, 0 ≤ x ∧ x < N) ∧ fullB S ref N l = true := by
  rw [mem_grow N 0 [] rfl]
  constructor
  · rintro ⟨t, rfl, h1, h2, h3⟩
    exact ⟨h1, fun x hx => by have := h2 x hx; omega, h3⟩
  · rintro ⟨h1, h2, h3⟩
    exact ⟨l, rfl, h1, fun x hx => by have := h2 x hx; omega, h3⟩
end Court
end

section
namespace Court
section
variable {S : List (Int × Int)} {ref : Int → Bool} {N : Nat} {l : List Int}
def noS : Int → Bool := fun _ => false
def InF (f : Int → Nat) (l : List Int) (N : Nat) : Prop := ∀ n : Int, 0 ≤ n → n < N → (f n = 1 → n ∈ l) ∧ (f n = 2 → n ∉ l)
theorem inF_hear (hS : ∀ s ∈ S, 0 ≤ s.1 ∧ s.1 < N) (hl : fullB S ref N l = true) {f : Int → Nat} (h3 : Three f) (hr : ∀ n, ref n = true → f n ≠ 0) (h : InF f l N) {n : Int} (hn : 0 ≤ n ∧ n < N) : InF (hear S noS f n) l N := fun k h0 h1 => by
  unfold fullB at hl
  rw [Bool.and_eq_true] at hl
  by_cases e : k = n
  · subst e
    by_cases hk : f k = 0
    · have e1 : hear S noS f k k = rule S noS f k := by unfold hear setF heard1; rw [if_pos rfl, if_pos hk]
      rw [e1]
      refine ⟨fun hv => ?_, fun hv => ?_⟩
      · have hx := rule_one.1 hv
        rcases coverB_iff.1 hl.2 k h0 h1 with q | q | ⟨s, hs, e2, e3⟩
        · exact q
        · exact absurd hk (hr k q)
        · exfalso
          have hs' := hS s hs
          have f2 : f s.1 = 2 := by
            have a1 : f s.1 ≠ 1 := fun e => by rw [struck_iff.2 ⟨rfl, s, hs, e2, e⟩] at hx; exact absurd hx.1 (by decide)
            have a0 : f s.1 ≠ 0 := fun e => by rw [struck_iff.2 ⟨rfl, s, hs, e2, e⟩] at hx; exact absurd hx.2 (by decide)
            have := h3 s.1; omega
          exact (h s.1 hs'.1 hs'.2).2 f2 e3
      · obtain ⟨-, s, hs, e2, e3⟩ := struck_iff.1 (rule_two.1 hv)
        have hs' := hS s hs
        exact fun q => (niceB_iff.1 hl.1 k q).2 s hs e2 ((h s.1 hs'.1 hs'.2).1 e3)
    · rw [has_hear S noS f k k hk]; exact h k h0 h1
  · rw [hear_out e]; exact h k h0 h1
theorem inF_hears (hS : ∀ s ∈ S, 0 ≤ s.1 ∧ s.1 < N) (hl : fullB S ref N l = true) : ∀ (o : List Int) (f : Int → Nat), Three f → (∀ n, ref n = true → f n ≠ 0) → InF f l N → (∀ n ∈ o, 0 ≤ n ∧ n < N) → InF (hears S noS f o) l N
  | [], _, _, _, h, _ => h
  | n :: r, f, h3, hr, h, ho => inF_hears hS hl r _ (hear_three h3 n) (fun k hk => by
      have := hr k hk
      rw [has_hear S noS f n k this]; exact this) (inF_hear hS hl h3 hr h (ho n List.mem_cons_self)) fun k hk => ho k (List.mem_cons_of_mem _ hk)
theorem award_full (hS : ∀ s ∈ S, 0 ≤ s.1 ∧ s.1 < N) (hl : fullB S ref N l = true) : InF (award S noS N (begF ref)) l N := by
  obtain ⟨o, ho, e⟩ := award_reach S noS N (begF ref)
  rw [e]
  refine inF_hears hS hl o _ (begF_three ref) (fun n hn => by unfold begF; rw [if_pos hn]; decide) (fun n h0 h1 => ?_) ho
  unfold begF
  by_cases hr : ref n = true
  · rw [if_pos hr]
    refine ⟨fun h => absurd h (by decide), fun _ q => ?_⟩
    unfold fullB at hl
    rw [Bool.and_eq_true] at hl
    rw [(niceB_iff.1 hl.1 n q).1] at hr; cases hr
  · rw [if_neg hr]; exact ⟨fun h => absurd h (by decide), fun h => absurd h (by decide)⟩
def upheld (f : Int → Nat) (N : Nat) : List Int := (allN N).filter fun n => decide (f n = 1)
theorem mem_upheld {f : Int → Nat} {n : Int} : n ∈ upheld f N ↔ (0 ≤ n ∧ n < N) ∧ f n = 1 := by
  unfold upheld
  rw [List.mem_filter, mem_allN, decide_eq_true_eq]
theorem award_rule {n : Int} (hn : 0 ≤ n ∧ n < N) (hr : ref n ≠ true) : rule S noS (award S noS N (begF ref)) n = award S noS N (begF ref) n := by
  have ha := award_reach S noS N (begF ref)
  by_cases e : award S noS N (begF ref) n = 0
  · rw [award_done S noS N (begF ref) n hn.1 hn.2 e, e]
  · rcases ha.sound (begF_three ref) n e with h | h
    · unfold begF at h; rw [if_neg hr] at h; exact absurd h.symm e
    · exact h
theorem award_ref {n : Int} (hr : ref n = true) : award S noS N (begF ref) n = 2 := by
  have := (award_reach S noS N (begF ref)).has n (by unfold begF; rw [if_pos hr]; decide)
  rw [this]; unfold begF; rw [if_pos hr]
theorem upheld_stand (hS : ∀ s ∈ S, 0 ≤ s.1 ∧ s.1 < N) : standB S ref (upheld (award S noS N (begF ref)) N) = true := by
  obtain ⟨a, hea⟩ : ∃ a, award S noS N (begF ref) = a := ⟨_, rfl⟩
  have hrule : ∀ {n : Int}, 0 ≤ n ∧ n < N → ref n ≠ true → rule S noS a n = a n := fun hn hr => by rw [← hea]; exact award_rule hn hr
  have href : ∀ {n : Int}, ref n = true → a n = 2 := fun hr => by rw [← hea]; exact award_ref hr
  rw [hea]
  unfold standB
  rw [List.all_eq_true]
  intro n hn
  obtain ⟨hnr, h1⟩ := mem_upheld.1 hn
  have hr : ref n ≠ true := fun q => by rw [href q] at h1; cases h1
  have hx := hrule hnr hr
  rw [h1] at hx
  have hx := rule_one.1 hx
  have two : ∀ s ∈ S, s.2 = n → a s.1 = 2 := fun s hs e => by
    have a1 : a s.1 ≠ 1 := fun q => by rw [struck_iff.2 ⟨rfl, s, hs, e, q⟩] at hx; exact absurd hx.1 (by decide)
    have a0 : a s.1 ≠ 0 := fun q => by rw [struck_iff.2 ⟨rfl, s, hs, e, q⟩] at hx; exact absurd hx.2 (by decide)
    have : a s.1 ≤ 2 := by rw [← hea]; exact (award_reach S noS N (begF ref)).three (begF_three ref) s.1
    omega
  simp only [Bool.and_eq_true, Bool.not_eq_true', List.all_eq_true, Bool.or_eq_true, decide_eq_false_iff_not]
  refine ⟨⟨by simpa using hr, strikeL_false.2 fun s hs e => ?_⟩, fun s hs => ?_⟩
  · cases q : (upheld a N).contains s.1 with
    | false => rfl
    | true =>
      have := (mem_upheld.1 (List.contains_iff_mem.1 q)).2
      rw [two s hs e] at this; cases this
  · by_cases e : s.2 = n
    · by_cases hrs : ref s.1 = true
      · exact .inl (.inr hrs)
      · right
        have h2 := hrule (hS s hs) hrs
        rw [two s hs e] at h2
        obtain ⟨-, t, ht, e1, e2⟩ := struck_iff.1 (rule_two.1 h2)
        exact strikeL_iff.2 ⟨t, ht, e1, List.contains_iff_mem.2 (mem_upheld.2 ⟨hS t ht, e2⟩)⟩
    · exact .inl (.inl e)
theorem upheld_only (hS : ∀ s ∈ S, 0 ≤ s.1 ∧ s.1 < N) (ho : ∀ n : Int, 0 ≤ n → n < N → award S noS N (begF ref) n ≠ 0) :
    fullB S ref N (upheld (award S noS N (begF ref)) N) = true ∧ ∀ l : List Int, l.Pairwise (· < ·) → (∀ x ∈ l, 0 ≤ x ∧ x < N) → fullB S ref N l = true → ∀ n, n ∈ l ↔ n ∈ upheld (award S noS N (begF ref)) N := by
  constructor
  · unfold fullB
    rw [nice_of (upheld_stand hS), Bool.true_and]
    refine coverB_iff.2 fun n h0 h1 => ?_
    by_cases hr : ref n = true
    · exact .inr (.inl hr)
    · have hx := award_rule (S := S) ⟨h0, h1⟩ hr
      have h3 := (award_reach S noS N (begF ref)).three (begF_three ref) n
      have hz := ho n h0 h1
      by_cases e1 : award S noS N (begF ref) n = 1
      · exact .inl (mem_upheld.2 ⟨⟨h0, h1⟩, e1⟩)
      · have e2 : award S noS N (begF ref) n = 2 := by omega
        rw [e2] at hx
        obtain ⟨-, s, hs, q1, q2⟩ := struck_iff.1 (rule_two.1 hx)
        exact .inr (.inr ⟨s, hs, q1, mem_upheld.2 ⟨hS s hs, q2⟩⟩)
  · intro l _ hlr hl n
    have hin := award_full hS hl
    rw [mem_upheld]
    constructor
    · intro hn
      have hr := hlr n hn
      refine ⟨hr, ?_⟩
      have h3 := (award_reach S noS N (begF ref)).three (begF_three ref) n
      have hz := ho n hr.1 hr.2
      by_cases e1 : award S noS N (begF ref) n = 1
      · exact e1
      · exact absurd hn ((hin n hr.1 hr.2).2 (by omega))
    · rintro ⟨hr, h1⟩
      exact (hin n hr.1 hr.2).1 h1
end
end Court
end

section
namespace Court
section
variable {S : List (Int × Int)} {sure : Int → Bool} {f f0 : Int → Nat} {N : Nat}
theorem struck_filter (n : Int) (v : Nat) : struckB (S.filter fun s => !sure s.2) noS f n v = struckB S sure f n v := by
  rw [Bool.eq_iff_iff, struck_iff, struck_iff]
  constructor
  · rintro ⟨-, s, hs, h1, h2⟩
    rw [List.mem_filter] at hs
    refine ⟨?_, s, hs.1, h1, h2⟩
    have := hs.2
    rw [h1] at this
    simpa using this
  · rintro ⟨h0, s, hs, h1, h2⟩
    exact ⟨rfl, s, List.mem_filter.2 ⟨hs, by rw [h1, h0]; rfl⟩, h1, h2⟩
theorem rule_filter (n : Int) : rule (S.filter fun s => !sure s.2) noS f n = rule S sure f n := by
  unfold rule; rw [struck_filter, struck_filter]
theorem hear_filter (n : Int) : hear (S.filter fun s => !sure s.2) noS f n = hear S sure f n := by
  unfold hear heard1; rw [rule_filter]
theorem hears_filter : ∀ (o : List Int) (f : Int → Nat), hears (S.filter fun s => !sure s.2) noS f o = hears S sure f o
  | [], _ => rfl
  | n :: r, f => by
    show hears _ noS (hear _ noS f n) r = hears S sure (hear S sure f n) r
    rw [hear_filter, hears_filter r]
theorem round_filter (f : Int → Nat) : round (S.filter fun s => !sure s.2) noS N f = round S sure N f := hears_filter _ _
theorem rounds_filter : ∀ (k : Nat) (f : Int → Nat), rounds (S.filter fun s => !sure s.2) noS N k f = rounds S sure N k f
  | 0, _ => rfl
  | k + 1, f => by
    show rounds _ noS N k (round _ noS N f) = rounds S sure N k (round S sure N f)
    rw [round_filter, rounds_filter k]
theorem award_filter : award (S.filter fun s => !sure s.2) noS N f0 = award S sure N f0 := rounds_filter _ _

def combos (c : Int) : Nat → Nat → Nat → List Int → List (List Int)
  | _, _, 0, l => [l]
  | 0, _, _ + 1, _ => []
  | k + 1, n, m + 1, l => (if (n : Int) ≠ c then combos c k (n + 1) m (l ++ [(n : Int)]) else []) ++ combos c k (n + 1) (m + 1) l
theorem mem_combos {c : Int} : ∀ (k n m : Nat) (l l' : List Int), l' ∈ combos c k n m l ↔ ∃ t, l' = l ++ t ∧ t.Pairwise (· < ·) ∧ (∀ x ∈ t, (n : Int) ≤ x ∧ x < n + k ∧ x ≠ c) ∧ t.length = m
  | k, n, 0, l, l' => by
    have e : combos c k n 0 l = [l] := by cases k <;> rfl
    rw [e, List.mem_singleton]
    constructor
    · rintro rfl; exact ⟨[], by simp, .nil, by simp, rfl⟩
    · rintro ⟨t, rfl, -, -, h⟩
      rw [List.eq_nil_of_length_eq_zero h, List.append_nil]
  | 0, n, m + 1, l, l' => by
    have e : combos c 0 n (m + 1) l = [] := rfl
    rw [e]
    constructor
    · intro h; cases h
    · rintro ⟨t, -, -, ht, hl⟩
      cases t with
      | nil => cases hl
      | cons x r => have := ht x List.mem_cons_self; omega
  | k + 1, n, m + 1, l, l' => by
    have e : combos c (k + 1) n (m + 1) l = (if (n : Int) ≠ c then combos c k (n + 1) m (l ++ [(n : Int)]) else []) ++ combos c k (n + 1) (m + 1) l := rfl
    rw [e, List.mem_append]
    constructor
    · rintro (h | h)
      · split at h
        · rename_i hc
          obtain ⟨t, rfl, h1, h2, h3⟩ := (mem_combos k (n + 1) m _ l').1 h
          refine ⟨(n : Int) :: t, by simp, List.pairwise_cons.2 ⟨fun x hx => by have := h2 x hx; omega, h1⟩, fun x hx => ?_, by simp [h3]⟩
          rcases List.mem_cons.1 hx with rfl | hx
          · exact ⟨by omega, by omega, hc⟩
          · have := h2 x hx; exact ⟨by omega, by omega, this.2.2⟩
        · cases h
      · obtain ⟨t, rfl, h1, h2, h3⟩ := (mem_combos k (n + 1) (m + 1) l l').1 h
        exact ⟨t, rfl, h1, fun x hx => by have := h2 x hx; exact ⟨by omega, by omega, this.2.2⟩, h3⟩
    · rintro ⟨t, rfl, h1, h2, h3⟩
      cases t with
      | nil => cases h3
      | cons y r =>
        rw [List.pairwise_cons] at h1
        have hy := h2 y List.mem_cons_self
        by_cases e : y = (n : Int)
        · subst e
          left
          rw [if_pos hy.2.2]
          exact (mem_combos k (n + 1) m _ _).2 ⟨r, by simp, h1.2, fun x hx => by have := h1.1 x hx; have := h2 x (List.mem_cons_of_mem _ hx); exact ⟨by omega, by omega, this.2.2⟩, by simpa using h3⟩
        · right
          refine (mem_combos k (n + 1) (m + 1) l _).2 ⟨y :: r, rfl, List.pairwise_cons.2 h1, fun x hx => ?_, h3⟩
          have hb := h2 x hx
          rcases List.mem_cons.1 hx with rfl | hx
          · exact ⟨by omega, by omega, hb.2.2⟩
          · have := h1.1 x hx; exact ⟨by omega, by omega, hb.2.2⟩
theorem combos_len {c : Int} {k n m : Nat} {l' : List Int} (h : l' ∈ combos c k n m []) : l'.length = m := by
  obtain ⟨t, rfl, -, -, h⟩ := (mem_combos k n m [] l').1 h
  simpa using h
def refL (l : List Int) : Int → Bool := fun n => l.contains n
theorem all_refuted {c : Int} (hc : 0 ≤ c ∧ c < N) (hs : (c, c) ∉ S) (hS : ∀ s ∈ S, 0 ≤ s.1 ∧ s.1 < N) {l : List Int} (hl : ∀ n : Int, 0 ≤ n → n < N → n ≠ c → n ∈ l) (hcl : c ∉ l) : award S noS N (begF (refL l)) c = 1 := by
  have hr : refL l c ≠ true := fun q => hcl (List.contains_iff_mem.1 q)
  have hx := award_rule (S := S) (ref := refL l) (N := N) hc hr
  have two : ∀ s ∈ S, s.2 = c → award S noS N (begF (refL l)) s.1 = 2 := fun s h e => by
    have hsr := hS s h
    have hne : s.1 ≠ c := fun q => hs (by
      have e2 : s = (c, c) := Prod.ext q e
      rw [← e2]; exact h)
    exact award_ref (List.contains_iff_mem.2 (hl s.1 hsr.1 hsr.2 hne))
  have h1 : rule S noS (award S noS N (begF (refL l))) c = 1 := by
    refine rule_one.2 ⟨?_, ?_⟩
    · cases q : struckB S noS (award S noS N (begF (refL l))) c 1 with
      | false => rfl
      | true =>
        obtain ⟨-, s, h, e, v⟩ := struck_iff.1 q
        rw [two s h e] at v; cases v
    · cases q : struckB S noS (award S noS N (begF (refL l))) c 0 with
      | false => rfl
      | true =>
        obtain ⟨-, s, h, e, v⟩ := struck_iff.1 q
        rw [two s h e] at v; cases v
  rw [← hx]; exact h1
theorem self_never {c : Int} (hc : 0 ≤ c ∧ c < N) (hs : (c, c) ∈ S) (ref : Int → Bool) : award S noS N (begF ref) c ≠ 1 := fun h => by
  by_cases hr : ref c = true
  · rw [award_ref hr] at h; cases h
  · have hx := award_rule (S := S) (ref := ref) (N := N) hc hr
    rw [h] at hx
    have := (rule_one.1 hx).1
    rw [struck_iff.2 ⟨rfl, (c, c), hs, rfl, h⟩] at this; cases this
end
end Court
end

section
namespace Court
theorem nodup_sub_len {α : Type} [DecidableEq α] : ∀ {l m : List α}, l.Nodup → (∀ x ∈ l, x ∈ m) → l.length ≤ m.length
  | [], m, _, _ => Nat.zero_le _
  | a :: l, m, hn, h => by
    rw [List.nodup_cons] at hn
    have ha := h a List.mem_cons_self
    have := nodup_sub_len (m := m.erase a) hn.2 fun x hx => (List.mem_erase_of_ne (fun e => hn.1 (by rw [← e]; exact hx))).2 (h x (List.mem_cons_of_mem _ hx))
    rw [List.length_erase_of_mem ha] at this
    have := List.length_pos_of_mem ha
    simp only [List.length_cons]; omega
theorem map_nodup {α β : Type} {g : α → β} : ∀ {l : List α}, l.Nodup → (∀ x ∈ l, ∀ y ∈ l, g x = g y → x = y) → (l.map g).Nodup
  | [], _, _ => .nil
  | a :: l, hn, h => by
    rw [List.nodup_cons] at hn
    rw [List.map_cons, List.nodup_cons]
    refine ⟨fun hm => ?_, map_nodup hn.2 fun x hx y hy => h x (List.mem_cons_of_mem _ hx) y (List.mem_cons_of_mem _ hy)⟩
    obtain ⟨y, hy, e⟩ := List.mem_map.1 hm
    exact hn.1 (by rw [h a List.mem_cons_self y (List.mem_cons_of_mem _ hy) e.symm]; exact hy)
theorem inj_len {α : Type} [DecidableEq α] {l m : List α} {g : α → α} (hl : l.Nodup) (hg : ∀ x ∈ l, g x ∈ m) (hi : ∀ x ∈ l, ∀ y ∈ l, g x = g y → x = y) : l.length ≤ m.length := by
  have := nodup_sub_len (map_nodup hl hi) fun y hy => by
    obtain ⟨x, hx, rfl⟩ := List.mem_map.1 hy
    exact hg x hx
  rwa [List.length_map] at this

structure Names (N : Nat) (p q : Int → Int) : Prop where
  tow : ∀ n : Int, 0 ≤ n ∧ n < N → 0 ≤ p n ∧ p n < N
  fro : ∀ n : Int, 0 ≤ n ∧ n < N → 0 ≤ q n ∧ q n < N
  qp : ∀ n : Int, 0 ≤ n ∧ n < N → q (p n) = n
  pq : ∀ n : Int, 0 ≤ n ∧ n < N → p (q n) = n
theorem Names.symm {N : Nat} {p q : Int → Int} (h : Names N p q) : Names N q p := ⟨h.fro, h.tow, h.pq, h.qp⟩
def Told (S S' : List (Int × Int)) (p : Int → Int) : Prop := ∀ t, t ∈ S' ↔ ∃ s ∈ S, t = (p s.1, p s.2)
def InR (S : List (Int × Int)) (N : Nat) : Prop := ∀ s ∈ S, (0 ≤ s.1 ∧ s.1 < N) ∧ (0 ≤ s.2 ∧ s.2 < N)
theorem Told.back {S S' : List (Int × Int)} {N : Nat} {p q : Int → Int} (h : Told S S' p) (hn : Names N p q) (hS : InR S N) : Told S' S q := fun s => by
  constructor
  · intro hs
    exact ⟨_, (h _).2 ⟨s, hs, rfl⟩, by
      have := hS s hs
      rw [hn.qp _ this.1, hn.qp _ this.2]⟩
  · rintro ⟨t, ht, rfl⟩
    obtain ⟨s, hs, rfl⟩ := (h t).1 ht
    have := hS s hs
    show (q (p s.1), q (p s.2)) ∈ S
    rw [hn.qp _ this.1, hn.qp _ this.2]; exact hs
theorem Told.inR {S S' : List (Int × Int)} {N : Nat} {p q : Int → Int} (h : Told S S' p) (hn : Names N p q) (hS : InR S N) : InR S' N := fun t ht => by
  obtain ⟨s, hs, rfl⟩ := (h t).1 ht
  exact ⟨hn.tow _ (hS s hs).1, hn.tow _ (hS s hs).2⟩
section
variable {S S' : List (Int × Int)} {N : Nat} {p q : Int → Int} {f f' : Int → Nat}
def Sim (N : Nat) (p : Int → Int) (f f' : Int → Nat) : Prop := ∀ n : Int, 0 ≤ n ∧ n < N → f' (p n) = f n
theorem sim_struck (hn : Names N p q) (hS : InR S N) (ht : Told S S' p) (h : Sim N p f f') {n : Int} (hr : 0 ≤ n ∧ n < N) (v : Nat) : struckB S' noS f' (p n) v = struckB S noS f n v := by
  rw [Bool.eq_iff_iff, struck_iff, struck_iff]
  constructor
  · rintro ⟨-, t, htm, h1, h2⟩
    obtain ⟨s, hs, rfl⟩ := (ht t).1 htm
    have hsr := hS s hs
    refine ⟨rfl, s, hs, ?_, ?_⟩
    · have h1 : p s.2 = p n := h1
      rw [← hn.qp _ hsr.2, ← hn.qp _ hr, h1]
    · rw [← h _ hsr.1]; exact h2
  · rintro ⟨-, s, hs, h1, h2⟩
    have hsr := hS s hs
    exact ⟨rfl, _, (ht _).2 ⟨s, hs, rfl⟩, by show p s.2 = p n; rw [h1], by show f' (p s.1) = v; rw [h _ hsr.1]; exact h2⟩
theorem sim_rule (hn : Names N p q) (hS : InR S N) (ht : Told S S' p) (h : Sim N p f f') {n : Int} (hr : 0 ≤ n ∧ n < N) : rule S' noS f' (p n) = rule S noS f n := by
  unfold rule
  rw [sim_struck hn hS ht h hr, sim_struck hn hS ht h hr]
theorem sim_hear (hn : Names N p q) (hS : InR S N) (ht : Told S S' p) (h : Sim N p f f') {n : Int} (hr : 0 ≤ n ∧ n < N) : Sim N p (hear S noS f n) (hear S' noS f' (p n)) := fun k hk => by
  unfold hear setF heard1
  by_cases e : k = n
  · subst e
    rw [if_pos rfl, if_pos rfl, h k hk, sim_rule hn hS ht h hk]
  · rw [if_neg e, if_neg (fun e' => e (by rw [← hn.qp _ hk, ← hn.qp _ hr, e'])), h k hk]
theorem sim_hears (hn : Names N p q) (hS : InR S N) (ht : Told S S' p) : ∀ (o : List Int) (f f' : Int → Nat), Sim N p f f' → (∀ n ∈ o, 0 ≤ n ∧ n < N) → Sim N p (hears S noS f o) (hears S' noS f' (o.map p))
  | [], _, _, h, _ => h
  | n :: r, _, _, h, ho => sim_hears hn hS ht r _ _ (sim_hear hn hS ht h (ho n List.mem_cons_self)) fun k hk => ho k (List.mem_cons_of_mem _ hk)
theorem award_named (hn : Names N p q) (hS : InR S N) (ht : Told S S' p) {ref ref' : Int → Bool} (hr : ∀ n : Int, 0 ≤ n ∧ n < N → ref' (p n) = ref n) : Sim N p (award S noS N (begF ref)) (award S' noS N (begF ref')) := by
  obtain ⟨o, ho, e⟩ := award_reach S noS N (begF ref)
  have hd := award_done S noS N (begF ref)
  rw [e] at hd ⊢
  have h := sim_hears hn hS ht o (begF ref) (begF ref') (fun n h => by unfold begF; rw [hr n h]) ho
  have hd' : Done S' noS N (hears S' noS (begF ref') (o.map p)) := fun n h0 h1 hz => by
    have hq := hn.fro n ⟨h0, h1⟩
    have e := hn.pq n ⟨h0, h1⟩
    rw [← e] at hz ⊢
    rw [sim_rule hn hS ht h hq]
    rw [h _ hq] at hz
    exact hd _ hq.1 hq.2 hz
  rw [← award_eq (begF_three ref') ⟨o.map p, fun n hm => by
    obtain ⟨k, hk, rfl⟩ := List.mem_map.1 hm
    exact hn.tow k (ho k hk), rfl⟩ hd']
  exact h

def named (N : Nat) (q : Int → Int) (l : List Int) : List Int := (allN N).filter fun n => l.contains (q n)
theorem mem_named {l : List Int} {n : Int} : n ∈ named N q l ↔ (0 ≤ n ∧ n < N) ∧ q n ∈ l := by
  unfold named
  rw [List.mem_filter, mem_allN, List.contains_iff_mem]
theorem allN_sorted (N : Nat) : (allN N).Pairwise (· < ·) := by
  unfold allN
  rw [List.pairwise_map]
  exact (List.pairwise_lt_range).imp fun h => by omega
theorem named_sorted (N : Nat) (q : Int → Int) (l : List Int) : (named N q l).Pairwise (· < ·) := (allN_sorted N).filter _
theorem sorted_ext : ∀ {l m : List Int}, l.Pairwise (· < ·) → m.Pairwise (· < ·) → (∀ x, x ∈ l ↔ x ∈ m) → l = m
  | [], [], _, _, _ => rfl
  | [], b :: m, _, _, h => by have := (h b).2 List.mem_cons_self; cases this
  | a :: l, [], _, _, h => by have := (h a).1 List.mem_cons_self; cases this
  | a :: l, b :: m, hl, hm, h => by
    rw [List.pairwise_cons] at hl hm
    have e : a = b := by
      have h1 := (h a).1 List.mem_cons_self
      have h2 := (h b).2 List.mem_cons_self
      rcases List.mem_cons.1 h1 with e | h1
      · exact e
      · rcases List.mem_cons.1 h2 with e | h2
        · exact e.symm
        · have := hl.1 b h2; have := hm.1 a h1; omega
    subst e
    rw [sorted_ext hl.2 hm.2 fun x => ?_]
    constructor
    · intro hx
      rcases List.mem_cons.1 ((h x).1 (List.mem_cons_of_mem _ hx)) with e | h'
      · have := hl.1 x hx; omega
      · exact h'
    · intro hx
      rcases List.mem_cons.1 ((h x).2 (List.mem_cons_of_mem _ hx)) with e | h'
      · have := hm.1 x hx; omega
      · exact h'
theorem named_back (hn : Names N p q) {l : List Int} (hl : l.Pairwise (· < ·)) (hr : ∀ x ∈ l, 0 ≤ x ∧ x < N) : named N p (named N q l) = l :=
  sorted_ext (named_sorted _ _ _) hl fun x => by
    rw [mem_named, mem_named]
    constructor
    · rintro ⟨h, -, h2⟩
      rwa [hn.qp x h] at h2
    · intro h
      exact ⟨hr x h, hn.tow x (hr x h), by rw [hn.qp x (hr x h)]; exact h⟩
theorem named_len (hn : Names N p q) {l : List Int} (hl : l.Pairwise (· < ·)) (hr : ∀ x ∈ l, 0 ≤ x ∧ x < N) : (named N q l).length = l.length := by
  have nd : ∀ {m : List Int}, m.Pairwise (· < ·) → m.Nodup := fun h => h.imp fun h => by omega
  apply Nat.le_antisymm
  · exact inj_len (g := q) (nd (named_sorted _ _ _)) (fun x hx => (mem_named.1 hx).2) fun x hx y hy e => by
      rw [← hn.pq x (mem_named.1 hx).1, ← hn.pq y (mem_named.1 hy).1, e]
  · exact inj_len (g := p) (nd hl) (fun x hx => mem_named.2 ⟨hn.tow x (hr x hx), by rw [hn.qp x (hr x hx)]; exact hx⟩) fun x hx y hy e => by
      rw [← hn.qp x (hr x hx), ← hn.qp y (hr y hy), e]
theorem named_full (hn : Names N p q) (hS : InR S N) (ht : Told S S' p) {ref ref' : Int → Bool} (hr : ∀ n : Int, 0 ≤ n ∧ n < N → ref' (p n) = ref n) {l : List Int} (hl : ∀ x ∈ l, 0 ≤ x ∧ x < N) (h : fullB S ref N l = true) : fullB S' ref' N (named N q l) = true := by
  unfold fullB at h ⊢
  rw [Bool.and_eq_true] at h ⊢
  refine ⟨niceB_iff.2 fun n hm => ?_, coverB_iff.2 fun n h0 h1 => ?_⟩
  · obtain ⟨hr1, hm⟩ := mem_named.1 hm
    obtain ⟨a, b⟩ := niceB_iff.1 h.1 _ hm
    refine ⟨by rw [← hn.pq n hr1, hr _ (hn.fro n hr1)]; exact a, fun t htm e hq => ?_⟩
    obtain ⟨s, hs, rfl⟩ := (ht t).1 htm
    have hsr := hS s hs
    have hq := (mem_named.1 hq).2
    rw [hn.qp _ hsr.1] at hq
    refine b s hs ?_ hq
    have e : p s.2 = n := e
    rw [← e, hn.qp _ hsr.2]
  · have hq := hn.fro n ⟨h0, h1⟩
    rcases coverB_iff.1 h.2 (q n) hq.1 hq.2 with hm | hm | ⟨s, hs, e, hm⟩
    · exact .inl (mem_named.2 ⟨⟨h0, h1⟩, hm⟩)
    · right; left
      rw [← hn.pq n ⟨h0, h1⟩, hr _ hq]; exact hm
    · have hsr := hS s hs
      exact .inr (.inr ⟨_, (ht _).2 ⟨s, hs, rfl⟩, by show p s.2 = n; rw [e, hn.pq n ⟨h0, h1⟩], mem_named.2 ⟨hn.tow _ hsr.1, by show q (p s.1) ∈ l; rw [hn.qp _ hsr.1]; exact hm⟩⟩)
theorem full_count_le (hn : Names N p q) (hS : InR S N) (ht : Told S S' p) {ref ref' : Int → Bool} (hr : ∀ n : Int, 0 ≤ n ∧ n < N → ref' (p n) = ref n) : (grow S ref N N 0 []).length ≤ (grow S' ref' N N 0 []).length :=
  inj_len (g := named N q) (nodup_grow N 0 [] rfl) (fun l hl => by
    obtain ⟨h1, h2, h3⟩ := mem_full.1 hl
    exact mem_full.2 ⟨named_sorted _ _ _, fun x hx => (mem_named.1 hx).1, named_full hn hS ht hr h2 h3⟩) fun l hl m hm e => by
    obtain ⟨h1, h2, -⟩ := mem_full.1 hl
    obtain ⟨h3, h4, -⟩ := mem_full.1 hm
    rw [← named_back hn h1 h2, ← named_back hn h3 h4, e]
theorem full_count (hn : Names N p q) (hS : InR S N) (ht : Told S S' p) {ref ref' : Int → Bool} (hr : ∀ n : Int, 0 ≤ n ∧ n < N → ref' (p n) = ref n) : (grow S ref N N 0 []).length = (grow S' ref' N N 0 []).length :=
  Nat.le_antisymm (full_count_le hn hS ht hr) (full_count_le hn.symm (ht.inR hn hS) (ht.back hn hS) fun n h => by rw [← hr _ (hn.fro n h), hn.pq n h])
def Wins (S : List (Int × Int)) (N : Nat) (c : Int) (l : List Int) : Prop := (l.Pairwise (· < ·) ∧ (∀ x ∈ l, 0 ≤ x ∧ x < N) ∧ c ∉ l) ∧ award S noS N (begF (refL l)) c = 1
theorem wins_named (hn : Names N p q) (hS : InR S N) (ht : Told S S' p) {c : Int} (hc : 0 ≤ c ∧ c < N) {l : List Int} (h : Wins S N c l) : Wins S' N (p c) (named N q l) ∧ (named N q l).length = l.length := by
  obtain ⟨⟨h1, h2, h3⟩, h4⟩ := h
  refine ⟨⟨⟨named_sorted _ _ _, fun x hx => (mem_named.1 hx).1, fun hm => h3 ?_⟩, ?_⟩, named_len hn h1 h2⟩
  · have := (mem_named.1 hm).2
    rwa [hn.qp c hc] at this
  · have := award_named hn hS ht (ref := refL l) (ref' := refL (named N q l)) (fun n hr => by
      unfold refL
      rw [Bool.eq_iff_iff, List.contains_iff_mem, List.contains_iff_mem, mem_named]
      constructor
      · rintro ⟨-, h⟩; rwa [hn.qp n hr] at h
      · intro h; exact ⟨hn.tow n hr, by rw [hn.qp n hr]; exact h⟩)
    rw [this c hc]; exact h4
theorem award_idle {c : Int} (hc : ∀ s ∈ S, s.1 ≠ c) {ref ref' : Int → Bool} (h1 : ∀ n, n ≠ c → ref' n = ref n) (h2 : ref' c = true) : ∀ n, n ≠ c → award S noS N (begF ref') n = award S noS N (begF ref) n := by
  have st : ∀ {f f' : Int → Nat}, (∀ n, n ≠ c → f' n = f n) → ∀ n v, struckB S noS f' n v = struckB S noS f n v := fun h n v => by
    rw [Bool.eq_iff_iff, struck_iff, struck_iff]
    constructor
    · rintro ⟨a, s, hs, e, v'⟩; exact ⟨a, s, hs, e, by rw [← h _ (hc s hs)]; exact v'⟩
    · rintro ⟨a, s, hs, e, v'⟩; exact ⟨a, s, hs, e, by rw [h _ (hc s hs)]; exact v'⟩
  have ru : ∀ {f f' : Int → Nat}, (∀ n, n ≠ c → f' n = f n) → ∀ n, rule S noS f' n = rule S noS f n := fun h n => by unfold rule; rw [st h, st h]
  have go : ∀ (o : List Int) (f f' : Int → Nat), (∀ n, n ≠ c → f' n = f n) → f' c ≠ 0 → (∀ n, n ≠ c → hears S noS f' o n = hears S noS f o n) ∧ hears S noS f' o c ≠ 0 := by
    intro o
    induction o with
    | nil => exact fun f f' h h0 => ⟨h, h0⟩
    | cons m r ih =>
      intro f f' h h0
      refine ih _ _ (fun n hn => ?_) ?_
      · unfold hear setF heard1
        by_cases e : n = m
        · subst e; rw [if_pos rfl, if_pos rfl, h n hn, ru h]
        · rw [if_neg e, if_neg e, h n hn]
      · rw [has_hear S noS f' m c h0]; exact h0
  obtain ⟨o, ho, e⟩ := award_reach S noS N (begF ref)
  have hd := award_done S noS N (begF ref)
  rw [e] at hd
  obtain ⟨g1, g2⟩ := go o (begF ref) (begF ref') (fun n hn => by unfold begF; rw [h1 n hn]) (by unfold begF; rw [if_pos h2]; decide)
  have hd' : Done S noS N (hears S noS (begF ref') o) := fun n n0 n1 hz => by
    by_cases hn : n = c
    · rw [hn] at hz; exact absurd hz g2
    · rw [ru g1]
      rw [g1 n hn] at hz
      exact hd n n0 n1 hz
  rw [← award_eq (begF_three ref') ⟨o, ho, rfl⟩ hd', e]
  exact g1
end
end Court
end

section
namespace Go.Proofs
open Go.RowKit

def mkL (m : Int → Bool) : List Value := (List.range 14).map fun (i : Nat) => Value.bool (m i)
def mnL (f : Int → Nat) : List Value := (List.range 14).map fun (i : Nat) => Value.int .i64 (f i : Nat)
def mk (m : Int → Bool) : Array Value := (mkL m).toArray
theorem mkL_len (m : Int → Bool) : (mkL m).length = 14 := by unfold mkL; rw [List.length_map, List.length_range]
theorem mnL_len (f : Int → Nat) : (mnL f).length = 14 := by unfold mnL; rw [List.length_map, List.length_range]
theorem mkL_get (m : Int → Bool) {i : Nat} (h : i < 14) : (mkL m)[i]? = some (.bool (m i)) := by unfold mkL; rw [List.getElem?_map, List.getElem?_range h]; rfl
theorem mnL_get (f : Int → Nat) {i : Nat} (h : i < 14) : (mnL f)[i]? = some (.int .i64 (f i : Nat)) := by unfold mnL; rw [List.getElem?_map, List.getElem?_range h]; rfl
theorem mk_size (m : Int → Bool) : (mk m).size = 14 := by unfold mk; rw [List.size_toArray, mkL_len]
theorem mk_get (m : Int → Bool) {i : Nat} (h : i < 14) : (mk m)[i]? = some (.bool (m i)) := by unfold mk; rw [List.getElem?_toArray, mkL_get m h]
theorem mkL_one (m : Int → Bool) : ∀ v ∈ mkL m, v.oneCell' = true := by intro v hv; unfold mkL at hv; rw [List.mem_map] at hv; obtain ⟨i, -, rfl⟩ := hv; rfl
theorem mnL_one (f : Int → Nat) : ∀ v ∈ mnL f, v.oneCell' = true := by intro v hv; unfold mnL at hv; rw [List.mem_map] at hv; obtain ⟨i, -, rfl⟩ := hv; rfl
def setM (m : Int → Bool) (n : Int) : Int → Bool := fun k => if k = n then true else m k
theorem mkL_set (m : Int → Bool) {n : Nat} (h : n < 14) : (mkL m).set n (.bool true) = mkL (setM m n) := by
  apply List.ext_getElem?
  intro i
  rw [List.getElem?_set]
  by_cases hi : i < 14
  · rw [mkL_get _ hi, mkL_get _ hi, mkL_len]
    unfold setM
    by_cases e : n = i
    · subst e; simp [h]
    · rw [if_neg e, if_neg (by omega)]
  · rw [if_neg (by omega), List.getElem?_eq_none (by rw [mkL_len]; omega), List.getElem?_eq_none (by rw [mkL_len]; omega)]
theorem mnL_set (f : Int → Nat) {n : Nat} (h : n < 14) (v : Nat) : (mnL f).set n (.int .i64 v) = mnL (Court.setF f n v) := by
  apply List.ext_getElem?
  intro i
  rw [List.getElem?_set]
  by_cases hi : i < 14
  · rw [mnL_get _ hi, mnL_get _ hi, mnL_len]
    unfold Court.setF
    by_cases e : n = i
    · subst e; simp [h]
    · rw [if_neg e, if_neg (by omega)]
  · rw [if_neg (by omega), List.getElem?_eq_none (by rw [mnL_len]; omega), List.getElem?_eq_none (by rw [mnL_len]; omega)]
theorem mk_set (m : Int → Bool) {n : Nat} (h : n < 14) : (mk m).setIfInBounds n (.bool true) = mk (setM m n) := by
  unfold mk; rw [List.setIfInBounds_toArray, mkL_set m h]

def deskL (C : CaseL) (a1 a2 : Option Addr) (c1 c2 : Nat) (ref sure : Int → Bool) (f r : Int → Nat) : List Value :=
  [.int .i64 C.claims, .slice a1 C.strikes.length c1, .slice a2 C.surveys.length c2] ++ (mkL ref ++ (mkL sure ++ (mnL f ++ mnL r)))
section
variable (C : CaseL) (a1 a2 : Option Addr) (c1 c2 : Nat) (ref sure : Int → Bool) (f r : Int → Nat)
theorem deskL_len : (deskL C a1 a2 c1 c2 ref sure f r).length = 59 := by unfold deskL; simp only [List.length_append, mkL_len, mnL_len, List.length_cons, List.length_nil]
theorem deskL_0 : (deskL C a1 a2 c1 c2 ref sure f r)[0]? = some (.int .i64 C.claims) := rfl
theorem deskL_1 : (deskL C a1 a2 c1 c2 ref sure f r)[1]? = some (.slice a1 C.strikes.length c1) := rfl
theorem deskL_2 : (deskL C a1 a2 c1 c2 ref sure f r)[2]? = some (.slice a2 C.surveys.length c2) := rfl
theorem deskL_ref {i : Nat} (h : i < 14) : (deskL C a1 a2 c1 c2 ref sure f r)[3 + i]? = some (.bool (ref i)) := by
  unfold deskL
  rw [List.getElem?_append_right (by simp <;> omega), List.getElem?_append_left (by rw [mkL_len]; simp <;> omega)]
  rw [show 3 + i - [Value.int .i64 C.claims, .slice a1 C.strikes.length c1, .slice a2 C.surveys.length c2].length = i by simp]
  exact mkL_get ref h
theorem deskL_sure {i : Nat} (h : i < 14) : (deskL C a1 a2 c1 c2 ref sure f r)[17 + i]? = some (.bool (sure i)) := by
  unfold deskL
  rw [List.getElem?_append_right (by simp <;> omega), List.getElem?_append_right (by rw [mkL_len]; simp <;> omega), List.getElem?_append_left (by rw [mkL_len, mkL_len]; simp <;> omega)]
  rw [show 17 + i - [Value.int .i64 C.claims, .slice a1 C.strikes.length c1, .slice a2 C.surveys.length c2].length - (mkL ref).length = i by rw [mkL_len]; simp <;> omega]
  exact mkL_get sure h
theorem deskL_found {i : Nat} (h : i < 14) : (deskL C a1 a2 c1 c2 ref sure f r)[31 + i]? = some (.int .i64 (f i : Nat)) := by
  unfold deskL
  rw [List.getElem?_append_right (by simp <;> omega), List.getElem?_append_right (by rw [mkL_len]; simp <;> omega), List.getElem?_append_right (by rw [mkL_len, mkL_len]; simp <;> omega), List.getElem?_append_left (by rw [mkL_len, mkL_len, mnL_len]; simp <;> omega)]
  rw [show 31 + i - [Value.int .i64 C.claims, .slice a1 C.strikes.length c1, .slice a2 C.surveys.length c2].length - (mkL ref).length - (mkL sure).length = i by rw [mkL_len, mkL_len]; simp <;> omega]
  exact mnL_get f h
theorem deskL_rank {i : Nat} (h : i < 14) : (deskL C a1 a2 c1 c2 ref sure f r)[45 + i]? = some (.int .i64 (r i : Nat)) := by
  unfold deskL
  rw [List.getElem?_append_right (by simp <;> omega), List.getElem?_append_right (by rw [mkL_len]; simp <;> omega), List.getElem?_append_right (by rw [mkL_len, mkL_len]; simp <;> omega), List.getElem?_append_right (by rw [mkL_len, mkL_len, mnL_len]; simp <;> omega)]
  rw [show 45 + i - [Value.int .i64 C.claims, .slice a1 C.strikes.length c1, .slice a2 C.surveys.length c2].length - (mkL ref).length - (mkL sure).length - (mnL f).length = i by rw [mkL_len, mkL_len, mnL_len]; simp <;> omega]
  exact mnL_get r h
theorem deskL_set_found {n : Nat} (h : n < 14) (v : Nat) : (deskL C a1 a2 c1 c2 ref sure f r).set (31 + n) (.int .i64 v) = deskL C a1 a2 c1 c2 ref sure (Court.setF f n v) r := by
  unfold deskL
  rw [List.set_append_right _ _ (by simp <;> omega), List.set_append_right _ _ (by rw [mkL_len]; simp <;> omega), List.set_append_right _ _ (by rw [mkL_len, mkL_len]; simp <;> omega), List.set_append_left _ _ (by rw [mkL_len, mkL_len, mnL_len]; simp <;> omega)]
  rw [show 31 + n - [Value.int .i64 C.claims, .slice a1 C.strikes.length c1, .slice a2 C.surveys.length c2].length - (mkL ref).length - (mkL sure).length = n by rw [mkL_len, mkL_len]; simp <;> omega, mnL_set f h]
theorem deskL_set_rank {n : Nat} (h : n < 14) (v : Nat) : (deskL C a1 a2 c1 c2 ref sure f r).set (45 + n) (.int .i64 v) = deskL C a1 a2 c1 c2 ref sure f (Court.setF r n v) := by
  unfold deskL
  rw [List.set_append_right _ _ (by simp <;> omega), List.set_append_right _ _ (by rw [mkL_len]; simp <;> omega), List.set_append_right _ _ (by rw [mkL_len, mkL_len]; simp <;> omega), List.set_append_right _ _ (by rw [mkL_len, mkL_len, mnL_len]; simp <;> omega)]
  rw [show 45 + n - [Value.int .i64 C.claims, .slice a1 C.strikes.length c1, .slice a2 C.surveys.length c2].length - (mkL ref).length - (mkL sure).length - (mnL f).length = n by rw [mkL_len, mkL_len, mnL_len]; simp <;> omega, mnL_set r h]
end

structure DeskAt (w0 w : World) (d : Nat) (C : CaseL) (a1 a2 : Option Addr) (c1 c2 : Nat) (ref sure : Int → Bool) (f r : Int → Nat) : Prop where
  blk : Blk w d 94 (deskL C a1 a2 c1 c2 ref sure f r).toArray
  rep : CRep w0 C a1 a2
  base : w0.heap.size ≤ d
  aft : Aft w0 w
section
variable {w0 w w' : World} {d : Nat} {C : CaseL} {a1 a2 : Option Addr} {c1 c2 : Nat} {ref sure : Int → Bool} {f r : Int → Nat}
theorem DeskAt.lt (h : DeskAt w0 w d C a1 a2 c1 c2 ref sure f r) : d < w.heap.size := h.blk.lt
theorem DeskAt.later (h : DeskAt w0 w d C a1 a2 c1 c2 ref sure f r) (ha : Aft w w') : DeskAt w0 w' d C a1 a2 c1 c2 ref sure f r := ⟨h.blk.aft ha, h.rep, h.base, h.aft.trans ha⟩
theorem DeskAt.grown (h : DeskAt w0 w d C a1 a2 c1 c2 ref sure f r) {row : Option Nat} (hg : w.grownBy w' row) (h1 : some d ≠ row) (h2 : ∀ k, row = some k → w0.heap.size ≤ k) : DeskAt w0 w' d C a1 a2 c1 c2 ref sure f r := ⟨h.blk.grown hg h1, h.rep, h.base, h.aft.grown hg h2⟩
theorem DeskAt.strs (h : DeskAt w0 w d C a1 a2 c1 c2 ref sure f r) : Strs w a1 C.strikes := h.rep.strikes.aft h.aft
theorem DeskAt.lists (h : DeskAt w0 w d C a1 a2 c1 c2 ref sure f r) : Lists w a2 C.surveys := h.rep.surveys.aft h.aft
theorem DeskAt.k0 (h : DeskAt w0 w d C a1 a2 c1 c2 ref sure f r) : w.cell? ⟨d, 0, none⟩ = some (.int .i64 C.claims) := (h.blk.cell 0).trans (by rw [List.getElem?_toArray, deskL_0])
theorem DeskAt.k1 (h : DeskAt w0 w d C a1 a2 c1 c2 ref sure f r) : w.cell? ⟨d, 1, none⟩ = some (.slice a1 C.strikes.length c1) := (h.blk.cell 1).trans (by rw [List.getElem?_toArray, deskL_1])
theorem DeskAt.k2 (h : DeskAt w0 w d C a1 a2 c1 c2 ref sure f r) : w.cell? ⟨d, 2, none⟩ = some (.slice a2 C.surveys.length c2) := (h.blk.cell 2).trans (by rw [List.getElem?_toArray, deskL_2])
theorem DeskAt.rf (h : DeskAt w0 w d C a1 a2 c1 c2 ref sure f r) {i : Nat} (hi : i < 14) : w.cell? ⟨d, 3 + i, none⟩ = some (.bool (ref i)) := (h.blk.cell _).trans (by rw [List.getElem?_toArray, deskL_ref _ _ _ _ _ _ _ _ _ hi])
theorem DeskAt.sr (h : DeskAt w0 w d C a1 a2 c1 c2 ref sure f r) {i : Nat} (hi : i < 14) : w.cell? ⟨d, 17 + i, none⟩ = some (.bool (sure i)) := (h.blk.cell _).trans (by rw [List.getElem?_toArray, deskL_sure _ _ _ _ _ _ _ _ _ hi])
theorem DeskAt.found (h : DeskAt w0 w d C a1 a2 c1 c2 ref sure f r) {i : Nat} (hi : i < 14) : w.cell? ⟨d, 31 + i, none⟩ = some (.int .i64 (f i : Nat)) := (h.blk.cell _).trans (by rw [List.getElem?_toArray, deskL_found _ _ _ _ _ _ _ _ _ hi])
theorem DeskAt.rank (h : DeskAt w0 w d C a1 a2 c1 c2 ref sure f r) {i : Nat} (hi : i < 14) : w.cell? ⟨d, 45 + i, none⟩ = some (.int .i64 (r i : Nat)) := (h.blk.cell _).trans (by rw [List.getElem?_toArray, deskL_rank _ _ _ _ _ _ _ _ _ hi])
theorem DeskAt.fz (h : DeskAt w0 w d C a1 a2 c1 c2 ref sure f r) (i : Nat) : w.frozen? ⟨d, i, none⟩ = false := h.blk.frozen i
theorem DeskAt.founds (h : DeskAt w0 w d C a1 a2 c1 c2 ref sure f r) : w.rangeAt d 31 (mnL f) := fun j v hv => by
  have hj : j < 14 := by have := (List.getElem?_eq_some_iff.1 hv).1; rwa [mnL_len] at this
  rw [mnL_get f hj] at hv
  rw [← hv]
  exact h.found hj
theorem DeskAt.setFound (h : DeskAt w0 w d C a1 a2 c1 c2 ref sure f r) {n : Nat} (hn : n < 14) (v : Nat) : DeskAt w0 (w.setCell ⟨d, 31 + n, none⟩ (.int .i64 v)) d C a1 a2 c1 c2 ref sure (Court.setF f n v) r :=
  ⟨by have := h.blk.store (31 + n) (.int .i64 v); rwa [List.setIfInBounds_toArray, deskL_set_found _ _ _ _ _ _ _ _ _ hn] at this, h.rep, h.base, h.aft.then_setCell h.base _⟩
theorem DeskAt.setRank (h : DeskAt w0 w d C a1 a2 c1 c2 ref sure f r) {n : Nat} (hn : n < 14) (v : Nat) : DeskAt w0 (w.setCell ⟨d, 45 + n, none⟩ (.int .i64 v)) d C a1 a2 c1 c2 ref sure f (Court.setF r n v) :=
  ⟨by have := h.blk.store (45 + n) (.int .i64 v); rwa [List.setIfInBounds_toArray, deskL_set_rank _ _ _ _ _ _ _ _ _ hn] at this, h.rep, h.base, h.aft.then_setCell h.base _⟩
end
end Go.Proofs
end

section
namespace Go.Proofs
open Go.RowKit

theorem setCells_blk {g : Nat} {t : TypeId} : ∀ (vs : List Value) (o : Nat) (w : World) (cs : Array Value), Blk w g t cs →
    ∃ cs', cs'.size = cs.size ∧ Blk (w.setCells g o vs) g t cs' ∧ ∀ i, i < o → cs'[i]? = cs[i]?
  | [], _, _, cs, h => ⟨cs, rfl, h, fun _ _ => rfl⟩
  | v :: r, o, w, cs, h => by
    obtain ⟨cs', h1, h2, h3⟩ := setCells_blk r (o + 1) (w.setCell ⟨g, o, none⟩ v) _ (h.store o v)
    refine ⟨cs', by simpa using h1, h2, fun i hi => ?_⟩
    rw [h3 i (by omega), Array.getElem?_setIfInBounds, if_neg (by omega)]
theorem only_setCells {a : World} {g : Nat} : ∀ (vs : List Value) (o : Nat) (w : World), a.grownBy w (some g) → a.grownBy (w.setCells g o vs) (some g)
  | [], _, _, h => h
  | v :: r, o, _, h => only_setCells r (o + 1) _ (only_setCell h (.inl rfl) v)

theorem Nums.ints {w : World} {g : Nat} {cs : Array Value} {l : List Int} (hb : Blk w g 3 cs) (hn : Nums cs l) (hl : l.length ≤ 17592186043904) : Ints w (some ⟨g, 0, none⟩) l :=
  ⟨by omega, .inr ⟨g, 0, rfl, hb.lt, fun i hi => ⟨_, by simp, rfl, fun j hj => by
    simp at hj; subst hj
    simpa using (hb.cell _).trans (hn.at hi)⟩⟩⟩

structure DelAt (p : Int → Bool) (l : List Int) (j : Nat) (cs : Array Value) : Prop where
  le : j ≤ l.length
  size : l.length ≤ cs.size
  few : ((l.take j).filter (fun x => !p x)).length < j
  kept : Nums cs ((l.take j).filter (fun x => !p x))
  rest : ∀ t, (h : t < l.length) → j ≤ t → cs[t]? = some (.int .i64 l[t])

theorem DelAt.skip {p : Int → Bool} {l : List Int} {j : Nat} {cs : Array Value} (h : DelAt p l j cs) (hj : j < l.length) (hp : p l[j] = true) : DelAt p l (j + 1) cs := by
  have e : (l.take (j + 1)).filter (fun x => !p x) = (l.take j).filter (fun x => !p x) := by rw [List.take_succ_eq_append_getElem hj, List.filter_append]; simp [hp]
  exact ⟨by omega, h.size, by rw [e]; have := h.few; omega, by rw [e]; exact h.kept, fun t ht hjt => h.rest t ht (by omega)⟩
theorem DelAt.keep {p : Int → Bool} {l : List Int} {j : Nat} {cs : Array Value} (h : DelAt p l j cs) (hj : j < l.length) (hp : p l[j] = false) :
    DelAt p l (j + 1) (cs.setIfInBounds ((l.take j).filter (fun x => !p x)).length (.int .i64 l[j])) := by
  have e : (l.take (j + 1)).filter (fun x => !p x) = (l.take j).filter (fun x => !p x) ++ [l[j]] := by rw [List.take_succ_eq_append_getElem hj, List.filter_append]; simp [hp]
  refine ⟨by omega, by simpa using h.size, by rw [e]; have := h.few; simp; omega, ?_, fun t ht hjt => ?_⟩
  · have hs := h.size
    have hf := h.few
    have hk := h.kept
    rw [e]
    generalize (l.take j).filter (fun x => !p x) = m at hf hk ⊢
    refine ⟨by simp; omega, fun t ht => ?_⟩
    rw [Array.getElem?_setIfInBounds]
    by_cases et : m.length = t
    · subst et; simp; omega
    · have : t < m.length := by simp at ht; omega
      rw [if_neg et, hk.2 t this, List.getElem_append_left this]
  · have hf := h.few
    rw [Array.getElem?_setIfInBounds, if_neg (by omega)]
    exact h.rest t ht (by omega)
theorem filter_kept_succ {p : Int → Bool} {l : List Int} {j : Nat} (hj : j < l.length) (hp : p l[j] = false) :
    ((l.take (j + 1)).filter (fun x => !p x)).length = ((l.take j).filter (fun x => !p x)).length + 1 := by
  rw [List.take_succ_eq_append_getElem hj, List.filter_append]; simp [hp]
theorem filter_kept_same {p : Int → Bool} {l : List Int} {j : Nat} (hj : j < l.length) (hp : p l[j] = true) :
    ((l.take (j + 1)).filter (fun x => !p x)).length = ((l.take j).filter (fun x => !p x)).length := by
  rw [List.take_succ_eq_append_getElem hj, List.filter_append]; simp [hp]
theorem filter_none {p : Int → Bool} {l : List Int} (h : l.any p = false) : l.filter (fun x => !p x) = l := by
  rw [List.filter_eq_self]; intro x hx; rw [List.any_eq_false] at h; simpa using h x hx

def Kept (p : Int → Bool) (l : List Int) (g c : Nat) (sz : Nat) (w : World) (e : Ending) (w' : World) : Prop :=
  e = .returned (.slice (some ⟨g, 0, none⟩) (l.filter (fun x => !p x)).length c) ∧ w.grownBy w' (some g) ∧ ∃ cs', cs'.size = sz ∧ Blk w' g 3 cs' ∧ Nums cs' (l.filter (fun x => !p x))

theorem zero3 (w : World) : (zeroValue 3).run Tryz.prog w = .ok (.int .i64 0) w := by kernel_rfl

set_option maxHeartbeats 1600000 in
theorem deleteFunc_blk (I : World → Prop) (g : Nat) (hIa : ∀ W W', I W → Aft W W' → I W') (hIs : ∀ W i v, I W → I (W.setCell ⟨g, i, none⟩ v)) (K : FuncId) (cap : List Value) (p : Int → Bool)
    (l : List Int) (c : Nat) (cs : Array Value) (w : World) (hl : l.length ≤ 17592186043904) (hb : Blk w g 3 cs) (hn : Nums cs l) (hlc : l.length ≤ c) (hI : I w)
    (hK : ∀ args w, (callFunc K args).run Tryz.prog w = .ok (.enter K args) w)
    (hp : ∀ x ∈ l, ∀ W, I W → Calls Tryz.prog K (.int .i64 x :: cap).toArray W fun e w' => e = .returned (.bool (p x)) ∧ Aft W w') :
    Calls Tryz.prog 47 #[.slice (some ⟨g, 0, none⟩) l.length c, .func (.func K) #[] cap.toArray] w (Kept p l g c cs.size w) := by
  have hA := Nums.ints hb hn hl
  have hi := indexFunc_int IntR K cap p _ l c w hA hK (fun x hx v hv u => by cases hv; exact hp x hx _ (hIa _ _ hI ⟨u, rfl⟩))
  have HI := Lib.hid hi
  have HP := Lib.hid hp
  have HS := Lib.hid hIs
  have HAf := Lib.hid hIa
  clear hi hp hIs hIa hA
  go_enter Tryz.func47, Tryz.ntmps47
  go_wp2_with (go_at_call 95; refine HI.out.mono ?_; rintro e w1 ⟨(⟨rfl, hany⟩ | ⟨k, hkl, rfl, hpk, hany⟩), u, rfl⟩)
  · have HA := Lib.hid hany; clear hany
    go_wp2
    go_ret
    refine ⟨by rw [filter_none HA.out]; rfl, only_of_aft (Aft.lat _ _) _, cs, rfl, hb.lat u, ?_⟩
    rw [filter_none HA.out]; exact hn
  · have HA := Lib.hid hany; clear hany
    have HPK := Lib.hid hpk; clear hpk
    have hk0 : (0 : Int) ≤ (k : Int) := by omega
    have hkm : ((k : Int) == -1) = false := by rw [beq_eq_false_iff_ne]; omega
    go_wp2
    rw [hkm]
    go_loopw [5, 6] (fun i j wr => ∃ n : Nat, j = .int .i64 n ∧ n ≤ l.length ∧ i = .int .i64 ((l.take n).filter (fun x => !p x)).length ∧ I wr ∧ w.grownBy wr (some g) ∧ ∃ cs', cs'.size = cs.size ∧ Blk wr g 3 cs' ∧ DelAt p l n cs')
      (fun _ j _ => l.length - (intOf j).toNat)
    case atStart =>
      have e : (l.take (k + 1)).filter (fun x => !p x) = l.take k := by
        rw [List.take_succ_eq_append_getElem hkl, List.filter_append, filter_none HA.out]; simp [HPK.out]
      have hkk : (l.take k).length = k := by simp; omega
      exact ⟨k + 1, by go_num, by omega, by rw [e, hkk], HAf.out _ _ hI (Aft.lat _ _), only_of_aft (Aft.lat _ _) _, cs, rfl, hb.lat u, by omega, hn.1, by rw [e, hkk]; omega,
        by rw [e]; exact ⟨by have := hn.1; omega, fun t ht => by rw [hn.2 t (by omega)]; simp⟩, fun t ht _ => hn.2 t ht⟩
    case round =>
      obtain ⟨n, rfl, hnl, rfl, hIw, hg, cs', hs, hb', hd⟩ := hrel
      have hfew := hd.few
      have hsz := hd.size
      by_cases hlt : n < l.length
      · have c1 : wr.cell? ⟨g, n, none⟩ = some (.int .i64 l[n]) := by rw [hb'.cell]; exact hd.rest n hlt (Nat.le_refl _)
        have hcall := HP.out l[n] (List.getElem_mem hlt) wr hIw
        cases hpn : p l[n]
        · have HB := Lib.hid hpn; clear hpn
          rw [HB.out] at hcall
          have e1 := filter_kept_succ hlt HB.out
          have hd' := hd.keep hlt HB.out
          generalize (l.take n).filter (fun x => !p x) = m at *
          have E1 := Lib.hid e1; clear e1
          have HD := Lib.hid hd'; clear hd'
          obtain ⟨x, hx⟩ : ∃ x, cs'[m.length]? = some x := ⟨_, Array.getElem?_eq_getElem (by omega)⟩
          have c2 : wr.cell? ⟨g, m.length, none⟩ = some x := (hb'.cell _).trans hx
          have f2 := hb'.frozen m.length
          have hgl := hb'.lt
          go_wp2_with (refine hcall.mono ?_; rintro e w' ⟨rfl, u1, rfl⟩; clear hcall)
          go_roundw
          case rel =>
            exact ⟨n + 1, by go_num, by omega, by rw [E1.out]; go_num, HS.out _ _ _ (HAf.out _ _ hIw (Aft.lat _ _)), only_setCell (only_aft hg (Aft.lat _ _)) (.inl rfl) _, _, by simp [hs], (hb'.lat u1).store _ _, HD.out⟩
          case measure => simp [intOf]; omega
        · have HB := Lib.hid hpn; clear hpn
          rw [HB.out] at hcall
          have e1 := filter_kept_same hlt HB.out
          have E1 := Lib.hid e1; clear e1
          go_wp2_with (refine hcall.mono ?_; rintro e w' ⟨rfl, u1, rfl⟩; clear hcall)
          go_roundw
          case rel => exact ⟨n + 1, by go_num, by omega, by rw [E1.out], HAf.out _ _ hIw (Aft.lat _ _), only_aft hg (Aft.lat _ _), cs', hs, hb'.lat u1, hd.skip hlt HB.out⟩
          case measure => simp [intOf]; omega
      · have hnn : n = l.length := by omega
        have hall : (l.take n).filter (fun x => !p x) = l.filter (fun x => !p x) := by rw [List.take_of_length_le (by omega)]
        have hkept := hd.kept
        rw [hall] at hkept hfew ⊢
        have HALL := Lib.hid hall
        clear hall
        have hle : n ≤ l.length := by omega
        have hge : l.length ≤ n := by omega
        clear hnn
        generalize hM : l.filter (fun x => !p x) = m at *
        have HM := Lib.hid hM; clear hM
        have hcl : ∀ ty, (Builtin.clear_ #[33] ty #[.slice (some ⟨g, m.length, none⟩) (l.length - m.length) (c - m.length)]).run Tryz.prog wr = .ok (.tuple #[]) (wr.setCells g m.length (List.replicate (l.length - m.length) (.int .i64 0))) := fun ty =>
          Lib.run_clear_slice wr 33 3 ty (.int .i64 0) Tryz.underlying33 zero3 rfl rfl g m.length _ _ (by omega)
            (fun j hj => by rw [hb'.cell, Array.getElem?_eq_getElem (by omega)]; rfl) (fun j hj => hb'.frozen _)
        go_wp2
        go_ret
        obtain ⟨cs'', h1, h2, h3⟩ := setCells_blk (g := g) (t := 3) (List.replicate (l.length - m.length) (.int .i64 0)) m.length wr cs' hb'
        refine ⟨by rw [HM.out]; rfl, only_setCells _ _ _ hg, cs'', by omega, h2, ?_⟩
        rw [HM.out]
        exact ⟨by have := hkept.1; omega, fun t ht => (h3 t ht).trans (hkept.2 t ht)⟩

theorem deleteFunc_own {w0 w : World} {v : Value} {l : List Int} (h : w.ownsRow w0.heap.size 3 1 v l.length (l.map (Value.int .i64))) (h0 : Aft w0 w) (hl : l.length ≤ 17592186043904)
    (I : World → Prop) (hIa : ∀ W W', I W → Aft W W' → I W') (hIs : ∀ W g i x, v.ownBlock = some g → I W → I (W.setCell ⟨g, i, none⟩ x)) (hI : I w) (K : FuncId) (cap : List Value) (p : Int → Bool)
    (hK : ∀ args w, (callFunc K args).run Tryz.prog w = .ok (.enter K args) w)
    (hp : ∀ x ∈ l, ∀ W, I W → Calls Tryz.prog K (.int .i64 x :: cap).toArray W fun e w' => e = .returned (.bool (p x)) ∧ Aft W w') :
    Calls Tryz.prog 47 #[v, .func (.func K) #[] cap.toArray] w fun e w' => OwnInts w0 (l.filter (fun x => !p x)) e w' ∧ w.grownBy w' v.ownBlock := by
  rcases own_blk h with ⟨rfl, rfl⟩ | ⟨g, c, cs, rfl, hg, hb, hn, hs, hlc, hm⟩
  · have hi := indexFunc_int IntR K cap p none [] 0 w ⟨by simp, .inl rfl⟩ hK (fun x hx => by cases hx)
    have HI := Lib.hid hi
    clear hi hp hIs hIa
    go_enter Tryz.func47, Tryz.ntmps47
    go_wp2_with (go_at_call 95; refine HI.out.mono ?_; rintro e w1 ⟨(⟨rfl, hany⟩ | ⟨k, hkl, _⟩), u, rfl⟩; rotate_left; (exfalso; simp at hkl))
    go_ret
    exact ⟨⟨_, rfl, World.ownsRow_nil _ _ _ _, h0.then_lat u⟩, only_of_aft (Aft.lat _ _) _⟩
  · refine (deleteFunc_blk I g hIa (fun W i x => hIs W g i x rfl) K cap p l c cs w hl hb hn hlc hI hK hp).mono fun e w' ⟨he, hgr, cs', hs', hb', hn'⟩ => ⟨⟨_, he, ?_, ?_⟩, hgr⟩
    · have := blk_own (base := w0.heap.size) (c := c) hg hb' hn' (by omega) (Nat.le_trans (List.length_filter_le _ _) hlc) hm
      exact this
    · exact h0.grown hgr (fun k hk => by cases hk; exact hg)
end Go.Proofs
end

section
namespace Go.Proofs
open Go.RowKit
open Court (refL)

theorem refL_succ (l : List Int) (k : Nat) (h : k < l.length) : refL (l.take (k + 1)) = setM (refL (l.take k)) l[k] := by
  funext n
  unfold refL setM
  rw [List.take_succ_eq_append_getElem h]
  show (List.take k l ++ [l[k]]).contains n = if n = l[k] then true else (List.take k l).contains n
  rw [List.contains_eq_mem, List.contains_eq_mem]
  by_cases e : n = l[k]
  · rw [if_pos e]; exact decide_eq_true (List.mem_append.2 (.inr (by rw [e]; simp)))
  · rw [if_neg e]; exact decide_eq_decide.2 ⟨fun h => (List.mem_append.1 h).elim id (fun h => absurd (List.mem_singleton.1 h) e), fun h => List.mem_append.2 (.inl h)⟩

theorem mkL_none : mkL (refL []) = List.replicate 14 (.bool false) := by
  unfold mkL refL
  rfl
theorem info87 : (Tryz.prog.info? 87).map (·.size) = some 14 := by kernel_rfl
theorem info92 : (Tryz.prog.info? 92).map (·.size) = some 14 := by kernel_rfl
theorem blk_range {w : World} {g : Nat} {t : TypeId} {cs : List Value} (h : Blk w g t cs.toArray) : w.rangeAt g 0 cs := fun j v hv => by
  rw [h.cell, Nat.zero_add, List.getElem?_toArray]; exact hv
theorem blk_there {w : World} {g : Nat} {t : TypeId} {cs : Array Value} (h : Blk w g t cs) {n : Nat} (hn : n = cs.size) : w.there g 0 n := fun j hj => by
  subst hn
  rw [h.cell, h.frozen, Nat.zero_add]
  exact ⟨by simp [hj], rfl⟩

def Marked (l : List Int) (w : World) (e : Ending) (w' : World) : Prop := e = .returned (.agg (mk (refL l))) ∧ Aft w w'

set_option maxRecDepth 100000 in
set_option maxHeartbeats 2000000 in
theorem marked_any (l : List Int) (A : Option Addr) (c : Nat) (w : World) (hA : Ints w A l) (hl : ∀ n ∈ l, 0 ≤ n ∧ n < 14) :
    Calls Tryz.prog 71 #[.slice A l.length c] w (Marked l w) := by
  have hll := hA.len
  have HA := Lib.hid hA
  have HL : Hid (∀ k, (h : k < l.length) → 0 ≤ l[k] ∧ l[k] < 14) := Lib.hid fun k h => hl _ (List.getElem_mem h)
  clear hA hl
  go_enter Tryz.func71, Tryz.ntmps71
  go_wp2_with fail
  have HB0 : Hid (Blk ((w.alloc (.cells (List.replicate 14 (Value.bool false)).toArray 87)).alloc (.cells (List.replicate 14 (Value.bool false)).toArray 87)) w.heap.size 87 (List.replicate 14 (Value.bool false)).toArray) := Lib.hid ((Blk.new w 87 _).alloc _)
  have HB1 : Hid (Blk ((w.alloc (.cells (List.replicate 14 (Value.bool false)).toArray 87)).alloc (.cells (List.replicate 14 (Value.bool false)).toArray 87)) (w.heap.size + 1) 87 (mk (refL (l.take 0)))) := Lib.hid (by
    have := Blk.new (w.alloc (.cells (List.replicate 14 (Value.bool false)).toArray 87)) 87 (List.replicate 14 (Value.bool false)).toArray
    rw [World.size_alloc] at this
    rw [List.take_zero]
    unfold mk
    rw [mkL_none]
    exact this)
  have HA1 : Hid (Aft w ((w.alloc (.cells (List.replicate 14 (Value.bool false)).toArray 87)).alloc (.cells (List.replicate 14 (Value.bool false)).toArray 87))) := Lib.hid ((Aft.alloc _ _).then_alloc _)
  change Code.wp _ _ _ _ ((w.alloc (.cells (List.replicate 14 (Value.bool false)).toArray 87)).alloc (.cells (List.replicate 14 (Value.bool false)).toArray 87))
  generalize (w.alloc (.cells (List.replicate 14 (Value.bool false)).toArray 87)).alloc (.cells (List.replicate 14 (Value.bool false)).toArray 87) = W1 at *
  go_loopw [8] (fun i wr => ∃ k : Nat, i = .int .i64 k ∧ k ≤ l.length ∧ Blk wr w.heap.size 87 (List.replicate 14 (Value.bool false)).toArray ∧ Blk wr (w.heap.size + 1) 87 (mk (refL (l.take k))) ∧ Aft w wr) (fun i _ => l.length - (intOf i).toNat)
  case atStart => exact ⟨0, rfl, by omega, HB0.out, HB1.out, HA1.out⟩
  case round =>
    obtain ⟨k, rfl, hk, hb0, hb1, ha⟩ := hrel
    have HA2 := Lib.hid ha
    have HB2 := Lib.hid hb0
    have HB3 := Lib.hid hb1
    by_cases hkl : k < l.length
    · obtain ⟨b, o, rfl, hb, hc⟩ := (HA.out.aft ha).at hkl
      have h1 := hc k hkl
      obtain ⟨h2, h3⟩ := HL.out k hkl
      have HS := Lib.hid (refL_succ l k hkl)
      clear hc ha hb0 hb1
      obtain ⟨n, hn⟩ : ∃ n : Nat, l[k] = n := ⟨l[k].toNat, by omega⟩
      rw [hn] at h1 h2 h3 HS
      clear hn
      have hn14 : n < 14 := by omega
      have k1 := (HB3.out.cell n).trans (mk_get _ hn14)
      have k2 := HB3.out.frozen n
      go_wp2_with fail
      exact ⟨⟨k + 1, by go_num, by omega, HB2.out.far (p := ⟨w.heap.size + 1, n, none⟩) (by show w.heap.size ≠ w.heap.size + 1; omega) _, by
        have := HB3.out.store n (.bool true)
        rw [mk_set _ hn14, ← HS.out] at this
        exact this, HA2.out.then_setCell (p := ⟨w.heap.size + 1, n, none⟩) (by show w.heap.size ≤ w.heap.size + 1; omega) _⟩, by simp [intOf]; omega⟩
    · obtain rfl : k = l.length := by omega
      rw [List.take_of_length_le (Nat.le_refl _)] at HB3
      have HR := Lib.hid (blk_range HB3.out)
      have HTH := Lib.hid (blk_there HB2.out (mk_size (refL l)).symm.symm)
      obtain ⟨W9, hW9, hl2, h9⟩ : ∃ W9, wr.setCells w.heap.size 0 (mk (refL l)).toList = W9 ∧ (loadVar 87 ⟨w.heap.size, 0, none⟩).run Tryz.prog W9 = .ok (.agg (mk (refL l))) W9 ∧ Aft w W9 :=
        ⟨_, rfl, run_loadVar_mid (P := Tryz.prog) _ w.heap.size 0 87 (mkL (refL l)) _ (World.rangeAt_setCells_same wr w.heap.size 0 (mkL (refL l)) (blk_there HB2.out (mkL_len _))) Tryz.underlying87 rfl (by rw [info87, mkL_len]),
          HA2.out.grown (only_setCells _ _ _ (only_refl _ _)) (fun k e => by cases e; exact Nat.le_refl _)⟩
      have H9 := Lib.hid h9
      clear hb0 hb1 HL h9 ha
      go_wp2_with (first | (refine wpList_load_mid rfl 87 (.tmp 3) rfl (w.heap.size + 1) 0 rfl (mkL (refL l)) _ HR.out Tryz.underlying87 rfl (by rw [info87, mkL_len]) ?_) | (refine wpList_store_mid rfl 87 (.tmp 2) (.tmp 15) rfl w.heap.size 0 (mk (refL l)) rfl rfl HTH.out (by rw [info87, mk_size]) (all_oneCell_toArray (mkL_one _)) ?_; rw [hW9]))
      refine bodyPost_ret (v := .agg (mk (refL l))) ?_ rfl ⟨rfl, H9.out⟩
      simp [results, Tryz.results71, Act.put, asAddr, hl2]
end Go.Proofs
end
