/- Own texts, merged: Xk Xm Rgf Rng Brg Rgv WkM DGrid LInv. -/
import Derived.Test.YtobpdobneocckaaGreatDoorH03
import Derived.Great.Frames
import Derived.RangeFuncNested
import Derived.RangeFuncBound
import Derived.RangeFuncCalls
import Derived.RangeFuncLeaves
import Derived.Test.YtobpdobneocckaaGreatDoorChecked
import Derived.Shelf.RegionOpen
import Derived.Deep.Onto
set_option linter.unusedSimpArgs false
set_option linter.unusedVariables false
section
/- Walks: slices of records, cloned. -/
namespace Go.Proofs
open Go.RowKit

section
variable {α : Type} {enc : α → List Value} {sz : Nat}
theorem flat_len (hs : ∀ x, (enc x).length = sz) : ∀ l : List α, (l.flatMap enc).length = l.length * sz
  | [] => by simp
  | x :: r => by rw [List.flatMap_cons, List.length_append, hs, flat_len hs r, List.length_cons, Nat.succ_mul]; omega
theorem flat_get (hs : ∀ x, (enc x).length = sz) : ∀ (l : List α) (i j : Nat) (hi : i < l.length), j < sz → (l.flatMap enc)[i * sz + j]? = (enc l[i])[j]?
  | x :: r, 0, j, hi, hj => by
    rw [List.flatMap_cons, List.getElem?_append_left (by rw [hs]; omega)]
    simp
  | x :: r, i + 1, j, hi, hj => by
    rw [List.flatMap_cons, List.getElem?_append_right (by rw [hs, Nat.succ_mul]; omega), hs]
    have : (i + 1) * sz + j - sz = i * sz + j := by rw [Nat.succ_mul]; omega
    rw [this, flat_get hs r i j (by simpa using hi) hj]
    simp

/-- What is owned reads as a list of records. -/
theorem own_rows {R : World → α → List Value → Prop} (hR : ∀ w x, R w x (enc x)) (hs : ∀ x, (enc x).length = sz) (_hz : 0 < sz) {w : World} {base : Nat} {e : TypeId} {v : Value} {l : List α}
    (h : w.ownsRow base e sz v l.length (l.flatMap enc)) (hl : l.length * sz ≤ 17592186043904) : ∃ A c, v = .slice A l.length c ∧ l.length ≤ c ∧ RowsP w A sz R l := by
  rcases h.2 with ⟨rfl, h0⟩ | ⟨g, cap, cur, rfl, hg, hh, hc, hm, hs', ht⟩
  · have : l = [] := List.eq_nil_of_length_eq_zero h0
    subst this
    exact ⟨none, 0, rfl, Nat.le_refl _, .nil⟩
  · refine ⟨_, cap, rfl, hc, hl, .inr ⟨g, 0, rfl, (Array.getElem?_eq_some_iff.1 hh).1, fun i hi => ⟨enc l[i], hs _, hR _ _, fun j hj => ?_⟩⟩⟩
    have hj' : j < sz := by rw [hs] at hj; exact hj
    have := h.cells (g := g) rfl (i * sz + j) (enc l[i])[j] (by rw [flat_get hs l i j hi hj', List.getElem?_eq_getElem hj])
    rw [Addr.add_lit] at this
    simpa [Nat.add_assoc] using this

theorem rows_src {R : World → α → List Value → Prop} (hR : ∀ w x vs, R w x vs → vs = enc x) (hs : ∀ x, (enc x).length = sz) (hz : 0 < sz) {w : World} {A : Option Addr} {l : List α} (h : RowsP w A sz R l) :
    ∀ ad, A = some ad → ∀ j u, (l.flatMap enc)[j]? = some u → w.cell? (ad.add j) = some u := by
  intro ad e j u hj
  have hlt : j < l.length * sz := by have := (List.getElem?_eq_some_iff.1 hj).1; rwa [flat_len hs] at this
  have hi : j / sz < l.length := Nat.div_lt_of_lt_mul (by rwa [Nat.mul_comm] at hlt)
  obtain ⟨b, o, e2, _, hc⟩ := h.at hi
  rw [e] at e2; cases e2
  obtain ⟨vs, h1, h2, h3⟩ := hc (j / sz) hi
  have := hR _ _ _ h2
  subst this
  have hr : j % sz < sz := Nat.mod_lt _ hz
  have hjj : j / sz * sz + j % sz = j := by rw [Nat.mul_comm]; exact Nat.div_add_mod j sz
  rw [← hjj, flat_get hs l _ _ hi hr] at hj
  have hk : j % sz < (enc l[j / sz]).length := by rw [hs]; exact hr
  have h4 := h3 (j % sz) (by simpa using hk)
  rw [List.getElem?_eq_getElem hk] at hj
  cases hj
  rw [Addr.add_lit]
  have h5 : o + j / sz * sz + j % sz = o + j := by omega
  rw [← h5]
  simpa using h4
theorem rows_nil {R : World → α → List Value → Prop} {w : World} {A : Option Addr} {l : List α} (h : RowsP w A sz R l) (e : A = none) : l.length = 0 := by
  rcases Nat.eq_zero_or_pos l.length with h0 | h0
  · exact h0
  · obtain ⟨b, o, e2, _⟩ := h.at h0
    rw [e] at e2; cases e2
end

def encWay (x : Way) : List Value := [.int .i64 x.a, .int .i64 x.b, .int .i64 x.kind]
def encLeg (x : Leg) : List Value := [.int .i64 x.word, .int .i64 x.other]
theorem ty22 : SliceTy Tryz.prog 22 65 3 24 := .mk' (z := .agg #[.int .i64 0, .int .i64 0, .int .i64 0]) Tryz.underlying22 (by kernel_rfl) rfl (by decide)
theorem ty25 : SliceTy Tryz.prog 25 70 2 16 := .mk' (z := .agg #[.int .i64 0, .int .i64 0]) Tryz.underlying25 (by kernel_rfl) rfl (by decide)

/-- Records in memory of the call's own. -/
def OwnRows {α : Type} (e : TypeId) (sz : Nat) (enc : α → List Value) (w0 : World) (l : List α) (en : Ending) (w' : World) : Prop := ∃ v, en = .returned v ∧ w'.ownsRow w0.heap.size e sz v l.length (l.flatMap enc) ∧ Aft w0 w'

theorem cloneWays (A : Option Addr) (l : List Way) (c : Nat) (w : World) (hA : RowsP w A 3 WayR l) (hl : l.length ≤ 100000) :
    Calls Tryz.prog 45 #[.slice A l.length c] w (OwnRows 65 3 encWay w l) := by
  go_enter Tryz.func45, Tryz.ntmps45
  go_wp2_with (at_builtin; refine wpList_app ty22 rfl _ _ rfl (Aft.refl w) rfl (World.ownsRow_nil w _ 65 3) rfl (by rw [flat_len (sz := 3) (fun _ => rfl)]) (rows_nil hA) (rows_src (enc := encWay) (fun _ _ _ h => h) (fun _ => rfl) (by decide) hA) (fun u hu => by obtain ⟨x, _, hx⟩ := List.mem_flatMap.1 hu; simp [encWay] at hx; rcases hx with rfl | rfl | rfl <;> rfl) (by omega) (by decide) ?_; intro v' w1 hown' hgrow haft)
  go_ret
  exact ⟨_, rfl, by simpa using hown', haft⟩

theorem cloneLegs (A : Option Addr) (l : List Leg) (c : Nat) (w : World) (hA : RowsP w A 2 LegR l) (hl : l.length ≤ 100000) :
    Calls Tryz.prog 47 #[.slice A l.length c] w (OwnRows 70 2 encLeg w l) := by
  go_enter Tryz.func47, Tryz.ntmps47
  go_wp2_with (at_builtin; refine wpList_app ty25 rfl _ _ rfl (Aft.refl w) rfl (World.ownsRow_nil w _ 70 2) rfl (by rw [flat_len (sz := 2) (fun _ => rfl)]) (rows_nil hA) (rows_src (enc := encLeg) (fun _ _ _ h => h) (fun _ => rfl) (by decide) hA) (fun u hu => by obtain ⟨x, _, hx⟩ := List.mem_flatMap.1 hu; simp [encLeg] at hx; rcases hx with rfl | rfl <;> rfl) (by omega) (by decide) ?_; intro v' w1 hown' hgrow haft)
  go_ret
  exact ⟨_, rfl, by simpa using hown', haft⟩
end Go.Proofs
end

section
/- Words for memory: what stands as long as some blocks are as they are. -/
namespace Go.Proofs
open Go.RowKit

/-- P rests on the blocks S alone. -/
def Sup (W : World) (S : Nat → Prop) (P : World → Prop) : Prop :=
  (∀ k, S k → k < W.heap.size) ∧ ∀ W' : World, (∀ k, S k → W'.heap[k]? = W.heap[k]?) → W.heap.size ≤ W'.heap.size → P W'

section
variable {W W' : World} {S S' : Nat → Prop} {P P' : World → Prop}
theorem Sup.self (h : Sup W S P) : P W := h.2 W (fun _ _ => rfl) (Nat.le_refl _)
theorem Sup.grown (h : Sup W S P) {row : Option Nat} (hg : W.grownBy W' row) (hr : ∀ k, row = some k → ¬ S k) : Sup W' S P :=
  ⟨fun k hk => Nat.lt_of_lt_of_le (h.1 k hk) hg.size, fun W'' h1 h2 => h.2 W'' (fun k hk => (h1 k hk).trans (hg.block k (h.1 k hk) (fun e => hr k e.symm hk))) (Nat.le_trans hg.size h2)⟩
theorem Sup.and (h : Sup W S P) (h' : Sup W S' P') : Sup W (fun k => S k ∨ S' k) (fun W => P W ∧ P' W) :=
  ⟨fun k hk => hk.elim (h.1 k) (h'.1 k), fun W' h1 h2 => ⟨h.2 W' (fun k hk => h1 k (.inl hk)) h2, h'.2 W' (fun k hk => h1 k (.inr hk)) h2⟩⟩
theorem Sup.mono (h : Sup W S P) (hp : ∀ W', P W' → P' W') : Sup W S P' := ⟨h.1, fun W' h1 h2 => hp W' (h.2 W' h1 h2)⟩
theorem Sup.wide (h : Sup W S P) (hs : ∀ k, S k → S' k) (hl : ∀ k, S' k → k < W.heap.size) : Sup W S' P := ⟨hl, fun W' h1 h2 => h.2 W' (fun k hk => h1 k (hs k hk)) h2⟩
/-- It stands in every world that differs in one block alone, if that is none of its own. -/
theorem Sup.firm (h : Sup W S P) {d : Nat} (hd : ¬ S d) : ∀ W', W.grownBy W' (some d) → P W' := fun _ hg => (h.grown hg (fun k e => by cases e; exact hd)).self

theorem RowsP.sup {α : Type} {sz : Nat} {R : World → α → List Value → Prop} {A : Option Addr} {l : List α} (h : RowsP W A sz R l) (S : Nat → Prop) (hS1 : ∀ k, S k → k < W.heap.size)
    (hS : ∀ x ∈ l, ∀ vs, R W x vs → Sup W S (fun W' => R W' x vs)) : Sup W (fun k => S k ∨ (l ≠ [] ∧ ∃ o, A = some ⟨k, o, none⟩)) (fun W' => RowsP W' A sz R l) := by
  obtain ⟨h0, h | ⟨b, o, rfl, hb, hc⟩⟩ := h
  · subst h
    exact ⟨fun k hk => hk.elim (hS1 k) (fun e => absurd rfl e.1), fun W' _ _ => ⟨h0, .inl rfl⟩⟩
  · refine ⟨fun k hk => hk.elim (hS1 k) (fun ⟨_, o, e⟩ => by cases e; exact hb), fun W' h1 h2 => ⟨h0, .inr ⟨b, o, rfl, Nat.lt_of_lt_of_le hb h2, fun i hi => ?_⟩⟩⟩
    have hne : l ≠ [] := fun e => by subst e; simp at hi
    obtain ⟨vs, g1, g2, g3⟩ := hc i hi
    exact ⟨vs, g1, (hS _ (List.getElem_mem hi) vs g2).2 W' (fun k hk => h1 k (.inl hk)) h2, fun j hj => (World.cell?_of_block (h1 b (.inr ⟨hne, o, rfl⟩))).trans (g3 j hj)⟩
theorem Ints.sup {A : Option Addr} {l : List Int} (h : Ints W A l) : Sup W (fun k => l ≠ [] ∧ ∃ o, A = some ⟨k, o, none⟩) (fun W' => Ints W' A l) := by
  have := RowsP.sup h (fun _ => False) (fun _ h => h.elim) (fun x _ vs hv => ⟨fun _ h => h.elim, fun _ _ _ => hv⟩)
  exact this.wide (fun k hk => hk.elim (fun h => h.elim) id) (fun k hk => this.1 k (.inr hk))
end
end Go.Proofs
end

section
/- A region that draws its order, by facts: what each operation yields, in whatever order they come up. -/
namespace Go

def Region.preds (o : Oper) : List Nat := (o.after.toList.filter (Region.binds .any)).map (·.on)
def dn (listed : Array Bool) (i : Nat) : Bool := listed.getD i false
def upd (done : Nat → Bool) (i : Nat) : Nat → Bool := fun j => if j = i then true else done j

/-- The state in which some of the operations are done. -/
structure Held (ops : Array Oper) (Fact : Nat → Value → World → Prop) (Wd : (Nat → Bool) → World → Prop) (a0 : Act) (done : Nat → Bool) (a : Act) (w : World) : Prop where
  wd : Wd done w
  size : a.tmps.size = a0.tmps.size
  defers : a.defers = a0.defers
  closed : ∀ i o, ops[i]? = some o → done i = true → ∀ j ∈ Region.preds o, done j = true
  old : ∀ s, (∀ i o, ops[i]? = some o → o.dst = some s → done i = false) → a.eval (.tmp s) = a0.eval (.tmp s)
  fact : ∀ (i : Nat) (o : Oper) (s : Nat), ops[i]? = some o → o.dst = some s → done i = true → Fact i (a.eval (.tmp s)) w

theorem mem_ready' {md : Region.Mode} {ops : Array Oper} {listed : Array Bool} {i : Nat} (hm : md = .any) (hs : listed.size = ops.size) (h : i ∈ Region.ready md ops listed) :
    ∃ o, ops[i]? = some o ∧ dn listed i = false ∧ ∀ j ∈ Region.preds o, dn listed j = true := by
  subst hm
  unfold Region.ready at h
  rw [List.mem_filter, List.mem_range, Bool.and_eq_true] at h
  obtain ⟨h1, h2, h3⟩ := h
  have ho : ops[i]? = some ops[i] := Array.getElem?_eq_getElem h1
  refine ⟨_, ho, ?_, fun j hj => ?_⟩
  · unfold dn
    rw [Array.getD_eq_getD_getElem?] at h2 ⊢
    rw [Array.getElem?_eq_getElem (by omega)] at h2 ⊢
    simpa using h2
  · rw [ho, Option.map_some, Option.getD_some] at h3
    unfold Region.preds at hj
    rw [List.mem_map] at hj
    obtain ⟨e, he, rfl⟩ := hj
    rw [List.mem_filter] at he
    have := Array.all_eq_true'.1 h3 e (by simpa using he.1)
    rw [he.2] at this
    simpa [dn] using this

theorem all_done {ops : Array Oper} {listed : Array Bool} (hs : listed.size = ops.size) (hlt : ∀ (i : Nat) (o : Oper), ops[i]? = some o → ∀ j ∈ Region.preds o, j < i) (h : Region.ready .any ops listed = []) : ∀ i, i < ops.size → dn listed i = true := by
  intro i
  induction i using Nat.strongRecOn with
  | _ i ih =>
    intro hi
    cases hd : dn listed i with
    | true => rfl
    | false =>
      exfalso
      have ho : ops[i]? = some ops[i] := Array.getElem?_eq_getElem hi
      have : i ∈ Region.ready .any ops listed := by
        unfold Region.ready
        rw [List.mem_filter, List.mem_range, Bool.and_eq_true]
        refine ⟨hi, ?_, ?_⟩
        · unfold dn at hd
          rw [Array.getD_eq_getD_getElem?] at hd ⊢
          rw [Array.getElem?_eq_getElem (by omega)] at hd ⊢
          simpa using hd
        · rw [ho, Option.map_some, Option.getD_some, Array.all_eq_true']
          intro e he
          cases hb : Region.binds .any e with
          | false => rfl
          | true =>
            have hm : e.on ∈ Region.preds ops[i] := List.mem_map.2 ⟨e, List.mem_filter.2 ⟨by simpa using he, hb⟩, rfl⟩
            have h1 := hlt i _ ho _ hm
            have h2 := ih e.on h1 (by omega)
            simpa [dn] using h2
      rw [h] at this
      cases this

def unl (ops : Array Oper) (done : Nat → Bool) : List Nat := (List.range ops.size).filter fun i => !done i
theorem unl_lt {ops : Array Oper} {done : Nat → Bool} {i : Nat} (hi : i < ops.size) (hd : done i = false) : (unl ops (upd done i)).length < (unl ops done).length := by
  have e : unl ops (upd done i) = (unl ops done).filter fun j => !upd done i j := by
    unfold unl
    rw [List.filter_filter]
    apply List.filter_congr
    intro j _
    unfold upd
    split <;> simp
  rw [e, List.length_filter_lt_length_iff_exists]
  exact ⟨i, List.mem_filter.2 ⟨List.mem_range.2 hi, by simp [hd]⟩, by simp [upd]⟩

section
variable {P : Program} {ops : Array Oper} {Q : Exit → Act → World → Prop} {Fact : Nat → Value → World → Prop} {Wd : (Nat → Bool) → World → Prop} {a0 : Act}

theorem dn_set {listed : Array Bool} {i : Nat} (hi : i < listed.size) : dn (listed.setIfInBounds i true) = upd (dn listed) i := by
  funext j
  unfold dn upd
  rw [Array.getD_eq_getD_getElem?, Array.getElem?_setIfInBounds]
  by_cases e : i = j
  · subst e; simp [hi]
  · rw [if_neg e, if_neg (fun h => e h.symm)]
    exact (Array.getD_eq_getD_getElem? ..).symm

theorem Held.put {done : Nat → Bool} {a : Act} {w w' : World} {i : Nat} {o : Oper} {v : Value} (h : Held ops Fact Wd a0 done a w) (ho : ops[i]? = some o) (hd : done i = false) (hp : ∀ j ∈ Region.preds o, done j = true)
    (hdst : ∀ (i j : Nat) (oi oj : Oper) (s : Nat), ops[i]? = some oi → ops[j]? = some oj → oi.dst = some s → oj.dst = some s → i = j) (hin : ∀ (i : Nat) (o : Oper) (s : Nat), ops[i]? = some o → o.dst = some s → s < a0.tmps.size)
    (hf : Fact i v w') (hw : Wd (upd done i) w') (hk : ∀ j, done j = true → ∀ u, Fact j u w → Fact j u w') : Held ops Fact Wd a0 (upd done i) (a.put o.dst v) w' := by
  refine ⟨hw, ?_, ?_, fun k ok hk' hdk j hj => ?_, fun s hs => ?_, fun k ok s hk' hs hdk => ?_⟩
  · rw [← h.size]; unfold Act.put; split <;> simp
  · rw [← h.defers]; unfold Act.put; split <;> rfl
  · unfold upd at hdk ⊢
    by_cases e : j = i
    · rw [if_pos e]
    · rw [if_neg e]
      by_cases e2 : k = i
      · subst e2
        rw [ho] at hk'; cases hk'
        exact hp j hj
      · rw [if_neg e2] at hdk
        exact h.closed k ok hk' hdk j hj
  · have hne : ∀ d, o.dst = some d → (Operand.tmp s) ≠ .tmp d := fun d hd' e => by
      cases e
      have := hs i o ho hd'
      simp [upd] at this
    rw [Act.eval_put hne]
    refine h.old s fun k ok hk' hs' => ?_
    have := hs k ok hk' hs'
    unfold upd at this
    split at this
    · cases this
    · exact this
  · by_cases e : k = i
    · subst e
      rw [ho] at hk'; cases hk'
      rw [hs, Act.eval_put_same _ _ _ (by rw [h.size]; exact hin k o s ho hs)]
      exact hf
    · unfold upd at hdk
      rw [if_neg e] at hdk
      have hne : ∀ d, o.dst = some d → (Operand.tmp s) ≠ .tmp d := fun d hd' e2 => by
        cases e2
        exact e (hdst k i ok o s hk' ho hs hd')
      rw [Act.eval_put hne]
      exact hk k hdk _ (h.fact k ok s hk' hs hdk)

theorem wpAny_facts (hg : ∀ (i : Nat) (o : Oper), ops[i]? = some o → o.guard = none) (hdst : ∀ (i j : Nat) (oi oj : Oper) (s : Nat), ops[i]? = some oi → ops[j]? = some oj → oi.dst = some s → oj.dst = some s → i = j) (hin : ∀ (i : Nat) (o : Oper) (s : Nat), ops[i]? = some o → o.dst = some s → s < a0.tmps.size)
    (hlt : ∀ (i : Nat) (o : Oper), ops[i]? = some o → ∀ j ∈ Region.preds o, j < i)
    (step : ∀ (i : Nat) (o : Oper), ops[i]? = some o → ∀ (done : Nat → Bool) (a : Act) (w : World), Held ops Fact Wd a0 done a w → done i = false → (∀ j ∈ Region.preds o, done j = true) → ∀ K : Act → World → Prop,
      (∀ (v : Value) (w' : World), Fact i v w' → Wd (upd done i) w' → (∀ j, done j = true → ∀ u, Fact j u w → Fact j u w') → K (a.put o.dst v) w') → Oper.wp P o a w K Q)
    (fin : ∀ (done : Nat → Bool) (a : Act) (w : World), (∀ i, i < ops.size → done i = true) → Held ops Fact Wd a0 done a w → Q .normal a w) :
    ∀ (fuel : Nat) (listed : Array Bool) (a : Act) (w : World), listed.size = ops.size → Held ops Fact Wd a0 (dn listed) a w → (unl ops (dn listed)).length ≤ fuel → wpAny P .any ops Q fuel listed a w
  | 0, listed, a, w, hs, h, hf => by
    have hd : ∀ i, i < ops.size → dn listed i = true := fun i hi => by
      cases hd : dn listed i with
      | true => rfl
      | false =>
        have : i ∈ unl ops (dn listed) := List.mem_filter.2 ⟨List.mem_range.2 hi, by simp [hd]⟩
        have hz : unl ops (dn listed) = [] := List.eq_nil_of_length_eq_zero (by omega)
        rw [hz] at this
        cases this
    refine ⟨?_, fin _ a w hd h⟩
    cases hr : Region.ready .any ops listed with
    | nil => rfl
    | cons i r =>
      obtain ⟨o, ho, h1, _⟩ := mem_ready' rfl hs (show i ∈ Region.ready .any ops listed by rw [hr]; simp)
      rw [hd i (Array.getElem?_eq_some_iff.1 ho).1] at h1
      cases h1
  | fuel + 1, listed, a, w, hs, h, hf => by
    refine ⟨fun hr => fin _ a w (all_done hs hlt hr) h, fun i hi => ?_⟩
    obtain ⟨o, ho, h1, h2⟩ := mem_ready' rfl hs hi
    have hio := (Array.getElem?_eq_some_iff.1 ho).1
    unfold wpOp
    simp only [ho]
    have hw : Region.wanted o (yielded ops a.tmps) = true := by simp [Region.wanted, hg i o ho]
    rw [if_pos hw]
    refine .inl (step i o ho _ a w h h1 h2 _ fun v w' hf' hw' hk => ?_)
    refine wpAny_facts hg hdst hin hlt step fin fuel _ _ _ (by simpa using hs) ?_ ?_
    · rw [dn_set (by omega)]
      exact h.put ho h1 h2 hdst hin hf' hw' hk
    · rw [dn_set (by omega)]
      have := unl_lt (ops := ops) hio h1
      omega

theorem Held.same {done : Nat → Bool} {a : Act} {w : World} (h : Held ops Fact Wd a0 done a w) {s : Nat} (hs : s ∉ ops.toList.filterMap (·.dst)) : a.eval (.tmp s) = a0.eval (.tmp s) :=
  h.old s fun k ok hk he => absurd (List.mem_filterMap.2 ⟨ok, by rw [← Array.getElem?_toList] at hk; exact List.mem_of_getElem? hk, he⟩) hs

/-- The same facts of a region's text, asked by a Bool. -/
def factsB (xs : List Oper) (n : Nat) : Bool :=
  (xs.all fun o => o.guard.isNone) && decide ((xs.filterMap (·.dst)).Nodup) && (xs.all fun o => match o.dst with | some s => decide (s < n) | none => true) && ((List.range xs.length).all fun i => match xs[i]? with | some o => (Region.preds o).all fun j => decide (j < i) | none => true)

theorem nodup_dst : ∀ {xs : List Oper}, (xs.filterMap (·.dst)).Nodup → ∀ (i j : Nat) (oi oj : Oper) (s : Nat), xs[i]? = some oi → xs[j]? = some oj → oi.dst = some s → oj.dst = some s → i = j
  | [], _, i, _, _, _, _, h, _, _, _ => by simp at h
  | o :: xs, hn, i, j, oi, oj, s, hi, hj, h1, h2 => by
    rw [List.filterMap_cons] at hn
    have hsub : (xs.filterMap (·.dst)).Nodup := by
      cases hd : o.dst with
      | none => simpa [hd] using hn
      | some d => simp [hd] at hn; exact hn.2
    have hmem : ∀ (k : Nat) (ok : Oper), xs[k]? = some ok → ok.dst = some s → s ∈ xs.filterMap (·.dst) := fun k ok hk he => List.mem_filterMap.2 ⟨ok, List.mem_of_getElem? hk, he⟩
    cases i with
    | zero =>
      cases j with
      | zero => rfl
      | succ j =>
        simp at hi hj
        subst hi
        rw [h1] at hn
        simp at hn
        exact absurd (hmem j oj hj h2) (by simpa using hn.1)
    | succ i =>
      cases j with
      | zero =>
        simp at hi hj
        subst hj
        rw [h2] at hn
        simp at hn
        exact absurd (hmem i oi hi h1) (by simpa using hn.1)
      | succ j =>
        simp at hi hj
        rw [nodup_dst hsub i j oi oj s hi hj h1 h2]

/-- **A region that draws its order, by facts.** -/
theorem wp_region_facts {id : Nat} {xs : List Oper} {w : World} (hm : P.follows .mixedOrders = true) (n : Nat) (hn : a0.tmps.size = n) (hB : factsB xs n = true)
    (Fact : Nat → Value → World → Prop) (Wd : (Nat → Bool) → World → Prop) (h0 : Wd (fun _ => false) w.drew)
    (step : ∀ (i : Nat) (o : Oper), xs[i]? = some o → ∀ (done : Nat → Bool) (a : Act) (w : World), Held xs.toArray Fact Wd a0 done a w → done i = false → (∀ j ∈ Region.preds o, done j = true) → ∀ K : Act → World → Prop,
      (∀ (v : Value) (w' : World), Fact i v w' → Wd (upd done i) w' → (∀ j, done j = true → ∀ u, Fact j u w → Fact j u w') → K (a.put o.dst v) w') → Oper.wp P o a w K Q)
    (fin : ∀ (done : Nat → Bool) (a : Act) (w : World), (∀ i, i < xs.length → done i = true) → Held xs.toArray Fact Wd a0 done a w → Q .normal a w) : (Code.region id xs.toArray true).wp P Q a0 w := by
  unfold factsB at hB
  rw [Bool.and_eq_true, Bool.and_eq_true, Bool.and_eq_true] at hB
  obtain ⟨⟨⟨h1, h2⟩, h3⟩, h4⟩ := hB
  refine wp_region_any hm ?_
  have e0 : dn (Array.replicate xs.toArray.size false) = fun _ => false := by
    funext i
    unfold dn
    rw [Array.getD_eq_getD_getElem?, Array.getElem?_replicate]
    split <;> rfl
  refine wpAny_facts (Fact := Fact) (Wd := Wd) (a0 := a0) (fun i o ho => ?_) (fun i j oi oj s hi hj => nodup_dst (of_decide_eq_true h2) i j oi oj s (by simpa using hi) (by simpa using hj)) (fun i o s ho hs => ?_) (fun i o ho j hj => ?_)
    (fun i o ho => step i o (by simpa using ho)) (fun done a w hd => fin done a w (by simpa using hd)) _ _ _ _ (by simp) ?_ ?_
  · have := List.all_eq_true.1 h1 o (List.mem_of_getElem? (by simpa using ho))
    simpa using this
  · have := List.all_eq_true.1 h3 o (List.mem_of_getElem? (by simpa using ho))
    rw [hs] at this
    rw [hn]
    simpa using this
  · have ho' : xs[i]? = some o := by simpa using ho
    have := List.all_eq_true.1 h4 i (List.mem_range.2 (List.getElem?_eq_some_iff.1 ho').1)
    rw [ho'] at this
    have := List.all_eq_true.1 this j hj
    simpa using this
  · rw [e0]
    exact ⟨h0, rfl, rfl, (fun i o _ h => by cases h), (fun s _ => rfl), (fun i o s _ _ h => by cases h)⟩
  · have : (unl xs.toArray (dn (Array.replicate xs.toArray.size false))).length ≤ (List.range xs.toArray.size).length := List.length_filter_le _ _
    simpa using this
end
end Go
end

section
/- Words: a range over an iterator that keeps state in one block of its own. -/
namespace Go.Proofs
open Go.RowKit

/-- The loop's three blocks lie as they lay. -/
structure Kept3 (B : Nat) (W W' : World) : Prop where
  size : W.heap.size ≤ W'.heap.size
  same : ∀ j, B ≤ j → j ≤ B + 2 → W'.heap[j]? = W.heap[j]?
theorem Kept3.trans {B : Nat} {W W' W'' : World} (h : Kept3 B W W') (k : Kept3 B W' W'') : Kept3 B W W'' := ⟨Nat.le_trans h.size k.size, fun j h1 h2 => (k.same j h1 h2).trans (h.same j h1 h2)⟩
theorem Kept3.of_aft {B : Nat} {W W' : World} (h : Aft W W') (hB : B + 3 ≤ W.heap.size) : Kept3 B W W' := ⟨h.size, fun j _ h2 => h.below.block j (by omega)⟩
theorem Kept3.of_grown {B : Nat} {W W' : World} {row : Option Nat} (h : W.grownBy W' row) (hB : B + 3 ≤ W.heap.size) (hr : ∀ k, row = some k → k < B ∨ B + 3 ≤ k) : Kept3 B W W' :=
  ⟨h.size, fun j h1 h2 => h.block j (by omega) (fun e => by have := hr j e.symm; omega)⟩

theorem Kept3.setCell {B : Nat} {W W' : World} (h : Kept3 B W W') {p : Addr} (hp : p.block < B ∨ B + 3 ≤ p.block) (v : Value) : Kept3 B W (W'.setCell p v) :=
  ⟨by have := h.size; simpa [World.setCell] using this, fun j h1 h2 => (Below.heap_setCell W' p v j (by omega)).trans (h.same j h1 h2)⟩
theorem own_kept {w w' : World} {base : Nat} {e : TypeId} {size : Nat} {v : Value} {n : Nat} {xs : List Value} (h : w.ownsRow base e size v n xs) {r : Nat} (hg : w.grownBy w' (some r)) (hr : r < base) : w'.ownsRow base e size v n xs :=
  h.kept hg (by
    cases hb : v.ownBlock with
    | none => exact .inl rfl
    | some g => exact .inr fun e => by cases e; have := own_ge h _ hb; omega)

/-- It does not mind a turn of the loop's three blocks. -/
def Three {β : Type} (B : Nat) (I : β → World → Prop) : Prop := ∀ s W W' r, I s W → W.grownBy W' (some r) → B ≤ r → r ≤ B + 2 → I s W'

/-- How the body of a round may be left. -/
def post3 (B : Nat) (I : Nat → World → Prop) (Ix : Code → World → Prop) (k : Nat) (W : World) : Exit → Act → World → Prop
  | .normal, _, W' => Kept3 B W W' ∧ I k W'
  | .ret, _, W' => Kept3 B W W' ∧ Ix .ret W'
  | .exit id, _, W' => Kept3 B W W' ∧ Ix (.exit id) W'
  | .goto t, _, W' => Kept3 B W W' ∧ Ix (.goto t) W'
  | .panic _, _, _ => False
  | .outgrown, _, _ => False

/-- What an iterator promises that deals N values, the k-th of which 'Gv k W0 W v' says: v, in W, made since W0. -/
def IterOk (n : Nat) (gf : Nat) (lb : Array Value) (B N : Nat) (Gv : Nat → World → World → Value → Prop) (Rep : World → Prop) : Prop :=
  ∀ (l : Nat) (J : Nat → World → Prop) (Jx : World → Prop) (W : World), W.heap.size = B + 2 → (∀ k W W', J k W → W.grownBy W' (some (B + 2)) → J k W') → (∀ k W, J k W → Rep W) →
    (∀ k v W0 W1, k < N → J k W0 → Aft W0 W1 → B + 3 ≤ W0.heap.size → Gv k W0 W1 v → YieldAt Fence.wide (n - 1) Tryz.prog l #[v] W1 fun e W' =>
      (e = .returned (.bool true) ∧ J (k + 1) W' ∧ W'.heap[B + 2]? = W1.heap[B + 2]? ∧ W1.heap.size ≤ W'.heap.size) ∨ (e = .returned (.bool false) ∧ Jx W')) →
    J 0 W →
    CallsIn Fence.wide n Tryz.prog gf (#[.func (.yield l) #[] #[]] ++ lb) W fun e W' => (∃ v, e = .returned v) ∧ (J N W' ∨ Jx W')

theorem below_put {W W' : World} {l : Nat} (h : Below W.heap.size W W') (hl : l < W.heap.size) (o : Obj) : Below (W.putObj l o).heap.size (W.putObj l o) (W'.putObj l o) := by
  have hs := h.size
  refine ⟨h.os, h.tape, h.output, by simpa [World.putObj] using hs, fun k hk => ?_⟩
  have hk' : k < W.heap.size := by simpa [World.putObj] using hk
  by_cases e : k = l
  · subst e
    rw [World.putObj_heap_same (by omega), World.putObj_heap_same hl]
  · rw [World.putObj_heap_other e, World.putObj_heap_other e]
    exact h.block k hk'

/-- 'for x := range seq' over such an iterator. -/
theorem wpIn_range3 {g : Operand} {p : Tmp} {assign body : Code} {Q : Exit → Act → World → Prop} {a : Act} {w : World} {n : Nat} {gf : Nat} {lb : Array Value} (hg : a.eval g = .func (.func gf) #[] lb) (eg : ∀ args w, (callFunc gf args).run Tryz.prog w = .ok (.enter gf args) w)
    {N : Nat} {Gv : Nat → World → World → Value → Prop} {Rep : World → Prop} (hseq : IterOk (n - 1) gf lb w.heap.size N Gv Rep)
    (hGv : ∀ k W0 W v (r : Nat) (o : Obj), Gv k W0 W v → r < W0.heap.size → Gv k (W0.putObj r o) (W.putObj r o) v)
    (I : Nat → World → Prop) (Ix : Code → World → Prop) (hI : Three w.heap.size I) (hIx : ∀ c, Three w.heap.size (fun (_ : Unit) => Ix c)) (hrep : ∀ k W, I k W → Rep W) (h0 : I 0 w) (a₁ : Value → Act)
    (hassign : ∀ (l : Nat) (v : Value) (W : World) (K : Act → World → Prop), K (a₁ v) W →
      assign.wpIn (Fence.wide.inRound l) (n - 1 - 1) Tryz.prog (Exit.then K (fun _ _ _ => False)) { tmps := a.tmps.setIfInBounds p v, defers := [] } W)
    (hbody : ∀ (l k : Nat) (v : Value) (W0 W : World), k < N → I k W0 → Aft W0 W → w.heap.size + 3 ≤ W0.heap.size → Gv k W0 W v → body.wpIn (Fence.wide.inRound l) (n - 1 - 1) Tryz.prog (post3 w.heap.size I Ix (k + 1) W) (a₁ v) W)
    (hdone : ∀ (D : Nat) (W : World), w.heap.size = D → I N W → W.heap[D]? = some (.deferred (some [])) → Q .normal { a with defers := { target := .collected D, args := #[] } :: a.defers } W)
    (hstop : ∀ (D : Nat) (c : Code) (W : World), w.heap.size = D → Ix c W → W.heap[D]? = some (.deferred (some [])) → c.wpIn Fence.wide n Tryz.prog Q { a with defers := { target := .collected D, args := #[] } :: a.defers } W) :
    (Code.rangeFunc g #[p] assign body).wpIn Fence.wide n Tryz.prog Q a w := by
  refine wpIn_rangeFunc ?_
  intro fn hfn
  obtain ⟨rec, hrec⟩ : ∃ rec : LoopState → Option Code → Loop, rec = fun st pe => { state := st, pending := pe, fn, tmps := a.tmps, params := #[p], assign, body, defers := w.heap.size } := ⟨_, rfl⟩
  obtain ⟨W1, hW1⟩ : ∃ W1, (w.alloc (.deferred (some []))).alloc (.loop (rec .ready none)) = W1 := ⟨_, rfl⟩
  have hL1 : W1.heap[w.heap.size + 1]? = some (.loop (rec .ready none)) := by
    rw [← hW1]; have := World.alloc_heap_new (w.alloc (.deferred (some []))) (.loop (rec .ready none)); rwa [World.size_alloc] at this
  have hK1 : W1.heap[w.heap.size]? = some (.deferred (some [])) := by
    rw [← hW1]; exact (Below.heap_alloc _ _ _ (by simp)).trans (World.alloc_heap_new w _)
  have hs1 : W1.heap.size = w.heap.size + 2 := by rw [← hW1]; simp
  have hI1 : I 0 W1 := by
    have := only_of_aft ((Aft.alloc w (.deferred (some []))).then_alloc (.loop (rec .ready none))) (some w.heap.size)
    rw [hW1] at this
    exact hI _ _ _ _ h0 this (Nat.le_refl _) (by omega)
  refine ⟨w.heap.size + 1, [{ target := .collected w.heap.size, args := #[] }], W1, { target := .fn (.func gf) lb, args := #[.func (.yield (w.heap.size + 1)) #[] #[]] }, W1, gf,
    #[.func (.yield (w.heap.size + 1)) #[] #[]] ++ lb, W1, ?_, ?_, ?_, ?_, (fun h => by cases h), ?_⟩
  · rw [← hW1, hrec]; exact run_enterLoop_outer _ _ _ _ _
  · simp only [resolve, hg]
    simp [go_sem]
  · intro f' hf'; trivial
  · simp [invoke, go_sem, eg]
  · refine (hseq (w.heap.size + 1)
      (fun k W => I k W ∧ W.heap[w.heap.size + 1]? = some (.loop (rec .ready none)) ∧ W.heap[w.heap.size]? = some (.deferred (some [])))
      (fun W => ∃ c, Ix c W ∧ W.heap[w.heap.size + 1]? = some (.loop (rec .done (some c))) ∧ W.heap[w.heap.size]? = some (.deferred (some [])))
      W1 hs1 ?_ (fun k W h => hrep k W h.1) ?_ ⟨hI1, hL1, hK1⟩).mono ?_
    · rintro k W W' ⟨hi, hl, hk⟩ hg'
      have hl1 := (Array.getElem?_eq_some_iff.1 hl).1
      have hl0 := (Array.getElem?_eq_some_iff.1 hk).1
      exact ⟨hI _ _ _ _ hi hg' (by omega) (Nat.le_refl _), (hg'.block _ hl1 (by simp)).trans hl, (hg'.block _ hl0 (by simp)).trans hk⟩
    · rintro k v W0 W hkN ⟨hi, hl', hk'⟩ ha hB hgv
      have hl : W.heap[w.heap.size + 1]? = some (.loop (rec .ready none)) := (ha.below.block _ (by omega)).trans hl'
      have hk : W.heap[w.heap.size]? = some (.deferred (some [])) := (ha.below.block _ (by omega)).trans hk'
      have hlt : w.heap.size + 1 < W.heap.size := (Array.getElem?_eq_some_iff.1 hl).1
      have hy := run_yield (P := Tryz.prog) (args := #[v]) hl (by rw [hrec]; rfl)
      rw [hrec] at hy
      have hz : ((#[p] : Array Tmp).zip #[v]).foldl (fun tmps (t, a) => tmps.setIfInBounds t a) a.tmps = a.tmps.setIfInBounds p v := by simp
      dsimp only at hy
      rw [hz] at hy
      refine ⟨fn, _, assign, body, hy, ?_⟩
      refine roundIn_of_wpIn hfn ?_
      refine hassign _ v W _ ?_
      refine ⟨_, run_beginRound hl (by rw [hrec]), ?_⟩
      have hl2 : (W.putObj (w.heap.size + 1) (.loop { rec .ready none with state := .busy })).heap[w.heap.size + 1]? = some (.loop { rec .ready none with state := .busy }) := World.putObj_heap_same hlt
      have hk2 : (W.putObj (w.heap.size + 1) (.loop { rec .ready none with state := .busy })).heap[w.heap.size]? = some (.deferred (some [])) := (World.putObj_heap_other (by omega)).trans hk
      have hsz2 : (W.putObj (w.heap.size + 1) (.loop { rec .ready none with state := .busy })).heap.size = W.heap.size := by simp [World.putObj]
      refine wpIn_mono (hbody _ k v (W0.putObj (w.heap.size + 1) (.loop { rec .ready none with state := .busy })) _ hkN (hI _ _ _ _ hi (grownBy_putObj' _ _ _) (by omega) (by omega)) (Aft.of_below (below_put ha.below (by omega) _)) (by simpa [World.putObj] using hB) (hGv _ _ _ _ _ _ hgv (by omega))) ?_
      have fin : ∀ (jump : Option Code) (W3 : World), Kept3 w.heap.size (W.putObj (w.heap.size + 1) (.loop { rec .ready none with state := .busy })) W3 →
          (Instr.endRound (w.heap.size + 1) jump).run Tryz.prog W3 = .ok (.bool jump.isNone) (W3.putObj (w.heap.size + 1) (.loop (rec (if jump.isNone then .ready else .done) jump))) ∧
          (W3.putObj (w.heap.size + 1) (.loop (rec (if jump.isNone then .ready else .done) jump))).heap[w.heap.size + 1]? = some (.loop (rec (if jump.isNone then .ready else .done) jump)) ∧
          (W3.putObj (w.heap.size + 1) (.loop (rec (if jump.isNone then .ready else .done) jump))).heap[w.heap.size]? = some (.deferred (some [])) ∧
          (W3.putObj (w.heap.size + 1) (.loop (rec (if jump.isNone then .ready else .done) jump))).heap[w.heap.size + 2]? = W.heap[w.heap.size + 2]? ∧ W.heap.size ≤ (W3.putObj (w.heap.size + 1) (.loop (rec (if jump.isNone then .ready else .done) jump))).heap.size := fun jump W3 hk3 => by
        have hl3 := (hk3.same _ (by omega) (by omega)).trans hl2
        have := run_endRound (P := Tryz.prog) jump hl3
        rw [hrec] at this ⊢
        exact ⟨this, World.putObj_heap_same (Array.getElem?_eq_some_iff.1 hl3).1, (World.putObj_heap_other (by omega)).trans ((hk3.same _ (by omega) (by omega)).trans hk2), (World.putObj_heap_other (by omega)).trans ((hk3.same _ (by omega) (by omega)).trans (World.putObj_heap_other (by omega))), by have := hk3.size; simp [World.putObj] at this ⊢; exact this⟩
      rintro e a3 W3 hp
      cases e with
      | normal =>
        obtain ⟨hk3, hi3⟩ := hp
        obtain ⟨hr, hl4, hk4, h5, h6⟩ := fin none W3 hk3
        exact ⟨_, _, hr, .inl ⟨rfl, ⟨hI _ _ _ _ hi3 (grownBy_putObj' _ _ _) (by omega) (by omega), hl4, hk4⟩, h5, h6⟩⟩
      | ret =>
        obtain ⟨hk3, hi3⟩ := hp
        obtain ⟨hr, hl4, hk4, h5, h6⟩ := fin (some .ret) W3 hk3
        exact ⟨_, _, hr, .inr ⟨rfl, .ret, hIx _ () _ _ _ hi3 (grownBy_putObj' _ _ _) (by omega) (by omega), hl4, hk4⟩⟩
      | exit id =>
        obtain ⟨hk3, hi3⟩ := hp
        obtain ⟨hr, hl4, hk4, h5, h6⟩ := fin (some (.exit id)) W3 hk3
        exact ⟨_, _, hr, .inr ⟨rfl, .exit id, hIx _ () _ _ _ hi3 (grownBy_putObj' _ _ _) (by omega) (by omega), hl4, hk4⟩⟩
      | goto t =>
        obtain ⟨hk3, hi3⟩ := hp
        obtain ⟨hr, hl4, hk4, h5, h6⟩ := fin (some (.goto t)) W3 hk3
        exact ⟨_, _, hr, .inr ⟨rfl, .goto t, hIx _ () _ _ _ hi3 (grownBy_putObj' _ _ _) (by omega) (by omega), hl4, hk4⟩⟩
      | panic ch => exact hp.elim
      | outgrown => exact hp.elim
    · rintro e W2 ⟨⟨v, rfl⟩, (⟨hi, hl, hk⟩ | ⟨c, hi, hl, hk⟩)⟩
      · exact ⟨none, _, by have := run_endLoop (P := Tryz.prog) hl (by rw [hrec]; simp); rw [hrec] at this; exact this, hdone _ _ rfl (hI _ _ _ _ hi (grownBy_putObj' _ _ _) (by omega) (by omega)) ((World.putObj_heap_other (by omega)).trans hk)⟩
      · exact ⟨some c, _, by have := run_endLoop (P := Tryz.prog) hl (by rw [hrec]; simp); rw [hrec] at this; exact this, hstop _ c _ rfl (hIx c () _ _ _ hi (grownBy_putObj' _ _ _) (by omega) (by omega)) ((World.putObj_heap_other (by omega)).trans hk)⟩
end Go.Proofs
end

section
/- Words: operations, lists of them and regions inside a round, by what holds of them outside. -/
namespace Go
section
variable {P : Program} {ops : Array Oper} {Q : Exit → Act → World → Prop} {l n : Nat} {md : Region.Mode}

theorem Oper.in_round {o : Oper} {a : Act} {w : World} {K : Act → World → Prop} (hd : ∀ c, o.op ≠ .defer c) (h : o.wp P a w K Q) : o.wpIn (Fence.wide.inRound l) n P a w K Q := by
  unfold Oper.wpIn
  refine ⟨fun _ _ => trivial, ?_⟩
  show o.uponIn _ n P a K Q ((Oper.semAt (some l) a.eval o).run P w)
  rw [Oper.semAt_some l _ o hd]
  unfold Oper.wp at h
  generalize (execOp a.eval o).run P w = r at *
  cases r with
  | ok x w' =>
    cases x <;> simp only [Oper.upon, Oper.uponIn] at h ⊢
    case value u => exact h
    case skip => exact h
    case defer d => exact h
    case enter f args => exact ⟨(fun h => by cases h), CallsIn.inRound l (callsIn_wide.2 h)⟩
    case row r args =>
      refine ⟨(fun h => by cases h), fun c cs _ => ?_⟩
      obtain ⟨v, w2, h1, h2⟩ := h c cs
      exact ⟨v, w2, h1, stepsIn_wide.2 h2⟩
    all_goals exact h.elim
  | halt x w' => cases x <;> simp only [Oper.upon, Oper.uponIn] at h ⊢ <;> first | exact h | exact h.elim

/-- No operation defers. -/
def noDefers (l : List Oper) : Bool := l.all fun o => match o.op with | .defer _ => false | _ => true
theorem noDefers_at {l : List Oper} (h : noDefers l = true) {o : Oper} (ho : o ∈ l) : ∀ c, o.op ≠ .defer c := by
  intro c e
  have := List.all_eq_true.1 h o ho
  rw [e] at this
  cases this

theorem wpOp_in_round {i : Nat} {a : Act} {w : World} {K : Act → World → Prop} (hd : noDefers ops.toList = true) (hQ : ¬ LetsOut Q) (h : wpOp P ops Q i K a w) : wpOpIn (Fence.wide.inRound l) n P ops Q i K a w := by
  unfold wpOp at h
  unfold wpOpIn
  cases ho : ops[i]? with
  | none => simp only [ho] at h ⊢; exact h
  | some o =>
    simp only [ho] at h ⊢
    have hm : o ∈ ops.toList := by
      obtain ⟨hi, e⟩ := Array.getElem?_eq_some_iff.1 ho
      rw [← e]; exact Array.getElem_mem_toList hi
    split
    · rename_i hw
      rw [if_pos hw] at h
      exact Oper.in_round (noDefers_at hd hm) (h.resolve_right fun x => hQ x.2)
    · rename_i hw
      rw [if_neg hw] at h
      exact ⟨fun _ _ => trivial, h⟩

theorem wpAny_in_round (hd : noDefers ops.toList = true) (hQ : ¬ LetsOut Q) : ∀ (fuel : Nat) (listed : Array Bool) (a : Act) (w : World), wpAny P md ops Q fuel listed a w → wpAnyIn (Fence.wide.inRound l) n P md ops Q fuel listed a w
  | 0, _, _, _, h => h
  | fuel + 1, _, _, _, h => ⟨h.1, fun i hi => wpOpIn_mono (fun a w => wpAny_in_round hd hQ fuel _ a w) (wpOp_in_round hd hQ (h.2 i hi))⟩

theorem wpList_in_round (hQ : ¬ LetsOut Q) : ∀ (xs : List Oper) (a : Act) (w : World), noDefers xs = true → wpList P ops Q xs a w → wpListIn (Fence.wide.inRound l) n P ops Q xs a w
  | [], _, _, _, h => h
  | o :: rest, a, w, hd, h => by
    have hd' : noDefers rest = true := by
      unfold noDefers at hd ⊢
      rw [List.all_cons, Bool.and_eq_true] at hd
      exact hd.2
    unfold wpList at h
    unfold wpListIn
    split
    · rename_i hw
      rw [if_pos hw] at h
      exact Oper.wpIn_mono (fun a w => wpList_in_round hQ rest a w hd') (Oper.in_round (noDefers_at hd (by simp)) (h.resolve_right fun x => hQ x.2))
    · rename_i hw
      rw [if_neg hw] at h
      exact ⟨fun _ _ => trivial, wpList_in_round hQ rest _ _ hd' h⟩

theorem any_of_tail {a : Act} {w : World} {l : List Oper} (n : Nat) (hB : Region.lexTailB .any l.toArray n = true)
    (h : wpStill P l.toArray w (fun a' => wpList P l.toArray Q (l.drop n) a' w) (l.take n) a) : wpAny P .any l.toArray Q l.toArray.size (Array.replicate l.toArray.size false) a w := by
  simp only [Region.lexTailB, Bool.and_eq_true, decide_eq_true_eq] at hB
  obtain ⟨⟨⟨⟨hsel, hn⟩, hs⟩, hc⟩, hlex⟩ := hB
  have hn' : n < l.length := by simpa using hn
  have htl : (l.take n).length = n := by simp; omega
  have hdl : (l.drop n).length = l.toArray.size - n := by simp
  have inv0 : HeadInv .any l.toArray n (Array.replicate l.toArray.size false) :=
    ⟨by simp, fun j oj _ hl => (by rw [getD_replicate_false] at hl; cases hl), fun t _ ht => getD_in (by simpa using ht) (getD_replicate_false _ _)⟩
  have H := wpAnyL_lex (md := .any) (g := l.toArray.size - n) hsel hs hc hn (l.take n) 0 _ a (fun j hj => by
    have hj' : j < n := by rw [htl] at hj; exact hj
    simp [hj']) (by simpa using htl) inv0 (by rw [htl]; exact hlex) h
  have := wpAny_of_head (Q' := Q) (g := l.toArray.size - n) (fun listed a' hL => by
    have := wpAny_of_seq (md := .any) (Q' := Q) (l.drop n) n listed a' w (fun j => by simp [List.getElem?_drop]) (by rw [hdl]; exact hL.1) hL.2
    rwa [hdl] at this) _ _ _ H
  rw [htl, show n + (l.toArray.size - n) = l.toArray.size by omega] at this
  exact this

/-- A region in a round that draws its order and ends in a chain. -/
theorem wpIn_region_tail {id : Nat} {a : Act} {w : World} {xs : List Oper} (m : Nat) (hm : P.follows .mixedOrders = true) (hB : Region.lexTailB .any xs.toArray m = true) (hd : noDefers xs = true) (hQ : ¬ LetsOut Q)
    (h : wpQuiet P xs.toArray (fun w' => w' = w.drew) (fun a' => wpList P xs.toArray Q (xs.drop m) a' w.drew) (xs.take m) a) : (Code.region id xs.toArray true).wpIn (Fence.wide.inRound l) n P Q a w :=
  wpIn_region_any hm (wpAny_in_round (by simpa using hd) hQ _ _ _ _ (any_of_tail m hB (wpStill_of_quiet _ _ h)))
end
end Go
end

section
/- A region that draws its order, whose operations yield known values in whatever order they come up. -/
namespace Go

def putAll (a : Act) : List (Oper × Value) → Act
  | [] => a
  | (o, v) :: r => putAll (a.put o.dst v) r
theorem put_size (a : Act) (d : Option Tmp) (v : Value) : (a.put d v).tmps.size = a.tmps.size := by unfold Act.put; split <;> simp
theorem put_defers (a : Act) (d : Option Tmp) (v : Value) : (a.put d v).defers = a.defers := by unfold Act.put; split <;> rfl
theorem putAll_size : ∀ (l : List (Oper × Value)) (a : Act), (putAll a l).tmps.size = a.tmps.size
  | [], _ => rfl
  | (o, v) :: r, a => (putAll_size r _).trans (put_size a o.dst v)
theorem putAll_defers : ∀ (l : List (Oper × Value)) (a : Act), (putAll a l).defers = a.defers
  | [], _ => rfl
  | (o, v) :: r, a => (putAll_defers r _).trans (put_defers a o.dst v)
theorem putAll_old {s : Nat} : ∀ (l : List (Oper × Value)) (a : Act), (∀ x ∈ l, x.1.dst ≠ some s) → (putAll a l).eval (.tmp s) = a.eval (.tmp s)
  | [], _, _ => rfl
  | (o, v) :: r, a, h => by
    unfold putAll
    rw [putAll_old r _ fun x hx => h x (by simp [hx])]
    exact Act.eval_put fun d hd e => by cases e; exact h (o, v) (by simp) hd
theorem putAll_at {s : Nat} : ∀ (l : List (Oper × Value)) (a : Act) (i : Nat) (o : Oper) (v : Value), (l.filterMap (·.1.dst)).Nodup → l[i]? = some (o, v) → o.dst = some s → s < a.tmps.size → (putAll a l).eval (.tmp s) = v
  | [], _, i, _, _, _, h, _, _ => by simp at h
  | (o', v') :: r, a, 0, o, v, hn, h, hs, hlt => by
    simp at h
    obtain ⟨rfl, rfl⟩ := h
    unfold putAll
    rw [List.filterMap_cons] at hn
    simp only [hs] at hn
    rw [putAll_old r _ fun x hx e => (List.nodup_cons.1 hn).1 (List.mem_filterMap.2 ⟨x, hx, e⟩), hs]
    exact Act.eval_put_same _ _ _ hlt
  | (o', v') :: r, a, i + 1, o, v, hn, h, hs, hlt => by
    unfold putAll
    refine putAll_at r _ i o v ?_ (by simpa using h) hs (by rw [put_size]; exact hlt)
    rw [List.filterMap_cons] at hn
    cases hd : o'.dst with
    | none => simpa [hd] using hn
    | some d => simp only [hd] at hn; exact (List.nodup_cons.1 hn).2
theorem act_ext {a b : Act} (h1 : a.tmps.size = b.tmps.size) (h2 : a.defers = b.defers) (h3 : ∀ s : Nat, a.eval (.tmp s) = b.eval (.tmp s)) : a = b := by
  obtain ⟨t, d⟩ := a
  obtain ⟨t', d'⟩ := b
  cases h2
  rw [Act.mk.injEq]
  refine ⟨Array.ext h1 fun i hi hi' => ?_, rfl⟩
  have := h3 i
  simp only [Act.eval, Array.getD_eq_getD_getElem?] at this
  rw [Array.getElem?_eq_getElem hi, Array.getElem?_eq_getElem hi'] at this
  exact this

section
variable {P : Program} {Q : Exit → Act → World → Prop} {a0 : Act}

theorem held_putAll {xs : List Oper} {vals : List Value} {Wd : (Nat → Bool) → World → Prop} {done : Nat → Bool} {a : Act} {w : World} (hl : xs.length = vals.length) (hn : (xs.filterMap (·.dst)).Nodup) (hin : ∀ o ∈ xs, ∀ s, o.dst = some s → s < a0.tmps.size)
    (hd : ∀ i, i < xs.length → done i = true) (h : Held xs.toArray (fun i v _ => vals[i]? = some v) Wd a0 done a w) : a = putAll a0 (xs.zip vals) := by
  have hz : (xs.zip vals).map (·.1) = xs := by rw [List.map_fst_zip]; omega
  have hfm : (xs.zip vals).filterMap (·.1.dst) = xs.filterMap (·.dst) := by
    conv => rhs; rw [← hz]
    rw [List.filterMap_map]; rfl
  refine act_ext (h.size.trans (putAll_size _ _).symm) (h.defers.trans (putAll_defers _ _).symm) fun s => ?_
  by_cases hs : s ∈ xs.filterMap (·.dst)
  · obtain ⟨o, ho, he⟩ := List.mem_filterMap.1 hs
    obtain ⟨i, hi, e⟩ := List.getElem_of_mem ho
    have ho' : xs.toArray[i]? = some o := by rw [← e]; simp [hi]
    have h1 := h.fact i o s ho' he (hd i hi)
    have h2 : (xs.zip vals)[i]? = some (o, a.eval (.tmp s)) := by
      rw [List.getElem?_zip_eq_some]
      exact ⟨by rw [← e]; simp [hi], h1⟩
    exact (putAll_at _ _ i o _ (by rw [hfm]; exact hn) h2 he (hin o ho s he)).symm
  · rw [h.same (by simpa using hs)]
    refine (putAll_old _ _ fun x hx e => hs ?_).symm
    rw [← hfm]
    exact List.mem_filterMap.2 ⟨x, hx, e⟩

/-- What is known when operation i comes up. -/
structure Knows (xs : List Oper) (vals : List Value) (a0 : Act) (i : Nat) (a : Act) : Prop where
  at_ : ∀ (j : Nat) (o : Oper) (s : Nat) (v : Value), xs[i]? = some o → j ∈ Region.preds o → ∀ oj, xs[j]? = some oj → oj.dst = some s → vals[j]? = some v → a.eval (.tmp s) = v
  same : ∀ s : Nat, s ∉ xs.filterMap (·.dst) → a.eval (.tmp s) = a0.eval (.tmp s)

theorem any_vals {xs : List Oper} {w : World} (n : Nat) (hn : a0.tmps.size = n) (hB : factsB xs n = true) (vals : List Value) (hl : xs.length = vals.length) (Wd : World → Prop) (h0 : Wd w)
    (step : ∀ (i : Nat) (o : Oper) (v : Value), xs[i]? = some o → vals[i]? = some v → ∀ (a : Act) (w : World), Knows xs vals a0 i a → Wd w → ∀ K : Act → World → Prop, (∀ w', Wd w' → K (a.put o.dst v) w') → Oper.wp P o a w K Q)
    (fin : ∀ w, Wd w → Q .normal (putAll a0 (xs.zip vals)) w) : wpAny P .any xs.toArray Q xs.toArray.size (Array.replicate xs.toArray.size false) a0 w := by
  have hB' := hB
  unfold factsB at hB'
  rw [Bool.and_eq_true, Bool.and_eq_true, Bool.and_eq_true] at hB'
  obtain ⟨⟨⟨h1, h2⟩, h3⟩, h4⟩ := hB'
  have e0 : dn (Array.replicate xs.toArray.size false) = fun _ => false := by
    funext i
    unfold dn
    rw [Array.getD_eq_getD_getElem?, Array.getElem?_replicate]
    split <;> rfl
  have hin : ∀ o ∈ xs, ∀ s, o.dst = some s → s < a0.tmps.size := fun o ho s hs => by
    have := List.all_eq_true.1 h3 o ho
    rw [hs] at this
    rw [hn]
    simpa using this
  refine wpAny_facts (Fact := fun i v _ => vals[i]? = some v) (Wd := fun _ w => Wd w) (a0 := a0) (fun i o ho => ?_) (fun i j oi oj s hi hj => nodup_dst (of_decide_eq_true h2) i j oi oj s (by simpa using hi) (by simpa using hj)) (fun i o s ho hs => hin o (List.mem_of_getElem? (by simpa using ho)) s hs) (fun i o ho j hj => ?_)
    (fun i o ho done a w hH hd hp K hK => ?_) (fun done a w hd hH => ?_) _ _ _ _ (by simp) ?_ ?_
  · have := List.all_eq_true.1 h1 o (List.mem_of_getElem? (by simpa using ho))
    simpa using this
  · have ho' : xs[i]? = some o := by simpa using ho
    have := List.all_eq_true.1 h4 i (List.mem_range.2 (List.getElem?_eq_some_iff.1 ho').1)
    rw [ho'] at this
    have := List.all_eq_true.1 this j hj
    simpa using this
  · have ho' : xs[i]? = some o := by simpa using ho
    have hi := (List.getElem?_eq_some_iff.1 ho').1
    have hv : vals[i]? = some vals[i] := List.getElem?_eq_getElem (by omega)
    refine step i o _ ho' hv a w ⟨fun j o' s v hx hj oj hoj hs hvj => ?_, fun s hs => hH.same (by simpa using hs)⟩ hH.wd K fun w' hw' => hK _ w' hv hw' fun _ _ _ h => h
    rw [ho'] at hx; cases hx
    have := hH.fact j oj s (by simpa using hoj) hs (hp j hj)
    rw [hvj] at this
    exact (Option.some.inj this).symm
  · rw [held_putAll hl (of_decide_eq_true h2) hin (by simpa using hd) hH]
    exact fin w hH.wd
  · rw [e0]
    exact ⟨h0, rfl, rfl, (fun i o _ h => by cases h), (fun s _ => rfl), (fun i o s _ _ h => by cases h)⟩
  · have : (unl xs.toArray (dn (Array.replicate xs.toArray.size false))).length ≤ (List.range xs.toArray.size).length := List.length_filter_le _ _
    simpa using this


/-- Q where the exit is normal, else no way out. -/
def OnlyN (Q : Exit → Act → World → Prop) : Exit → Act → World → Prop
  | .normal, a, w => Q .normal a w
  | _, _, _ => False
theorem OnlyN.imp {Q : Exit → Act → World → Prop} : ∀ (e : Exit) (a : Act) (w : World), OnlyN Q e a w → Q e a w := fun e a w h => by cases e <;> first | exact h | exact h.elim
theorem OnlyN.normal {Q : Exit → Act → World → Prop} {a : Act} {w : World} (h : Q .normal a w) : OnlyN Q .normal a w := h
theorem OnlyN.notOut {Q : Exit → Act → World → Prop} : ¬ LetsOut (OnlyN Q) := fun h => by
  obtain ⟨a, w, h⟩ := h
  exact h
theorem wpIn_region_vals {id l k : Nat} {xs : List Oper} {w : World} (hm : P.follows .mixedOrders = true) (hd : noDefers xs = true) (n : Nat) (hn : a0.tmps.size = n) (hB : factsB xs n = true) (vals : List Value) (hl : xs.length = vals.length) (Wd : World → Prop) (h0 : Wd w.drew)
    (step : ∀ (i : Nat) (o : Oper) (v : Value), xs[i]? = some o → vals[i]? = some v → ∀ (a : Act) (w : World), Knows xs vals a0 i a → Wd w → ∀ K : Act → World → Prop, (∀ w', Wd w' → K (a.put o.dst v) w') → Oper.wp P o a w K (OnlyN Q))
    (fin : ∀ w, Wd w → Q .normal (putAll a0 (xs.zip vals)) w) : (Code.region id xs.toArray true).wpIn (Fence.wide.inRound l) k P Q a0 w :=
  wpIn_mono (wpIn_region_any hm (wpAny_in_round (by simpa using hd) OnlyN.notOut _ _ _ _ (any_vals n hn hB vals hl Wd h0 step fin))) OnlyN.imp
/-- A region in a round that draws its order and ends in a chain. -/
theorem wpIn_region_tail' {id l k : Nat} {a : Act} {w : World} {xs : List Oper} (m : Nat) (hm : P.follows .mixedOrders = true) (hB : Region.lexTailB .any xs.toArray m = true) (hd : noDefers xs = true)
    (h : wpQuiet P xs.toArray (fun w' => w' = w.drew) (fun a' => wpList P xs.toArray (OnlyN Q) (xs.drop m) a' w.drew) (xs.take m) a) : (Code.region id xs.toArray true).wpIn (Fence.wide.inRound l) k P Q a w :=
  wpIn_mono (wpIn_region_tail m hm hB hd OnlyN.notOut h) OnlyN.imp
/-- A region in a round, in the order of the text. -/
theorem wpIn_region_of_list {id l k : Nat} {xs : List Oper} {a : Act} {w : World} (hd : noDefers xs = true) (h : wpList P xs.toArray (OnlyN Q) xs a w) : (Code.region id xs.toArray false).wpIn (Fence.wide.inRound l) k P Q a w :=
  wpIn_mono (wpIn_region_lit (wpList_in_round OnlyN.notOut _ _ _ hd h)) OnlyN.imp
end

section
variable {P : Program} {w : World} {o : Oper} {a : Act} {K : Act → World → Prop} {Q : Exit → Act → World → Prop}
theorem ev' {a : Act} {s : Nat} {v : Value} (h : a.eval (.tmp s) = v) : a.tmps[s]?.getD undef = v := by rw [← h]; simp [Act.eval]
theorem op_val {v : Value} (h1 : (execOp a.eval o).run P w = .ok (.value v) w) (h : K (a.put o.dst v) w) : Oper.wp P o a w K Q := by
  unfold Oper.wp; rw [h1]; exact h
end
end Go
end

section
/- Walks: reached. -/
namespace Go.Proofs
open Go.RowKit

/-- What reached answers. -/
def ReachedR (w : World) (T : Treaty) (kinds : List Int) (s : Int) (e : Ending) (w' : World) : Prop :=
  Aft w w' ∧ ∃ ys A c, e = .returned (.slice A ys.length c) ∧ w'.ownsRow w.heap.size 3 1 (.slice A ys.length c) ys.length (ys.map (Value.int .i64)) ∧ ys.Nodup ∧ InR T.places ys ∧ ∀ y, y ∈ ys ↔ ReachP (edgeB T.ways kinds) s y

theorem reached_any (w : World) (D : Nat) (Ak : Option Addr) (ck : Nat) (kinds : List Int) (T : Treaty) (a1 a2 a3 a4 : Option Addr) (c1 c2 c3 c4 : Nat) (f : Nat → Nat → Nat → Bool) (hd : Desk w D T a1 a2 a3 a4 c1 c2 c3 c4 f) (hways : RowsP w a1 3 WayR T.ways) (hkinds : Ints w Ak kinds)
    (hp : T.places ≤ 12) (hw : ∀ x ∈ T.ways, 0 ≤ x.a ∧ x.a < T.places ∧ 0 ≤ x.b ∧ x.b < T.places) (s : Int) :
    Calls Tryz.prog 109 #[.pointer (some ⟨D, 0, none⟩), .int .i64 s, .slice Ak kinds.length ck] w (ReachedR w T kinds s) := by
  have HD := Lib.hid hd
  have HF := Lib.hid (follow_any w D Ak ck kinds T a1 a2 a3 a4 c1 c2 c3 c4 f hd hways hkinds hp hw 13 s [])
  clear hd hw
  have hI : FInv w D Ak ck kinds ((((w.alloc (.cells #[.pointer (some ⟨D, 0, none⟩)] 96)).alloc (.cells #[.slice Ak kinds.length ck] 24)).alloc (.cells #[.slice none 0 0] 24)).alloc (.cells #[.func (.func 144) #[] #[.pointer (some ⟨w.heap.size, 0, none⟩), .pointer (some ⟨w.heap.size + 1, 0, none⟩), .pointer (some ⟨w.heap.size + 2, 0, none⟩), .pointer (some ⟨w.heap.size + 3, 0, none⟩)]] 179)) [] := by
    refine ⟨(((Aft.alloc w _).then_alloc _).then_alloc _).then_alloc _, by simp, ?_, ?_, ?_, ⟨none, 0, ?_, World.ownsRow_nil _ _ 3 1⟩, ?_⟩ <;> simp [go_sem]
  have HI := Lib.hid hI
  clear hI
  go_enter Tryz.func109, Tryz.ntmps109
  go_wp2_with (refine (HF.out _ (by simp) HI.out List.nodup_nil (fun x h => by cases h)).mono ?_; rintro e w' ⟨rfl, ys, hJ, hdo, hir, hed⟩; have hko := hJ.ko; obtain ⟨A, c, hk, hown⟩ := hko; have haft := hJ.aft; have hjs := hJ.size; clear hJ; have HDO := Lib.hid hdo; have HIR := Lib.hid hir; have HED := Lib.hid hed; clear hdo hir hed)
  go_ret
  exact ⟨haft, ys, A, c, rfl, World.ownsRow.mono hown (by omega), HDO.out.nodup, HIR.out, HDO.out.all HED.out⟩
end Go.Proofs
end

section
/- A desk's cells while they are laid. -/
namespace Go.Proofs
open Go.RowKit

structure DGrid (T : Treaty) (a1 a2 a3 a4 : Option Addr) (c1 c2 c3 c4 : Nat) (cs : Array Value) (f : Nat → Nat → Nat → Bool) : Prop where
  size : cs.size = 1445
  k0 : cs[0]? = some (.int .i64 T.places)
  k1 : cs[1]? = some (.slice a1 T.ways.length c1)
  k2 : cs[2]? = some (.slice a2 T.words.length c2)
  k3 : cs[3]? = some (.slice a3 T.starts.length c3)
  k4 : cs[4]? = some (.slice a4 T.legs.length c4)
  lead : ∀ i a b, i < 10 → a < 12 → b < 12 → cs[5 + i * 144 + a * 12 + b]? = some (.bool (f i a b))

section
variable {T : Treaty} {a1 a2 a3 a4 : Option Addr} {c1 c2 c3 c4 : Nat} {cs : Array Value} {f : Nat → Nat → Nat → Bool}
theorem DGrid.desk {w : World} {D : Nat} (h : DGrid T a1 a2 a3 a4 c1 c2 c3 c4 cs f) (hb : Blk w D 154 cs) : Desk w D T a1 a2 a3 a4 c1 c2 c3 c4 f :=
  ⟨hb.lt, (hb.cell 0).trans h.k0, (hb.cell 1).trans h.k1, (hb.cell 2).trans h.k2, (hb.cell 3).trans h.k3, (hb.cell 4).trans h.k4, fun i a b hi ha hb' => (hb.cell _).trans (h.lead i a b hi ha hb')⟩

def upd3 (f : Nat → Nat → Nat → Bool) (i a b : Nat) (x : Bool) : Nat → Nat → Nat → Bool := fun i' a' b' => if i' = i ∧ a' = a ∧ b' = b then x else f i' a' b'

theorem DGrid.set (h : DGrid T a1 a2 a3 a4 c1 c2 c3 c4 cs f) {i a b : Nat} (hi : i < 10) (ha : a < 12) (hb : b < 12) (x : Bool) : DGrid T a1 a2 a3 a4 c1 c2 c3 c4 (cs.setIfInBounds (5 + i * 144 + a * 12 + b) (.bool x)) (upd3 f i a b x) := by
  refine ⟨by rw [Array.size_setIfInBounds]; exact h.size, ?_, ?_, ?_, ?_, ?_, fun i' a' b' hi' ha' hb' => ?_⟩
  · rw [Array.getElem?_setIfInBounds_ne (by omega)]; exact h.k0
  · rw [Array.getElem?_setIfInBounds_ne (by omega)]; exact h.k1
  · rw [Array.getElem?_setIfInBounds_ne (by omega)]; exact h.k2
  · rw [Array.getElem?_setIfInBounds_ne (by omega)]; exact h.k3
  · rw [Array.getElem?_setIfInBounds_ne (by omega)]; exact h.k4
  · unfold upd3
    by_cases e : i' = i ∧ a' = a ∧ b' = b
    · obtain ⟨rfl, rfl, rfl⟩ := e
      rw [if_pos ⟨rfl, rfl, rfl⟩, Array.getElem?_setIfInBounds_self_of_lt (by rw [h.size]; omega)]
    · rw [if_neg e, Array.getElem?_setIfInBounds_ne (by omega)]
      exact h.lead i' a' b' hi' ha' hb'
end

def isF : Value → Bool
  | .bool false => true
  | _ => false
theorem isF_eq {v : Value} (h : isF v = true) : v = .bool false := by
  unfold isF at h
  split at h
  · rfl
  · exact Bool.noConfusion h

theorem zero142_size : Tryz.zeroCells154.size = 1445 := by
  have e : (Tryz.zeroCells154.toList.length == 1445) = true := by kernel_rfl
  rw [← Array.length_toList]
  exact eq_of_beq e
theorem zero142_at (j : Nat) (hj : j < 1440) : Tryz.zeroCells154[5 + j]? = some (.bool false) := by
  have e : (Tryz.zeroCells154.toList.drop 5).all isF = true := by kernel_rfl
  have hs := zero142_size
  generalize Tryz.zeroCells154 = z at *
  rw [Array.getElem?_eq_getElem (by omega)]
  refine congrArg some (isF_eq (List.all_eq_true.1 e _ ?_))
  rw [List.mem_iff_getElem?]
  refine ⟨j, ?_⟩
  rw [List.getElem?_drop, Array.getElem?_toList, Array.getElem?_eq_getElem (by omega)]

theorem zeroDesk (T : Treaty) (a1 a2 a3 a4 : Option Addr) (c1 c2 c3 c4 : Nat) : DGrid T a1 a2 a3 a4 c1 c2 c3 c4 (((((Tryz.zeroCells154.setIfInBounds 0 (.int .i64 T.places)).setIfInBounds 1 (.slice a1 T.ways.length c1)).setIfInBounds 2 (.slice a2 T.words.length c2)).setIfInBounds 3 (.slice a3 T.starts.length c3)).setIfInBounds 4 (.slice a4 T.legs.length c4)) (fun _ _ _ => false) := by
  have hs := zero142_size
  have hz := zero142_at
  generalize Tryz.zeroCells154 = z at *
  refine ⟨by simpa using hs, ?_, ?_, ?_, ?_, ?_, fun i a b hi ha hb => ?_⟩
  · simp [hs]
  · simp [hs]
  · simp [hs]
  · simp [hs]
  · simp [hs]
  · rw [Array.getElem?_setIfInBounds_ne (by omega), Array.getElem?_setIfInBounds_ne (by omega), Array.getElem?_setIfInBounds_ne (by omega), Array.getElem?_setIfInBounds_ne (by omega), Array.getElem?_setIfInBounds_ne (by omega),
      show 5 + i * 144 + a * 12 + b = 5 + (i * 144 + a * 12 + b) by omega]
    exact hz _ (by omega)
end Go.Proofs
end

section
/- Plain: what a desk knows of legs while it is laid. -/
namespace Go.Proofs

def LInv (T : Treaty) (R : List Int) (k : Nat) (f : Nat → Nat → Nat → Bool) : Prop := ∀ i a b, i < 10 → a < 12 → b < 12 → (f i a b = true ↔ i < k ∧ LeadsP T R i a b)
def LInv2 (T : Treaty) (R : List Int) (k a : Nat) (f : Nat → Nat → Nat → Bool) : Prop := ∀ i' a' b', i' < 10 → a' < 12 → b' < 12 → (f i' a' b' = true ↔ (i' < k ∨ i' = k ∧ a' < a) ∧ LeadsP T R i' a' b')
def LInv3 (T : Treaty) (R : List Int) (k a : Nat) (es l : List Int) (f : Nat → Nat → Nat → Bool) : Prop :=
  ∀ i' a' b', i' < 10 → a' < 12 → b' < 12 → (f i' a' b' = true ↔ (i' < k ∨ i' = k ∧ a' < a) ∧ LeadsP T R i' a' b' ∨ i' = k ∧ a' = a ∧ (b' : Int) ∈ l ∧ hasB es b' = true)

section
variable {T : Treaty} {R : List Int} {k a : Nat} {es l : List Int} {f : Nat → Nat → Nat → Bool}
theorem LInv.start (h : LInv T R k f) : LInv2 T R k 0 f := fun i' a' b' h1 h2 h3 => by
  rw [h i' a' b' h1 h2 h3]
  exact ⟨fun ⟨x, y⟩ => ⟨.inl x, y⟩, fun ⟨x, y⟩ => ⟨by omega, y⟩⟩
theorem LInv2.start (h : LInv2 T R k a f) : LInv3 T R k a es [] f := fun i' a' b' h1 h2 h3 => by
  rw [h i' a' b' h1 h2 h3]
  exact ⟨fun x => .inl x, fun x => x.elim id fun ⟨_, _, x, _⟩ => by cases x⟩
theorem LInv3.step (h : LInv3 T R k a es l f) (y : Nat) : LInv3 T R k a es (l ++ [(y : Int)]) (upd3 f k a y (hasB es y)) := fun i' a' b' h1 h2 h3 => by
  unfold upd3
  by_cases e : i' = k ∧ a' = a ∧ b' = y
  · rw [if_pos e]
    obtain ⟨rfl, rfl, rfl⟩ := e
    constructor
    · exact fun x => .inr ⟨rfl, rfl, by simp, x⟩
    · rintro (⟨x, _⟩ | ⟨_, _, _, x⟩)
      · omega
      · exact x
  · rw [if_neg e, h i' a' b' h1 h2 h3]
    constructor
    · rintro (x | ⟨x1, x2, x3, x4⟩)
      · exact .inl x
      · exact .inr ⟨x1, x2, by simp [x3], x4⟩
    · rintro (x | ⟨x1, x2, x3, x4⟩)
      · exact .inl x
      · refine .inr ⟨x1, x2, ?_, x4⟩
        rw [List.mem_append, List.mem_singleton] at x3
        exact x3.elim id fun x => absurd ⟨x1, x2, by omega⟩ e
theorem LInv3.done (h : LInv3 T R k a es l f) {ks : List Int} {x : Leg} (hx : T.legs[k]? = some x) (ha : a < T.places.toNat) (hk : kindsAt T R x = ks) (he : endsAt T R x = es) (hm : ∀ y, y ∈ l ↔ ReachP (edgeB T.ways ks) a y) : LInv2 T R k (a + 1) f := fun i' a' b' h1 h2 h3 => by
  rw [h i' a' b' h1 h2 h3]
  obtain ⟨hkl, hx'⟩ := List.getElem?_eq_some_iff.1 hx
  have key : LeadsP T R k a b' ↔ (b' : Int) ∈ l ∧ hasB es b' = true := by
    unfold LeadsP
    rw [hm]
    constructor
    · rintro ⟨h1, h2, h3, h4⟩
      rw [hx', hk] at h3
      rw [hx', he] at h4
      exact ⟨h3, h4⟩
    · rintro ⟨h3, h4⟩
      refine ⟨hkl, ha, ?_, ?_⟩
      · rw [hx', hk]; exact h3
      · rw [hx', he]; exact h4
  constructor
  · rintro (⟨x1, x2⟩ | ⟨rfl, rfl, x3, x4⟩)
    · exact ⟨by omega, x2⟩
    · exact ⟨by omega, key.2 ⟨x3, x4⟩⟩
  · rintro ⟨x1, x2⟩
    by_cases e : i' = k ∧ a' = a
    · obtain ⟨rfl, rfl⟩ := e
      exact .inr ⟨rfl, rfl, key.1 x2⟩
    · exact .inl ⟨by omega, x2⟩
theorem LInv2.done (h : LInv2 T R k a f) (ha : T.places.toNat ≤ a) : LInv T R (k + 1) f := fun i' a' b' h1 h2 h3 => by
  rw [h i' a' b' h1 h2 h3]
  constructor
  · exact fun ⟨x, y⟩ => ⟨by omega, y⟩
  · rintro ⟨x, y⟩
    have := y.2.1
    exact ⟨by omega, y⟩
end
/-- whether a leg leads from a place to another one, as a bool -/
noncomputable def leadsF (T : Treaty) (R : List Int) : Nat → Nat → Nat → Bool := fun i a b => @decide (LeadsP T R i a b) (Classical.propDecidable _)
theorem leadsF_iff {T : Treaty} {R : List Int} {i a b : Nat} : leadsF T R i a b = true ↔ LeadsP T R i a b := by unfold leadsF; exact @decide_eq_true_iff _ (Classical.propDecidable _)
theorem leadsF_of {T : Treaty} {R : List Int} {f : Nat → Nat → Nat → Bool} (h : LInv T R T.legs.length f) {i a b : Nat} (hi : i < 10) (ha : a < 12) (hb : b < 12) : f i a b = leadsF T R i a b := by
  rw [Bool.eq_iff_iff, h i a b hi ha hb, leadsF_iff]
  exact ⟨fun x => x.2, fun x => ⟨x.1, x⟩⟩
section
variable {T : Treaty} {a1 a2 a3 a4 : Option Addr} {c1 c2 c3 c4 : Nat} {cs : Array Value} {f g : Nat → Nat → Nat → Bool}
theorem DGrid.congr (h : DGrid T a1 a2 a3 a4 c1 c2 c3 c4 cs f) (e : ∀ i a b, i < 10 → a < 12 → b < 12 → f i a b = g i a b) : DGrid T a1 a2 a3 a4 c1 c2 c3 c4 cs g :=
  ⟨h.size, h.k0, h.k1, h.k2, h.k3, h.k4, fun i a b hi ha hb => by rw [h.lead i a b hi ha hb, e i a b hi ha hb]⟩
end
end Go.Proofs
end
