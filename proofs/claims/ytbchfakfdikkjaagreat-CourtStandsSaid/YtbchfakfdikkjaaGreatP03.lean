/- Own texts, merged: Rgf Rgj Rng Brg Rgv Rgw Rgx. -/
import Derived.Test.YtbchfakfdikkjaaGreatP02
import Derived.Great.Frames
import Derived.RangeFuncNested
import Derived.RangeFuncBound
import Derived.RangeFuncCalls
import Derived.RangeFuncLeaves
import Derived.Test.YtbchfakfdikkjaaGreatChecked
import Derived.Shelf.RegionOpen
set_option linter.unusedSimpArgs false
set_option linter.unusedVariables false
set_option linter.unnecessarySimpa false
section
namespace Go

def Region.preds (o : Oper) : List Nat := (o.after.toList.filter (Region.binds .any)).map (·.on)
def dn (listed : Array Bool) (i : Nat) : Bool := listed.getD i false
def upd (done : Nat → Bool) (i : Nat) : Nat → Bool := fun j => if j = i then true else done j

structure Held (ops : Array Oper) (Fact : Nat → Value → World → Prop) (Wd : (Nat → Bool) → World → Prop) (a0 : Act) (done : Nat → Bool) (a : Act) (w : World) : Prop where
  wd : Wd done w
  size : a.tmps.size = a0.tmps.size
  defers : a.defers = a0.defers
  closed : ∀ i o, ops[i]? = some o → done i = true → ∀ j ∈ Region.preds o, done j = true
  old : ∀ s, (∀ i o, ops[i]? = some o → o.dst = some s → done i = false) → a.eval (.tmp s) = a0.eval (.tmp s)
  fact : ∀ (i : Nat) (o : Oper) (s : Nat), ops[i]? = some o → o.dst = some s → done i = true → Fact i (a.eval (.tmp s)) w

theorem mem_ready' {md : Region.Mode} {ops : Array Oper} {listed : Array Bool} {i : Nat} (hm : md = .any) (hs : listed.size = ops.size) (h : i ∈ Region.ready md ops listed) :
    ∃ o, ops[i]? = some o ∧ dn listed i = false ∧ ∀ j ∈ Region.preds o, dn listed j = true := by
  subst hm
  unfold Region.ready at h
  rw [List.mem_filter, List.mem_range, Bool.and_eq_true] at h
  obtain ⟨h1, h2, h3⟩ := h
  have ho : ops[i]? = some ops[i] := Array.getElem?_eq_getElem h1
  refine ⟨_, ho, ?_, fun j hj => ?_⟩
  · unfold dn
    rw [Array.getD_eq_getD_getElem?] at h2 ⊢
    rw [Array.getElem?_eq_getElem (by omega)] at h2 ⊢
    simpa using h2
  · rw [ho, Option.map_some, Option.getD_some] at h3
    unfold Region.preds at hj
    rw [List.mem_map] at hj
    obtain ⟨e, he, rfl⟩ := hj
    rw [List.mem_filter] at he
    have := Array.all_eq_true'.1 h3 e (by simpa using he.1)
    rw [he.2] at this
    simpa [dn] using this

theorem all_done {ops : Array Oper} {listed : Array Bool} (hs : listed.size = ops.size) (hlt : ∀ (i : Nat) (o : Oper), ops[i]? = some o → ∀ j ∈ Region.preds o, j < i) (h : Region.ready .any ops listed = []) : ∀ i, i < ops.size → dn listed i = true := by
  intro i
  induction i using Nat.strongRecOn with
  | _ i ih =>
    intro hi
    cases hd : dn listed i with
    | true => rfl
    | false =>
      exfalso
      have ho : ops[i]? = some ops[i] := Array.getElem?_eq_getElem hi
      have : i ∈ Region.ready .any ops listed := by
        unfold Region.ready
        rw [List.mem_filter, List.mem_range, Bool.and_eq_true]
        refine ⟨hi, ?_, ?_⟩
        · unfold dn at hd
          rw [Array.getD_eq_getD_getElem?] at hd ⊢
          rw [Array.getElem?_eq_getElem (by omega)] at hd ⊢
          simpa using hd
        · rw [ho, Option.map_some, Option.getD_some, Array.all_eq_true']
          intro e he
          cases hb : Region.binds .any e with
          | false => rfl
          | true =>
            have hm : e.on ∈ Region.preds ops[i] := List.mem_map.2 ⟨e, List.mem_filter.2 ⟨by simpa using he, hb⟩, rfl⟩
            have h1 := hlt i _ ho _ hm
            have h2 := ih e.on h1 (by omega)
            simpa [dn] using h2
      rw [h] at this
      cases this

def unl (ops : Array Oper) (done : Nat → Bool) : List Nat := (List.range ops.size).filter fun i => !done i
theorem unl_lt {ops : Array Oper} {done : Nat → Bool} {i : Nat} (hi : i < ops.size) (hd : done i = false) : (unl ops (upd done i)).length < (unl ops done).length := by
  have e : unl ops (upd done i) = (unl ops done).filter fun j => !upd done i j := by
    unfold unl
    rw [List.filter_filter]
    apply List.filter_congr
    intro j _
    unfold upd
    split <;> simp
  rw [e, List.length_filter_lt_length_iff_exists]
  exact ⟨i, List.mem_filter.2 ⟨List.mem_range.2 hi, by simp [hd]⟩, by simp [upd]⟩

section
variable {P : Program} {ops : Array Oper} {Q : Exit → Act → World → Prop} {Fact : Nat → Value → World → Prop} {Wd : (Nat → Bool) → World → Prop} {a0 : Act}

theorem dn_set {listed : Array Bool} {i : Nat} (hi : i < listed.size) : dn (listed.setIfInBounds i true) = upd (dn listed) i := by
  funext j
  unfold dn upd
  rw [Array.getD_eq_getD_getElem?, Array.getElem?_setIfInBounds]
  by_cases e : i = j
  · subst e; simp [hi]
  · rw [if_neg e, if_neg (fun h => e h.symm)]
    exact (Array.getD_eq_getD_getElem? ..).symm

theorem Held.put {done : Nat → Bool} {a : Act} {w w' : World} {i : Nat} {o : Oper} {v : Value} (h : Held ops Fact Wd a0 done a w) (ho : ops[i]? = some o) (hd : done i = false) (hp : ∀ j ∈ Region.preds o, done j = true)
    (hdst : ∀ (i j : Nat) (oi oj : Oper) (s : Nat), ops[i]? = some oi → ops[j]? = some oj → oi.dst = some s → oj.dst = some s → i = j) (hin : ∀ (i : Nat) (o : Oper) (s : Nat), ops[i]? = some o → o.dst = some s → s < a0.tmps.size)
    (hf : Fact i v w') (hw : Wd (upd done i) w') (hk : ∀ j, done j = true → ∀ u, Fact j u w → Fact j u w') : Held ops Fact Wd a0 (upd done i) (a.put o.dst v) w' := by
  refine ⟨hw, ?_, ?_, fun k ok hk' hdk j hj => ?_, fun s hs => ?_, fun k ok s hk' hs hdk => ?_⟩
  · rw [← h.size]; unfold Act.put; split <;> simp
  · rw [← h.defers]; unfold Act.put; split <;> rfl
  · unfold upd at hdk ⊢
    by_cases e : j = i
    · rw [if_pos e]
    · rw [if_neg e]
      by_cases e2 : k = i
      · subst e2
        rw [ho] at hk'; cases hk'
        exact hp j hj
      · rw [if_neg e2] at hdk
        exact h.closed k ok hk' hdk j hj
  · have hne : ∀ d, o.dst = some d → (Operand.tmp s) ≠ .tmp d := fun d hd' e => by
      cases e
      have := hs i o ho hd'
      simp [upd] at this
    rw [Act.eval_put hne]
    refine h.old s fun k ok hk' hs' => ?_
    have := hs k ok hk' hs'
    unfold upd at this
    split at this
    · cases this
    · exact this
  · by_cases e : k = i
    · subst e
      rw [ho] at hk'; cases hk'
      rw [hs, Act.eval_put_same _ _ _ (by rw [h.size]; exact hin k o s ho hs)]
      exact hf
    · unfold upd at hdk
      rw [if_neg e] at hdk
      have hne : ∀ d, o.dst = some d → (Operand.tmp s) ≠ .tmp d := fun d hd' e2 => by
        cases e2
        exact e (hdst k i ok o s hk' ho hs hd')
      rw [Act.eval_put hne]
      exact hk k hdk _ (h.fact k ok s hk' hs hdk)

theorem wpAny_facts (hg : ∀ (i : Nat) (o : Oper), ops[i]? = some o → o.guard = none) (hdst : ∀ (i j : Nat) (oi oj : Oper) (s : Nat), ops[i]? = some oi → ops[j]? = some oj → oi.dst = some s → oj.dst = some s → i = j) (hin : ∀ (i : Nat) (o : Oper) (s : Nat), ops[i]? = some o → o.dst = some s → s < a0.tmps.size)
    (hlt : ∀ (i : Nat) (o : Oper), ops[i]? = some o → ∀ j ∈ Region.preds o, j < i)
    (step : ∀ (i : Nat) (o : Oper), ops[i]? = some o → ∀ (done : Nat → Bool) (a : Act) (w : World), Held ops Fact Wd a0 done a w → done i = false → (∀ j ∈ Region.preds o, done j = true) → ∀ K : Act → World → Prop,
      (∀ (v : Value) (w' : World), Fact i v w' → Wd (upd done i) w' → (∀ j, done j = true → ∀ u, Fact j u w → Fact j u w') → K (a.put o.dst v) w') → Oper.wp P o a w K Q)
    (fin : ∀ (done : Nat → Bool) (a : Act) (w : World), (∀ i, i < ops.size → done i = true) → Held ops Fact Wd a0 done a w → Q .normal a w) :
    ∀ (fuel : Nat) (listed : Array Bool) (a : Act) (w : World), listed.size = ops.size → Held ops Fact Wd a0 (dn listed) a w → (unl ops (dn listed)).length ≤ fuel → wpAny P .any ops Q fuel listed a w
  | 0, listed, a, w, hs, h, hf => by
    have hd : ∀ i, i < ops.size → dn listed i = true := fun i hi => by
      cases hd : dn listed i with
      | true => rfl
      | false =>
        have : i ∈ unl ops (dn listed) := List.mem_filter.2 ⟨List.mem_range.2 hi, by simp [hd]⟩
        have hz : unl ops (dn listed) = [] := List.eq_nil_of_length_eq_zero (by omega)
        rw [hz] at this
        cases this
    refine ⟨?_, fin _ a w hd h⟩
    cases hr : Region.ready .any ops listed with
    | nil => rfl
    | cons i r =>
      obtain ⟨o, ho, h1, _⟩ := mem_ready' rfl hs (show i ∈ Region.ready .any ops listed by rw [hr]; simp)
      rw [hd i (Array.getElem?_eq_some_iff.1 ho).1] at h1
      cases h1
  | fuel + 1, listed, a, w, hs, h, hf => by
    refine ⟨fun hr => fin _ a w (all_done hs hlt hr) h, fun i hi => ?_⟩
    obtain ⟨o, ho, h1, h2⟩ := mem_ready' rfl hs hi
    have hio := (Array.getElem?_eq_some_iff.1 ho).1
    unfold wpOp
    simp only [ho]
    have hw : Region.wanted o (yielded ops a.tmps) = true := by simp [Region.wanted, hg i o ho]
    rw [if_pos hw]
    refine .inl (step i o ho _ a w h h1 h2 _ fun v w' hf' hw' hk => ?_)
    refine wpAny_facts hg hdst hin hlt step fin fuel _ _ _ (by simpa using hs) ?_ ?_
    · rw [dn_set (by omega)]
      exact h.put ho h1 h2 hdst hin hf' hw' hk
    · rw [dn_set (by omega)]
      have := unl_lt (ops := ops) hio h1
      omega

theorem Held.same {done : Nat → Bool} {a : Act} {w : World} (h : Held ops Fact Wd a0 done a w) {s : Nat} (hs : s ∉ ops.toList.filterMap (·.dst)) : a.eval (.tmp s) = a0.eval (.tmp s) :=
  h.old s fun k ok hk he => absurd (List.mem_filterMap.2 ⟨ok, by rw [← Array.getElem?_toList] at hk; exact List.mem_of_getElem? hk, he⟩) hs
theorem Held.slot {done : Nat → Bool} {a : Act} {w : World} (h : Held ops Fact Wd a0 done a w) (hdst : ∀ (i j : Nat) (oi oj : Oper) (s : Nat), ops[i]? = some oi → ops[j]? = some oj → oi.dst = some s → oj.dst = some s → i = j) {i : Nat} {o : Oper} {s : Nat} (ho : ops[i]? = some o) (hs : o.dst = some s) (hd : done i = false) : a.eval (.tmp s) = a0.eval (.tmp s) :=
  h.old s fun k ok hk he => by
    have := hdst k i ok o s hk ho he hs
    subst this
    exact hd

def factsB (xs : List Oper) (n : Nat) : Bool :=
  (xs.all fun o => o.guard.isNone) && decide ((xs.filterMap (·.dst)).Nodup) && (xs.all fun o => match o.dst with | some s => decide (s < n) | none => true) && ((List.range xs.length).all fun i => match xs[i]? with | some o => (Region.preds o).all fun j => decide (j < i) | none => true)

theorem nodup_dst : ∀ {xs : List Oper}, (xs.filterMap (·.dst)).Nodup → ∀ (i j : Nat) (oi oj : Oper) (s : Nat), xs[i]? = some oi → xs[j]? = some oj → oi.dst = some s → oj.dst = some s → i = j
  | [], _, i, _, _, _, _, h, _, _, _ => by simp at h
  | o :: xs, hn, i, j, oi, oj, s, hi, hj, h1, h2 => by
    rw [List.filterMap_cons] at hn
    have hsub : (xs.filterMap (·.dst)).Nodup := by
      cases hd : o.dst with
      | none => simpa [hd] using hn
      | some d => simp [hd] at hn; exact hn.2
    have hmem : ∀ (k : Nat) (ok : Oper), xs[k]? = some ok → ok.dst = some s → s ∈ xs.filterMap (·.dst) := fun k ok hk he => List.mem_filterMap.2 ⟨ok, List.mem_of_getElem? hk, he⟩
    cases i with
    | zero =>
      cases j with
      | zero => rfl
      | succ j =>
        simp at hi hj
        subst hi
        rw [h1] at hn
        simp at hn
        exact absurd (hmem j oj hj h2) (by simpa using hn.1)
    | succ i =>
      cases j with
      | zero =>
        simp at hi hj
        subst hj
        rw [h2] at hn
        simp at hn
        exact absurd (hmem i oi hi h1) (by simpa using hn.1)
      | succ j =>
        simp at hi hj
        rw [nodup_dst hsub i j oi oj s hi hj h1 h2]

theorem wp_region_facts {id : Nat} {xs : List Oper} {w : World} (hm : P.follows .mixedOrders = true) (n : Nat) (hn : a0.tmps.size = n) (hB : factsB xs n = true)
    (Fact : Nat → Value → World → Prop) (Wd : (Nat → Bool) → World → Prop) (h0 : Wd (fun _ => false) w.drew)
    (step : ∀ (i : Nat) (o : Oper), xs[i]? = some o → ∀ (done : Nat → Bool) (a : Act) (w : World), Held xs.toArray Fact Wd a0 done a w → done i = false → (∀ j ∈ Region.preds o, done j = true) → ∀ K : Act → World → Prop,
      (∀ (v : Value) (w' : World), Fact i v w' → Wd (upd done i) w' → (∀ j, done j = true → ∀ u, Fact j u w → Fact j u w') → K (a.put o.dst v) w') → Oper.wp P o a w K Q)
    (fin : ∀ (done : Nat → Bool) (a : Act) (w : World), (∀ i, i < xs.length → done i = true) → Held xs.toArray Fact Wd a0 done a w → Q .normal a w) : (Code.region id xs.toArray true).wp P Q a0 w := by
  unfold factsB at hB
  rw [Bool.and_eq_true, Bool.and_eq_true, Bool.and_eq_true] at hB
  obtain ⟨⟨⟨h1, h2⟩, h3⟩, h4⟩ := hB
  refine wp_region_any hm ?_
  have e0 : dn (Array.replicate xs.toArray.size false) = fun _ => false := by
    funext i
    unfold dn
    rw [Array.getD_eq_getD_getElem?, Array.getElem?_replicate]
    split <;> rfl
  refine wpAny_facts (Fact := Fact) (Wd := Wd) (a0 := a0) (fun i o ho => ?_) (fun i j oi oj s hi hj => nodup_dst (of_decide_eq_true h2) i j oi oj s (by simpa using hi) (by simpa using hj)) (fun i o s ho hs => ?_) (fun i o ho j hj => ?_)
    (fun i o ho => step i o (by simpa using ho)) (fun done a w hd => fin done a w (by simpa using hd)) _ _ _ _ (by simp) ?_ ?_
  · have := List.all_eq_true.1 h1 o (List.mem_of_getElem? (by simpa using ho))
    simpa using this
  · have := List.all_eq_true.1 h3 o (List.mem_of_getElem? (by simpa using ho))
    rw [hs] at this
    rw [hn]
    simpa using this
  · have ho' : xs[i]? = some o := by simpa using ho
    have := List.all_eq_true.1 h4 i (List.mem_range.2 (List.getElem?_eq_some_iff.1 ho').1)
    rw [ho'] at this
    have := List.all_eq_true.1 this j hj
    simpa using this
  · rw [e0]
    exact ⟨h0, rfl, rfl, (fun i o _ h => by cases h), (fun s _ => rfl), (fun i o s _ _ h => by cases h)⟩
  · have : (unl xs.toArray (dn (Array.replicate xs.toArray.size false))).length ≤ (List.range xs.toArray.size).length := List.length_filter_le _ _
    simpa using this
end
end Go
end

section
namespace Go

structure HeldG (ops : Array Oper) (Fact : (Nat → Bool) → Nat → Value → World → Prop) (Wd : (Nat → Bool) → Act → World → Prop) (a0 : Act) (done : Nat → Bool) (a : Act) (w : World) : Prop where
  wd : Wd done a w
  size : a.tmps.size = a0.tmps.size
  defers : a.defers = a0.defers
  closed : ∀ i o, ops[i]? = some o → done i = true → ∀ j ∈ Region.preds o, done j = true
  old : ∀ s, (∀ i o, ops[i]? = some o → o.dst = some s → done i = false) → a.eval (.tmp s) = a0.eval (.tmp s)
  fact : ∀ (i : Nat) (o : Oper) (s : Nat), ops[i]? = some o → o.dst = some s → done i = true → Fact done i (a.eval (.tmp s)) w

section
variable {P : Program} {ops : Array Oper} {Q : Exit → Act → World → Prop} {Fact : (Nat → Bool) → Nat → Value → World → Prop} {Wd : (Nat → Bool) → Act → World → Prop} {a0 : Act}

theorem HeldG.put {done : Nat → Bool} {a : Act} {w w' : World} {i : Nat} {o : Oper} {v : Value} (h : HeldG ops Fact Wd a0 done a w) (ho : ops[i]? = some o) (hd : done i = false) (hp : ∀ j ∈ Region.preds o, done j = true)
    (hdst : ∀ (i j : Nat) (oi oj : Oper) (s : Nat), ops[i]? = some oi → ops[j]? = some oj → oi.dst = some s → oj.dst = some s → i = j) (hin : ∀ (i : Nat) (o : Oper) (s : Nat), ops[i]? = some o → o.dst = some s → s < a0.tmps.size)
    (hf : Fact (upd done i) i v w') (hw : Wd (upd done i) (a.put o.dst v) w') (hk : ∀ (j : Nat) (oj : Oper) (s : Nat), ops[j]? = some oj → oj.dst = some s → done j = true → Fact done j (a.eval (.tmp s)) w → Fact (upd done i) j (a.eval (.tmp s)) w') : HeldG ops Fact Wd a0 (upd done i) (a.put o.dst v) w' := by
  refine ⟨hw, ?_, ?_, fun k ok hk' hdk j hj => ?_, fun s hs => ?_, fun k ok s hk' hs hdk => ?_⟩
  · rw [← h.size]; unfold Act.put; split <;> simp
  · rw [← h.defers]; unfold Act.put; split <;> rfl
  · unfold upd at hdk ⊢
    by_cases e : j = i
    · rw [if_pos e]
    · rw [if_neg e]
      by_cases e2 : k = i
      · subst e2
        rw [ho] at hk'; cases hk'
        exact hp j hj
      · rw [if_neg e2] at hdk
        exact h.closed k ok hk' hdk j hj
  · have hne : ∀ d, o.dst = some d → (Operand.tmp s) ≠ .tmp d := fun d hd' e => by
      cases e
      have := hs i o ho hd'
      simp [upd] at this
    rw [Act.eval_put hne]
    refine h.old s fun k ok hk' hs' => ?_
    have := hs k ok hk' hs'
    unfold upd at this
    split at this
    · cases this
    · exact this
  · by_cases e : k = i
    · subst e
      rw [ho] at hk'; cases hk'
      rw [hs, Act.eval_put_same _ _ _ (by rw [h.size]; exact hin k o s ho hs)]
      exact hf
    · unfold upd at hdk
      rw [if_neg e] at hdk
      have hne : ∀ d, o.dst = some d → (Operand.tmp s) ≠ .tmp d := fun d hd' e2 => by
        cases e2
        exact e (hdst k i ok o s hk' ho hs hd')
      rw [Act.eval_put hne]
      exact hk k ok s hk' hs hdk (h.fact k ok s hk' hs hdk)

theorem wpAny_factsG (hdst : ∀ (i j : Nat) (oi oj : Oper) (s : Nat), ops[i]? = some oi → ops[j]? = some oj → oi.dst = some s → oj.dst = some s → i = j) (hin : ∀ (i : Nat) (o : Oper) (s : Nat), ops[i]? = some o → o.dst = some s → s < a0.tmps.size)
    (hlt : ∀ (i : Nat) (o : Oper), ops[i]? = some o → ∀ j ∈ Region.preds o, j < i)
    (step : ∀ (i : Nat) (o : Oper), ops[i]? = some o → ∀ (done : Nat → Bool) (a : Act) (w : World), HeldG ops Fact Wd a0 done a w → done i = false → (∀ j ∈ Region.preds o, done j = true) → ∀ K : Act → World → Prop,
      (∀ (v : Value) (w' : World), Fact (upd done i) i v w' → Wd (upd done i) (a.put o.dst v) w' → (∀ (j : Nat) (oj : Oper) (s : Nat), ops[j]? = some oj → oj.dst = some s → done j = true → Fact done j (a.eval (.tmp s)) w → Fact (upd done i) j (a.eval (.tmp s)) w') → K (a.put o.dst v) w') → if Region.wanted o (yielded ops a.tmps) = true then Oper.wp P o a w K Q else K (a.put o.dst undef) w)
    (fin : ∀ (done : Nat → Bool) (a : Act) (w : World), (∀ i, i < ops.size → done i = true) → HeldG ops Fact Wd a0 done a w → Q .normal a w) :
    ∀ (fuel : Nat) (listed : Array Bool) (a : Act) (w : World), listed.size = ops.size → HeldG ops Fact Wd a0 (dn listed) a w → (unl ops (dn listed)).length ≤ fuel → wpAny P .any ops Q fuel listed a w
  | 0, listed, a, w, hs, h, hf => by
    have hd : ∀ i, i < ops.size → dn listed i = true := fun i hi => by
      cases hd : dn listed i with
      | true => rfl
      | false =>
        have : i ∈ unl ops (dn listed) := List.mem_filter.2 ⟨List.mem_range.2 hi, by simp [hd]⟩
        have hz : unl ops (dn listed) = [] := List.eq_nil_of_length_eq_zero (by omega)
        rw [hz] at this
        cases this
    refine ⟨?_, fin _ a w hd h⟩
    cases hr : Region.ready .any ops listed with
    | nil => rfl
    | cons i r =>
      obtain ⟨o, ho, h1, _⟩ := mem_ready' rfl hs (show i ∈ Region.ready .any ops listed by rw [hr]; simp)
      rw [hd i (Array.getElem?_eq_some_iff.1 ho).1] at h1
      cases h1
  | fuel + 1, listed, a, w, hs, h, hf => by
    refine ⟨fun hr => fin _ a w (all_done hs hlt hr) h, fun i hi => ?_⟩
    obtain ⟨o, ho, h1, h2⟩ := mem_ready' rfl hs hi
    have hio := (Array.getElem?_eq_some_iff.1 ho).1
    unfold wpOp
    simp only [ho]
    have hst := step i o ho _ a w h h1 h2 (wpAny P .any ops Q fuel (listed.setIfInBounds i true)) fun v w' hf' hw' hk => by
      refine wpAny_factsG hdst hin hlt step fin fuel _ _ _ (by simpa using hs) ?_ ?_
      · rw [dn_set (by omega)]
        exact h.put ho h1 h2 hdst hin hf' hw' hk
      · rw [dn_set (by omega)]
        have := unl_lt (ops := ops) hio h1
        omega
    by_cases hw : Region.wanted o (yielded ops a.tmps) = true
    · rw [if_pos hw] at hst ⊢
      exact .inl hst
    · rw [if_neg hw] at hst ⊢
      exact hst

theorem HeldG.same {done : Nat → Bool} {a : Act} {w : World} (h : HeldG ops Fact Wd a0 done a w) {s : Nat} (hs : s ∉ ops.toList.filterMap (·.dst)) : a.eval (.tmp s) = a0.eval (.tmp s) :=
  h.old s fun k ok hk he => absurd (List.mem_filterMap.2 ⟨ok, by rw [← Array.getElem?_toList] at hk; exact List.mem_of_getElem? hk, he⟩) hs
theorem HeldG.slot {done : Nat → Bool} {a : Act} {w : World} (h : HeldG ops Fact Wd a0 done a w) (hdst : ∀ (i j : Nat) (oi oj : Oper) (s : Nat), ops[i]? = some oi → ops[j]? = some oj → oi.dst = some s → oj.dst = some s → i = j) {i : Nat} {o : Oper} {s : Nat} (ho : ops[i]? = some o) (hs : o.dst = some s) (hd : done i = false) : a.eval (.tmp s) = a0.eval (.tmp s) :=
  h.old s fun k ok hk he => by
    have := hdst k i ok o s hk ho he hs
    subst this
    exact hd

def factsGB (xs : List Oper) (n : Nat) : Bool :=
  decide ((xs.filterMap (·.dst)).Nodup) && (xs.all fun o => match o.dst with | some s => decide (s < n) | none => true) && ((List.range xs.length).all fun i => match xs[i]? with | some o => (Region.preds o).all fun j => decide (j < i) | none => true)

theorem wp_region_factsG {id : Nat} {xs : List Oper} {w : World} (hm : P.follows .mixedOrders = true) (n : Nat) (hn : a0.tmps.size = n) (hB : factsGB xs n = true)
    (Fact : (Nat → Bool) → Nat → Value → World → Prop) (Wd : (Nat → Bool) → Act → World → Prop) (h0 : Wd (fun _ => false) a0 w.drew)
    (step : ∀ (i : Nat) (o : Oper), xs[i]? = some o → ∀ (done : Nat → Bool) (a : Act) (w : World), HeldG xs.toArray Fact Wd a0 done a w → done i = false → (∀ j ∈ Region.preds o, done j = true) → ∀ K : Act → World → Prop,
      (∀ (v : Value) (w' : World), Fact (upd done i) i v w' → Wd (upd done i) (a.put o.dst v) w' → (∀ (j : Nat) (oj : Oper) (s : Nat), xs[j]? = some oj → oj.dst = some s → done j = true → Fact done j (a.eval (.tmp s)) w → Fact (upd done i) j (a.eval (.tmp s)) w') → K (a.put o.dst v) w') → if Region.wanted o (yielded xs.toArray a.tmps) = true then Oper.wp P o a w K Q else K (a.put o.dst undef) w)
    (fin : ∀ (done : Nat → Bool) (a : Act) (w : World), (∀ i, i < xs.length → done i = true) → HeldG xs.toArray Fact Wd a0 done a w → Q .normal a w) : (Code.region id xs.toArray true).wp P Q a0 w := by
  unfold factsGB at hB
  rw [Bool.and_eq_true, Bool.and_eq_true] at hB
  obtain ⟨⟨h2, h3⟩, h4⟩ := hB
  refine wp_region_any hm ?_
  have e0 : dn (Array.replicate xs.toArray.size false) = fun _ => false := by
    funext i
    unfold dn
    rw [Array.getD_eq_getD_getElem?, Array.getElem?_replicate]
    split <;> rfl
  refine wpAny_factsG (Fact := Fact) (Wd := Wd) (a0 := a0) (fun i j oi oj s hi hj => nodup_dst (of_decide_eq_true h2) i j oi oj s (by simpa using hi) (by simpa using hj)) (fun i o s ho hs => ?_) (fun i o ho j hj => ?_)
    (fun i o ho done a w h hd hp K hK => step i o (by simpa using ho) done a w h hd hp K (fun v w' h1 h2 h3 => hK v w' h1 h2 (fun j oj s hj => h3 j oj s (by simpa using hj)))) (fun done a w hd => fin done a w (by simpa using hd)) _ _ _ _ (by simp) ?_ ?_
  · have := List.all_eq_true.1 h3 o (List.mem_of_getElem? (by simpa using ho))
    rw [hs] at this
    rw [hn]
    simpa using this
  · have ho' : xs[i]? = some o := by simpa using ho
    have := List.all_eq_true.1 h4 i (List.mem_range.2 (List.getElem?_eq_some_iff.1 ho').1)
    rw [ho'] at this
    have := List.all_eq_true.1 this j hj
    simpa using this
  · rw [e0]
    exact ⟨h0, rfl, rfl, (fun i o _ h => by cases h), (fun s _ => rfl), (fun i o s _ _ h => by cases h)⟩
  · have : (unl xs.toArray (dn (Array.replicate xs.toArray.size false))).length ≤ (List.range xs.toArray.size).length := List.length_filter_le _ _
    simpa using this
end
end Go
end

section
namespace Go.Proofs
open Go.RowKit

structure Kept3 (B : Nat) (W W' : World) : Prop where
  size : W.heap.size ≤ W'.heap.size
  same : ∀ j, B ≤ j → j ≤ B + 2 → W'.heap[j]? = W.heap[j]?
theorem Kept3.trans {B : Nat} {W W' W'' : World} (h : Kept3 B W W') (k : Kept3 B W' W'') : Kept3 B W W'' := ⟨Nat.le_trans h.size k.size, fun j h1 h2 => (k.same j h1 h2).trans (h.same j h1 h2)⟩
theorem Kept3.of_aft {B : Nat} {W W' : World} (h : Aft W W') (hB : B + 3 ≤ W.heap.size) : Kept3 B W W' := ⟨h.size, fun j _ h2 => h.below.block j (by omega)⟩
theorem Kept3.of_grown {B : Nat} {W W' : World} {row : Option Nat} (h : W.grownBy W' row) (hB : B + 3 ≤ W.heap.size) (hr : ∀ k, row = some k → k < B ∨ B + 3 ≤ k) : Kept3 B W W' :=
  ⟨h.size, fun j h1 h2 => h.block j (by omega) (fun e => by have := hr j e.symm; omega)⟩

theorem Kept3.setCell {B : Nat} {W W' : World} (h : Kept3 B W W') {p : Addr} (hp : p.block < B ∨ B + 3 ≤ p.block) (v : Value) : Kept3 B W (W'.setCell p v) :=
  ⟨by have := h.size; simpa [World.setCell] using this, fun j h1 h2 => (Below.heap_setCell W' p v j (by omega)).trans (h.same j h1 h2)⟩
theorem own_kept {w w' : World} {base : Nat} {e : TypeId} {size : Nat} {v : Value} {n : Nat} {xs : List Value} (h : w.ownsRow base e size v n xs) {r : Nat} (hg : w.grownBy w' (some r)) (hr : r < base) : w'.ownsRow base e size v n xs :=
  h.kept hg (by
    cases hb : v.ownBlock with
    | none => exact .inl rfl
    | some g => exact .inr fun e => by cases e; have := own_ge h _ hb; omega)

def Three {β : Type} (B : Nat) (I : β → World → Prop) : Prop := ∀ s W W' r, I s W → W.grownBy W' (some r) → B ≤ r → r ≤ B + 2 → I s W'

def post3 (B : Nat) (I : Nat → World → Prop) (Ix : Code → World → Prop) (k : Nat) (W : World) : Exit → Act → World → Prop
  | .normal, _, W' => Kept3 B W W' ∧ I k W'
  | .ret, _, W' => Kept3 B W W' ∧ Ix .ret W'
  | .exit id, _, W' => Kept3 B W W' ∧ Ix (.exit id) W'
  | .goto t, _, W' => Kept3 B W W' ∧ Ix (.goto t) W'
  | .panic _, _, _ => False
  | .outgrown, _, _ => False

def IterOk (n : Nat) (gf : Nat) (lb : Array Value) (B N : Nat) (Gv : Nat → World → World → Value → Prop) (Rep : World → Prop) : Prop :=
  ∀ (l : Nat) (J : Nat → World → Prop) (Jx : World → Prop) (W : World), W.heap.size = B + 2 → (∀ k W W', J k W → W.grownBy W' (some (B + 2)) → J k W') → (∀ k W, J k W → Rep W) →
    (∀ k v W0 W1, k < N → J k W0 → Aft W0 W1 → B + 3 ≤ W0.heap.size → Gv k W0 W1 v → YieldAt Fence.wide (n - 1) Tryz.prog l #[v] W1 fun e W' =>
      (e = .returned (.bool true) ∧ J (k + 1) W' ∧ W'.heap[B + 2]? = W1.heap[B + 2]? ∧ W1.heap.size ≤ W'.heap.size) ∨ (e = .returned (.bool false) ∧ Jx W')) →
    J 0 W →
    CallsIn Fence.wide n Tryz.prog gf (#[.func (.yield l) #[] #[]] ++ lb) W fun e W' => (∃ v, e = .returned v) ∧ (J N W' ∨ Jx W')

theorem below_put {W W' : World} {l : Nat} (h : Below W.heap.size W W') (hl : l < W.heap.size) (o : Obj) : Below (W.putObj l o).heap.size (W.putObj l o) (W'.putObj l o) := by
  have hs := h.size
  refine ⟨h.os, h.tape, h.output, by simpa [World.putObj] using hs, fun k hk => ?_⟩
  have hk' : k < W.heap.size := by simpa [World.putObj] using hk
  by_cases e : k = l
  · subst e
    rw [World.putObj_heap_same (by omega), World.putObj_heap_same hl]
  · rw [World.putObj_heap_other e, World.putObj_heap_other e]
    exact h.block k hk'

theorem wpIn_range3 {g : Operand} {p : Tmp} {assign body : Code} {Q : Exit → Act → World → Prop} {a : Act} {w : World} {n : Nat} {gf : Nat} {lb : Array Value} (hg : a.eval g = .func (.func gf) #[] lb) (eg : ∀ args w, (callFunc gf args).run Tryz.prog w = .ok (.enter gf args) w)
    {N : Nat} {Gv : Nat → World → World → Value → Prop} {Rep : World → Prop} (hseq : IterOk (n - 1) gf lb w.heap.size N Gv Rep)
    (hGv : ∀ k W0 W v (r : Nat) (o : Obj), Gv k W0 W v → r < W0.heap.size → Gv k (W0.putObj r o) (W.putObj r o) v)
    (I : Nat → World → Prop) (Ix : Code → World → Prop) (hI : Three w.heap.size I) (hIx : ∀ c, Three w.heap.size (fun (_ : Unit) => Ix c)) (hrep : ∀ k W, I k W → Rep W) (h0 : I 0 w) (a₁ : Value → Act)
    (hassign : ∀ (l : Nat) (v : Value) (W : World) (K : Act → World → Prop), K (a₁ v) W →
      assign.wpIn (Fence.wide.inRound l) (n - 1 - 1) Tryz.prog (Exit.then K (fun _ _ _ => False)) { tmps := a.tmps.setIfInBounds p v, defers := [] } W)
    (hbody : ∀ (l k : Nat) (v : Value) (W0 W : World), k < N → I k W0 → Aft W0 W → w.heap.size + 3 ≤ W0.heap.size → Gv k W0 W v → body.wpIn (Fence.wide.inRound l) (n - 1 - 1) Tryz.prog (post3 w.heap.size I Ix (k + 1) W) (a₁ v) W)
    (hdone : ∀ (D : Nat) (W : World), w.heap.size = D → I N W → W.heap[D]? = some (.deferred (some [])) → Q .normal { a with defers := { target := .collected D, args := #[] } :: a.defers } W)
    (hstop : ∀ (D : Nat) (c : Code) (W : World), w.heap.size = D → Ix c W → W.heap[D]? = some (.deferred (some [])) → c.wpIn Fence.wide n Tryz.prog Q { a with defers := { target := .collected D, args := #[] } :: a.defers } W) :
    (Code.rangeFunc g #[p] assign body).wpIn Fence.wide n Tryz.prog Q a w := by
  refine wpIn_rangeFunc ?_
  intro fn hfn
  obtain ⟨rec, hrec⟩ : ∃ rec : LoopState → Option Code → Loop, rec = fun st pe => { state := st, pending := pe, fn, tmps := a.tmps, params := #[p], assign, body, defers := w.heap.size } := ⟨_, rfl⟩
  obtain ⟨W1, hW1⟩ : ∃ W1, (w.alloc (.deferred (some []))).alloc (.loop (rec .ready none)) = W1 := ⟨_, rfl⟩
  have hL1 : W1.heap[w.heap.size + 1]? = some (.loop (rec .ready none)) := by
    rw [← hW1]; have := World.alloc_heap_new (w.alloc (.deferred (some []))) (.loop (rec .ready none)); rwa [World.size_alloc] at this
  have hK1 : W1.heap[w.heap.size]? = some (.deferred (some [])) := by
    rw [← hW1]; exact (Below.heap_alloc _ _ _ (by simp)).trans (World.alloc_heap_new w _)
  have hs1 : W1.heap.size = w.heap.size + 2 := by rw [← hW1]; simp
  have hI1 : I 0 W1 := by
    have := only_of_aft ((Aft.alloc w (.deferred (some []))).then_alloc (.loop (rec .ready none))) (some w.heap.size)
    rw [hW1] at this
    exact hI _ _ _ _ h0 this (Nat.le_refl _) (by omega)
  refine ⟨w.heap.size + 1, [{ target := .collected w.heap.size, args := #[] }], W1, { target := .fn (.func gf) lb, args := #[.func (.yield (w.heap.size + 1)) #[] #[]] }, W1, gf,
    #[.func (.yield (w.heap.size + 1)) #[] #[]] ++ lb, W1, ?_, ?_, ?_, ?_, (fun h => by cases h), ?_⟩
  · rw [← hW1, hrec]; exact run_enterLoop_outer _ _ _ _ _
  · simp only [resolve, hg]
    simp [go_sem]
  · intro f' hf'; trivial
  · simp [invoke, go_sem, eg]
  · refine (hseq (w.heap.size + 1)
      (fun k W => I k W ∧ W.heap[w.heap.size + 1]? = some (.loop (rec .ready none)) ∧ W.heap[w.heap.size]? = some (.deferred (some [])))
      (fun W => ∃ c, Ix c W ∧ W.heap[w.heap.size + 1]? = some (.loop (rec .done (some c))) ∧ W.heap[w.heap.size]? = some (.deferred (some [])))
      W1 hs1 ?_ (fun k W h => hrep k W h.1) ?_ ⟨hI1, hL1, hK1⟩).mono ?_
    · rintro k W W' ⟨hi, hl, hk⟩ hg'
      have hl1 := (Array.getElem?_eq_some_iff.1 hl).1
      have hl0 := (Array.getElem?_eq_some_iff.1 hk).1
      exact ⟨hI _ _ _ _ hi hg' (by omega) (Nat.le_refl _), (hg'.block _ hl1 (by simp)).trans hl, (hg'.block _ hl0 (by simp)).trans hk⟩
    · rintro k v W0 W hkN ⟨hi, hl', hk'⟩ ha hB hgv
      have hl : W.heap[w.heap.size + 1]? = some (.loop (rec .ready none)) := (ha.below.block _ (by omega)).trans hl'
      have hk : W.heap[w.heap.size]? = some (.deferred (some [])) := (ha.below.block _ (by omega)).trans hk'
      have hlt : w.heap.size + 1 < W.heap.size := (Array.getElem?_eq_some_iff.1 hl).1
      have hy := run_yield (P := Tryz.prog) (args := #[v]) hl (by rw [hrec]; rfl)
      rw [hrec] at hy
      have hz : ((#[p] : Array Tmp).zip #[v]).foldl (fun tmps (t, a) => tmps.setIfInBounds t a) a.tmps = a.tmps.setIfInBounds p v := by simp
      dsimp only at hy
      rw [hz] at hy
      refine ⟨fn, _, assign, body, hy, ?_⟩
      refine roundIn_of_wpIn hfn ?_
      refine hassign _ v W _ ?_
      refine ⟨_, run_beginRound hl (by rw [hrec]), ?_⟩
      have hl2 : (W.putObj (w.heap.size + 1) (.loop { rec .ready none with state := .busy })).heap[w.heap.size + 1]? = some (.loop { rec .ready none with state := .busy }) := World.putObj_heap_same hlt
      have hk2 : (W.putObj (w.heap.size + 1) (.loop { rec .ready none with state := .busy })).heap[w.heap.size]? = some (.deferred (some [])) := (World.putObj_heap_other (by omega)).trans hk
      have hsz2 : (W.putObj (w.heap.size + 1) (.loop { rec .ready none with state := .busy })).heap.size = W.heap.size := by simp [World.putObj]
      refine wpIn_mono (hbody _ k v (W0.putObj (w.heap.size + 1) (.loop { rec .ready none with state := .busy })) _ hkN (hI _ _ _ _ hi (grownBy_putObj' _ _ _) (by omega) (by omega)) (Aft.of_below (below_put ha.below (by omega) _)) (by simpa [World.putObj] using hB) (hGv _ _ _ _ _ _ hgv (by omega))) ?_
      have fin : ∀ (jump : Option Code) (W3 : World), Kept3 w.heap.size (W.putObj (w.heap.size + 1) (.loop { rec .ready none with state := .busy })) W3 →
          (Instr.endRound (w.heap.size + 1) jump).run Tryz.prog W3 = .ok (.bool jump.isNone) (W3.putObj (w.heap.size + 1) (.loop (rec (if jump.isNone then .ready else .done) jump))) ∧
          (W3.putObj (w.heap.size + 1) (.loop (rec (if jump.isNone then .ready else .done) jump))).heap[w.heap.size + 1]? = some (.loop (rec (if jump.isNone then .ready else .done) jump)) ∧
          (W3.putObj (w.heap.size + 1) (.loop (rec (if jump.isNone then .ready else .done) jump))).heap[w.heap.size]? = some (.deferred (some [])) ∧
          (W3.putObj (w.heap.size + 1) (.loop (rec (if jump.isNone then .ready else .done) jump))).heap[w.heap.size + 2]? = W.heap[w.heap.size + 2]? ∧ W.heap.size ≤ (W3.putObj (w.heap.size + 1) (.loop (rec (if jump.isNone then .ready else .done) jump))).heap.size := fun jump W3 hk3 => by
        have hl3 := (hk3.same _ (by omega) (by omega)).trans hl2
        have := run_endRound (P := Tryz.prog) jump hl3
        rw [hrec] at this ⊢
        exact ⟨this, World.putObj_heap_same (Array.getElem?_eq_some_iff.1 hl3).1, (World.putObj_heap_other (by omega)).trans ((hk3.same _ (by omega) (by omega)).trans hk2), (World.putObj_heap_other (by omega)).trans ((hk3.same _ (by omega) (by omega)).trans (World.putObj_heap_other (by omega))), by have := hk3.size; simp [World.putObj] at this ⊢; exact this⟩
      rintro e a3 W3 hp
      cases e with
      | normal =>
        obtain ⟨hk3, hi3⟩ := hp
        obtain ⟨hr, hl4, hk4, h5, h6⟩ := fin none W3 hk3
        exact ⟨_, _, hr, .inl ⟨rfl, ⟨hI _ _ _ _ hi3 (grownBy_putObj' _ _ _) (by omega) (by omega), hl4, hk4⟩, h5, h6⟩⟩
      | ret =>
        obtain ⟨hk3, hi3⟩ := hp
        obtain ⟨hr, hl4, hk4, h5, h6⟩ := fin (some .ret) W3 hk3
        exact ⟨_, _, hr, .inr ⟨rfl, .ret, hIx _ () _ _ _ hi3 (grownBy_putObj' _ _ _) (by omega) (by omega), hl4, hk4⟩⟩
      | exit id =>
        obtain ⟨hk3, hi3⟩ := hp
        obtain ⟨hr, hl4, hk4, h5, h6⟩ := fin (some (.exit id)) W3 hk3
        exact ⟨_, _, hr, .inr ⟨rfl, .exit id, hIx _ () _ _ _ hi3 (grownBy_putObj' _ _ _) (by omega) (by omega), hl4, hk4⟩⟩
      | goto t =>
        obtain ⟨hk3, hi3⟩ := hp
        obtain ⟨hr, hl4, hk4, h5, h6⟩ := fin (some (.goto t)) W3 hk3
        exact ⟨_, _, hr, .inr ⟨rfl, .goto t, hIx _ () _ _ _ hi3 (grownBy_putObj' _ _ _) (by omega) (by omega), hl4, hk4⟩⟩
      | panic ch => exact hp.elim
      | outgrown => exact hp.elim
    · rintro e W2 ⟨⟨v, rfl⟩, (⟨hi, hl, hk⟩ | ⟨c, hi, hl, hk⟩)⟩
      · exact ⟨none, _, by have := run_endLoop (P := Tryz.prog) hl (by rw [hrec]; simp); rw [hrec] at this; exact this, hdone _ _ rfl (hI _ _ _ _ hi (grownBy_putObj' _ _ _) (by omega) (by omega)) ((World.putObj_heap_other (by omega)).trans hk)⟩
      · exact ⟨some c, _, by have := run_endLoop (P := Tryz.prog) hl (by rw [hrec]; simp); rw [hrec] at this; exact this, hstop _ c _ rfl (hIx c () _ _ _ hi (grownBy_putObj' _ _ _) (by omega) (by omega)) ((World.putObj_heap_other (by omega)).trans hk)⟩
end Go.Proofs
end

section
namespace Go
section
variable {P : Program} {ops : Array Oper} {Q : Exit → Act → World → Prop} {l n : Nat} {md : Region.Mode}

theorem Oper.in_round {o : Oper} {a : Act} {w : World} {K : Act → World → Prop} (hd : ∀ c, o.op ≠ .defer c) (h : o.wp P a w K Q) : o.wpIn (Fence.wide.inRound l) n P a w K Q := by
  unfold Oper.wpIn
  refine ⟨fun _ _ => trivial, ?_⟩
  show o.uponIn _ n P a K Q ((Oper.semAt (some l) a.eval o).run P w)
  rw [Oper.semAt_some l _ o hd]
  unfold Oper.wp at h
  generalize (execOp a.eval o).run P w = r at *
  cases r with
  | ok x w' =>
    cases x <;> simp only [Oper.upon, Oper.uponIn] at h ⊢
    case value u => exact h
    case skip => exact h
    case defer d => exact h
    case enter f args => exact ⟨(fun h => by cases h), CallsIn.inRound l (callsIn_wide.2 h)⟩
    case row r args =>
      refine ⟨(fun h => by cases h), fun c cs _ => ?_⟩
      obtain ⟨v, w2, h1, h2⟩ := h c cs
      exact ⟨v, w2, h1, stepsIn_wide.2 h2⟩
    all_goals exact h.elim
  | halt x w' => cases x <;> simp only [Oper.upon, Oper.uponIn] at h ⊢ <;> first | exact h | exact h.elim

def noDefers (l : List Oper) : Bool := l.all fun o => match o.op with | .defer _ => false | _ => true
theorem noDefers_at {l : List Oper} (h : noDefers l = true) {o : Oper} (ho : o ∈ l) : ∀ c, o.op ≠ .defer c := by
  intro c e
  have := List.all_eq_true.1 h o ho
  rw [e] at this
  cases this

theorem wpOp_in_round {i : Nat} {a : Act} {w : World} {K : Act → World → Prop} (hd : noDefers ops.toList = true) (hQ : ¬ LetsOut Q) (h : wpOp P ops Q i K a w) : wpOpIn (Fence.wide.inRound l) n P ops Q i K a w := by
  unfold wpOp at h
  unfold wpOpIn
  cases ho : ops[i]? with
  | none => simp only [ho] at h ⊢; exact h
  | some o =>
    simp only [ho] at h ⊢
    have hm : o ∈ ops.toList := by
      obtain ⟨hi, e⟩ := Array.getElem?_eq_some_iff.1 ho
      rw [← e]; exact Array.getElem_mem_toList hi
    split
    · rename_i hw
      rw [if_pos hw] at h
      exact Oper.in_round (noDefers_at hd hm) (h.resolve_right fun x => hQ x.2)
    · rename_i hw
      rw [if_neg hw] at h
      exact ⟨fun _ _ => trivial, h⟩

theorem wpAny_in_round (hd : noDefers ops.toList = true) (hQ : ¬ LetsOut Q) : ∀ (fuel : Nat) (listed : Array Bool) (a : Act) (w : World), wpAny P md ops Q fuel listed a w → wpAnyIn (Fence.wide.inRound l) n P md ops Q fuel listed a w
  | 0, _, _, _, h => h
  | fuel + 1, _, _, _, h => ⟨h.1, fun i hi => wpOpIn_mono (fun a w => wpAny_in_round hd hQ fuel _ a w) (wpOp_in_round hd hQ (h.2 i hi))⟩

theorem wpList_in_round (hQ : ¬ LetsOut Q) : ∀ (xs : List Oper) (a : Act) (w : World), noDefers xs = true → wpList P ops Q xs a w → wpListIn (Fence.wide.inRound l) n P ops Q xs a w
  | [], _, _, _, h => h
  | o :: rest, a, w, hd, h => by
    have hd' : noDefers rest = true := by
      unfold noDefers at hd ⊢
      rw [List.all_cons, Bool.and_eq_true] at hd
      exact hd.2
    unfold wpList at h
    unfold wpListIn
    split
    · rename_i hw
      rw [if_pos hw] at h
      exact Oper.wpIn_mono (fun a w => wpList_in_round hQ rest a w hd') (Oper.in_round (noDefers_at hd (by simp)) (h.resolve_right fun x => hQ x.2))
    · rename_i hw
      rw [if_neg hw] at h
      exact ⟨fun _ _ => trivial, wpList_in_round hQ rest _ _ hd' h⟩

theorem any_of_tail {a : Act} {w : World} {l : List Oper} (n : Nat) (hB : Region.lexTailB .any l.toArray n = true)
    (h : wpStill P l.toArray w (fun a' => wpList P l.toArray Q (l.drop n) a' w) (l.take n) a) : wpAny P .any l.toArray Q l.toArray.size (Array.replicate l.toArray.size false) a w := by
  simp only [Region.lexTailB, Bool.and_eq_true, decide_eq_true_eq] at hB
  obtain ⟨⟨⟨⟨hsel, hn⟩, hs⟩, hc⟩, hlex⟩ := hB
  have hn' : n < l.length := by simpa using hn
  have htl : (l.take n).length = n := by simp; omega
  have hdl : (l.drop n).length = l.toArray.size - n := by simp
  have inv0 : HeadInv .any l.toArray n (Array.replicate l.toArray.size false) :=
    ⟨by simp, fun j oj _ hl => (by rw [getD_replicate_false] at hl; cases hl), fun t _ ht => getD_in (by simpa using ht) (getD_replicate_false _ _)⟩
  have H := wpAnyL_lex (md := .any) (g := l.toArray.size - n) hsel hs hc hn (l.take n) 0 _ a (fun j hj => by
    have hj' : j < n := by rw [htl] at hj; exact hj
    simp [hj']) (by simpa using htl) inv0 (by rw [htl]; exact hlex) h
  have := wpAny_of_head (Q' := Q) (g := l.toArray.size - n) (fun listed a' hL => by
    have := wpAny_of_seq (md := .any) (Q' := Q) (l.drop n) n listed a' w (fun j => by simp [List.getElem?_drop]) (by rw [hdl]; exact hL.1) hL.2
    rwa [hdl] at this) _ _ _ H
  rw [htl, show n + (l.toArray.size - n) = l.toArray.size by omega] at this
  exact this

theorem wpIn_region_tail {id : Nat} {a : Act} {w : World} {xs : List Oper} (m : Nat) (hm : P.follows .mixedOrders = true) (hB : Region.lexTailB .any xs.toArray m = true) (hd : noDefers xs = true) (hQ : ¬ LetsOut Q)
    (h : wpQuiet P xs.toArray (fun w' => w' = w.drew) (fun a' => wpList P xs.toArray Q (xs.drop m) a' w.drew) (xs.take m) a) : (Code.region id xs.toArray true).wpIn (Fence.wide.inRound l) n P Q a w :=
  wpIn_region_any hm (wpAny_in_round (by simpa using hd) hQ _ _ _ _ (any_of_tail m hB (wpStill_of_quiet _ _ h)))
end
end Go
end

section
namespace Go

def putAll (a : Act) : List (Oper × Value) → Act
  | [] => a
  | (o, v) :: r => putAll (a.put o.dst v) r
theorem put_size (a : Act) (d : Option Tmp) (v : Value) : (a.put d v).tmps.size = a.tmps.size := by unfold Act.put; split <;> simp
theorem put_defers (a : Act) (d : Option Tmp) (v : Value) : (a.put d v).defers = a.defers := by unfold Act.put; split <;> rfl
theorem putAll_size : ∀ (l : List (Oper × Value)) (a : Act), (putAll a l).tmps.size = a.tmps.size
  | [], _ => rfl
  | (o, v) :: r, a => (putAll_size r _).trans (put_size a o.dst v)
theorem putAll_defers : ∀ (l : List (Oper × Value)) (a : Act), (putAll a l).defers = a.defers
  | [], _ => rfl
  | (o, v) :: r, a => (putAll_defers r _).trans (put_defers a o.dst v)
theorem putAll_old {s : Nat} : ∀ (l : List (Oper × Value)) (a : Act), (∀ x ∈ l, x.1.dst ≠ some s) → (putAll a l).eval (.tmp s) = a.eval (.tmp s)
  | [], _, _ => rfl
  | (o, v) :: r, a, h => by
    unfold putAll
    rw [putAll_old r _ fun x hx => h x (by simp [hx])]
    exact Act.eval_put fun d hd e => by cases e; exact h (o, v) (by simp) hd
theorem putAll_at {s : Nat} : ∀ (l : List (Oper × Value)) (a : Act) (i : Nat) (o : Oper) (v : Value), (l.filterMap (·.1.dst)).Nodup → l[i]? = some (o, v) → o.dst = some s → s < a.tmps.size → (putAll a l).eval (.tmp s) = v
  | [], _, i, _, _, _, h, _, _ => by simp at h
  | (o', v') :: r, a, 0, o, v, hn, h, hs, hlt => by
    simp at h
    obtain ⟨rfl, rfl⟩ := h
    unfold putAll
    rw [List.filterMap_cons] at hn
    simp only [hs] at hn
    rw [putAll_old r _ fun x hx e => (List.nodup_cons.1 hn).1 (List.mem_filterMap.2 ⟨x, hx, e⟩), hs]
    exact Act.eval_put_same _ _ _ hlt
  | (o', v') :: r, a, i + 1, o, v, hn, h, hs, hlt => by
    unfold putAll
    refine putAll_at r _ i o v ?_ (by simpa using h) hs (by rw [put_size]; exact hlt)
    rw [List.filterMap_cons] at hn
    cases hd : o'.dst with
    | none => simpa [hd] using hn
    | some d => simp only [hd] at hn; exact (List.nodup_cons.1 hn).2
theorem act_ext {a b : Act} (h1 : a.tmps.size = b.tmps.size) (h2 : a.defers = b.defers) (h3 : ∀ s : Nat, a.eval (.tmp s) = b.eval (.tmp s)) : a = b := by
  obtain ⟨t, d⟩ := a
  obtain ⟨t', d'⟩ := b
  cases h2
  rw [Act.mk.injEq]
  refine ⟨Array.ext h1 fun i hi hi' => ?_, rfl⟩
  have := h3 i
  simp only [Act.eval, Array.getD_eq_getD_getElem?] at this
  rw [Array.getElem?_eq_getElem hi, Array.getElem?_eq_getElem hi'] at this
  exact this

section
variable {P : Program} {Q : Exit → Act → World → Prop} {a0 : Act}

theorem held_putAll {xs : List Oper} {vals : List Value} {Wd : (Nat → Bool) → World → Prop} {done : Nat → Bool} {a : Act} {w : World} (hl : xs.length = vals.length) (hn : (xs.filterMap (·.dst)).Nodup) (hin : ∀ o ∈ xs, ∀ s, o.dst = some s → s < a0.tmps.size)
    (hd : ∀ i, i < xs.length → done i = true) (h : Held xs.toArray (fun i v _ => vals[i]? = some v) Wd a0 done a w) : a = putAll a0 (xs.zip vals) := by
  have hz : (xs.zip vals).map (·.1) = xs := by rw [List.map_fst_zip]; omega
  have hfm : (xs.zip vals).filterMap (·.1.dst) = xs.filterMap (·.dst) := by
    conv => rhs; rw [← hz]
    rw [List.filterMap_map]; rfl
  refine act_ext (h.size.trans (putAll_size _ _).symm) (h.defers.trans (putAll_defers _ _).symm) fun s => ?_
  by_cases hs : s ∈ xs.filterMap (·.dst)
  · obtain ⟨o, ho, he⟩ := List.mem_filterMap.1 hs
    obtain ⟨i, hi, e⟩ := List.getElem_of_mem ho
    have ho' : xs.toArray[i]? = some o := by rw [← e]; simp [hi]
    have h1 := h.fact i o s ho' he (hd i hi)
    have h2 : (xs.zip vals)[i]? = some (o, a.eval (.tmp s)) := by
      rw [List.getElem?_zip_eq_some]
      exact ⟨by rw [← e]; simp [hi], h1⟩
    exact (putAll_at _ _ i o _ (by rw [hfm]; exact hn) h2 he (hin o ho s he)).symm
  · rw [h.same (by simpa using hs)]
    refine (putAll_old _ _ fun x hx e => hs ?_).symm
    rw [← hfm]
    exact List.mem_filterMap.2 ⟨x, hx, e⟩

structure Knows (xs : List Oper) (vals : List Value) (a0 : Act) (i : Nat) (a : Act) : Prop where
  at_ : ∀ (j : Nat) (o : Oper) (s : Nat) (v : Value), xs[i]? = some o → j ∈ Region.preds o → ∀ oj, xs[j]? = some oj → oj.dst = some s → vals[j]? = some v → a.eval (.tmp s) = v
  same : ∀ s : Nat, s ∉ xs.filterMap (·.dst) → a.eval (.tmp s) = a0.eval (.tmp s)

theorem any_vals {xs : List Oper} {w : World} (n : Nat) (hn : a0.tmps.size = n) (hB : factsB xs n = true) (vals : List Value) (hl : xs.length = vals.length) (Wd : World → Prop) (h0 : Wd w)
    (step : ∀ (i : Nat) (o : Oper) (v : Value), xs[i]? = some o → vals[i]? = some v → ∀ (a : Act) (w : World), Knows xs vals a0 i a → Wd w → ∀ K : Act → World → Prop, (∀ w', Wd w' → K (a.put o.dst v) w') → Oper.wp P o a w K Q)
    (fin : ∀ w, Wd w → Q .normal (putAll a0 (xs.zip vals)) w) : wpAny P .any xs.toArray Q xs.toArray.size (Array.replicate xs.toArray.size false) a0 w := by
  have hB' := hB
  unfold factsB at hB'
  rw [Bool.and_eq_true, Bool.and_eq_true, Bool.and_eq_true] at hB'
  obtain ⟨⟨⟨h1, h2⟩, h3⟩, h4⟩ := hB'
  have e0 : dn (Array.replicate xs.toArray.size false) = fun _ => false := by
    funext i
    unfold dn
    rw [Array.getD_eq_getD_getElem?, Array.getElem?_replicate]
    split <;> rfl
  have hin : ∀ o ∈ xs, ∀ s, o.dst = some s → s < a0.tmps.size := fun o ho s hs => by
    have := List.all_eq_true.1 h3 o ho
    rw [hs] at this
    rw [hn]
    simpa using this
  refine wpAny_facts (Fact := fun i v _ => vals[i]? = some v) (Wd := fun _ w => Wd w) (a0 := a0) (fun i o ho => ?_) (fun i j oi oj s hi hj => nodup_dst (of_decide_eq_true h2) i j oi oj s (by simpa using hi) (by simpa using hj)) (fun i o s ho hs => hin o (List.mem_of_getElem? (by simpa using ho)) s hs) (fun i o ho j hj => ?_)
    (fun i o ho done a w hH hd hp K hK => ?_) (fun done a w hd hH => ?_) _ _ _ _ (by simp) ?_ ?_
  · have := List.all_eq_true.1 h1 o (List.mem_of_getElem? (by simpa using ho))
    simpa using this
  · have ho' : xs[i]? = some o := by simpa using ho
    have := List.all_eq_true.1 h4 i (List.mem_range.2 (List.getElem?_eq_some_iff.1 ho').1)
    rw [ho'] at this
    have := List.all_eq_true.1 this j hj
    simpa using this
  · have ho' : xs[i]? = some o := by simpa using ho
    have hi := (List.getElem?_eq_some_iff.1 ho').1
    have hv : vals[i]? = some vals[i] := List.getElem?_eq_getElem (by omega)
    refine step i o _ ho' hv a w ⟨fun j o' s v hx hj oj hoj hs hvj => ?_, fun s hs => hH.same (by simpa using hs)⟩ hH.wd K fun w' hw' => hK _ w' hv hw' fun _ _ _ h => h
    rw [ho'] at hx; cases hx
    have := hH.fact j oj s (by simpa using hoj) hs (hp j hj)
    rw [hvj] at this
    exact (Option.some.inj this).symm
  · rw [held_putAll hl (of_decide_eq_true h2) hin (by simpa using hd) hH]
    exact fin w hH.wd
  · rw [e0]
    exact ⟨h0, rfl, rfl, (fun i o _ h => by cases h), (fun s _ => rfl), (fun i o s _ _ h => by cases h)⟩
  · have : (unl xs.toArray (dn (Array.replicate xs.toArray.size false))).length ≤ (List.range xs.toArray.size).length := List.length_filter_le _ _
    simpa using this

theorem wp_region_vals {id : Nat} {xs : List Oper} {w : World} (hm : P.follows .mixedOrders = true) (n : Nat) (hn : a0.tmps.size = n) (hB : factsB xs n = true) (vals : List Value) (hl : xs.length = vals.length) (Wd : World → Prop) (h0 : Wd w.drew)
    (step : ∀ (i : Nat) (o : Oper) (v : Value), xs[i]? = some o → vals[i]? = some v → ∀ (a : Act) (w : World), Knows xs vals a0 i a → Wd w → ∀ K : Act → World → Prop, (∀ w', Wd w' → K (a.put o.dst v) w') → Oper.wp P o a w K Q)
    (fin : ∀ w, Wd w → Q .normal (putAll a0 (xs.zip vals)) w) : (Code.region id xs.toArray true).wp P Q a0 w :=
  wp_region_any hm (any_vals n hn hB vals hl Wd h0 step fin)

def OnlyN (Q : Exit → Act → World → Prop) : Exit → Act → World → Prop
  | .normal, a, w => Q .normal a w
  | _, _, _ => False
theorem OnlyN.imp {Q : Exit → Act → World → Prop} : ∀ (e : Exit) (a : Act) (w : World), OnlyN Q e a w → Q e a w := fun e a w h => by cases e <;> first | exact h | exact h.elim
theorem OnlyN.normal {Q : Exit → Act → World → Prop} {a : Act} {w : World} (h : Q .normal a w) : OnlyN Q .normal a w := h
theorem OnlyN.notOut {Q : Exit → Act → World → Prop} : ¬ LetsOut (OnlyN Q) := fun h => by
  obtain ⟨a, w, h⟩ := h
  exact h
theorem wpIn_region_vals {id l k : Nat} {xs : List Oper} {w : World} (hm : P.follows .mixedOrders = true) (hd : noDefers xs = true) (n : Nat) (hn : a0.tmps.size = n) (hB : factsB xs n = true) (vals : List Value) (hl : xs.length = vals.length) (Wd : World → Prop) (h0 : Wd w.drew)
    (step : ∀ (i : Nat) (o : Oper) (v : Value), xs[i]? = some o → vals[i]? = some v → ∀ (a : Act) (w : World), Knows xs vals a0 i a → Wd w → ∀ K : Act → World → Prop, (∀ w', Wd w' → K (a.put o.dst v) w') → Oper.wp P o a w K (OnlyN Q))
    (fin : ∀ w, Wd w → Q .normal (putAll a0 (xs.zip vals)) w) : (Code.region id xs.toArray true).wpIn (Fence.wide.inRound l) k P Q a0 w :=
  wpIn_mono (wpIn_region_any hm (wpAny_in_round (by simpa using hd) OnlyN.notOut _ _ _ _ (any_vals n hn hB vals hl Wd h0 step fin))) OnlyN.imp
theorem wpIn_region_tail' {id l k : Nat} {a : Act} {w : World} {xs : List Oper} (m : Nat) (hm : P.follows .mixedOrders = true) (hB : Region.lexTailB .any xs.toArray m = true) (hd : noDefers xs = true)
    (h : wpQuiet P xs.toArray (fun w' => w' = w.drew) (fun a' => wpList P xs.toArray (OnlyN Q) (xs.drop m) a' w.drew) (xs.take m) a) : (Code.region id xs.toArray true).wpIn (Fence.wide.inRound l) k P Q a w :=
  wpIn_mono (wpIn_region_tail m hm hB hd OnlyN.notOut h) OnlyN.imp
theorem wpIn_region_of_list {id l k : Nat} {xs : List Oper} {a : Act} {w : World} (hd : noDefers xs = true) (h : wpList P xs.toArray (OnlyN Q) xs a w) : (Code.region id xs.toArray false).wpIn (Fence.wide.inRound l) k P Q a w :=
  wpIn_mono (wpIn_region_lit (wpList_in_round OnlyN.notOut _ _ _ hd h)) OnlyN.imp
theorem wpListIn_of_step {l k : Nat} {ops : Array Oper} {rest : List Oper} {o : Oper} {a : Act} {w : World} (hgd : o.guard = none) (hd : ∀ c, o.op ≠ .defer c)
    (h : ∀ K : Act → World → Prop, (∀ a w, wpListIn (Fence.wide.inRound l) k P ops Q rest a w → K a w) → if Region.wanted o (yielded ops a.tmps) = true then Oper.wp P o a w K Q else True) : wpListIn (Fence.wide.inRound l) k P ops Q (o :: rest) a w := by
  refine wpListIn_plain hgd fun K hK => Oper.in_round hd ?_
  have := h K hK
  rwa [if_pos (by simp [Region.wanted, hgd])] at this
end

section
variable {P : Program} {w : World} {o : Oper} {a : Act} {K : Act → World → Prop} {Q : Exit → Act → World → Prop}
theorem ev' {a : Act} {s : Nat} {v : Value} (h : a.eval (.tmp s) = v) : a.tmps[s]?.getD undef = v := by rw [← h]; simp [Act.eval]
theorem op_val {v : Value} (h1 : (execOp a.eval o).run P w = .ok (.value v) w) (h : K (a.put o.dst v) w) : Oper.wp P o a w K Q := by
  unfold Oper.wp; rw [h1]; exact h
end
end Go
end

section
namespace Go

def wantedV (vals : List Value) (o : Oper) : Bool :=
  match o.guard with
  | none => true
  | some (j, b) => match vals[j]? with
    | some (.bool x) => x == b
    | _ => false
def guardsB (xs : List Oper) : Bool := xs.all fun o => match o.guard with
  | none => true
  | some (j, _) => (Region.preds o).contains j && ((xs[j]?).bind (·.dst)).isSome

section
variable {P : Program} {Q : Exit → Act → World → Prop} {a0 : Act}
theorem wanted_eq {xs : List Oper} {vals : List Value} {Wd : (Nat → Bool) → Act → World → Prop} {done : Nat → Bool} {a : Act} {w : World} {o : Oper} (hin : ∀ o ∈ xs, ∀ s, o.dst = some s → s < a0.tmps.size)
    (h : HeldG xs.toArray (fun _ i v _ => vals[i]? = some v) Wd a0 done a w) (ho : o ∈ xs) (hp : ∀ j ∈ Region.preds o, done j = true) (hG : guardsB xs = true) : Region.wanted o (yielded xs.toArray a.tmps) = wantedV vals o := by
  have hg := List.all_eq_true.1 hG o ho
  unfold Region.wanted wantedV
  cases hgd : o.guard with
  | none => rfl
  | some p =>
    obtain ⟨j, b⟩ := p
    rw [hgd] at hg
    simp only [Bool.and_eq_true] at hg
    obtain ⟨h1, h2⟩ := hg
    obtain ⟨s, hs⟩ := Option.isSome_iff_exists.1 h2
    obtain ⟨oj, hoj, hdj⟩ := Option.bind_eq_some_iff.1 hs
    have hv := h.fact j oj s (by simpa using hoj) hdj (hp j (by simpa using h1))
    have hlt : s < a.tmps.size := by rw [h.size]; exact hin oj (List.mem_of_getElem? hoj) s hdj
    have hy : yielded xs.toArray a.tmps j = match a.eval (.tmp s) with | .bool b => some b | _ => none := by
      unfold yielded
      have : ((xs.toArray[j]?).bind (·.dst)).bind (a.tmps[·]?) = some (a.eval (.tmp s)) := by
        rw [List.getElem?_toArray, hs, Option.bind_some]
        simp only [Act.eval, Array.getD_eq_getD_getElem?]
        rw [Array.getElem?_eq_getElem hlt]
        rfl
      rw [this]
      cases a.eval (.tmp s) <;> rfl
    have hv' : vals[j]? = some (a.eval (.tmp s)) := hv
    simp only [hy, hv']
    cases a.eval (.tmp s) <;> simp

theorem wp_region_valsG {id : Nat} {xs : List Oper} {w : World} (hm : P.follows .mixedOrders = true) (n : Nat) (hn : a0.tmps.size = n) (hB : factsGB xs n = true) (hG : guardsB xs = true) (vals : List Value) (hl : xs.length = vals.length) (Wd : World → Prop) (h0 : Wd w.drew)
    (step : ∀ (i : Nat) (o : Oper) (v : Value), xs[i]? = some o → vals[i]? = some v → wantedV vals o = true ∧ (∀ (a : Act) (w : World), Knows xs vals a0 i a → Wd w → ∀ K : Act → World → Prop, (∀ w', Wd w' → K (a.put o.dst v) w') → Oper.wp P o a w K Q) ∨ wantedV vals o = false ∧ v = undef)
    (fin : ∀ w, Wd w → Q .normal (putAll a0 (xs.zip vals)) w) : (Code.region id xs.toArray true).wp P Q a0 w := by
  have hB' := hB
  unfold factsGB at hB'
  rw [Bool.and_eq_true, Bool.and_eq_true] at hB'
  obtain ⟨⟨h2, h3⟩, h4⟩ := hB'
  have hin : ∀ o ∈ xs, ∀ s, o.dst = some s → s < a0.tmps.size := fun o ho s hs => by
    have := List.all_eq_true.1 h3 o ho
    rw [hs] at this
    rw [hn]
    simpa using this
  refine wp_region_factsG hm n hn hB (fun _ i v _ => vals[i]? = some v) (fun _ _ w => Wd w) h0 (fun i o ho done a w hH hd hp K hK => ?_) (fun done a w hd hH => ?_)
  · have hi := (List.getElem?_eq_some_iff.1 ho).1
    have hv : vals[i]? = some vals[i] := List.getElem?_eq_getElem (by omega)
    have hk : Knows xs vals a0 i a := ⟨fun j o' s v hx hj oj hoj hs hvj => by
      rw [ho] at hx; cases hx
      have := hH.fact j oj s (by simpa using hoj) hs (hp j hj)
      rw [hvj] at this
      exact (Option.some.inj this).symm, fun s hs => hH.same (by simpa using hs)⟩
    rw [wanted_eq hin hH (List.mem_of_getElem? ho) hp hG]
    rcases step i o _ ho hv with ⟨hw, hs⟩ | ⟨hw, hs⟩
    · rw [if_pos hw]
      exact hs a w hk hH.wd K fun w' hw' => hK _ w' hv hw' fun _ _ _ _ _ _ h => h
    · rw [if_neg (by rw [hw]; decide)]
      rw [hs] at hv
      exact hK _ w hv hH.wd fun _ _ _ _ _ _ h => h
  · have hH' : Held xs.toArray (fun i v _ => vals[i]? = some v) (fun _ w => Wd w) a0 done a w := ⟨hH.wd, hH.size, hH.defers, hH.closed, hH.old, hH.fact⟩
    rw [held_putAll hl (of_decide_eq_true h2) hin hd hH']
    exact fin w hH.wd
end
end Go
end

section
namespace Go
def lastB (pre : List Oper) (last : Oper) : Bool := last.dst.isNone && last.guard.isNone && (List.range pre.length).all fun i => (Region.preds last).contains i
theorem zip_take_left {α β : Type} : ∀ (xs : List α) (ys : List β) (m : Nat), ys.length ≤ m → (xs.take m).zip ys = xs.zip ys
  | [], _, m, _ => by simp
  | _ :: _, [], m, _ => by simp
  | x :: xs, y :: ys, 0, h => by simp at h
  | x :: xs, y :: ys, m + 1, h => by
    rw [List.take_succ_cons, List.zip_cons_cons, List.zip_cons_cons, zip_take_left xs ys m (by simpa using h)]
section
variable {P : Program} {Q : Exit → Act → World → Prop} {a0 : Act}

theorem wp_region_valsL {id : Nat} {xs : List Oper} {w : World} (hm : P.follows .mixedOrders = true) (pre : List Oper) (last : Oper) (hxs : xs = pre ++ [last]) (n : Nat) (hn : a0.tmps.size = n) (hB : factsGB xs n = true) (hG : guardsB xs = true) (hL : lastB pre last = true)
    (vals : List Value) (hl : pre.length = vals.length) (Wd : World → Prop) (h0 : Wd w.drew)
    (step : ∀ (i : Nat) (o : Oper) (v : Value), pre[i]? = some o → vals[i]? = some v → wantedV vals o = true ∧ (∀ (a : Act) (w : World), Knows xs vals a0 i a → Wd w → ∀ K : Act → World → Prop, (∀ w', Wd w' → K (a.put o.dst v) w') → Oper.wp P o a w K Q) ∨ wantedV vals o = false ∧ v = undef)
    (fin : ∀ w, Wd w → ∀ K : Act → World → Prop, (∀ v w', Q .normal (putAll a0 (pre.zip vals)) w' → K ((putAll a0 (pre.zip vals)).put none v) w') → Oper.wp P last (putAll a0 (pre.zip vals)) w K Q) : (Code.region id xs.toArray true).wp P Q a0 w := by
  subst hxs
  have hB' := hB
  unfold factsGB at hB'
  rw [Bool.and_eq_true, Bool.and_eq_true] at hB'
  obtain ⟨⟨h2, h3⟩, h4⟩ := hB'
  unfold lastB at hL
  rw [Bool.and_eq_true, Bool.and_eq_true] at hL
  obtain ⟨⟨hL1, hL2⟩, hL3⟩ := hL
  have hLd : last.dst = none := by simpa using hL1
  have hLg : last.guard = none := by simpa using hL2
  have hall : ∀ i, i < pre.length → i ∈ Region.preds last := fun i hi => by
    have := List.all_eq_true.1 hL3 i (List.mem_range.2 hi)
    simpa using this
  have hlast : (pre ++ [last])[pre.length]? = some last := by simp
  have hin : ∀ o ∈ pre ++ [last], ∀ s, o.dst = some s → s < a0.tmps.size := fun o ho s hs => by
    have := List.all_eq_true.1 h3 o ho
    rw [hs] at this
    rw [hn]
    simpa using this
  have hput : ∀ (a : Act) (v : Value), a.put none v = a := fun a v => rfl
  have hfull : ∀ {Fact : (Nat → Bool) → Nat → Value → World → Prop} {Wd' : (Nat → Bool) → Act → World → Prop} {done : Nat → Bool} {a : Act} {w : World}, (∀ done i v w, i < pre.length → Fact done i v w → vals[i]? = some v) → HeldG (pre ++ [last]).toArray Fact Wd' a0 done a w → (∀ i, i < pre.length → done i = true) → a = putAll a0 (pre.zip vals) := by
    intro Fact Wd' done a w hF hH hd
    have hH' : Held pre.toArray (fun i v _ => vals[i]? = some v) (fun _ _ => True) a0 done a w := by
      refine ⟨trivial, hH.size, hH.defers, fun i o ho hdi j hj => ?_, fun s hs => ?_, fun i o s ho hs hdi => ?_⟩
      · have ho' : pre[i]? = some o := by simpa using ho
        have hi := (List.getElem?_eq_some_iff.1 ho').1
        exact hH.closed i o (by simp [List.getElem?_append_left hi, ho']) hdi j hj
      · refine hH.old s fun i o ho he => ?_
        have ho' : (pre ++ [last])[i]? = some o := by simpa using ho
        by_cases hi : i < pre.length
        · rw [List.getElem?_append_left hi] at ho'
          exact hs i o (by simpa using ho') he
        · have hlt := (List.getElem?_eq_some_iff.1 ho').1
          have e : i = pre.length := by simp at hlt; omega
          subst e
          rw [hlast] at ho'
          cases ho'
          rw [hLd] at he; cases he
      · have ho' : pre[i]? = some o := by simpa using ho
        have hi := (List.getElem?_eq_some_iff.1 ho').1
        exact hF _ _ _ _ hi (hH.fact i o s (by simp [List.getElem?_append_left hi, ho']) hs hdi)
    have hnd : (pre.filterMap (·.dst)).Nodup := by
      have := of_decide_eq_true h2
      rw [List.filterMap_append] at this
      exact (List.nodup_append.1 this).1
    exact held_putAll hl hnd (fun o ho => hin o (by simp [ho])) hd hH'
  refine wp_region_factsG hm n hn hB (fun _ i v _ => i < pre.length → vals[i]? = some v) (fun done a w => (done pre.length = false ∧ Wd w) ∨ (done pre.length = true ∧ Q .normal a w)) (.inl ⟨rfl, h0⟩) (fun i o ho done a w hH hd hp K hK => ?_) (fun done a w hd hH => ?_)
  · by_cases hi : i < pre.length
    · have hnL : done pre.length = false := by
        cases hdl : done pre.length with
        | false => rfl
        | true =>
          have := hH.closed pre.length last (by simp) hdl i (hall i hi)
          rw [hd] at this; cases this
      have hW : Wd w := hH.wd.elim (fun h => h.2) fun h => by rw [hnL] at h; cases h.1
      have ho' : pre[i]? = some o := by rw [← ho, List.getElem?_append_left hi]
      have hv : vals[i]? = some vals[i] := List.getElem?_eq_getElem (by omega)
      have hk : Knows (pre ++ [last]) vals a0 i a := ⟨fun j o' s v hx hj oj hoj hs hvj => by
        rw [ho] at hx; cases hx
        have hjl : j < pre.length := by
          have := (List.getElem?_eq_some_iff.1 hvj).1; omega
        have := hH.fact j oj s (by simpa using hoj) hs (hp j hj) hjl
        rw [hvj] at this
        exact (Option.some.inj this).symm, fun s hs => hH.same (by simpa using hs)⟩
      have hHV : HeldG (pre ++ [last]).toArray (fun _ i v _ => vals[i]? = some v) (fun _ _ _ => True) a0 (fun j => done j && decide (j < pre.length)) a w := by
        refine ⟨trivial, hH.size, hH.defers, fun i o ho hdi j hj => ?_, fun s hs => ?_, fun i o s ho hs hdi => ?_⟩
        · rw [Bool.and_eq_true] at hdi
          have h1 := hH.closed i o ho hdi.1 j hj
          have hlt : j < i := by
            have ho' : (pre ++ [last])[i]? = some o := by simpa using ho
            have := List.all_eq_true.1 h4 i (List.mem_range.2 (List.getElem?_eq_some_iff.1 ho').1)
            rw [ho'] at this
            have := List.all_eq_true.1 this j hj
            simpa using this
          have h2 := of_decide_eq_true hdi.2
          rw [Bool.and_eq_true]
          exact ⟨h1, decide_eq_true (by omega)⟩
        · refine hH.old s fun i o ho he => ?_
          have := hs i o ho he
          by_cases hi : i < pre.length
          · simpa [hi] using this
          · have ho' : (pre ++ [last])[i]? = some o := by simpa using ho
            have hlt := (List.getElem?_eq_some_iff.1 ho').1
            have e : i = pre.length := by simp at hlt; omega
            subst e
            exact hnL
        · rw [Bool.and_eq_true] at hdi
          exact hH.fact i o s ho hs hdi.1 (of_decide_eq_true hdi.2)
      have hlow : ∀ j ∈ Region.preds o, (done j && decide (j < pre.length)) = true := fun j hj => by
        have hlt : j < i := by
          have := List.all_eq_true.1 h4 i (List.mem_range.2 (List.getElem?_eq_some_iff.1 ho).1)
          rw [ho] at this
          have := List.all_eq_true.1 this j hj
          simpa using this
        rw [hp j hj, Bool.true_and]
        exact decide_eq_true (by omega)
      rw [wanted_eq hin hHV (List.mem_of_getElem? ho) hlow hG]
      have hup : Go.upd done i pre.length = false := by unfold Go.upd; rw [if_neg (by omega)]; exact hnL
      rcases step i o _ ho' hv with ⟨hw, hs⟩ | ⟨hw, hs⟩
      · rw [if_pos hw]
        exact hs a w hk hW K fun w' hw' => hK _ w' (fun _ => hv) (.inl ⟨hup, hw'⟩) fun _ _ _ _ _ _ h => h
      · rw [if_neg (by rw [hw]; decide)]
        rw [hs] at hv
        exact hK _ w (fun _ => hv) (.inl ⟨hup, hW⟩) fun _ _ _ _ _ _ h => h
    · have hlt := (List.getElem?_eq_some_iff.1 ho).1
      have e : i = pre.length := by simp at hlt; omega
      subst e
      rw [hlast] at ho
      cases ho
      have hW : Wd w := hH.wd.elim (fun h => h.2) fun h => by rw [hd] at h; cases h.1
      have ea := hfull (fun _ _ _ _ h hf => hf h) hH fun i hi => hp i (hall i hi)
      have hw : Region.wanted last (yielded (pre ++ [last]).toArray a.tmps) = true := by unfold Region.wanted; rw [hLg]
      rw [if_pos hw]
      rw [ea]
      refine fin w hW K fun v w' hq => ?_
      rw [← ea, ← hLd]
      refine hK v w' (fun h => absurd h (Nat.lt_irrefl _)) (.inr ⟨by unfold Go.upd; rw [if_pos rfl], ?_⟩) fun _ _ _ _ _ _ h => h
      rw [hLd, hput, ea]
      exact hq
  · have hdl := hd pre.length (by simp)
    exact hH.wd.elim (fun h => by rw [hdl] at h; cases h.1) fun h => h.2

theorem wp_region_valsW {id : Nat} {xs : List Oper} {w : World} (hm : P.follows .mixedOrders = true) (m : Nat) (n : Nat) (hn : a0.tmps.size = n) (hB : factsGB xs n = true) (hG : guardsB xs = true) (last : Oper) (hlast : xs[m]? = some last) (hlen : xs.length = m + 1) (hL : lastB (xs.take m) last = true)
    (vals : List Value) (hl : vals.length = m) (Wd : World → Prop) (h0 : Wd w.drew)
    (step : ∀ (i : Nat) (o : Oper) (v : Value), xs[i]? = some o → vals[i]? = some v → wantedV vals o = true ∧ (∀ (a : Act) (w : World), Knows xs vals a0 i a → Wd w → ∀ K : Act → World → Prop, (∀ w', Wd w' → K (a.put o.dst v) w') → Oper.wp P o a w K Q) ∨ wantedV vals o = false ∧ v = undef)
    (fin : ∀ w, Wd w → ∀ K : Act → World → Prop, (∀ v w', Q .normal (putAll a0 (xs.zip vals)) w' → K ((putAll a0 (xs.zip vals)).put none v) w') → Oper.wp P last (putAll a0 (xs.zip vals)) w K Q) : (Code.region id xs.toArray true).wp P Q a0 w := by
  have hxs : xs = xs.take m ++ [last] := by
    have h1 := List.getElem?_eq_some_iff.1 hlast
    have h2 := List.take_succ_eq_append_getElem h1.1
    rw [h1.2, List.take_of_length_le (by omega)] at h2
    exact h2
  have hz : (xs.take m).zip vals = xs.zip vals := zip_take_left xs vals m (by omega)
  have hpl : (xs.take m).length = m := by rw [List.length_take]; omega
  refine wp_region_valsL hm (xs.take m) last hxs n hn hB hG hL vals (by omega) Wd h0 (fun i o v ho hv => ?_) (by rw [hz]; exact fin)
  have hi : i < m := by have := (List.getElem?_eq_some_iff.1 ho).1; omega
  exact step i o v (by rw [List.getElem?_take_of_lt hi] at ho; exact ho) hv
end
end Go
end
