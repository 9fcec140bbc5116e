/- Merged by program out of the texts Rgh Rgg Del Yen. -/
import Derived.Test.YtfliejmidnnggaaP17
import Derived.Shelf.Slices.Cells
section
/- A region that draws its order, by facts that may say which operations are done. -/
namespace Go

/-- The state in which some of the operations are done. -/
structure HeldE (ops : Array Oper) (Fact : (Nat → Bool) → Nat → Value → World → Prop) (Wd : (Nat → Bool) → World → Prop) (a0 : Act) (done : Nat → Bool) (a : Act) (w : World) : Prop where
  wd : Wd done w
  size : a.tmps.size = a0.tmps.size
  defers : a.defers = a0.defers
  closed : ∀ i o, ops[i]? = some o → done i = true → ∀ j ∈ Region.preds o, done j = true
  old : ∀ s, (∀ i o, ops[i]? = some o → o.dst = some s → done i = false) → a.eval (.tmp s) = a0.eval (.tmp s)
  fact : ∀ (i : Nat) (o : Oper) (s : Nat), ops[i]? = some o → o.dst = some s → done i = true → Fact done i (a.eval (.tmp s)) w

section
variable {P : Program} {ops : Array Oper} {Q : Exit → Act → World → Prop} {Fact : (Nat → Bool) → Nat → Value → World → Prop} {Wd : (Nat → Bool) → World → Prop} {a0 : Act}

theorem HeldE.put {done : Nat → Bool} {a : Act} {w w' : World} {i : Nat} {o : Oper} {v : Value} (h : HeldE ops Fact Wd a0 done a w) (ho : ops[i]? = some o) (hd : done i = false) (hp : ∀ j ∈ Region.preds o, done j = true)
    (hdst : ∀ (i j : Nat) (oi oj : Oper) (s : Nat), ops[i]? = some oi → ops[j]? = some oj → oi.dst = some s → oj.dst = some s → i = j) (hin : ∀ (i : Nat) (o : Oper) (s : Nat), ops[i]? = some o → o.dst = some s → s < a0.tmps.size)
    (hf : Fact (upd done i) i v w') (hw : Wd (upd done i) w') (hk : ∀ (j : Nat) (oj : Oper) (s : Nat), ops[j]? = some oj → oj.dst = some s → done j = true → Fact done j (a.eval (.tmp s)) w → Fact (upd done i) j (a.eval (.tmp s)) w') : HeldE ops Fact Wd a0 (upd done i) (a.put o.dst v) w' := by
  refine ⟨hw, ?_, ?_, fun k ok hk' hdk j hj => ?_, fun s hs => ?_, fun k ok s hk' hs hdk => ?_⟩
  · rw [← h.size]; unfold Act.put; split <;> simp
  · rw [← h.defers]; unfold Act.put; split <;> rfl
  · unfold upd at hdk ⊢
    by_cases e : j = i
    · rw [if_pos e]
    · rw [if_neg e]
      by_cases e2 : k = i
      · subst e2
        rw [ho] at hk'; cases hk'
        exact hp j hj
      · rw [if_neg e2] at hdk
        exact h.closed k ok hk' hdk j hj
  · have hne : ∀ d, o.dst = some d → (Operand.tmp s) ≠ .tmp d := fun d hd' e => by
      cases e
      have := hs i o ho hd'
      simp [upd] at this
    rw [Act.eval_put hne]
    refine h.old s fun k ok hk' hs' => ?_
    have := hs k ok hk' hs'
    unfold upd at this
    split at this
    · cases this
    · exact this
  · by_cases e : k = i
    · subst e
      rw [ho] at hk'; cases hk'
      rw [hs, Act.eval_put_same _ _ _ (by rw [h.size]; exact hin k o s ho hs)]
      exact hf
    · unfold upd at hdk
      rw [if_neg e] at hdk
      have hne : ∀ d, o.dst = some d → (Operand.tmp s) ≠ .tmp d := fun d hd' e2 => by
        cases e2
        exact e (hdst k i ok o s hk' ho hs hd')
      rw [Act.eval_put hne]
      exact hk k ok s hk' hs hdk (h.fact k ok s hk' hs hdk)

theorem wpAny_factsE (hg : ∀ (i : Nat) (o : Oper), ops[i]? = some o → o.guard = none) (hdst : ∀ (i j : Nat) (oi oj : Oper) (s : Nat), ops[i]? = some oi → ops[j]? = some oj → oi.dst = some s → oj.dst = some s → i = j) (hin : ∀ (i : Nat) (o : Oper) (s : Nat), ops[i]? = some o → o.dst = some s → s < a0.tmps.size)
    (hlt : ∀ (i : Nat) (o : Oper), ops[i]? = some o → ∀ j ∈ Region.preds o, j < i)
    (step : ∀ (i : Nat) (o : Oper), ops[i]? = some o → ∀ (done : Nat → Bool) (a : Act) (w : World), HeldE ops Fact Wd a0 done a w → done i = false → (∀ j ∈ Region.preds o, done j = true) → ∀ K : Act → World → Prop,
      (∀ (v : Value) (w' : World), Fact (upd done i) i v w' → Wd (upd done i) w' → (∀ (j : Nat) (oj : Oper) (s : Nat), ops[j]? = some oj → oj.dst = some s → done j = true → Fact done j (a.eval (.tmp s)) w → Fact (upd done i) j (a.eval (.tmp s)) w') → K (a.put o.dst v) w') → Oper.wp P o a w K Q)
    (fin : ∀ (done : Nat → Bool) (a : Act) (w : World), (∀ i, i < ops.size → done i = true) → HeldE ops Fact Wd a0 done a w → Q .normal a w) :
    ∀ (fuel : Nat) (listed : Array Bool) (a : Act) (w : World), listed.size = ops.size → HeldE ops Fact Wd a0 (dn listed) a w → (unl ops (dn listed)).length ≤ fuel → wpAny P .any ops Q fuel listed a w
  | 0, listed, a, w, hs, h, hf => by
    have hd : ∀ i, i < ops.size → dn listed i = true := fun i hi => by
      cases hd : dn listed i with
      | true => rfl
      | false =>
        have : i ∈ unl ops (dn listed) := List.mem_filter.2 ⟨List.mem_range.2 hi, by simp [hd]⟩
        have hz : unl ops (dn listed) = [] := List.eq_nil_of_length_eq_zero (by omega)
        rw [hz] at this
        cases this
    refine ⟨?_, fin _ a w hd h⟩
    cases hr : Region.ready .any ops listed with
    | nil => rfl
    | cons i r =>
      obtain ⟨o, ho, h1, _⟩ := mem_ready' rfl hs (show i ∈ Region.ready .any ops listed by rw [hr]; simp)
      rw [hd i (Array.getElem?_eq_some_iff.1 ho).1] at h1
      cases h1
  | fuel + 1, listed, a, w, hs, h, hf => by
    refine ⟨fun hr => fin _ a w (all_done hs hlt hr) h, fun i hi => ?_⟩
    obtain ⟨o, ho, h1, h2⟩ := mem_ready' rfl hs hi
    have hio := (Array.getElem?_eq_some_iff.1 ho).1
    unfold wpOp
    simp only [ho]
    have hw : Region.wanted o (yielded ops a.tmps) = true := by simp [Region.wanted, hg i o ho]
    rw [if_pos hw]
    refine .inl (step i o ho _ a w h h1 h2 _ fun v w' hf' hw' hk => ?_)
    refine wpAny_factsE hg hdst hin hlt step fin fuel _ _ _ (by simpa using hs) ?_ ?_
    · rw [dn_set (by omega)]
      exact h.put ho h1 h2 hdst hin hf' hw' hk
    · rw [dn_set (by omega)]
      have := unl_lt (ops := ops) hio h1
      omega

theorem HeldE.same {done : Nat → Bool} {a : Act} {w : World} (h : HeldE ops Fact Wd a0 done a w) {s : Nat} (hs : s ∉ ops.toList.filterMap (·.dst)) : a.eval (.tmp s) = a0.eval (.tmp s) :=
  h.old s fun k ok hk he => absurd (List.mem_filterMap.2 ⟨ok, by rw [← Array.getElem?_toList] at hk; exact List.mem_of_getElem? hk, he⟩) hs
/-- The slot of an operation that is not done. -/
theorem HeldE.slot {done : Nat → Bool} {a : Act} {w : World} (h : HeldE ops Fact Wd a0 done a w) (hdst : ∀ (i j : Nat) (oi oj : Oper) (s : Nat), ops[i]? = some oi → ops[j]? = some oj → oi.dst = some s → oj.dst = some s → i = j) {i : Nat} {o : Oper} {s : Nat} (ho : ops[i]? = some o) (hs : o.dst = some s) (hd : done i = false) : a.eval (.tmp s) = a0.eval (.tmp s) :=
  h.old s fun k ok hk he => by
    have := hdst k i ok o s hk ho he hs
    subst this
    exact hd

/-- **A region that draws its order, by facts.** -/
theorem wp_region_factsE {id : Nat} {xs : List Oper} {w : World} (hm : P.follows .mixedOrders = true) (n : Nat) (hn : a0.tmps.size = n) (hB : factsB xs n = true)
    (Fact : (Nat → Bool) → Nat → Value → World → Prop) (Wd : (Nat → Bool) → World → Prop) (h0 : Wd (fun _ => false) w.drew)
    (step : ∀ (i : Nat) (o : Oper), xs[i]? = some o → ∀ (done : Nat → Bool) (a : Act) (w : World), HeldE xs.toArray Fact Wd a0 done a w → done i = false → (∀ j ∈ Region.preds o, done j = true) → ∀ K : Act → World → Prop,
      (∀ (v : Value) (w' : World), Fact (upd done i) i v w' → Wd (upd done i) w' → (∀ (j : Nat) (oj : Oper) (s : Nat), xs[j]? = some oj → oj.dst = some s → done j = true → Fact done j (a.eval (.tmp s)) w → Fact (upd done i) j (a.eval (.tmp s)) w') → K (a.put o.dst v) w') → Oper.wp P o a w K Q)
    (fin : ∀ (done : Nat → Bool) (a : Act) (w : World), (∀ i, i < xs.length → done i = true) → HeldE xs.toArray Fact Wd a0 done a w → Q .normal a w) : (Code.region id xs.toArray true).wp P Q a0 w := by
  unfold factsB at hB
  rw [Bool.and_eq_true, Bool.and_eq_true, Bool.and_eq_true] at hB
  obtain ⟨⟨⟨h1, h2⟩, h3⟩, h4⟩ := hB
  refine wp_region_any hm ?_
  have e0 : dn (Array.replicate xs.toArray.size false) = fun _ => false := by
    funext i
    unfold dn
    rw [Array.getD_eq_getD_getElem?, Array.getElem?_replicate]
    split <;> rfl
  refine wpAny_factsE (Fact := Fact) (Wd := Wd) (a0 := a0) (fun i o ho => ?_) (fun i j oi oj s hi hj => nodup_dst (of_decide_eq_true h2) i j oi oj s (by simpa using hi) (by simpa using hj)) (fun i o s ho hs => ?_) (fun i o ho j hj => ?_)
    (fun i o ho done a w h hd hp K hK => step i o (by simpa using ho) done a w h hd hp K (fun v w' h1 h2 h3 => hK v w' h1 h2 (fun j oj s hj => h3 j oj s (by simpa using hj)))) (fun done a w hd => fin done a w (by simpa using hd)) _ _ _ _ (by simp) ?_ ?_
  · have := List.all_eq_true.1 h1 o (List.mem_of_getElem? (by simpa using ho))
    simpa using this
  · have := List.all_eq_true.1 h3 o (List.mem_of_getElem? (by simpa using ho))
    rw [hs] at this
    rw [hn]
    simpa using this
  · have ho' : xs[i]? = some o := by simpa using ho
    have := List.all_eq_true.1 h4 i (List.mem_range.2 (List.getElem?_eq_some_iff.1 ho').1)
    rw [ho'] at this
    have := List.all_eq_true.1 this j hj
    simpa using this
  · rw [e0]
    exact ⟨h0, rfl, rfl, (fun i o _ h => by cases h), (fun s _ => rfl), (fun i o s _ _ h => by cases h)⟩
  · have : (unl xs.toArray (dn (Array.replicate xs.toArray.size false))).length ≤ (List.range xs.toArray.size).length := List.length_filter_le _ _
    simpa using this
end
end Go
end

section
/- A region that draws its order, by facts that may say which operations are done. -/
namespace Go

/-- The state in which some of the operations are done. -/
structure HeldD (ops : Array Oper) (Fact : (Nat → Bool) → Nat → Value → World → Prop) (Wd : (Nat → Bool) → World → Prop) (a0 : Act) (done : Nat → Bool) (a : Act) (w : World) : Prop where
  wd : Wd done w
  size : a.tmps.size = a0.tmps.size
  defers : a.defers = a0.defers
  closed : ∀ i o, ops[i]? = some o → done i = true → ∀ j ∈ Region.preds o, done j = true
  old : ∀ s, (∀ i o, ops[i]? = some o → o.dst = some s → done i = false) → a.eval (.tmp s) = a0.eval (.tmp s)
  fact : ∀ (i : Nat) (o : Oper) (s : Nat), ops[i]? = some o → o.dst = some s → done i = true → Fact done i (a.eval (.tmp s)) w

section
variable {P : Program} {ops : Array Oper} {Q : Exit → Act → World → Prop} {Fact : (Nat → Bool) → Nat → Value → World → Prop} {Wd : (Nat → Bool) → World → Prop} {a0 : Act}

theorem HeldD.put {done : Nat → Bool} {a : Act} {w w' : World} {i : Nat} {o : Oper} {v : Value} (h : HeldD ops Fact Wd a0 done a w) (ho : ops[i]? = some o) (hd : done i = false) (hp : ∀ j ∈ Region.preds o, done j = true)
    (hdst : ∀ (i j : Nat) (oi oj : Oper) (s : Nat), ops[i]? = some oi → ops[j]? = some oj → oi.dst = some s → oj.dst = some s → i = j) (hin : ∀ (i : Nat) (o : Oper) (s : Nat), ops[i]? = some o → o.dst = some s → s < a0.tmps.size)
    (hf : Fact (upd done i) i v w') (hw : Wd (upd done i) w') (hk : ∀ j, done j = true → ∀ u, Fact done j u w → Fact (upd done i) j u w') : HeldD ops Fact Wd a0 (upd done i) (a.put o.dst v) w' := by
  refine ⟨hw, ?_, ?_, fun k ok hk' hdk j hj => ?_, fun s hs => ?_, fun k ok s hk' hs hdk => ?_⟩
  · rw [← h.size]; unfold Act.put; split <;> simp
  · rw [← h.defers]; unfold Act.put; split <;> rfl
  · unfold upd at hdk ⊢
    by_cases e : j = i
    · rw [if_pos e]
    · rw [if_neg e]
      by_cases e2 : k = i
      · subst e2
        rw [ho] at hk'; cases hk'
        exact hp j hj
      · rw [if_neg e2] at hdk
        exact h.closed k ok hk' hdk j hj
  · have hne : ∀ d, o.dst = some d → (Operand.tmp s) ≠ .tmp d := fun d hd' e => by
      cases e
      have := hs i o ho hd'
      simp [upd] at this
    rw [Act.eval_put hne]
    refine h.old s fun k ok hk' hs' => ?_
    have := hs k ok hk' hs'
    unfold upd at this
    split at this
    · cases this
    · exact this
  · by_cases e : k = i
    · subst e
      rw [ho] at hk'; cases hk'
      rw [hs, Act.eval_put_same _ _ _ (by rw [h.size]; exact hin k o s ho hs)]
      exact hf
    · unfold upd at hdk
      rw [if_neg e] at hdk
      have hne : ∀ d, o.dst = some d → (Operand.tmp s) ≠ .tmp d := fun d hd' e2 => by
        cases e2
        exact e (hdst k i ok o s hk' ho hs hd')
      rw [Act.eval_put hne]
      exact hk k hdk _ (h.fact k ok s hk' hs hdk)

theorem wpAny_factsD (hg : ∀ (i : Nat) (o : Oper), ops[i]? = some o → o.guard = none) (hdst : ∀ (i j : Nat) (oi oj : Oper) (s : Nat), ops[i]? = some oi → ops[j]? = some oj → oi.dst = some s → oj.dst = some s → i = j) (hin : ∀ (i : Nat) (o : Oper) (s : Nat), ops[i]? = some o → o.dst = some s → s < a0.tmps.size)
    (hlt : ∀ (i : Nat) (o : Oper), ops[i]? = some o → ∀ j ∈ Region.preds o, j < i)
    (step : ∀ (i : Nat) (o : Oper), ops[i]? = some o → ∀ (done : Nat → Bool) (a : Act) (w : World), HeldD ops Fact Wd a0 done a w → done i = false → (∀ j ∈ Region.preds o, done j = true) → ∀ K : Act → World → Prop,
      (∀ (v : Value) (w' : World), Fact (upd done i) i v w' → Wd (upd done i) w' → (∀ j, done j = true → ∀ u, Fact done j u w → Fact (upd done i) j u w') → K (a.put o.dst v) w') → Oper.wp P o a w K Q)
    (fin : ∀ (done : Nat → Bool) (a : Act) (w : World), (∀ i, i < ops.size → done i = true) → HeldD ops Fact Wd a0 done a w → Q .normal a w) :
    ∀ (fuel : Nat) (listed : Array Bool) (a : Act) (w : World), listed.size = ops.size → HeldD ops Fact Wd a0 (dn listed) a w → (unl ops (dn listed)).length ≤ fuel → wpAny P .any ops Q fuel listed a w
  | 0, listed, a, w, hs, h, hf => by
    have hd : ∀ i, i < ops.size → dn listed i = true := fun i hi => by
      cases hd : dn listed i with
      | true => rfl
      | false =>
        have : i ∈ unl ops (dn listed) := List.mem_filter.2 ⟨List.mem_range.2 hi, by simp [hd]⟩
        have hz : unl ops (dn listed) = [] := List.eq_nil_of_length_eq_zero (by omega)
        rw [hz] at this
        cases this
    refine ⟨?_, fin _ a w hd h⟩
    cases hr : Region.ready .any ops listed with
    | nil => rfl
    | cons i r =>
      obtain ⟨o, ho, h1, _⟩ := mem_ready' rfl hs (show i ∈ Region.ready .any ops listed by rw [hr]; simp)
      rw [hd i (Array.getElem?_eq_some_iff.1 ho).1] at h1
      cases h1
  | fuel + 1, listed, a, w, hs, h, hf => by
    refine ⟨fun hr => fin _ a w (all_done hs hlt hr) h, fun i hi => ?_⟩
    obtain ⟨o, ho, h1, h2⟩ := mem_ready' rfl hs hi
    have hio := (Array.getElem?_eq_some_iff.1 ho).1
    unfold wpOp
    simp only [ho]
    have hw : Region.wanted o (yielded ops a.tmps) = true := by simp [Region.wanted, hg i o ho]
    rw [if_pos hw]
    refine .inl (step i o ho _ a w h h1 h2 _ fun v w' hf' hw' hk => ?_)
    refine wpAny_factsD hg hdst hin hlt step fin fuel _ _ _ (by simpa using hs) ?_ ?_
    · rw [dn_set (by omega)]
      exact h.put ho h1 h2 hdst hin hf' hw' hk
    · rw [dn_set (by omega)]
      have := unl_lt (ops := ops) hio h1
      omega

theorem HeldD.same {done : Nat → Bool} {a : Act} {w : World} (h : HeldD ops Fact Wd a0 done a w) {s : Nat} (hs : s ∉ ops.toList.filterMap (·.dst)) : a.eval (.tmp s) = a0.eval (.tmp s) :=
  h.old s fun k ok hk he => absurd (List.mem_filterMap.2 ⟨ok, by rw [← Array.getElem?_toList] at hk; exact List.mem_of_getElem? hk, he⟩) hs
/-- The slot of an operation that is not done. -/
theorem HeldD.slot {done : Nat → Bool} {a : Act} {w : World} (h : HeldD ops Fact Wd a0 done a w) (hdst : ∀ (i j : Nat) (oi oj : Oper) (s : Nat), ops[i]? = some oi → ops[j]? = some oj → oi.dst = some s → oj.dst = some s → i = j) {i : Nat} {o : Oper} {s : Nat} (ho : ops[i]? = some o) (hs : o.dst = some s) (hd : done i = false) : a.eval (.tmp s) = a0.eval (.tmp s) :=
  h.old s fun k ok hk he => by
    have := hdst k i ok o s hk ho he hs
    subst this
    exact hd

/-- **A region that draws its order, by facts.** -/
theorem wp_region_factsD {id : Nat} {xs : List Oper} {w : World} (hm : P.follows .mixedOrders = true) (n : Nat) (hn : a0.tmps.size = n) (hB : factsB xs n = true)
    (Fact : (Nat → Bool) → Nat → Value → World → Prop) (Wd : (Nat → Bool) → World → Prop) (h0 : Wd (fun _ => false) w.drew)
    (step : ∀ (i : Nat) (o : Oper), xs[i]? = some o → ∀ (done : Nat → Bool) (a : Act) (w : World), HeldD xs.toArray Fact Wd a0 done a w → done i = false → (∀ j ∈ Region.preds o, done j = true) → ∀ K : Act → World → Prop,
      (∀ (v : Value) (w' : World), Fact (upd done i) i v w' → Wd (upd done i) w' → (∀ j, done j = true → ∀ u, Fact done j u w → Fact (upd done i) j u w') → K (a.put o.dst v) w') → Oper.wp P o a w K Q)
    (fin : ∀ (done : Nat → Bool) (a : Act) (w : World), (∀ i, i < xs.length → done i = true) → HeldD xs.toArray Fact Wd a0 done a w → Q .normal a w) : (Code.region id xs.toArray true).wp P Q a0 w := by
  unfold factsB at hB
  rw [Bool.and_eq_true, Bool.and_eq_true, Bool.and_eq_true] at hB
  obtain ⟨⟨⟨h1, h2⟩, h3⟩, h4⟩ := hB
  refine wp_region_any hm ?_
  have e0 : dn (Array.replicate xs.toArray.size false) = fun _ => false := by
    funext i
    unfold dn
    rw [Array.getD_eq_getD_getElem?, Array.getElem?_replicate]
    split <;> rfl
  refine wpAny_factsD (Fact := Fact) (Wd := Wd) (a0 := a0) (fun i o ho => ?_) (fun i j oi oj s hi hj => nodup_dst (of_decide_eq_true h2) i j oi oj s (by simpa using hi) (by simpa using hj)) (fun i o s ho hs => ?_) (fun i o ho j hj => ?_)
    (fun i o ho => step i o (by simpa using ho)) (fun done a w hd => fin done a w (by simpa using hd)) _ _ _ _ (by simp) ?_ ?_
  · have := List.all_eq_true.1 h1 o (List.mem_of_getElem? (by simpa using ho))
    simpa using this
  · have := List.all_eq_true.1 h3 o (List.mem_of_getElem? (by simpa using ho))
    rw [hs] at this
    rw [hn]
    simpa using this
  · have ho' : xs[i]? = some o := by simpa using ho
    have := List.all_eq_true.1 h4 i (List.mem_range.2 (List.getElem?_eq_some_iff.1 ho').1)
    rw [ho'] at this
    have := List.all_eq_true.1 this j hj
    simpa using this
  · rw [e0]
    exact ⟨h0, rfl, rfl, (fun i o _ h => by cases h), (fun s _ => rfl), (fun i o s _ _ h => by cases h)⟩
  · have : (unl xs.toArray (dn (Array.replicate xs.toArray.size false))).length ≤ (List.range xs.toArray.size).length := List.length_filter_le _ _
    simpa using this
end
end Go
end

section
/- Walks: Delete of one number of a list of the call's own. -/
namespace Go.Proofs
open Go.RowKit Go.Shelf

def delRen : Go.Shelf.Ren := ⟨fun | 23 => 40 | n => n, fun | 22 => 24 | n => n, fun n => n⟩
theorem delLay : Lays2.n23 Try.prog delRen := {
  mixed := by kernel_rfl
  f23 := Try.func40.trans (congrArg some (by kernel_rfl))
  t0 := Try.underlying0
  a0 := Try.isAgg0
  z0 := Try.sizeOf0
  v0 := Try.zeroValue0
  t3 := Try.underlying3
  a3 := Try.isAgg3
  z3 := Try.sizeOf3
  v3 := Try.zeroValue3
  t4 := Try.underlying4
  a4 := Try.isAgg4
  z4 := Try.sizeOf4
  v4 := Try.zeroValue4
  t22 := Try.underlying24
  a22 := Try.isAgg24
  z22 := Try.sizeOf24
  v22 := Try.zeroValue24
  i3 := by kernel_rfl }

theorem setCells_grown (g : Nat) : ∀ (vs : List Value) (o : Nat) (w : World), w.grownBy (w.setCells g o vs) (some g)
  | [], _, w => only_refl w _
  | v :: vs, o, w => (setc' w g o v).trans (setCells_grown g vs (o + 1) (w.setCell ⟨g, o, none⟩ v))

/-- Delete of one number: the list is the shorter one, in its old block. -/
theorem delete_own (w : World) (base g cap : Nat) (ks : List Int) (i : Nat) (h : w.ownsRow base 3 1 (.slice (some ⟨g, 0, none⟩) ks.length cap) ks.length (ks.map (Value.int .i64))) (hi : i < ks.length) (hkl : ks.length ≤ 1000) :
    Calls Try.prog 40 #[.slice (some ⟨g, 0, none⟩) ks.length cap, .int .i64 i, .int .i64 (i + 1)] w fun e w' => e = .returned (.slice (some ⟨g, 0, none⟩) (ks.eraseIdx i).length cap) ∧ w.grownBy w' (some g) ∧ Ints w' (some ⟨g, 0, none⟩) (ks.eraseIdx i) := by
  rcases h.2 with ⟨h', _⟩ | ⟨g', cap', cur, h', hb, hheap, hnc, hcm, hcs, htake⟩
  · simp at h'
  cases h'
  have hm : cap ≤ 9223372036854775807 := hcm
  have hc : ∀ j, j < ks.length → w.cell? ⟨g, 0 + j, none⟩ = some (.int .i64 (ks.getD j 0)) := fun j hj => by
    have := h.cells (g := g) rfl j (.int .i64 ks[j]) (by simp [hj])
    rw [Addr.add_lit] at this
    rw [this, List.getD_eq_getElem?_getD, List.getElem?_eq_getElem hj]
    rfl
  have hf : ∀ j, j < ks.length → w.frozen? ⟨g, 0 + j, none⟩ = false := fun j _ => h.frozenAt (0 + j)
  have hd := Any.slices_Delete_int_cells delLay g 0 ks.length cap i (i + 1) ks w (Nat.le_refl _) hnc hm (by omega) hi hc hf
  have hel : (ks.eraseIdx i).length = ks.length - 1 := by rw [List.length_eraseIdx]; simp [hi]
  have el : (ks.take ks.length).take i ++ (ks.take ks.length).drop (i + 1) = ks.eraseIdx i := by rw [List.take_length, List.eraseIdx_eq_take_drop_succ]
  rw [el, show i + 1 - i = 1 by omega, ← hel] at hd
  refine Calls.mono (show Calls Try.prog 40 #[.slice (some ⟨g, 0, none⟩) ks.length cap, .int .i64 i, .int .i64 (i + 1)] w _ from hd) ?_
  rintro e w' ⟨rfl, q, rfl⟩
  refine ⟨rfl, World.grownBy.trans (only_of_aft (Aft.drewN w q) _) (setCells_grown g _ 0 _), ?_⟩
  generalize hV : (ks.eraseIdx i ++ List.replicate 1 0).map (Value.int .i64) = V
  have hVl : V.length = ks.length := by rw [← hV]; simp [hel]; omega
  have hVg : ∀ j, (hj : j < (ks.eraseIdx i).length) → V[j]? = some (.int .i64 (ks.eraseIdx i)[j]) := fun j hj => by
    rw [← hV, List.getElem?_map, List.getElem?_append_left hj, List.getElem?_eq_getElem hj]; rfl
  have hin := World.cell?_setCells_in g V 0 (w.drewN q) (fun j hj => by
    show (w.cell? ⟨g, 0 + j, none⟩).isSome = true
    rw [hc j (by omega)]; rfl)
  have hgl : g < w.heap.size := (Array.getElem?_eq_some_iff.1 hheap).1
  have hsz := (setCells_grown g V 0 (w.drewN q)).size
  refine ⟨?_, .inr ⟨g, 0, rfl, Nat.lt_of_lt_of_le hgl hsz, fun j hj => ⟨[.int .i64 (ks.eraseIdx i)[j]], rfl, rfl, fun t ht => ?_⟩⟩⟩
  · rw [hel]; omega
  · have : t = 0 := by simp at ht; omega
    subst this
    have h1 := hin j (by omega)
    simp only [Nat.mul_one, Nat.add_zero, List.getElem_cons_zero]
    rw [h1, ← List.getElem?_eq_getElem, hVg j hj]
end Go.Proofs
end

section
/- Plain: legs that are enough are as many as must yield; those that are told are enough. -/
namespace Go.Proofs
open Go.RowKit

/-- how many of k legs, from one on, are among some -/
def cntS (S : List Int) : Nat → Nat → Nat
  | _, 0 => 0
  | lo, k + 1 => (if hasB S lo then 1 else 0) + cntS S (lo + 1) k
theorem cntS_one (x : Int) (k : Nat) : ∀ lo, cntS [x] lo k ≤ 1 ∧ (x < lo → cntS [x] lo k = 0) := by
  induction k with
  | zero => intro lo; exact ⟨Nat.zero_le _, fun _ => rfl⟩
  | succ k ih =>
    intro lo
    obtain ⟨h1, h2⟩ := ih (lo + 1)
    unfold cntS
    by_cases e : hasB [x] lo = true
    · have hx : x = lo := by rw [hasB_iff, List.mem_singleton] at e; exact e.symm
      rw [if_pos e, h2 (by omega)]
      exact ⟨Nat.le_refl _, fun h => by omega⟩
    · rw [if_neg e]
      exact ⟨by omega, fun h => by rw [h2 (by omega)]⟩
theorem cntS_cons (x : Int) (S : List Int) (k : Nat) : ∀ lo, cntS (x :: S) lo k ≤ cntS [x] lo k + cntS S lo k := by
  induction k with
  | zero => intro lo; exact Nat.zero_le _
  | succ k ih =>
    intro lo
    have := ih (lo + 1)
    unfold cntS
    by_cases e : hasB (x :: S) lo = true
    · rw [if_pos e]
      rw [hasB_iff, List.mem_cons] at e
      rcases e with e | e
      · rw [if_pos (show hasB [x] lo = true by rw [hasB_iff]; simp [e])]; omega
      · rw [if_pos (show hasB S lo = true from hasB_iff.2 e)]; omega
    · rw [if_neg e]; omega
theorem cntS_le (S : List Int) (lo k : Nat) : cntS S lo k ≤ S.length := by
  induction S with
  | nil =>
    have : ∀ k lo, cntS [] lo k = 0 := by
      intro k
      induction k with
      | zero => intro lo; rfl
      | succ k ih => intro lo; unfold cntS; rw [ih]; simp [hasB]
    rw [this]; exact Nat.zero_le _
  | cons x S ih =>
    have h1 := cntS_cons x S k lo
    have h2 := (cntS_one x k lo).1
    rw [List.length_cons]; omega

theorem ahd_flo {T : Treaty} {f : Nat → Nat → Nat → Bool} {S : List Int} (k : Nat) : ∀ leg a, a < T.places.toNat → ahd T (setS f S T.places.toNat) k leg a = true → ∃ b, b < T.places.toNat ∧ flo T f (leg + k) b ≤ flo T f leg a + cntS S leg k := by
  induction k with
  | zero => intro leg a ha _; exact ⟨a, ha, by unfold cntS; simp⟩
  | succ k ih =>
    intro leg a ha h
    unfold ahd at h
    rw [List.any_eq_true] at h
    obtain ⟨b, hb, h⟩ := h
    rw [Bool.and_eq_true] at h
    have hb' := List.mem_range.1 hb
    obtain ⟨b2, h1, h2⟩ := ih (leg + 1) b hb' h.2
    have h3 := flo_le_at T f leg b ha
    have h4 : brk f leg a b ≤ (if hasB S leg then 1 else 0 : Nat) := by
      unfold brk
      split
      · split <;> decide
      · rename_i hn
        have h5 := h.1
        unfold setS at h5
        rw [Bool.or_eq_true, Bool.and_eq_true, Bool.and_eq_true] at h5
        rcases h5 with h5 | h5
        · exact absurd h5 hn
        · rw [if_pos h5.1.1]; decide
    refine ⟨b2, h1, ?_⟩
    rw [show leg + (k + 1) = leg + 1 + k by omega]
    unfold cntS
    omega
theorem costL_min {T : Treaty} (f : Nat → Nat → Nat → Bool) {b : Nat} (hb : b < T.places.toNat) : flo T f T.legs.length (lastAt T f) ≤ flo T f T.legs.length b := argmin_min _ _ _ hb
/-- Legs without which a line agrees are no fewer than must yield. -/
theorem opens_min {T : Treaty} (ok : TOk T) {f : Nat → Nat → Nat → Bool} {S : List Int} (h : opens T (setS f S T.places.toNat) = true) : flo T f T.legs.length (lastAt T f) ≤ S.length := by
  unfold opens at h
  rw [List.any_eq_true] at h
  obtain ⟨s, hs, h⟩ := h
  have h0 := ok.starts s hs
  obtain ⟨b, hb, h1⟩ := ahd_flo T.legs.length 0 s.toNat (by omega) h
  rw [Nat.zero_add] at h1
  have h2 := costL_min f hb
  have h3 : flo T f 0 s.toNat = 0 := by
    unfold flo
    rw [if_pos]
    rw [hasB_iff, Int.toNat_of_nonneg h0.1]; exact hs
  have h4 := cntS_le S 0 T.legs.length
  omega

theorem yl_opens {T : Treaty} (ok : TOk T) {f : Nat → Nat → Nat → Bool} {S : List Int} (leg : Nat) : leg ≤ 10 → ∀ b k, b < T.places.toNat → flo T f leg b ≤ 10 → (∀ x ∈ yl T f leg b, x ∈ S) → ahd T (setS f S T.places.toNat) k leg b = true →
    ∃ s ∈ T.starts, ahd T (setS f S T.places.toNat) (leg + k) 0 s.toNat = true := by
  induction leg with
  | zero =>
    intro _ b k hb hf _ h
    unfold flo at hf
    split at hf
    · rename_i hs
      exact ⟨b, hasB_iff.1 hs, by rw [Nat.zero_add]; simpa using h⟩
    · omega
  | succ leg ih =>
    intro hl b k hb hf hS h
    obtain ⟨h1, h2, _⟩ := pre_spec ok.start f (leg := leg) b (by omega)
    have hbr := brk_bd f leg (pre T f leg b) b
    have h3 : setS f S T.places.toNat leg (pre T f leg b) b = true := by
      unfold setS
      rw [Bool.or_eq_true, Bool.and_eq_true, Bool.and_eq_true]
      by_cases e : f leg (pre T f leg b) b = true
      · exact .inl e
      · refine .inr ⟨⟨?_, decide_eq_true h1⟩, decide_eq_true hb⟩
        refine hasB_iff.2 (hS _ ?_)
        unfold yl
        rw [if_neg e]; simp
    have h4 := ih (by omega) (pre T f leg b) (k + 1) h1 (by omega) (fun x hx => hS x (by unfold yl; exact List.mem_append_right _ hx)) (by
      unfold ahd
      rw [List.any_eq_true]
      exact ⟨b, List.mem_range.2 hb, by rw [h3, h]; rfl⟩)
    rw [show leg + 1 + k = leg + (k + 1) by omega]
    exact h4
theorem costL_bd {T : Treaty} (ok : TOk T) (f : Nat → Nat → Nat → Bool) : 0 ≤ flo T f T.legs.length (lastAt T f) ∧ flo T f T.legs.length (lastAt T f) ≤ T.legs.length := by
  obtain ⟨a, h1, h2⟩ := flo_small ok.start f T.legs.length
  have h3 := costL_min f h1
  exact ⟨(flo_bd T f _ _).1, by omega⟩
theorem lastAt_lt {T : Treaty} (ok : TOk T) (f : Nat → Nat → Nat → Bool) : lastAt T f < T.places.toNat := argmin_lt _ _ _ (by have := ok.p1; omega) (Nat.le_refl _)
/-- Those that are told are enough. -/
theorem yieldL_opens {T : Treaty} (ok : TOk T) (f : Nat → Nat → Nat → Bool) {S : List Int} (hS : ∀ x ∈ yieldL T f, x ∈ S) : opens T (setS f S T.places.toNat) = true := by
  have hl := ok.nlegs
  have hb := costL_bd ok f
  obtain ⟨s, hs, h⟩ := yl_opens ok (f := f) (S := S) T.legs.length hl (lastAt T f) 0 (lastAt_lt ok f) (by omega) (fun x hx => hS x (by unfold yieldL; rw [List.mem_reverse]; exact hx)) (by unfold ahd; rfl)
  unfold opens
  rw [List.any_eq_true]
  exact ⟨s, hs, h⟩
theorem yieldL_len {T : Treaty} (ok : TOk T) (f : Nat → Nat → Nat → Bool) : ((yieldL T f).length : Int) = flo T f T.legs.length (lastAt T f) := by
  have hl := ok.nlegs
  have hb := costL_bd ok f
  unfold yieldL
  rw [List.length_reverse]
  exact yl_len ok.start f _ _ hl (by omega)
theorem yl_mem {T : Treaty} {f : Nat → Nat → Nat → Bool} (leg : Nat) : ∀ b, ∀ x ∈ yl T f leg b, 0 ≤ x ∧ x < leg := by
  induction leg with
  | zero => intro b x hx; unfold yl at hx; simp at hx
  | succ leg ih =>
    intro b x hx
    unfold yl at hx
    rcases List.mem_append.1 hx with h | h
    · split at h
      · simp at h
      · rw [List.mem_singleton] at h; subst h; omega
    · have := ih _ x h; omega
theorem yl_rise {T : Treaty} {f : Nat → Nat → Nat → Bool} (leg : Nat) : ∀ b, (yl T f leg b).Pairwise (fun x y => y < x) := by
  induction leg with
  | zero => intro b; unfold yl; exact List.Pairwise.nil
  | succ leg ih =>
    intro b
    unfold yl
    rw [List.pairwise_append]
    refine ⟨by split <;> simp, ih _, fun x hx y hy => ?_⟩
    have := (yl_mem leg _ y hy).2
    split at hx
    · simp at hx
    · rw [List.mem_singleton] at hx; omega
theorem yieldL_mem {T : Treaty} {f : Nat → Nat → Nat → Bool} {x : Int} (h : x ∈ yieldL T f) : 0 ≤ x ∧ x < T.legs.length := yl_mem _ _ x (by unfold yieldL at h; rwa [List.mem_reverse] at h)
theorem yieldL_rise {T : Treaty} {f : Nat → Nat → Nat → Bool} : (yieldL T f).Pairwise (fun x y => x < y) := by
  unfold yieldL
  rw [List.pairwise_reverse]
  exact yl_rise _ _

theorem brkTo_flo {T : Treaty} {f : Nat → Nat → Nat → Bool} {l : List Int} (hl : ∀ k, 0 ≤ l.getD k 0 ∧ l.getD k 0 < T.places) (h0 : hasB T.starts (l.getD 0 0) = true) (k : Nat) : flo T f k (l.getD k 0).toNat ≤ (brkTo f l k).length := by
  induction k with
  | zero =>
    unfold flo
    rw [if_pos (by rw [Int.toNat_of_nonneg (hl 0).1]; exact h0)]
    exact Int.natCast_nonneg _
  | succ k ih =>
    have h1 := flo_le_at T f k (l.getD (k + 1) 0).toNat (a := (l.getD k 0).toNat) (by have := hl k; omega)
    rw [brkTo_succ, List.length_append]
    unfold brk at h1
    split at h1
    · rename_i e; rw [if_pos e]; simp only [List.length_nil]; omega
    · rename_i e; rw [if_neg e]; simp only [List.length_singleton]; omega

/-- the best of the first readings -/
theorem fewK_best {T : Treaty} (ok : TOk T) (k : Nat) : k ≤ prodN (lensOf T) → 1 ≤ k → (∃ R ∈ readingsL T, fewK T k = (R, costL T R)) ∧ ∀ R ∈ (readingsL T).take k, (fewK T k).2 ≤ costL T R := by
  induction k with
  | zero => intro _ h; omega
  | succ k ih =>
    intro hk _
    have hlt : k < (readingsL T).length := by rw [readingsL_len]; omega
    have hmem : dig (lensOf T) k ∈ readingsL T := by rw [← readingsL_get T hlt]; exact List.getElem_mem _
    have htk : (readingsL T).take (k + 1) = (readingsL T).take k ++ [dig (lensOf T) k] := by rw [List.take_succ_eq_append_getElem hlt, readingsL_get]
    rw [fewK_succ T (by omega)]
    unfold fewStep
    have hbd := costL_bd ok (leadsF T (dig (lensOf T) k))
    have hl := ok.nlegs
    by_cases h0 : k = 0
    · subst h0
      rw [fewK_zero]
      have hc : costL T (dig (lensOf T) 0) < 11 := by unfold costL; omega
      rw [if_pos hc]
      refine ⟨⟨_, hmem, rfl⟩, fun R hR => ?_⟩
      rw [htk] at hR
      simp at hR
      subst hR
      exact Int.le_refl _
    · obtain ⟨⟨R0, h1, h2⟩, h3⟩ := ih (by omega) (by omega)
      split
      · rename_i hlt2
        refine ⟨⟨_, hmem, rfl⟩, fun R hR => ?_⟩
        rw [htk] at hR
        rcases List.mem_append.1 hR with h | h
        · have := h3 R h; simp only; omega
        · rw [List.mem_singleton] at h; subst h; exact Int.le_refl _
      · rename_i hge
        refine ⟨⟨R0, h1, h2⟩, fun R hR => ?_⟩
        rw [htk] at hR
        rcases List.mem_append.1 hR with h | h
        · exact h3 R h
        · rw [List.mem_singleton] at h; subst h; omega
theorem few_spec {T : Treaty} (ok : TOk T) : ∃ R, ReadOk T R ∧ fewK T (prodN (lensOf T)) = (R, ((yieldL T (leadsF T R)).length : Int)) ∧ ∀ R', ReadOk T R' → ((yieldL T (leadsF T R)).length : Int) ≤ (yieldL T (leadsF T R')).length := by
  have hp := (readings_many ok).2
  rw [readingsL_len] at hp
  obtain ⟨⟨R, h1, h2⟩, h3⟩ := fewK_best ok (prodN (lensOf T)) (Nat.le_refl _) hp
  have e : (readingsL T).take (prodN (lensOf T)) = readingsL T := by rw [← readingsL_len]; exact List.take_length
  rw [e] at h3
  have hc : ∀ R, costL T R = ((yieldL T (leadsF T R)).length : Int) := fun R => (yieldL_len ok (leadsF T R)).symm
  refine ⟨R, (mem_readings ok).1 h1, by rw [h2, hc], fun R' h' => ?_⟩
  have := h3 R' ((mem_readings ok).2 h')
  rw [h2, hc] at this
  rw [← hc R']
  exact this
theorem setS_nil (f : Nat → Nat → Nat → Bool) (p : Nat) : setS f [] p = f := by
  funext i x y
  simp [setS, hasB]
theorem opens_zero {T : Treaty} (ok : TOk T) (f : Nat → Nat → Nat → Bool) : opens T f = true ↔ (yieldL T f).length = 0 := by
  have e := yieldL_len ok f
  have hb := costL_bd ok f
  constructor
  · intro h
    rw [← setS_nil f T.places.toNat] at h
    have := opens_min ok h
    simp only [List.length_nil] at this
    omega
  · intro h
    rw [← setS_nil f T.places.toNat]
    exact yieldL_opens ok f (fun x hx => by rw [List.eq_nil_of_length_eq_zero h] at hx; exact hx)
theorem readK_iff {T : Treaty} (ok : TOk T) : 0 < (readK T (prodN (lensOf T))).length ↔ (fewK T (prodN (lensOf T))).2 = 0 := by
  obtain ⟨R, h1, h2, h3⟩ := few_spec ok
  have e : (readingsL T).take (prodN (lensOf T)) = readingsL T := by rw [← readingsL_len]; exact List.take_length
  rw [h2]
  unfold readK
  rw [e]
  constructor
  · intro h
    obtain ⟨R', hR'⟩ := List.exists_mem_of_length_pos h
    rw [List.mem_filter] at hR'
    have h4 := (opens_zero ok _).1 hR'.2
    have := h3 R' ((mem_readings ok).1 hR'.1)
    simp only
    omega
  · intro h
    refine List.length_pos_of_mem (a := R) ?_
    rw [List.mem_filter]
    exact ⟨(mem_readings ok).2 h1, (opens_zero ok _).2 (by simp only at h; omega)⟩
theorem risesB_pair {l : List Int} (h : l.Pairwise (fun x y => x < y)) : risesB l = true := risesB_true l fun k hk => List.pairwise_iff_getElem.1 h k (k + 1) (by omega) hk (by omega)
theorem enoughE_zero {T : Treaty} {R S : List Int} (hr : readE T R = 0) (h1 : ∀ x ∈ S, 0 ≤ x ∧ x < T.legs.length) (h2 : risesB S = true) : enoughE T R S = 0 := by
  unfold enoughE
  rw [if_pos hr, if_pos, if_pos h2]
  rw [List.all_eq_true]
  intro x hx
  exact fromB_iff.2 (by have := h1 x hx; omega)
theorem enough_yield {T : Treaty} {R : List Int} (hr : readE T R = 0) : enoughE T R (yieldL T (leadsF T R)) = 0 ∧ enoughB T R (yieldL T (leadsF T R)) = true := by
  have ok := checkE_ok (readE_zero.1 hr).1
  have e := enoughE_zero hr (fun x hx => yieldL_mem hx) (risesB_pair (yieldL_rise (T := T) (f := leadsF T R)))
  refine ⟨e, ?_⟩
  unfold enoughB
  rw [e, yieldL_opens ok (leadsF T R) (fun x hx => hx)]
  rfl
theorem enough_fewest {T : Treaty} {R S : List Int} (hr : readE T R = 0) (h : enoughB T R S = true) : (yieldL T (leadsF T R)).length ≤ S.length := by
  have ok := checkE_ok (readE_zero.1 hr).1
  unfold enoughB at h
  rw [Bool.and_eq_true] at h
  have h1 := opens_min ok h.2
  have h2 := yieldL_len ok (leadsF T R)
  omega
theorem enough_less {T : Treaty} {R : List Int} (hr : readE T R = 0) {i : Nat} (hi : i < (yieldL T (leadsF T R)).length) : enoughE T R ((yieldL T (leadsF T R)).eraseIdx i) = 0 ∧ enoughB T R ((yieldL T (leadsF T R)).eraseIdx i) = false := by
  have hsub := List.eraseIdx_sublist (yieldL T (leadsF T R)) i
  refine ⟨enoughE_zero hr (fun x hx => yieldL_mem (hsub.subset hx)) (risesB_pair ((yieldL_rise (T := T) (f := leadsF T R)).sublist hsub)), ?_⟩
  cases h : enoughB T R ((yieldL T (leadsF T R)).eraseIdx i) with
  | false => rfl
  | true =>
    have := enough_fewest hr h
    rw [List.length_eraseIdx] at this
    simp [hi] at this
    omega
theorem breaks_good {T : Treaty} {R l : List Int} (hr : readE T R = 0) (hl : l.length = T.legs.length + 1) (hb : ∀ x ∈ l, 0 ≤ x ∧ x < T.places) (h0 : l.getD 0 0 ∈ T.starts) : breaksE T R l = 0 ∧ (yieldL T (leadsF T R)).length ≤ (brkTo (leadsF T R) l T.legs.length).length := by
  have ok := checkE_ok (readE_zero.1 hr).1
  have hs : hasB T.starts (l.getD 0 0) = true := hasB_iff.2 h0
  refine ⟨?_, ?_⟩
  · unfold breaksE
    rw [if_pos hr, if_pos (linedB_iff.2 ⟨hl, hb⟩), if_pos hs]
  · have hp := ok.p1
    have hg : ∀ k, 0 ≤ l.getD k 0 ∧ l.getD k 0 < T.places := fun k => by
      by_cases hk : k < l.length
      · have e : l.getD k 0 = l[k] := by rw [List.getD_eq_getElem?_getD, List.getElem?_eq_getElem hk]; rfl
        rw [e]; exact hb _ (List.getElem_mem hk)
      · have e : l.getD k 0 = 0 := by rw [List.getD_eq_getElem?_getD, List.getElem?_eq_none (by omega)]; rfl
        rw [e]; omega
    have h1 := brkTo_flo (f := leadsF T R) hg hs T.legs.length
    have h2 := yieldL_len ok (leadsF T R)
    have h3 := costL_min (T := T) (leadsF T R) (b := (l.getD T.legs.length 0).toNat) (by have := hg T.legs.length; omega)
    omega
end Go.Proofs
end
