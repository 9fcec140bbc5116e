/- Own texts, merged: Rgt Rgu CtB0 CtB1. -/
import Derived.Test.YtbchfakfdikkjaaGreatP02
import Derived.Test.YtbchfakfdikkjaaGreatP03
import Derived.Maps.OwnSet
import Derived.DeepKeys4
set_option linter.unusedSimpArgs false
set_option linter.unusedVariables false
set_option linter.unnecessarySimpa false
section
namespace Go

theorem wpAny_more {P : Program} {md : Region.Mode} {ops : Array Oper} {Q : Exit → Act → World → Prop} : ∀ (k : Nat) (listed : Array Bool) (a : Act) (w : World), wpAny P md ops Q k listed a w → wpAny P md ops Q (k + 1) listed a w
  | 0, _, _, _, h => ⟨fun _ => h.2, fun i hi => by rw [h.1] at hi; cases hi⟩
  | k + 1, _, _, _, h => ⟨h.1, fun i hi => wpOp_mono (fun a w => wpAny_more k _ a w) (h.2 i hi)⟩
theorem wpAny_up {P : Program} {md : Region.Mode} {ops : Array Oper} {Q : Exit → Act → World → Prop} {k k' : Nat} (hk : k ≤ k') {listed : Array Bool} {a : Act} {w : World} (h : wpAny P md ops Q k listed a w) : wpAny P md ops Q k' listed a w := by
  obtain ⟨d, rfl⟩ := Nat.exists_eq_add_of_le hk
  induction d with
  | zero => exact h
  | succ d ih => exact wpAny_more _ _ _ _ (ih (by omega))

def tailB (xs : List Oper) (m : Nat) : Bool :=
  decide (m < xs.length) && ((List.range m).all fun j => (List.range (m + 1)).any fun k => decide (j < k) && (match xs[k]? with | some o => (Region.preds o).contains j | none => false)) &&
  ((List.range xs.length).all fun i => decide (i ≤ m) || (match xs[i]? with | some o => (Region.preds o).any fun k => decide (m ≤ k) && decide (k < i) | none => true)) &&
  Region.seqB .any xs.toArray (xs.length - m) m ((List.range xs.length).map fun j => decide (j < m)).toArray

section
variable {P : Program} {Q : Exit → Act → World → Prop} {a0 : Act}

theorem all_before {xs : List Oper} {m : Nat} {Fact : (Nat → Bool) → Nat → Value → World → Prop} {Wd : (Nat → Bool) → Act → World → Prop} {done : Nat → Bool} {a : Act} {w : World} (h : HeldG xs.toArray Fact Wd a0 done a w)
    (hT : ((List.range m).all fun j => (List.range (m + 1)).any fun k => decide (j < k) && (match xs[k]? with | some o => (Region.preds o).contains j | none => false)) = true)
    {om : Oper} (hom : xs[m]? = some om) (hp : ∀ j ∈ Region.preds om, done j = true) : ∀ j, j < m → done j = true := by
  have key : ∀ d j, j + d = m → 0 < d → done j = true := by
    intro d
    induction d using Nat.strongRecOn with
    | _ d ih =>
      intro j hj hd
      have h1 := List.all_eq_true.1 hT j (List.mem_range.2 (by omega))
      obtain ⟨k, hk, h2⟩ := List.any_eq_true.1 h1
      rw [List.mem_range] at hk
      rw [Bool.and_eq_true, decide_eq_true_eq] at h2
      obtain ⟨hjk, h3⟩ := h2
      cases ho : xs[k]? with
      | none => rw [ho] at h3; cases h3
      | some o =>
        rw [ho] at h3
        have hm : j ∈ Region.preds o := by simpa using h3
        by_cases e : k = m
        · subst e
          rw [hom] at ho; cases ho
          exact hp j hm
        · exact h.closed k o (by simpa using ho) (ih (m - k) (by omega) k (by omega) (by omega)) j hm
  exact fun j hj => key (m - j) j (by omega) (by omega)

theorem listed_eq {n m : Nat} {listed : Array Bool} (hs : listed.size = n) (h1 : ∀ j, j < m → dn listed j = true) (h2 : ∀ j, m ≤ j → dn listed j = false) : listed = ((List.range n).map fun j => decide (j < m)).toArray := by
  apply Array.ext
  · simp [hs]
  · intro i hi hi'
    have : dn listed i = listed[i] := by unfold dn; simp [Array.getD_eq_getD_getElem?, Array.getElem?_eq_getElem hi]
    rw [← this]
    simp only [List.getElem_toArray, List.getElem_map, List.getElem_range]
    by_cases e : i < m
    · rw [h1 i e, decide_eq_true e]
    · rw [h2 i (by omega), decide_eq_false e]

theorem any_valsT {xs : List Oper} (m n : Nat) (hn : a0.tmps.size = n) (hB : factsGB xs n = true) (hG : guardsB xs = true) (hT : tailB xs m = true) (vals : List Value) (hl : vals.length = m) (Wd : (Nat → Bool) → World → Prop)
    (step : ∀ (i : Nat) (o : Oper) (v : Value), xs[i]? = some o → vals[i]? = some v → wantedV vals o = true ∧ (∀ (done : Nat → Bool) (a : Act) (w : World), done i = false → (∀ j ∈ Region.preds o, done j = true) → Knows xs vals a0 i a → Wd done w → ∀ K : Act → World → Prop, (∀ w', Wd (upd done i) w' → K (a.put o.dst v) w') → Oper.wp P o a w K Q) ∨ wantedV vals o = false ∧ v = undef ∧ (∀ done w, Wd done w → Wd (upd done i) w))
    (fin : ∀ done w, (∀ j, j < m → done j = true) → Wd done w → wpList P xs.toArray Q (xs.drop m) (putAll a0 (xs.zip vals)) w) :
    ∀ (fuel : Nat) (listed : Array Bool) (a : Act) (w : World), listed.size = xs.toArray.size → HeldG xs.toArray (fun _ i v _ => vals[i]? = some v) (fun done _ w => Wd done w) a0 (dn listed) a w → (∀ j, m ≤ j → dn listed j = false) → (unl xs.toArray (dn listed)).length ≤ fuel → wpAny P .any xs.toArray Q fuel listed a w := by
  have hT' := hT
  unfold tailB at hT'
  rw [Bool.and_eq_true, Bool.and_eq_true, Bool.and_eq_true, decide_eq_true_eq] at hT'
  obtain ⟨⟨⟨hmx, t1⟩, t2⟩, t3⟩ := hT'
  have hB' := hB
  unfold factsGB at hB'
  rw [Bool.and_eq_true, Bool.and_eq_true] at hB'
  obtain ⟨⟨h2, h3⟩, h4⟩ := hB'
  have hin : ∀ o ∈ xs, ∀ s, o.dst = some s → s < a0.tmps.size := fun o ho s hs => by
    have := List.all_eq_true.1 h3 o ho
    rw [hs] at this
    rw [hn]
    simpa using this
  have hdst : ∀ (i j : Nat) (oi oj : Oper) (s : Nat), xs.toArray[i]? = some oi → xs.toArray[j]? = some oj → oi.dst = some s → oj.dst = some s → i = j := fun i j oi oj s hi hj => nodup_dst (of_decide_eq_true h2) i j oi oj s (by simpa using hi) (by simpa using hj)
  have hin' : ∀ (i : Nat) (o : Oper) (s : Nat), xs.toArray[i]? = some o → o.dst = some s → s < a0.tmps.size := fun i o s ho => hin o (List.mem_of_getElem? (by simpa using ho)) s
  have hzl : (xs.take m).zip vals = xs.zip vals := zip_take_left xs vals m (by omega)
  have tail : ∀ (listed : Array Bool) (a : Act) (w : World), listed.size = xs.toArray.size → HeldG xs.toArray (fun _ i v _ => vals[i]? = some v) (fun done _ w => Wd done w) a0 (dn listed) a w → (∀ j, m ≤ j → dn listed j = false) → (∀ j, j < m → dn listed j = true) → wpAny P .any xs.toArray Q (xs.length - m) listed a w := by
    intro listed a w hs hH hlo hall
    have ea : a = putAll a0 (xs.zip vals) := by
      rw [← hzl]
      have hfm : ∀ s, s ∈ (xs.take m).filterMap (·.dst) → s ∈ xs.filterMap (·.dst) := fun s h => by
        obtain ⟨o, ho, he⟩ := List.mem_filterMap.1 h
        exact List.mem_filterMap.2 ⟨o, List.mem_of_mem_take ho, he⟩
      refine held_putAll (xs := xs.take m) (vals := vals) (Wd := fun _ _ => True) (done := dn listed) (w := w) (by rw [List.length_take]; omega) ?_ (fun o ho => hin o (List.mem_of_mem_take ho)) (fun i hi => hall i (by rw [List.length_take] at hi; omega)) ?_
      · exact (of_decide_eq_true h2).sublist ((List.take_sublist m xs).filterMap _)
      · refine ⟨trivial, hH.size, hH.defers, fun i o ho hd j hj => ?_, fun s hs' => ?_, fun i o s ho hs' hd => ?_⟩
        · have ho' : (xs.take m)[i]? = some o := by simpa using ho
          rw [List.getElem?_take] at ho'
          split at ho'
          · exact hH.closed i o (by simpa using ho') hd j hj
          · cases ho'
        · refine hH.old s fun k ok hk he => ?_
          by_cases hkm : k < m
          · exact hs' k ok (by rw [List.getElem?_toArray, List.getElem?_take, if_pos hkm]; simpa using hk) he
          · exact hlo k (by omega)
        · have ho' : (xs.take m)[i]? = some o := by simpa using ho
          rw [List.getElem?_take] at ho'
          split at ho'
          · exact hH.fact i o s (by simpa using ho') hs' hd
          · cases ho'
    have hseq : Region.seqB .any xs.toArray (xs.drop m).length m listed = true := by
      rw [List.length_drop, listed_eq (by simpa using hs) hall hlo]
      exact t3
    have := wpAny_of_seq (P := P) (md := .any) (ops := xs.toArray) (Q' := Q) (xs.drop m) m listed a w (fun j => by simp [List.getElem?_drop]) hseq (by rw [ea]; exact fin _ _ hall hH.wd)
    rwa [List.length_drop] at this
  intro fuel
  induction fuel with
  | zero =>
    intro listed a w hs hH hlo hf
    exfalso
    have : m ∈ unl xs.toArray (dn listed) := List.mem_filter.2 ⟨List.mem_range.2 (by simpa using hmx), by simp [hlo m (Nat.le_refl _)]⟩
    have hz : unl xs.toArray (dn listed) = [] := List.eq_nil_of_length_eq_zero (by omega)
    rw [hz] at this
    cases this
  | succ fuel ih =>
    intro listed a w hs hH hlo hf
    by_cases hall : ∀ j, j < m → dn listed j = true
    · have hge : xs.length - m ≤ fuel + 1 := by
        have : (unl xs.toArray (dn listed)).length = xs.length - m := by
          unfold unl
          have e : (List.range xs.toArray.size).filter (fun i => !dn listed i) = (List.range xs.length).filter (fun i => decide (m ≤ i)) := by
            rw [List.size_toArray]
            apply List.filter_congr
            intro i _
            by_cases e : i < m
            · rw [hall i e]; simp; omega
            · rw [hlo i (by omega)]; simp; omega
          rw [e]
          have hc : ∀ (q : Nat), ((List.range q).filter (fun i => decide (m ≤ i))).length = q - m := by
            intro q
            induction q with
            | zero => simp
            | succ q ihq =>
              rw [List.range_succ, List.filter_append, List.length_append, ihq]
              by_cases e : m ≤ q
              · simp [e]; omega
              · simp [e]; omega
          exact hc _
        omega
      exact wpAny_up hge (tail listed a w hs hH hlo hall)
    · refine ⟨fun hr => ?_, fun i hi => ?_⟩
      · exact absurd (fun j hj => all_done hs (fun i o ho j hj => by
          have ho' : xs[i]? = some o := by simpa using ho
          have := List.all_eq_true.1 h4 i (List.mem_range.2 (List.getElem?_eq_some_iff.1 ho').1)
          rw [ho'] at this
          have := List.all_eq_true.1 this j hj
          simpa using this) hr j (by simp; omega)) hall
      · obtain ⟨o, ho, hd1, hp⟩ := mem_ready' rfl hs hi
        have ho' : xs[i]? = some o := by simpa using ho
        have hio := (Array.getElem?_eq_some_iff.1 ho).1
        have him : i < m := by
          refine Nat.lt_of_not_le fun hmi => ?_
          by_cases e : i = m
          · subst e
            exact hall (all_before hH t1 ho' hp)
          · have h5 := List.all_eq_true.1 t2 i (List.mem_range.2 (by simpa using hio))
            rw [Bool.or_eq_true, decide_eq_true_eq, ho'] at h5
            rcases h5 with h5 | h5
            · omega
            · obtain ⟨k, hk, hkk⟩ := List.any_eq_true.1 h5
              rw [Bool.and_eq_true, decide_eq_true_eq, decide_eq_true_eq] at hkk
              have := hp k hk
              rw [hlo k hkk.1] at this
              cases this
        have hv : vals[i]? = some vals[i] := List.getElem?_eq_getElem (by omega)
        have hk : Knows xs vals a0 i a := ⟨fun j o' s v hx hj oj hoj hs hvj => by
          rw [ho'] at hx; cases hx
          have := hH.fact j oj s (by simpa using hoj) hs (hp j hj)
          rw [hvj] at this
          exact (Option.some.inj this).symm, fun s hs => hH.same (by simpa using hs)⟩
        unfold wpOp
        simp only [ho]
        have next : ∀ (w' : World), Wd (upd (dn listed) i) w' → wpAny P .any xs.toArray Q fuel (listed.setIfInBounds i true) (a.put o.dst vals[i]) w' := fun w' hw' => by
          refine ih _ _ _ (by simpa using hs) ?_ (fun j hj => ?_) ?_
          · rw [dn_set (by omega)]
            exact hH.put ho hd1 hp hdst hin' hv hw' fun _ _ _ _ _ _ h => h
          · rw [dn_set (by omega)]
            unfold upd
            rw [if_neg (by omega)]
            exact hlo j hj
          · rw [dn_set (by omega)]
            have := unl_lt (ops := xs.toArray) hio hd1
            omega
        rw [wanted_eq hin hH (List.mem_of_getElem? ho') hp hG]
        rcases step i o _ ho' hv with ⟨hw, hst⟩ | ⟨hw, hst, hst2⟩
        · rw [if_pos hw]
          exact .inl (hst _ a w hd1 hp hk hH.wd _ next)
        · rw [if_neg (by rw [hw]; decide)]
          have := next w (hst2 _ _ hH.wd)
          rw [hst] at this
          exact this

theorem wp_region_valsT {id : Nat} {xs : List Oper} {w : World} (hm : P.follows .mixedOrders = true) (m n : Nat) (hn : a0.tmps.size = n) (hB : factsGB xs n = true) (hG : guardsB xs = true) (hT : tailB xs m = true) (vals : List Value) (hl : vals.length = m) (Wd : (Nat → Bool) → World → Prop) (h0 : Wd (fun _ => false) w.drew)
    (step : ∀ (i : Nat) (o : Oper) (v : Value), xs[i]? = some o → vals[i]? = some v → wantedV vals o = true ∧ (∀ (done : Nat → Bool) (a : Act) (w : World), done i = false → (∀ j ∈ Region.preds o, done j = true) → Knows xs vals a0 i a → Wd done w → ∀ K : Act → World → Prop, (∀ w', Wd (upd done i) w' → K (a.put o.dst v) w') → Oper.wp P o a w K Q) ∨ wantedV vals o = false ∧ v = undef ∧ (∀ done w, Wd done w → Wd (upd done i) w))
    (fin : ∀ done w, (∀ j, j < m → done j = true) → Wd done w → wpList P xs.toArray Q (xs.drop m) (putAll a0 (xs.zip vals)) w) : (Code.region id xs.toArray true).wp P Q a0 w := by
  refine wp_region_any hm ?_
  have e0 : dn (Array.replicate xs.toArray.size false) = fun _ => false := by
    funext i
    unfold dn
    rw [Array.getD_eq_getD_getElem?, Array.getElem?_replicate]
    split <;> rfl
  refine any_valsT m n hn hB hG hT vals hl Wd step fin _ _ _ _ (by simp) ?_ (fun j _ => by rw [e0]) ?_
  · rw [e0]
    exact ⟨h0, rfl, rfl, (fun i o _ h => by cases h), (fun s _ => rfl), (fun i o s _ _ h => by cases h)⟩
  · have : (unl xs.toArray (dn (Array.replicate xs.toArray.size false))).length ≤ (List.range xs.toArray.size).length := List.length_filter_le _ _
    simpa using this
theorem wpIn_region_valsT {id l k : Nat} {xs : List Oper} {w : World} (hm : P.follows .mixedOrders = true) (hd : noDefers xs = true) (m n : Nat) (hn : a0.tmps.size = n) (hB : factsGB xs n = true) (hG : guardsB xs = true) (hT : tailB xs m = true) (vals : List Value) (hl : vals.length = m) (Wd : (Nat → Bool) → World → Prop) (h0 : Wd (fun _ => false) w.drew)
    (step : ∀ (i : Nat) (o : Oper) (v : Value), xs[i]? = some o → vals[i]? = some v → wantedV vals o = true ∧ (∀ (done : Nat → Bool) (a : Act) (w : World), done i = false → (∀ j ∈ Region.preds o, done j = true) → Knows xs vals a0 i a → Wd done w → ∀ K : Act → World → Prop, (∀ w', Wd (upd done i) w' → K (a.put o.dst v) w') → Oper.wp P o a w K (OnlyN Q)) ∨ wantedV vals o = false ∧ v = undef ∧ (∀ done w, Wd done w → Wd (upd done i) w))
    (fin : ∀ done w, (∀ j, j < m → done j = true) → Wd done w → wpList P xs.toArray (OnlyN Q) (xs.drop m) (putAll a0 (xs.zip vals)) w) : (Code.region id xs.toArray true).wpIn (Fence.wide.inRound l) k P Q a0 w := by
  refine wpIn_mono (wpIn_region_any hm (wpAny_in_round (by simpa using hd) OnlyN.notOut _ _ _ _ ?_)) OnlyN.imp
  have e0 : dn (Array.replicate xs.toArray.size false) = fun _ => false := by
    funext i
    unfold dn
    rw [Array.getD_eq_getD_getElem?, Array.getElem?_replicate]
    split <;> rfl
  refine any_valsT m n hn hB hG hT vals hl Wd step fin _ _ _ _ (by simp) ?_ (fun j _ => by rw [e0]) ?_
  · rw [e0]
    exact ⟨h0, rfl, rfl, (fun i o _ h => by cases h), (fun s _ => rfl), (fun i o s _ _ h => by cases h)⟩
  · have : (unl xs.toArray (dn (Array.replicate xs.toArray.size false))).length ≤ (List.range xs.toArray.size).length := List.length_filter_le _ _
    simpa using this
theorem op_valW {P : Program} {Q : Exit → Act → World → Prop} {o : Oper} {a : Act} {w w' : World} {K : Act → World → Prop} {v : Value} (h1 : (execOp a.eval o).run P w = .ok (.value v) w') (h : K (a.put o.dst v) w') : Oper.wp P o a w K Q := by
  unfold Oper.wp; rw [h1]; exact h
theorem op_skipW {P : Program} {Q : Exit → Act → World → Prop} {o : Oper} {a : Act} {w w' : World} {K : Act → World → Prop} (h1 : (execOp a.eval o).run P w = .ok .skip w') (h : K (a.put o.dst undef) w') : Oper.wp P o a w K Q := by
  unfold Oper.wp; rw [h1]; exact h
theorem wpList_val {P : Program} {ops : Array Oper} {Q : Exit → Act → World → Prop} {o : Oper} {rest : List Oper} {a : Act} {w w' : World} {v : Value} (hgd : o.guard = none) (h1 : (execOp a.eval o).run P w = .ok (.value v) w') (h : wpList P ops Q rest (a.put o.dst v) w') : wpList P ops Q (o :: rest) a w :=
  wpList_plain hgd fun K hK => by unfold Oper.wp; rw [h1]; exact hK _ _ h
theorem Oper.in_wide {n : Nat} {P : Program} {Q : Exit → Act → World → Prop} {o : Oper} {a : Act} {w : World} {K : Act → World → Prop} (hQ : ¬ LetsOut Q) (h : o.wp P a w K Q) : o.wpIn Fence.wide n P a w K Q := by
  unfold Oper.wpIn
  refine ⟨fun _ _ => trivial, ?_⟩
  show o.uponIn _ n P a K Q ((execOp a.eval o).run P w)
  unfold Oper.wp at h
  generalize (execOp a.eval o).run P w = r at *
  cases r with
  | ok x w' =>
    cases x <;> simp only [Oper.upon, Oper.uponIn] at h ⊢
    case value u => exact h
    case skip => exact h
    case defer d => exact h
    case enter f args => exact ⟨(fun h => by cases h), callsIn_wide.2 h⟩
    case row r args =>
      refine ⟨(fun h => by cases h), fun c cs _ => ?_⟩
      obtain ⟨v, w2, h1, h2⟩ := h c cs
      exact ⟨v, w2, h1, stepsIn_wide.2 h2⟩
    all_goals exact h.elim
  | halt x w' => cases x <;> simp only [Oper.upon, Oper.uponIn] at h ⊢ <;> first | exact h | exact h.elim
theorem Oper.wpIn_imp {F : Fence} {n : Nat} {P : Program} {Q Q' : Exit → Act → World → Prop} {o : Oper} {a : Act} {w : World} {K : Act → World → Prop} (h : o.wpIn F n P a w K Q) (hQ : ∀ e a w, Q e a w → Q' e a w) : o.wpIn F n P a w K Q' := by
  unfold Oper.wpIn at h ⊢
  refine ⟨h.1, ?_⟩
  have h2 := h.2
  have hL : LetsOut Q → LetsOut Q' := fun ⟨a, w, h⟩ => ⟨a, w, hQ _ _ _ h⟩
  generalize (o.semAt F.round a.eval).run P w = r at *
  cases r with
  | ok x w' =>
    cases x <;> simp only [Oper.uponIn] at h2 ⊢
    case value u => exact h2
    case skip => exact h2
    case defer d => exact h2
    case enter f args => exact ⟨h2.1, h2.2.mono fun e w h => by cases e <;> first | exact h | exact hQ _ _ _ h | exact hL h⟩
    case row r args => exact h2
    case round l f t s b => exact ⟨h2.1, h2.2.mono fun e w h => by cases e <;> first | exact h | exact hQ _ _ _ h | exact hL h⟩
    all_goals exact h2
  | halt x w' => cases x <;> simp only [Oper.uponIn] at h2 ⊢ <;> first | exact h2 | exact hQ _ _ _ h2
theorem wpAnyIn_more {F : Fence} {fu : Nat} {P : Program} {md : Region.Mode} {ops : Array Oper} {Q : Exit → Act → World → Prop} : ∀ (k : Nat) (listed : Array Bool) (a : Act) (w : World), wpAnyIn F fu P md ops Q k listed a w → wpAnyIn F fu P md ops Q (k + 1) listed a w
  | 0, _, _, _, h => ⟨fun _ => h.2, fun i hi => by rw [h.1] at hi; cases hi⟩
  | k + 1, _, _, _, h => ⟨h.1, fun i hi => wpOpIn_mono (fun a w => wpAnyIn_more k _ a w) (h.2 i hi)⟩
theorem wpAnyIn_up {F : Fence} {fu : Nat} {P : Program} {md : Region.Mode} {ops : Array Oper} {Q : Exit → Act → World → Prop} {k k' : Nat} (hk : k ≤ k') {listed : Array Bool} {a : Act} {w : World} (h : wpAnyIn F fu P md ops Q k listed a w) : wpAnyIn F fu P md ops Q k' listed a w := by
  obtain ⟨d, rfl⟩ := Nat.exists_eq_add_of_le hk
  induction d with
  | zero => exact h
  | succ d ih => exact wpAnyIn_more _ _ _ _ (ih (by omega))
theorem wpAnyIn_of_seq {F : Fence} {fu : Nat} (hF : ∀ f, F.fn f) {P : Program} {md : Region.Mode} {ops : Array Oper} {Q : Exit → Act → World → Prop} : ∀ (l : List Oper) (k : Nat) (listed : Array Bool) (a : Act) (w : World), (∀ j, l[j]? = ops[k + j]?) →
    Region.seqB md ops l.length k listed = true → wpListIn F fu P ops Q l a w → wpAnyIn F fu P md ops Q l.length listed a w
  | [], _, _, _, _, _, hB, h => ⟨by simpa [Region.seqB] using hB, h⟩
  | o :: l, k, listed, a, w, hl, hB, h => by
    have h0 : ops[k]? = some o := by simpa using (hl 0).symm
    simp only [List.length_cons, Region.seqB, Bool.and_eq_true, decide_eq_true_eq] at hB
    refine ⟨fun h1 => (by rw [hB.1] at h1; cases h1), fun i hi => ?_⟩
    rw [hB.1] at hi
    have hik : i = k := by simpa using hi
    subst hik
    have hw : wpOpIn F fu P ops Q i (wpListIn F fu P ops Q l) a w := by unfold wpOpIn; simp only [h0]; exact h
    exact wpOpIn_mono (fun a' w' h' => wpAnyIn_of_seq hF l (i + 1) _ a' w' (fun j => by have := hl (j + 1); simpa [Nat.add_assoc, Nat.add_comm 1 j] using this) hB.2 h') hw

theorem any_valsTIn {F : Fence} {fu : Nat} {Q' : Exit → Act → World → Prop} {xs : List Oper} (hF : ∀ f, F.fn f) (hlift : ∀ o ∈ xs, ∀ (a : Act) (w : World) (K : Act → World → Prop), Oper.wp P o a w K Q' → o.wpIn F fu P a w K Q) (m n : Nat) (hn : a0.tmps.size = n) (hB : factsGB xs n = true) (hG : guardsB xs = true) (hT : tailB xs m = true) (vals : List Value) (hl : vals.length = m) (Wd : (Nat → Bool) → World → Prop)
    (step : ∀ (i : Nat) (o : Oper) (v : Value), xs[i]? = some o → vals[i]? = some v → wantedV vals o = true ∧ (∀ (done : Nat → Bool) (a : Act) (w : World), done i = false → (∀ j ∈ Region.preds o, done j = true) → Knows xs vals a0 i a → Wd done w → ∀ K : Act → World → Prop, (∀ w', Wd (upd done i) w' → K (a.put o.dst v) w') → Oper.wp P o a w K Q') ∨ wantedV vals o = false ∧ v = undef ∧ (∀ done w, Wd done w → Wd (upd done i) w))
    (fin : ∀ done w, (∀ j, j < m → done j = true) → Wd done w → wpListIn F fu P xs.toArray Q (xs.drop m) (putAll a0 (xs.zip vals)) w) :
    ∀ (fuel : Nat) (listed : Array Bool) (a : Act) (w : World), listed.size = xs.toArray.size → HeldG xs.toArray (fun _ i v _ => vals[i]? = some v) (fun done _ w => Wd done w) a0 (dn listed) a w → (∀ j, m ≤ j → dn listed j = false) → (unl xs.toArray (dn listed)).length ≤ fuel → wpAnyIn F fu P .any xs.toArray Q fuel listed a w := by
  have hT' := hT
  unfold tailB at hT'
  rw [Bool.and_eq_true, Bool.and_eq_true, Bool.and_eq_true, decide_eq_true_eq] at hT'
  obtain ⟨⟨⟨hmx, t1⟩, t2⟩, t3⟩ := hT'
  have hB' := hB
  unfold factsGB at hB'
  rw [Bool.and_eq_true, Bool.and_eq_true] at hB'
  obtain ⟨⟨h2, h3⟩, h4⟩ := hB'
  have hin : ∀ o ∈ xs, ∀ s, o.dst = some s → s < a0.tmps.size := fun o ho s hs => by
    have := List.all_eq_true.1 h3 o ho
    rw [hs] at this
    rw [hn]
    simpa using this
  have hdst : ∀ (i j : Nat) (oi oj : Oper) (s : Nat), xs.toArray[i]? = some oi → xs.toArray[j]? = some oj → oi.dst = some s → oj.dst = some s → i = j := fun i j oi oj s hi hj => nodup_dst (of_decide_eq_true h2) i j oi oj s (by simpa using hi) (by simpa using hj)
  have hin' : ∀ (i : Nat) (o : Oper) (s : Nat), xs.toArray[i]? = some o → o.dst = some s → s < a0.tmps.size := fun i o s ho => hin o (List.mem_of_getElem? (by simpa using ho)) s
  have hzl : (xs.take m).zip vals = xs.zip vals := zip_take_left xs vals m (by omega)
  have tail : ∀ (listed : Array Bool) (a : Act) (w : World), listed.size = xs.toArray.size → HeldG xs.toArray (fun _ i v _ => vals[i]? = some v) (fun done _ w => Wd done w) a0 (dn listed) a w → (∀ j, m ≤ j → dn listed j = false) → (∀ j, j < m → dn listed j = true) → wpAnyIn F fu P .any xs.toArray Q (xs.length - m) listed a w := by
    intro listed a w hs hH hlo hall
    have ea : a = putAll a0 (xs.zip vals) := by
      rw [← hzl]
      have hfm : ∀ s, s ∈ (xs.take m).filterMap (·.dst) → s ∈ xs.filterMap (·.dst) := fun s h => by
        obtain ⟨o, ho, he⟩ := List.mem_filterMap.1 h
        exact List.mem_filterMap.2 ⟨o, List.mem_of_mem_take ho, he⟩
      refine held_putAll (xs := xs.take m) (vals := vals) (Wd := fun _ _ => True) (done := dn listed) (w := w) (by rw [List.length_take]; omega) ?_ (fun o ho => hin o (List.mem_of_mem_take ho)) (fun i hi => hall i (by rw [List.length_take] at hi; omega)) ?_
      · exact (of_decide_eq_true h2).sublist ((List.take_sublist m xs).filterMap _)
      · refine ⟨trivial, hH.size, hH.defers, fun i o ho hd j hj => ?_, fun s hs' => ?_, fun i o s ho hs' hd => ?_⟩
        · have ho' : (xs.take m)[i]? = some o := by simpa using ho
          rw [List.getElem?_take] at ho'
          split at ho'
          · exact hH.closed i o (by simpa using ho') hd j hj
          · cases ho'
        · refine hH.old s fun k ok hk he => ?_
          by_cases hkm : k < m
          · exact hs' k ok (by rw [List.getElem?_toArray, List.getElem?_take, if_pos hkm]; simpa using hk) he
          · exact hlo k (by omega)
        · have ho' : (xs.take m)[i]? = some o := by simpa using ho
          rw [List.getElem?_take] at ho'
          split at ho'
          · exact hH.fact i o s (by simpa using ho') hs' hd
          · cases ho'
    have hseq : Region.seqB .any xs.toArray (xs.drop m).length m listed = true := by
      rw [List.length_drop, listed_eq (by simpa using hs) hall hlo]
      exact t3
    have := wpAnyIn_of_seq (F := F) (fu := fu) hF (P := P) (md := .any) (ops := xs.toArray) (Q := Q) (xs.drop m) m listed a w (fun j => by simp [List.getElem?_drop]) hseq (by rw [ea]; exact fin _ _ hall hH.wd)
    rwa [List.length_drop] at this
  intro fuel
  induction fuel with
  | zero =>
    intro listed a w hs hH hlo hf
    exfalso
    have : m ∈ unl xs.toArray (dn listed) := List.mem_filter.2 ⟨List.mem_range.2 (by simpa using hmx), by simp [hlo m (Nat.le_refl _)]⟩
    have hz : unl xs.toArray (dn listed) = [] := List.eq_nil_of_length_eq_zero (by omega)
    rw [hz] at this
    cases this
  | succ fuel ih =>
    intro listed a w hs hH hlo hf
    by_cases hall : ∀ j, j < m → dn listed j = true
    · have hge : xs.length - m ≤ fuel + 1 := by
        have : (unl xs.toArray (dn listed)).length = xs.length - m := by
          unfold unl
          have e : (List.range xs.toArray.size).filter (fun i => !dn listed i) = (List.range xs.length).filter (fun i => decide (m ≤ i)) := by
            rw [List.size_toArray]
            apply List.filter_congr
            intro i _
            by_cases e : i < m
            · rw [hall i e]; simp; omega
            · rw [hlo i (by omega)]; simp; omega
          rw [e]
          have hc : ∀ (q : Nat), ((List.range q).filter (fun i => decide (m ≤ i))).length = q - m := by
            intro q
            induction q with
            | zero => simp
            | succ q ihq =>
              rw [List.range_succ, List.filter_append, List.length_append, ihq]
              by_cases e : m ≤ q
              · simp [e]; omega
              · simp [e]; omega
          exact hc _
        omega
      exact wpAnyIn_up hge (tail listed a w hs hH hlo hall)
    · refine ⟨fun hr => ?_, fun i hi => ?_⟩
      · exact absurd (fun j hj => all_done hs (fun i o ho j hj => by
          have ho' : xs[i]? = some o := by simpa using ho
          have := List.all_eq_true.1 h4 i (List.mem_range.2 (List.getElem?_eq_some_iff.1 ho').1)
          rw [ho'] at this
          have := List.all_eq_true.1 this j hj
          simpa using this) hr j (by simp; omega)) hall
      · obtain ⟨o, ho, hd1, hp⟩ := mem_ready' rfl hs hi
        have ho' : xs[i]? = some o := by simpa using ho
        have hio := (Array.getElem?_eq_some_iff.1 ho).1
        have him : i < m := by
          refine Nat.lt_of_not_le fun hmi => ?_
          by_cases e : i = m
          · subst e
            exact hall (all_before hH t1 ho' hp)
          · have h5 := List.all_eq_true.1 t2 i (List.mem_range.2 (by simpa using hio))
            rw [Bool.or_eq_true, decide_eq_true_eq, ho'] at h5
            rcases h5 with h5 | h5
            · omega
            · obtain ⟨k, hk, hkk⟩ := List.any_eq_true.1 h5
              rw [Bool.and_eq_true, decide_eq_true_eq, decide_eq_true_eq] at hkk
              have := hp k hk
              rw [hlo k hkk.1] at this
              cases this
        have hv : vals[i]? = some vals[i] := List.getElem?_eq_getElem (by omega)
        have hk : Knows xs vals a0 i a := ⟨fun j o' s v hx hj oj hoj hs hvj => by
          rw [ho'] at hx; cases hx
          have := hH.fact j oj s (by simpa using hoj) hs (hp j hj)
          rw [hvj] at this
          exact (Option.some.inj this).symm, fun s hs => hH.same (by simpa using hs)⟩
        unfold wpOpIn
        simp only [ho]
        have next : ∀ (w' : World), Wd (upd (dn listed) i) w' → wpAnyIn F fu P .any xs.toArray Q fuel (listed.setIfInBounds i true) (a.put o.dst vals[i]) w' := fun w' hw' => by
          refine ih _ _ _ (by simpa using hs) ?_ (fun j hj => ?_) ?_
          · rw [dn_set (by omega)]
            exact hH.put ho hd1 hp hdst hin' hv hw' fun _ _ _ _ _ _ h => h
          · rw [dn_set (by omega)]
            unfold upd
            rw [if_neg (by omega)]
            exact hlo j hj
          · rw [dn_set (by omega)]
            have := unl_lt (ops := xs.toArray) hio hd1
            omega
        rw [wanted_eq hin hH (List.mem_of_getElem? ho') hp hG]
        rcases step i o _ ho' hv with ⟨hw, hst⟩ | ⟨hw, hst, hst2⟩
        · rw [if_pos hw]
          exact hlift o (List.mem_of_getElem? ho') _ _ _ (hst _ a w hd1 hp hk hH.wd _ next)
        · rw [if_neg (by rw [hw]; decide)]
          have := next w (hst2 _ _ hH.wd)
          rw [hst] at this
          exact ⟨fun f _ => hF f, this⟩

theorem region_valsTIn {F : Fence} {fu : Nat} {Q' : Exit → Act → World → Prop} {id : Nat} {xs : List Oper} {w : World} (hm : P.follows .mixedOrders = true) (hF : ∀ f, F.fn f) (hlift : ∀ o ∈ xs, ∀ (a : Act) (w : World) (K : Act → World → Prop), Oper.wp P o a w K Q' → o.wpIn F fu P a w K Q) (m n : Nat) (hn : a0.tmps.size = n) (hB : factsGB xs n = true) (hG : guardsB xs = true) (hT : tailB xs m = true) (vals : List Value) (hl : vals.length = m) (Wd : (Nat → Bool) → World → Prop) (h0 : Wd (fun _ => false) w.drew)
    (step : ∀ (i : Nat) (o : Oper) (v : Value), xs[i]? = some o → vals[i]? = some v → wantedV vals o = true ∧ (∀ (done : Nat → Bool) (a : Act) (w : World), done i = false → (∀ j ∈ Region.preds o, done j = true) → Knows xs vals a0 i a → Wd done w → ∀ K : Act → World → Prop, (∀ w', Wd (upd done i) w' → K (a.put o.dst v) w') → Oper.wp P o a w K Q') ∨ wantedV vals o = false ∧ v = undef ∧ (∀ done w, Wd done w → Wd (upd done i) w))
    (fin : ∀ done w, (∀ j, j < m → done j = true) → Wd done w → wpListIn F fu P xs.toArray Q (xs.drop m) (putAll a0 (xs.zip vals)) w) : (Code.region id xs.toArray true).wpIn F fu P Q a0 w := by
  refine wpIn_region_any hm ?_
  have e0 : dn (Array.replicate xs.toArray.size false) = fun _ => false := by
    funext i
    unfold dn
    rw [Array.getD_eq_getD_getElem?, Array.getElem?_replicate]
    split <;> rfl
  refine any_valsTIn hF hlift m n hn hB hG hT vals hl Wd step fin _ _ _ _ (by simp) ?_ (fun j _ => by rw [e0]) ?_
  · rw [e0]
    exact ⟨h0, rfl, rfl, (fun i o _ h => by cases h), (fun s _ => rfl), (fun i o s _ _ h => by cases h)⟩
  · have : (unl xs.toArray (dn (Array.replicate xs.toArray.size false))).length ≤ (List.range xs.toArray.size).length := List.length_filter_le _ _
    simpa using this
theorem lift_round {l k : Nat} {xs : List Oper} (hd : noDefers xs = true) : ∀ o ∈ xs, ∀ (a : Act) (w : World) (K : Act → World → Prop), Oper.wp P o a w K (OnlyN Q) → o.wpIn (Fence.wide.inRound l) k P a w K Q :=
  fun _ ho _ _ _ h => Oper.wpIn_imp (Oper.in_round (noDefers_at hd ho) h) OnlyN.imp
theorem lift_wide {k : Nat} {xs : List Oper} : ∀ o ∈ xs, ∀ (a : Act) (w : World) (K : Act → World → Prop), Oper.wp P o a w K (OnlyN Q) → o.wpIn Fence.wide k P a w K Q :=
  fun _ _ _ _ _ h => Oper.wpIn_imp (Oper.in_wide OnlyN.notOut h) OnlyN.imp
end
end Go
namespace Go.Proofs
open Go
theorem op_callN {o : Oper} {a : Act} {w : World} {K : Act → World → Prop} {Q : Exit → Act → World → Prop} {f : Nat} {fn : Func} (hf : Tryz.prog.funcs[f]? = some fn) (hn : (fn.name == "runtime.NumGoroutine") = false) (hb : fn.body.isNone = false)
    (xs : Array Operand) {tys : Array TypeId} (ho : o.op = .call { callee := .value (.func f), args := xs, argTypes := tys }) {vs : Array Value} (hx : xs.map a.eval = vs) {R : Ending → World → Prop} (hc : Calls Tryz.prog f vs w R)
    (h : ∀ e w', R e w' → ∃ v, e = .returned v ∧ K (a.put o.dst v) w') : Oper.wp Tryz.prog o a w K Q := by
  unfold Oper.wp
  have hrun : (execOp a.eval o).run Tryz.prog w = .ok (.enter f vs) w := by
    unfold execOp
    simp only [ho, resolve, invoke, Sem.run_bind, hx]
    simp [go_sem]
    exact run_enters hf hn hb _ _
  rw [hrun, Oper.upon_enter]
  refine hc.mono ?_
  intro e w' hr
  obtain ⟨v, rfl, hk⟩ := h e w' hr
  exact hk
theorem op_callF {o : Oper} {a : Act} {w : World} {K : Act → World → Prop} {Q : Exit → Act → World → Prop} {f : Nat} {fn : Func} (hf : Tryz.prog.funcs[f]? = some fn) (hn : (fn.name == "runtime.NumGoroutine") = false) (hb : fn.body.isNone = false)
    (g : Operand) (xs : Array Operand) {tys : Array TypeId} (ho : o.op = .call { callee := .value g, args := xs, argTypes := tys }) {first cap : Array Value} (hg : a.eval g = .func (.func f) first cap) {vs : Array Value} (hx : xs.map a.eval = vs) {R : Ending → World → Prop} (hc : Calls Tryz.prog f (first ++ vs ++ cap) w R)
    (h : ∀ e w', R e w' → ∃ v, e = .returned v ∧ K (a.put o.dst v) w') : Oper.wp Tryz.prog o a w K Q := by
  unfold Oper.wp
  have hrun : (execOp a.eval o).run Tryz.prog w = .ok (.enter f (first ++ vs ++ cap)) w := by
    unfold execOp
    simp only [ho, resolve, invoke, Sem.run_bind, hx, hg]
    simp [go_sem]
    exact run_enters hf hn hb _ _
  rw [hrun, Oper.upon_enter]
  refine hc.mono ?_
  intro e w' hr
  obtain ⟨v, rfl, hk⟩ := h e w' hr
  exact hk
end Go.Proofs
end

section
namespace Go
def wantedO (vals : List (Option Value)) (o : Oper) : Bool :=
  match o.guard with
  | none => true
  | some (j, b) => match vals[j]? with
    | some (some (.bool x)) => x == b
    | _ => false
def guardsO (xs : List Oper) (vals : List (Option Value)) : Bool := xs.all fun o => match o.guard with
  | none => true
  | some (j, _) => (Region.preds o).contains j && ((xs[j]?).bind (·.dst)).isSome && (decide (vals.length ≤ j) || ((vals[j]?).join).isSome)
def FactO (vals : List (Option Value)) : (Nat → Bool) → Nat → Value → World → Prop := fun _ i v _ => ∀ u, vals[i]? = some (some u) → v = u
def fill : List (Option Value) → List Value → List Value
  | [], _ => []
  | some v :: r, us => v :: fill r us
  | none :: r, u :: us => u :: fill r us
  | none :: r, [] => undef :: fill r []
theorem fill_of : ∀ (vals : List (Option Value)) (vs : List Value), vs.length = vals.length → (∀ (i : Nat) (u : Value), vals[i]? = some (some u) → vs[i]? = some u) → ∃ us : List Value, us.length = (vals.filter (·.isNone)).length ∧ vs = fill vals us
  | [], [], _, _ => ⟨[], rfl, rfl⟩
  | some v :: r, x :: vs, hl, h => by
    obtain ⟨us, h1, h2⟩ := fill_of r vs (by simpa using hl) (fun i u hu => by simpa using h (i + 1) u (by simpa using hu))
    have := h 0 v rfl
    simp at this
    exact ⟨us, by simpa using h1, by rw [h2, this]; rfl⟩
  | none :: r, x :: vs, hl, h => by
    obtain ⟨us, h1, h2⟩ := fill_of r vs (by simpa using hl) (fun i u hu => by simpa using h (i + 1) u (by simpa using hu))
    exact ⟨x :: us, by simpa using h1, by rw [h2]; rfl⟩
  | _ :: _, [], hl, _ => by simp at hl
  | [], _ :: _, hl, _ => by simp at hl
structure KnowsO (xs : List Oper) (vals : List (Option Value)) (a0 : Act) (i : Nat) (a : Act) : Prop where
  at_ : ∀ (j : Nat) (o : Oper) (s : Nat) (v : Value), xs[i]? = some o → j ∈ Region.preds o → ∀ oj, xs[j]? = some oj → oj.dst = some s → vals[j]? = some (some v) → a.eval (.tmp s) = v
  same : ∀ s : Nat, s ∉ xs.filterMap (·.dst) → a.eval (.tmp s) = a0.eval (.tmp s)
section
variable {P : Program} {Q : Exit → Act → World → Prop} {a0 : Act}
theorem wanted_eqO {xs : List Oper} {vals : List (Option Value)} {Wd : (Nat → Bool) → Act → World → Prop} {done : Nat → Bool} {a : Act} {w : World} {o : Oper} (hin : ∀ o ∈ xs, ∀ s, o.dst = some s → s < a0.tmps.size)
    (h : HeldG xs.toArray (FactO vals) Wd a0 done a w) (ho : o ∈ xs) (hp : ∀ j ∈ Region.preds o, done j = true) (hlo : ∀ j, vals.length ≤ j → done j = false) (hG : guardsO xs vals = true) : Region.wanted o (yielded xs.toArray a.tmps) = wantedO vals o := by
  have hg := List.all_eq_true.1 hG o ho
  unfold Region.wanted wantedO
  cases hgd : o.guard with
  | none => rfl
  | some p =>
    obtain ⟨j, b⟩ := p
    rw [hgd] at hg
    simp only [Bool.and_eq_true, Bool.or_eq_true, decide_eq_true_eq] at hg
    obtain ⟨⟨h1, h2⟩, h3⟩ := hg
    have hdj' := hp j (by simpa using h1)
    rcases h3 with h3 | h3
    · rw [hlo j h3] at hdj'; cases hdj'
    obtain ⟨s, hs⟩ := Option.isSome_iff_exists.1 h2
    obtain ⟨oj, hoj, hdj⟩ := Option.bind_eq_some_iff.1 hs
    obtain ⟨u, hu⟩ := Option.isSome_iff_exists.1 h3
    have hu' : vals[j]? = some (some u) := by
      cases e : vals[j]? with
      | none => rw [e] at hu; cases hu
      | some x => rw [e] at hu; cases x with
        | none => cases hu
        | some y => simp at hu; rw [hu]
    have hv : a.eval (.tmp s) = u := h.fact j oj s (by simpa using hoj) hdj hdj' u hu'
    have hlt : s < a.tmps.size := by rw [h.size]; exact hin oj (List.mem_of_getElem? hoj) s hdj
    have hy : yielded xs.toArray a.tmps j = match a.eval (.tmp s) with | .bool b => some b | _ => none := by
      unfold yielded
      have : ((xs.toArray[j]?).bind (·.dst)).bind (a.tmps[·]?) = some (a.eval (.tmp s)) := by
        rw [List.getElem?_toArray, hs, Option.bind_some]
        simp only [Act.eval, Array.getD_eq_getD_getElem?]
        rw [Array.getElem?_eq_getElem hlt]
        rfl
      rw [this]
      cases a.eval (.tmp s) <;> rfl
    simp only [hy, hu', hv]
    cases u <;> simp

theorem any_valsU {xs : List Oper} (m n : Nat) (hn : a0.tmps.size = n) (hB : factsGB xs n = true) (hT : tailB xs m = true) (vals : List (Option Value)) (hG : guardsO xs vals = true) (hl : vals.length = m) (Wd : (Nat → Bool) → Act → World → Prop)
    (step : ∀ (i : Nat) (o : Oper) (v : Option Value), xs[i]? = some o → vals[i]? = some v → wantedO vals o = true ∧ (∀ (done : Nat → Bool) (a : Act) (w : World), a.tmps.size = n → done i = false → (∀ j ∈ Region.preds o, done j = true) → KnowsO xs vals a0 i a → Wd done a w → ∀ K : Act → World → Prop, (∀ y w', (∀ u, v = some u → y = u) → Wd (upd done i) (a.put o.dst y) w' → K (a.put o.dst y) w') → Oper.wp P o a w K Q) ∨ wantedO vals o = false ∧ v = some undef ∧ (∀ done a w, Wd done a w → Wd (upd done i) (a.put o.dst undef) w))
    (fin : ∀ done us w, us.length = (vals.filter (·.isNone)).length → (∀ j, j < m → done j = true) → Wd done (putAll a0 (xs.zip (fill vals us))) w → wpList P xs.toArray Q (xs.drop m) (putAll a0 (xs.zip (fill vals us))) w) :
    ∀ (fuel : Nat) (listed : Array Bool) (a : Act) (w : World), listed.size = xs.toArray.size → HeldG xs.toArray (FactO vals) Wd a0 (dn listed) a w → (∀ j, m ≤ j → dn listed j = false) → (unl xs.toArray (dn listed)).length ≤ fuel → wpAny P .any xs.toArray Q fuel listed a w := by
  have hT' := hT
  unfold tailB at hT'
  rw [Bool.and_eq_true, Bool.and_eq_true, Bool.and_eq_true, decide_eq_true_eq] at hT'
  obtain ⟨⟨⟨hmx, t1⟩, t2⟩, t3⟩ := hT'
  have hB' := hB
  unfold factsGB at hB'
  rw [Bool.and_eq_true, Bool.and_eq_true] at hB'
  obtain ⟨⟨h2', h3⟩, h4⟩ := hB'
  have hin : ∀ o ∈ xs, ∀ s, o.dst = some s → s < a0.tmps.size := fun o ho s hs => by
    have := List.all_eq_true.1 h3 o ho
    rw [hs] at this
    rw [hn]
    simpa using this
  have hdst : ∀ (i j : Nat) (oi oj : Oper) (s : Nat), xs.toArray[i]? = some oi → xs.toArray[j]? = some oj → oi.dst = some s → oj.dst = some s → i = j := fun i j oi oj s hi hj => nodup_dst (of_decide_eq_true h2') i j oi oj s (by simpa using hi) (by simpa using hj)
  have hin' : ∀ (i : Nat) (o : Oper) (s : Nat), xs.toArray[i]? = some o → o.dst = some s → s < a0.tmps.size := fun i o s ho => hin o (List.mem_of_getElem? (by simpa using ho)) s
  have tail : ∀ (listed : Array Bool) (a : Act) (w : World), listed.size = xs.toArray.size → HeldG xs.toArray (FactO vals) Wd a0 (dn listed) a w → (∀ j, m ≤ j → dn listed j = false) → (∀ j, j < m → dn listed j = true) → wpAny P .any xs.toArray Q (xs.length - m) listed a w := by
    intro listed a w hs hH hlo hall
    obtain ⟨us, hus, ea⟩ : ∃ us, us.length = (vals.filter (·.isNone)).length ∧ a = putAll a0 (xs.zip (fill vals us)) := by
      let vs : List Value := (List.range m).map fun i => match xs[i]? with | some o => (match o.dst with | some s => a.eval (.tmp s) | none => ((vals[i]?).join).getD undef) | none => undef
      have hvl : vs.length = m := by simp [vs]
      have hvg : ∀ i, i < m → vs[i]? = some (match xs[i]? with | some o => (match o.dst with | some s => a.eval (.tmp s) | none => ((vals[i]?).join).getD undef) | none => undef) := fun i hi => by simp [vs, hi]
      obtain ⟨us, h1, h2⟩ := fill_of vals vs (by omega) (fun i u hu => by
        have him : i < m := by rw [← hl]; exact (List.getElem?_eq_some_iff.1 hu).1
        rw [hvg i him]
        have hx : xs[i]? = some xs[i] := List.getElem?_eq_getElem (by omega)
        rw [hx]
        cases hd : xs[i].dst with
        | none => simp [hd, hu]
        | some s => simp only [hd]; rw [hH.fact i xs[i] s (by simpa using hx) hd (hall i him) u hu])
      refine ⟨us, h1, ?_⟩
      rw [← h2]
      have hzl : (xs.take m).zip vs = xs.zip vs := zip_take_left xs vs m (by omega)
      rw [← hzl]
      have hfm : ∀ s, s ∈ (xs.take m).filterMap (·.dst) → s ∈ xs.filterMap (·.dst) := fun s h => by
        obtain ⟨o, ho, he⟩ := List.mem_filterMap.1 h
        exact List.mem_filterMap.2 ⟨o, List.mem_of_mem_take ho, he⟩
      refine held_putAll (xs := xs.take m) (vals := vs) (Wd := fun _ _ => True) (done := dn listed) (w := w) (by rw [List.length_take]; omega) ?_ (fun o ho => hin o (List.mem_of_mem_take ho)) (fun i hi => hall i (by rw [List.length_take] at hi; omega)) ?_
      · exact (of_decide_eq_true h2').sublist ((List.take_sublist m xs).filterMap _)
      · refine ⟨trivial, hH.size, hH.defers, fun i o ho hd j hj => ?_, fun s hs' => ?_, fun i o s ho hs' hd => ?_⟩
        · have ho' : (xs.take m)[i]? = some o := by simpa using ho
          rw [List.getElem?_take] at ho'
          split at ho'
          · exact hH.closed i o (by simpa using ho') hd j hj
          · cases ho'
        · refine hH.old s fun k ok hk he => ?_
          by_cases hkm : k < m
          · exact hs' k ok (by rw [List.getElem?_toArray, List.getElem?_take, if_pos hkm]; simpa using hk) he
          · exact hlo k (by omega)
        · have ho' : (xs.take m)[i]? = some o := by simpa using ho
          rw [List.getElem?_take] at ho'
          split at ho'
          · rename_i him
            show vs[i]? = some _
            rw [hvg i him, ho']
            simp only [hs']
          · cases ho'
    have hseq : Region.seqB .any xs.toArray (xs.drop m).length m listed = true := by
      rw [List.length_drop, listed_eq (by simpa using hs) hall hlo]
      exact t3
    have := wpAny_of_seq (P := P) (md := .any) (ops := xs.toArray) (Q' := Q) (xs.drop m) m listed a w (fun j => by simp [List.getElem?_drop]) hseq (by rw [ea]; exact fin _ _ _ hus hall (by rw [← ea]; exact hH.wd))
    rwa [List.length_drop] at this
  intro fuel
  induction fuel with
  | zero =>
    intro listed a w hs hH hlo hf
    exfalso
    have : m ∈ unl xs.toArray (dn listed) := List.mem_filter.2 ⟨List.mem_range.2 (by simpa using hmx), by simp [hlo m (Nat.le_refl _)]⟩
    have hz : unl xs.toArray (dn listed) = [] := List.eq_nil_of_length_eq_zero (by omega)
    rw [hz] at this
    cases this
  | succ fuel ih =>
    intro listed a w hs hH hlo hf
    by_cases hall : ∀ j, j < m → dn listed j = true
    · have hge : xs.length - m ≤ fuel + 1 := by
        have : (unl xs.toArray (dn listed)).length = xs.length - m := by
          unfold unl
          have e : (List.range xs.toArray.size).filter (fun i => !dn listed i) = (List.range xs.length).filter (fun i => decide (m ≤ i)) := by
            rw [List.size_toArray]
            apply List.filter_congr
            intro i _
            by_cases e : i < m
            · rw [hall i e]; simp; omega
            · rw [hlo i (by omega)]; simp; omega
          rw [e]
          have hc : ∀ (q : Nat), ((List.range q).filter (fun i => decide (m ≤ i))).length = q - m := by
            intro q
            induction q with
            | zero => simp
            | succ q ihq =>
              rw [List.range_succ, List.filter_append, List.length_append, ihq]
              by_cases e : m ≤ q
              · simp [e]; omega
              · simp [e]; omega
          exact hc _
        omega
      exact wpAny_up hge (tail listed a w hs hH hlo hall)
    · refine ⟨fun hr => ?_, fun i hi => ?_⟩
      · exact absurd (fun j hj => all_done hs (fun i o ho j hj => by
          have ho' : xs[i]? = some o := by simpa using ho
          have := List.all_eq_true.1 h4 i (List.mem_range.2 (List.getElem?_eq_some_iff.1 ho').1)
          rw [ho'] at this
          have := List.all_eq_true.1 this j hj
          simpa using this) hr j (by simp; omega)) hall
      · obtain ⟨o, ho, hd1, hp⟩ := mem_ready' rfl hs hi
        have ho' : xs[i]? = some o := by simpa using ho
        have hio := (Array.getElem?_eq_some_iff.1 ho).1
        have him : i < m := by
          refine Nat.lt_of_not_le fun hmi => ?_
          by_cases e : i = m
          · subst e
            exact hall (all_before hH t1 ho' hp)
          · have h5 := List.all_eq_true.1 t2 i (List.mem_range.2 (by simpa using hio))
            rw [Bool.or_eq_true, decide_eq_true_eq, ho'] at h5
            rcases h5 with h5 | h5
            · omega
            · obtain ⟨k, hk, hkk⟩ := List.any_eq_true.1 h5
              rw [Bool.and_eq_true, decide_eq_true_eq, decide_eq_true_eq] at hkk
              have := hp k hk
              rw [hlo k hkk.1] at this
              cases this
        have hv : vals[i]? = some vals[i] := List.getElem?_eq_getElem (by omega)
        have hk : KnowsO xs vals a0 i a := ⟨fun j o' s v hx hj oj hoj hs hvj => by
          rw [ho'] at hx; cases hx
          exact hH.fact j oj s (by simpa using hoj) hs (hp j hj) v hvj, fun s hs => hH.same (by simpa using hs)⟩
        unfold wpOp
        simp only [ho]
        have next : ∀ (y : Value) (w' : World), (∀ u, vals[i] = some u → y = u) → Wd (upd (dn listed) i) (a.put o.dst y) w' → wpAny P .any xs.toArray Q fuel (listed.setIfInBounds i true) (a.put o.dst y) w' := fun y w' hy hw' => by
          refine ih _ _ _ (by simpa using hs) ?_ (fun j hj => ?_) ?_
          · rw [dn_set (by omega)]
            exact hH.put ho hd1 hp hdst hin' (fun u hu => hy u (by rw [hv] at hu; exact Option.some.inj hu)) hw' fun _ _ _ _ _ _ h => h
          · rw [dn_set (by omega)]
            unfold upd
            rw [if_neg (by omega)]
            exact hlo j hj
          · rw [dn_set (by omega)]
            have := unl_lt (ops := xs.toArray) hio hd1
            omega
        rw [wanted_eqO hin hH (List.mem_of_getElem? ho') hp (fun j hj => hlo j (by omega)) hG]
        rcases step i o _ ho' hv with ⟨hw, hst⟩ | ⟨hw, hst, hst2⟩
        · rw [if_pos hw]
          exact .inl (hst _ a w (by rw [hH.size]; exact hn) hd1 hp hk hH.wd _ next)
        · rw [if_neg (by rw [hw]; decide)]
          exact next undef w (fun u hu => by rw [hst] at hu; exact Option.some.inj hu) (hst2 _ _ _ hH.wd)

theorem wp_region_valsU {id : Nat} {xs : List Oper} {w : World} (hm : P.follows .mixedOrders = true) (m n : Nat) (hn : a0.tmps.size = n) (hB : factsGB xs n = true) (hT : tailB xs m = true) (vals : List (Option Value)) (hG : guardsO xs vals = true) (hl : vals.length = m) (Wd : (Nat → Bool) → Act → World → Prop) (h0 : Wd (fun _ => false) a0 w.drew)
    (step : ∀ (i : Nat) (o : Oper) (v : Option Value), xs[i]? = some o → vals[i]? = some v → wantedO vals o = true ∧ (∀ (done : Nat → Bool) (a : Act) (w : World), a.tmps.size = n → done i = false → (∀ j ∈ Region.preds o, done j = true) → KnowsO xs vals a0 i a → Wd done a w → ∀ K : Act → World → Prop, (∀ y w', (∀ u, v = some u → y = u) → Wd (upd done i) (a.put o.dst y) w' → K (a.put o.dst y) w') → Oper.wp P o a w K Q) ∨ wantedO vals o = false ∧ v = some undef ∧ (∀ done a w, Wd done a w → Wd (upd done i) (a.put o.dst undef) w))
    (fin : ∀ done us w, us.length = (vals.filter (·.isNone)).length → (∀ j, j < m → done j = true) → Wd done (putAll a0 (xs.zip (fill vals us))) w → wpList P xs.toArray Q (xs.drop m) (putAll a0 (xs.zip (fill vals us))) w) : (Code.region id xs.toArray true).wp P Q a0 w := by
  refine wp_region_any hm ?_
  have e0 : dn (Array.replicate xs.toArray.size false) = fun _ => false := by
    funext i
    unfold dn
    rw [Array.getD_eq_getD_getElem?, Array.getElem?_replicate]
    split <;> rfl
  refine any_valsU m n hn hB hT vals hG hl Wd step fin _ _ _ _ (by simp) ?_ (fun j _ => by rw [e0]) ?_
  · rw [e0]
    exact ⟨h0, rfl, rfl, (fun i o _ h => by cases h), (fun s _ => rfl), (fun i o s _ _ h => by cases h)⟩
  · have : (unl xs.toArray (dn (Array.replicate xs.toArray.size false))).length ≤ (List.range xs.toArray.size).length := List.length_filter_le _ _
    simpa using this
end
end Go
end

section
namespace Go.Proofs
open Go.RowKit Go.Maps Go.WideMaps

def strV (s : Int × Int) : Value := .agg #[.int .i64 s.1, .int .i64 s.2]
def SmallS (s : Int × Int) : Prop := (0 ≤ s.1 ∧ s.1 ≤ 13) ∧ (0 ≤ s.2 ∧ s.2 ≤ 13)
theorem strV_inj {s t : Int × Int} (h : strV s = strV t) : s = t := by
  unfold strV at h
  obtain ⟨a, b⟩ := s
  obtain ⟨c, d⟩ := t
  simpa using h

theorem laidOutZ : laidOutB Tryz.prog = true := by kernel_rfl
theorem rowZ57 : (57 : TypeId) < Tryz.prog.types.size := of_decide_eq_true (by kernel_rfl)
theorem keyZ57 : Tryz.prog.keyTypeAt 2 57 = true := by kernel_rfl
theorem strKeyed : Keyed Tryz.prog 57 := Keyed.of_law (deep_law_laid laidOutZ (m := 2) (Nat.le_of_ble_eq_true (by kernel_rfl)) rowZ57 keyZ57 (by rw [Tryz.underlying57]))
theorem keysOk_true : ((List.range 14).all fun a => (List.range 14).all fun b => (keyOf Tryz.prog 57 (.agg #[.int .i64 (a : Int), .int .i64 (b : Int)])).isSome) = true := by kernel_rfl
theorem SmallS.key {s : Int × Int} (h : SmallS s) : ∃ kl, keyOf Tryz.prog 57 (strV s) = some kl := by
  obtain ⟨⟨h1, h2⟩, h3, h4⟩ := h
  have := keysOk_true
  have := List.all_eq_true.1 this s.1.toNat (List.mem_range.2 (by omega))
  have := List.all_eq_true.1 this s.2.toNat (List.mem_range.2 (by omega))
  rw [Int.toNat_of_nonneg h1, Int.toNat_of_nonneg h3] at this
  exact Option.isSome_iff_exists.1 this

def SetS (W : World) (b n : Nat) (S : List (Int × Int)) : Prop :=
  ∃ D : DataW Unit, W.ownsMap Tryz.prog 57 (plainElem Tryz.prog 4) b n D ∧ ∀ s kl, SmallS s → keyOf Tryz.prog 57 (strV s) = some kl → D.atKey kl (.lit (.bool false)) = .lit (.bool (decide (s ∈ S)))
theorem SetS.made (W : World) : SetS (W.alloc (.map #[] 0)) W.heap.size 0 [] := ⟨_, World.ownsMap_made _ _ _ _, fun l _ _ _ => by simp [WideAt.atKey_nil, DataW.atKey]⟩
theorem SetS.kept {W W' : World} {b n : Nat} {S : List (Int × Int)} (h : SetS W b n S) {row : Option Nat} (hg : W.grownBy W' row) (hne : some b ≠ row) : SetS W' b n S := let ⟨D, h1, h2⟩ := h; ⟨D, h1.kept hg hne, h2⟩
theorem SetS.aft {W W' : World} {b n : Nat} {S : List (Int × Int)} (h : SetS W b n S) (ha : Aft W W') : SetS W' b n S := h.kept (only_aft (only_refl W none) ha) (by simp)
theorem SetS.lt {W : World} {b n : Nat} {S : List (Int × Int)} (h : SetS W b n S) : b < W.heap.size := let ⟨_, h1, _⟩ := h; h1.lt
theorem SetS.look {W : World} {b n : Nat} {S : List (Int × Int)} (h : SetS W b n S) {s : Int × Int} (hs : SmallS s) : (Instr.lookup 115 (.map (some b)) (strV s) false).run Tryz.prog W = .ok (.bool (decide (s ∈ S))) W := by
  obtain ⟨D, h1, h2⟩ := h
  obtain ⟨kl, hk⟩ := hs.key
  obtain ⟨v, ps, hrun, hv⟩ := h1.lookup strKeyed (e := 4) (t := 115) Tryz.underlying115 (Tryz.zeroValue4 W) (plainElem_bool Tryz.underlying4 false) hk
  rw [h2 s kl hs hk] at hv
  have hv' : v = .bool (decide (s ∈ S)) := by
    unfold plainElem at hv
    cases v <;> simp_all [Tryz.underlying4]
  rw [hrun, hv']
theorem SetS.put {W : World} {b n : Nat} {S : List (Int × Int)} (h : SetS W b n S) {s : Int × Int} (hs : SmallS s) (hn : n < 1000000) : ∃ w', (Instr.mapUpdate 115 (.map (some b)) (strV s) (.bool true)).run Tryz.prog W = .ok () w' ∧ SetS w' b (n + 1) (S ++ [s]) ∧ W.grownBy w' (some b) := by
  obtain ⟨D, h1, h2⟩ := h
  obtain ⟨kl, hk⟩ := hs.key
  obtain ⟨w', hrun, h3, h4⟩ := h1.update strKeyed (e := 4) (t := 115) Tryz.underlying115 (by unfold maxLen; omega) hk (plainElem_bool Tryz.underlying4 true)
  refine ⟨w', hrun, ⟨_, h3, fun s' kl' hs' hk' => ?_⟩, h4⟩
  by_cases e : s' = s
  · subst e
    rw [hk] at hk'
    cases hk'
    rw [atKey_put_same h1.isMap (strKeyed.key hk)]
    simp
  · have hne : kl' ≠ kl := fun e' => e (by
      subst e'
      exact strV_inj (strKeyed.inj hk' hk))
    rw [atKey_put_other hne, h2 s' kl' hs' hk']
    have : decide (s' ∈ S ++ [s]) = decide (s' ∈ S) := by simp [e]
    rw [this]
end Go.Proofs
end

section
namespace Go.Proofs
open Go.RowKit

def surveysE (N : Int) : List (List Int) → Int
  | [] => 0
  | l :: r => if fromB l.length 1 6 then (if listedE N l = 0 then surveysE N r else listedE N l) else 3
def inB (N : Int) (s : Int × Int) : Bool := Cl s.1 N && Cl s.2 N
def caseE (C : CaseL) : Int :=
  if !fromB C.claims 1 14 || decide (60 < C.strikes.length) || decide (6 < C.surveys.length) then 3
  else if !C.strikes.all (inB C.claims) then 2
  else if ¬ C.strikes.Nodup then 6
  else surveysE C.claims C.surveys

theorem fromB_iff {n a b : Int} : fromB n a b = true ↔ a ≤ n ∧ n ≤ b := by unfold fromB; simp
theorem fromB_false {n a b : Int} : fromB n a b = false ↔ ¬ (a ≤ n ∧ n ≤ b) := by rw [Bool.eq_false_iff, ne_eq, fromB_iff]
theorem Cl_iff {n N : Int} : Cl n N = true ↔ 0 ≤ n ∧ n < N := by unfold Cl; rw [fromB_iff]; omega
theorem inB_iff {N : Int} {s : Int × Int} : inB N s = true ↔ (0 ≤ s.1 ∧ s.1 < N) ∧ (0 ≤ s.2 ∧ s.2 < N) := by unfold inB; rw [Bool.and_eq_true, Cl_iff, Cl_iff]

structure CaseOk (C : CaseL) : Prop where
  n1 : 1 ≤ C.claims
  n2 : C.claims ≤ 14
  few : C.strikes.length ≤ 60
  fews : C.surveys.length ≤ 6
  ins : ∀ s ∈ C.strikes, (0 ≤ s.1 ∧ s.1 < C.claims) ∧ (0 ≤ s.2 ∧ s.2 < C.claims)
  once : C.strikes.Nodup
  svs : ∀ l ∈ C.surveys, (1 ≤ l.length ∧ l.length ≤ 6) ∧ listedE C.claims l = 0

theorem surveysE_ok {N : Int} : ∀ {L : List (List Int)}, surveysE N L = 0 → ∀ l ∈ L, (1 ≤ l.length ∧ l.length ≤ 6) ∧ listedE N l = 0
  | [], _, l, hl => by simp at hl
  | l :: r, h, l', hl => by
    unfold surveysE at h
    split at h
    · rename_i hf
      have hf := fromB_iff.1 hf
      split at h
      · rename_i he
        rcases List.mem_cons.1 hl with rfl | hl
        · exact ⟨by omega, he⟩
        · exact surveysE_ok h l' hl
      · rename_i he; exact absurd h he
    · cases h
theorem caseE_ok {C : CaseL} (h : caseE C = 0) : CaseOk C := by
  unfold caseE at h
  split at h
  · cases h
  rename_i h1
  split at h
  · cases h
  rename_i h2
  split at h
  · cases h
  rename_i h3
  simp only [Bool.or_eq_true, Bool.not_eq_true', decide_eq_true_eq, not_or, Bool.not_eq_false] at h1 h2
  obtain ⟨⟨a, b⟩, c⟩ := h1
  have a := fromB_iff.1 a
  refine ⟨a.1, a.2, by omega, by omega, fun s hs => inB_iff.1 (List.all_eq_true.1 h2 s hs), by simpa using h3, surveysE_ok h⟩

theorem runs_84 (args : Array Value) (w : World) : (callFunc 84 args).run Tryz.prog w = .ok (.enter 84 args) w := by simp [go_sem]

set_option maxHeartbeats 400000 in
theorem check1_any (x y N : Int) (a1 a2 : Option Addr) (n1 n2 c1 c2 b : Nat) (w : World) (hN : 1 ≤ N ∧ N ≤ 14) (hb : Blk w b 25 #[.int .i64 N, .slice a1 n1 c1, .slice a2 n2 c2]) :
    Calls Tryz.prog 84 #[.agg #[.int .i64 x, .int .i64 y], .pointer (some ⟨b, 0, none⟩)] w fun e w' => e = .returned (.bool (!Cl x N || !Cl y N)) ∧ Aft w w' := by
  have k0 := hb.cell 0
  have k1 := hb.cell 1
  have k2 := hb.cell 2
  have hlt := hb.lt
  simp only [List.getElem?_toArray, List.getElem?_cons_zero, List.getElem?_cons_succ] at k0 k1 k2
  have HB := Lib.hid hb
  clear hb
  go_enter Tryz.func84, Tryz.ntmps84
  cases h1 : Cl x N
  · have H1 := Lib.hid h1
    clear h1
    go_wp2_with (go_at_call 59; refine (strange_any N x a1 a2 n1 n2 c1 c2 _ hN).mono ?_; rintro e w' ⟨rfl, u, rfl⟩; rw [H1.out])
    go_ret
    exact ⟨rfl, (Aft.alloc _ _).then_lat _⟩
  · have H1 := Lib.hid h1
    clear h1
    go_wp2_with (first | (go_at_call_of 59 (Value.int IntKind.i64 x); refine (strange_any N x a1 a2 n1 n2 c1 c2 _ hN).mono ?_; rintro e w' ⟨rfl, u, rfl⟩; rw [H1.out]) | (go_at_call_of 59 (Value.int IntKind.i64 y); refine (strange_any N y a1 a2 n1 n2 c1 c2 _ hN).mono ?_; rintro e w' ⟨rfl, u2, rfl⟩))
    go_ret
    exact ⟨rfl, ((Aft.alloc _ _).then_lat _).then_lat _⟩
theorem check1_asks (x y N : Int) (a1 a2 : Option Addr) (n1 n2 c1 c2 b : Nat) (w : World) (hN : 1 ≤ N ∧ N ≤ 14) (hb : Blk w b 25 #[.int .i64 N, .slice a1 n1 c1, .slice a2 n2 c2]) :
    Asks Tryz.prog 84 [.pointer (some ⟨b, 0, none⟩)] w (.agg #[.int .i64 x, .int .i64 y]) (!Cl x N || !Cl y N) := fun u => check1_any x y N a1 a2 n1 n2 c1 c2 b _ hN (hb.lat u)

theorem none_check1 (N : Int) (a1 a2 : Option Addr) (n1 n2 c1 c2 b : Nat) (A : Option Addr) (l : List (Int × Int)) (c : Nat) (w : World) (hN : 1 ≤ N ∧ N ≤ 14) (hb : Blk w b 25 #[.int .i64 N, .slice a1 n1 c1, .slice a2 n2 c2]) (hA : Strs w A l) :
    Calls Tryz.prog 83 #[.slice A l.length c, .func (.func 84) #[] #[.pointer (some ⟨b, 0, none⟩)]] w fun e w' => e = .returned (.bool (l.all (inB N))) ∧ Aft w w' :=
  (none_strike StrR 84 [.pointer (some ⟨b, 0, none⟩)] (fun s => !Cl s.1 N || !Cl s.2 N) A l c w hA runs_84 (fun s _ v0 v1 hv => by cases hv; exact check1_asks s.1 s.2 N a1 a2 n1 n2 c1 c2 b w hN hb)).mono
    fun _ _ ⟨h, ha⟩ => ⟨by rw [h]; exact ret_bool (by
      rw [List.all_eq_not_any_not]
      congr 1
      congr 1
      funext s
      unfold inB
      rw [Bool.not_and]), ha⟩
end Go.Proofs
end
