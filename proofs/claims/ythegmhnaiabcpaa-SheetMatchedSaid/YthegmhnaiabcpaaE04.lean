/- Own texts, merged: Rgu Wc Sa Sb Wd PWk PRt PLs. -/
import Derived.Test.YthegmhnaiabcpaaE03
set_option linter.unusedSimpArgs false
set_option linter.unusedVariables false
set_option linter.unnecessarySimpa false
section
/- A region that draws its order among its first operations, whose values are known or left open, and ends in a chain, in the order of the text. -/
namespace Go
/-- whether an operation is wanted, by what is known -/
def wantedO (vals : List (Option Value)) (o : Oper) : Bool :=
  match o.guard with
  | none => true
  | some (j, b) => match vals[j]? with
    | some (some (.bool x)) => x == b
    | _ => false
/-- Guards are asked of operations that come before and whose values are known. -/
def guardsO (xs : List Oper) (vals : List (Option Value)) : Bool := xs.all fun o => match o.guard with
  | none => true
  | some (j, _) => (Region.preds o).contains j && ((xs[j]?).bind (·.dst)).isSome && (decide (vals.length ≤ j) || ((vals[j]?).join).isSome)
def FactO (vals : List (Option Value)) : (Nat → Bool) → Nat → Value → World → Prop := fun _ i v _ => ∀ u, vals[i]? = some (some u) → v = u
/-- The values, the open ones filled in. -/
def fill : List (Option Value) → List Value → List Value
  | [], _ => []
  | some v :: r, us => v :: fill r us
  | none :: r, u :: us => u :: fill r us
  | none :: r, [] => undef :: fill r []
theorem fill_of : ∀ (vals : List (Option Value)) (vs : List Value), vs.length = vals.length → (∀ (i : Nat) (u : Value), vals[i]? = some (some u) → vs[i]? = some u) → ∃ us : List Value, us.length = (vals.filter (·.isNone)).length ∧ vs = fill vals us
  | [], [], _, _ => ⟨[], rfl, rfl⟩
  | some v :: r, x :: vs, hl, h => by
    obtain ⟨us, h1, h2⟩ := fill_of r vs (by simpa using hl) (fun i u hu => by simpa using h (i + 1) u (by simpa using hu))
    have := h 0 v rfl
    simp at this
    exact ⟨us, by simpa using h1, by rw [h2, this]; rfl⟩
  | none :: r, x :: vs, hl, h => by
    obtain ⟨us, h1, h2⟩ := fill_of r vs (by simpa using hl) (fun i u hu => by simpa using h (i + 1) u (by simpa using hu))
    exact ⟨x :: us, by simpa using h1, by rw [h2]; rfl⟩
  | _ :: _, [], hl, _ => by simp at hl
  | [], _ :: _, hl, _ => by simp at hl
/-- What is known when operation i comes up. -/
structure KnowsO (xs : List Oper) (vals : List (Option Value)) (a0 : Act) (i : Nat) (a : Act) : Prop where
  at_ : ∀ (j : Nat) (o : Oper) (s : Nat) (v : Value), xs[i]? = some o → j ∈ Region.preds o → ∀ oj, xs[j]? = some oj → oj.dst = some s → vals[j]? = some (some v) → a.eval (.tmp s) = v
  same : ∀ s : Nat, s ∉ xs.filterMap (·.dst) → a.eval (.tmp s) = a0.eval (.tmp s)
section
variable {P : Program} {Q : Exit → Act → World → Prop} {a0 : Act}
theorem wanted_eqO {xs : List Oper} {vals : List (Option Value)} {Wd : (Nat → Bool) → Act → World → Prop} {done : Nat → Bool} {a : Act} {w : World} {o : Oper} (hin : ∀ o ∈ xs, ∀ s, o.dst = some s → s < a0.tmps.size)
    (h : HeldG xs.toArray (FactO vals) Wd a0 done a w) (ho : o ∈ xs) (hp : ∀ j ∈ Region.preds o, done j = true) (hlo : ∀ j, vals.length ≤ j → done j = false) (hG : guardsO xs vals = true) : Region.wanted o (yielded xs.toArray a.tmps) = wantedO vals o := by
  have hg := List.all_eq_true.1 hG o ho
  unfold Region.wanted wantedO
  cases hgd : o.guard with
  | none => rfl
  | some p =>
    obtain ⟨j, b⟩ := p
    rw [hgd] at hg
    simp only [Bool.and_eq_true, Bool.or_eq_true, decide_eq_true_eq] at hg
    obtain ⟨⟨h1, h2⟩, h3⟩ := hg
    have hdj' := hp j (by simpa using h1)
    rcases h3 with h3 | h3
    · rw [hlo j h3] at hdj'; cases hdj'
    obtain ⟨s, hs⟩ := Option.isSome_iff_exists.1 h2
    obtain ⟨oj, hoj, hdj⟩ := Option.bind_eq_some_iff.1 hs
    obtain ⟨u, hu⟩ := Option.isSome_iff_exists.1 h3
    have hu' : vals[j]? = some (some u) := by
      cases e : vals[j]? with
      | none => rw [e] at hu; cases hu
      | some x => rw [e] at hu; cases x with
        | none => cases hu
        | some y => simp at hu; rw [hu]
    have hv : a.eval (.tmp s) = u := h.fact j oj s (by simpa using hoj) hdj hdj' u hu'
    have hlt : s < a.tmps.size := by rw [h.size]; exact hin oj (List.mem_of_getElem? hoj) s hdj
    have hy : yielded xs.toArray a.tmps j = match a.eval (.tmp s) with | .bool b => some b | _ => none := by
      unfold yielded
      have : ((xs.toArray[j]?).bind (·.dst)).bind (a.tmps[·]?) = some (a.eval (.tmp s)) := by
        rw [List.getElem?_toArray, hs, Option.bind_some]
        simp only [Act.eval, Array.getD_eq_getD_getElem?]
        rw [Array.getElem?_eq_getElem hlt]
        rfl
      rw [this]
      cases a.eval (.tmp s) <;> rfl
    simp only [hy, hu', hv]
    cases u <;> simp

theorem any_valsU {xs : List Oper} (m n : Nat) (hn : a0.tmps.size = n) (hB : factsGB xs n = true) (hT : tailB xs m = true) (vals : List (Option Value)) (hG : guardsO xs vals = true) (hl : vals.length = m) (Wd : (Nat → Bool) → Act → World → Prop)
    (step : ∀ (i : Nat) (o : Oper) (v : Option Value), xs[i]? = some o → vals[i]? = some v → wantedO vals o = true ∧ (∀ (done : Nat → Bool) (a : Act) (w : World), a.tmps.size = n → done i = false → (∀ j ∈ Region.preds o, done j = true) → KnowsO xs vals a0 i a → Wd done a w → ∀ K : Act → World → Prop, (∀ y w', (∀ u, v = some u → y = u) → Wd (Go.upd done i) (a.put o.dst y) w' → K (a.put o.dst y) w') → Oper.wp P o a w K Q) ∨ wantedO vals o = false ∧ v = some undef ∧ (∀ done a w, Wd done a w → Wd (Go.upd done i) (a.put o.dst undef) w))
    (fin : ∀ done us w, us.length = (vals.filter (·.isNone)).length → (∀ j, j < m → done j = true) → Wd done (putAll a0 (xs.zip (fill vals us))) w → wpList P xs.toArray Q (xs.drop m) (putAll a0 (xs.zip (fill vals us))) w) :
    ∀ (fuel : Nat) (listed : Array Bool) (a : Act) (w : World), listed.size = xs.toArray.size → HeldG xs.toArray (FactO vals) Wd a0 (dn listed) a w → (∀ j, m ≤ j → dn listed j = false) → (unl xs.toArray (dn listed)).length ≤ fuel → wpAny P .any xs.toArray Q fuel listed a w := by
  have hT' := hT
  unfold tailB at hT'
  rw [Bool.and_eq_true, Bool.and_eq_true, Bool.and_eq_true, decide_eq_true_eq] at hT'
  obtain ⟨⟨⟨hmx, t1⟩, t2⟩, t3⟩ := hT'
  have hB' := hB
  unfold factsGB at hB'
  rw [Bool.and_eq_true, Bool.and_eq_true] at hB'
  obtain ⟨⟨h2', h3⟩, h4⟩ := hB'
  have hin : ∀ o ∈ xs, ∀ s, o.dst = some s → s < a0.tmps.size := fun o ho s hs => by
    have := List.all_eq_true.1 h3 o ho
    rw [hs] at this
    rw [hn]
    simpa using this
  have hdst : ∀ (i j : Nat) (oi oj : Oper) (s : Nat), xs.toArray[i]? = some oi → xs.toArray[j]? = some oj → oi.dst = some s → oj.dst = some s → i = j := fun i j oi oj s hi hj => nodup_dst (of_decide_eq_true h2') i j oi oj s (by simpa using hi) (by simpa using hj)
  have hin' : ∀ (i : Nat) (o : Oper) (s : Nat), xs.toArray[i]? = some o → o.dst = some s → s < a0.tmps.size := fun i o s ho => hin o (List.mem_of_getElem? (by simpa using ho)) s
  -- the tail
  have tail : ∀ (listed : Array Bool) (a : Act) (w : World), listed.size = xs.toArray.size → HeldG xs.toArray (FactO vals) Wd a0 (dn listed) a w → (∀ j, m ≤ j → dn listed j = false) → (∀ j, j < m → dn listed j = true) → wpAny P .any xs.toArray Q (xs.length - m) listed a w := by
    intro listed a w hs hH hlo hall
    obtain ⟨us, hus, ea⟩ : ∃ us, us.length = (vals.filter (·.isNone)).length ∧ a = putAll a0 (xs.zip (fill vals us)) := by
      let vs : List Value := (List.range m).map fun i => match xs[i]? with | some o => (match o.dst with | some s => a.eval (.tmp s) | none => ((vals[i]?).join).getD undef) | none => undef
      have hvl : vs.length = m := by simp [vs]
      have hvg : ∀ i, i < m → vs[i]? = some (match xs[i]? with | some o => (match o.dst with | some s => a.eval (.tmp s) | none => ((vals[i]?).join).getD undef) | none => undef) := fun i hi => by simp [vs, hi]
      obtain ⟨us, h1, h2⟩ := fill_of vals vs (by omega) (fun i u hu => by
        have him : i < m := by rw [← hl]; exact (List.getElem?_eq_some_iff.1 hu).1
        rw [hvg i him]
        have hx : xs[i]? = some xs[i] := List.getElem?_eq_getElem (by omega)
        rw [hx]
        cases hd : xs[i].dst with
        | none => simp [hd, hu]
        | some s => simp only [hd]; rw [hH.fact i xs[i] s (by simpa using hx) hd (hall i him) u hu])
      refine ⟨us, h1, ?_⟩
      rw [← h2]
      have hzl : (xs.take m).zip vs = xs.zip vs := zip_take_left xs vs m (by omega)
      rw [← hzl]
      have hfm : ∀ s, s ∈ (xs.take m).filterMap (·.dst) → s ∈ xs.filterMap (·.dst) := fun s h => by
        obtain ⟨o, ho, he⟩ := List.mem_filterMap.1 h
        exact List.mem_filterMap.2 ⟨o, List.mem_of_mem_take ho, he⟩
      refine held_putAll (xs := xs.take m) (vals := vs) (Wd := fun _ _ => True) (done := dn listed) (w := w) (by rw [List.length_take]; omega) ?_ (fun o ho => hin o (List.mem_of_mem_take ho)) (fun i hi => hall i (by rw [List.length_take] at hi; omega)) ?_
      · exact (of_decide_eq_true h2').sublist ((List.take_sublist m xs).filterMap _)
      · refine ⟨trivial, hH.size, hH.defers, fun i o ho hd j hj => ?_, fun s hs' => ?_, fun i o s ho hs' hd => ?_⟩
        · have ho' : (xs.take m)[i]? = some o := by simpa using ho
          rw [List.getElem?_take] at ho'
          split at ho'
          · exact hH.closed i o (by simpa using ho') hd j hj
          · cases ho'
        · refine hH.old s fun k ok hk he => ?_
          by_cases hkm : k < m
          · exact hs' k ok (by rw [List.getElem?_toArray, List.getElem?_take, if_pos hkm]; simpa using hk) he
          · exact hlo k (by omega)
        · have ho' : (xs.take m)[i]? = some o := by simpa using ho
          rw [List.getElem?_take] at ho'
          split at ho'
          · rename_i him
            show vs[i]? = some _
            rw [hvg i him, ho']
            simp only [hs']
          · cases ho'
    have hseq : Region.seqB .any xs.toArray (xs.drop m).length m listed = true := by
      rw [List.length_drop, listed_eq (by simpa using hs) hall hlo]
      exact t3
    have := wpAny_of_seq (P := P) (md := .any) (ops := xs.toArray) (Q' := Q) (xs.drop m) m listed a w (fun j => by simp [List.getElem?_drop]) hseq (by rw [ea]; exact fin _ _ _ hus hall (by rw [← ea]; exact hH.wd))
    rwa [List.length_drop] at this
  intro fuel
  induction fuel with
  | zero =>
    intro listed a w hs hH hlo hf
    exfalso
    have : m ∈ unl xs.toArray (dn listed) := List.mem_filter.2 ⟨List.mem_range.2 (by simpa using hmx), by simp [hlo m (Nat.le_refl _)]⟩
    have hz : unl xs.toArray (dn listed) = [] := List.eq_nil_of_length_eq_zero (by omega)
    rw [hz] at this
    cases this
  | succ fuel ih =>
    intro listed a w hs hH hlo hf
    by_cases hall : ∀ j, j < m → dn listed j = true
    · have hge : xs.length - m ≤ fuel + 1 := by
        have : (unl xs.toArray (dn listed)).length = xs.length - m := by
          unfold unl
          have e : (List.range xs.toArray.size).filter (fun i => !dn listed i) = (List.range xs.length).filter (fun i => decide (m ≤ i)) := by
            rw [List.size_toArray]
            apply List.filter_congr
            intro i _
            by_cases e : i < m
            · rw [hall i e]; simp; omega
            · rw [hlo i (by omega)]; simp; omega
          rw [e]
          have hc : ∀ (q : Nat), ((List.range q).filter (fun i => decide (m ≤ i))).length = q - m := by
            intro q
            induction q with
            | zero => simp
            | succ q ihq =>
              rw [List.range_succ, List.filter_append, List.length_append, ihq]
              by_cases e : m ≤ q
              · simp [e]; omega
              · simp [e]; omega
          exact hc _
        omega
      exact wpAny_up hge (tail listed a w hs hH hlo hall)
    · refine ⟨fun hr => ?_, fun i hi => ?_⟩
      · exact absurd (fun j hj => all_done hs (fun i o ho j hj => by
          have ho' : xs[i]? = some o := by simpa using ho
          have := List.all_eq_true.1 h4 i (List.mem_range.2 (List.getElem?_eq_some_iff.1 ho').1)
          rw [ho'] at this
          have := List.all_eq_true.1 this j hj
          simpa using this) hr j (by simp; omega)) hall
      · obtain ⟨o, ho, hd1, hp⟩ := mem_ready' rfl hs hi
        have ho' : xs[i]? = some o := by simpa using ho
        have hio := (Array.getElem?_eq_some_iff.1 ho).1
        have him : i < m := by
          refine Nat.lt_of_not_le fun hmi => ?_
          by_cases e : i = m
          · subst e
            exact hall (all_before hH t1 ho' hp)
          · have h5 := List.all_eq_true.1 t2 i (List.mem_range.2 (by simpa using hio))
            rw [Bool.or_eq_true, decide_eq_true_eq, ho'] at h5
            rcases h5 with h5 | h5
            · omega
            · obtain ⟨k, hk, hkk⟩ := List.any_eq_true.1 h5
              rw [Bool.and_eq_true, decide_eq_true_eq, decide_eq_true_eq] at hkk
              have := hp k hk
              rw [hlo k hkk.1] at this
              cases this
        have hv : vals[i]? = some vals[i] := List.getElem?_eq_getElem (by omega)
        have hk : KnowsO xs vals a0 i a := ⟨fun j o' s v hx hj oj hoj hs hvj => by
          rw [ho'] at hx; cases hx
          exact hH.fact j oj s (by simpa using hoj) hs (hp j hj) v hvj, fun s hs => hH.same (by simpa using hs)⟩
        unfold wpOp
        simp only [ho]
        have next : ∀ (y : Value) (w' : World), (∀ u, vals[i] = some u → y = u) → Wd (upd (dn listed) i) (a.put o.dst y) w' → wpAny P .any xs.toArray Q fuel (listed.setIfInBounds i true) (a.put o.dst y) w' := fun y w' hy hw' => by
          refine ih _ _ _ (by simpa using hs) ?_ (fun j hj => ?_) ?_
          · rw [dn_set (by omega)]
            exact hH.put ho hd1 hp hdst hin' (fun u hu => hy u (by rw [hv] at hu; exact Option.some.inj hu)) hw' fun _ _ _ _ _ _ h => h
          · rw [dn_set (by omega)]
            unfold Go.upd
            rw [if_neg (by omega)]
            exact hlo j hj
          · rw [dn_set (by omega)]
            have := unl_lt (ops := xs.toArray) hio hd1
            omega
        rw [wanted_eqO hin hH (List.mem_of_getElem? ho') hp (fun j hj => hlo j (by omega)) hG]
        rcases step i o _ ho' hv with ⟨hw, hst⟩ | ⟨hw, hst, hst2⟩
        · rw [if_pos hw]
          exact .inl (hst _ a w (by rw [hH.size]; exact hn) hd1 hp hk hH.wd _ next)
        · rw [if_neg (by rw [hw]; decide)]
          exact next undef w (fun u hu => by rw [hst] at hu; exact Option.some.inj hu) (hst2 _ _ _ hH.wd)

theorem wp_region_valsU {id : Nat} {xs : List Oper} {w : World} (hm : P.follows .mixedOrders = true) (m n : Nat) (hn : a0.tmps.size = n) (hB : factsGB xs n = true) (hT : tailB xs m = true) (vals : List (Option Value)) (hG : guardsO xs vals = true) (hl : vals.length = m) (Wd : (Nat → Bool) → Act → World → Prop) (h0 : Wd (fun _ => false) a0 w.drew)
    (step : ∀ (i : Nat) (o : Oper) (v : Option Value), xs[i]? = some o → vals[i]? = some v → wantedO vals o = true ∧ (∀ (done : Nat → Bool) (a : Act) (w : World), a.tmps.size = n → done i = false → (∀ j ∈ Region.preds o, done j = true) → KnowsO xs vals a0 i a → Wd done a w → ∀ K : Act → World → Prop, (∀ y w', (∀ u, v = some u → y = u) → Wd (Go.upd done i) (a.put o.dst y) w' → K (a.put o.dst y) w') → Oper.wp P o a w K Q) ∨ wantedO vals o = false ∧ v = some undef ∧ (∀ done a w, Wd done a w → Wd (Go.upd done i) (a.put o.dst undef) w))
    (fin : ∀ done us w, us.length = (vals.filter (·.isNone)).length → (∀ j, j < m → done j = true) → Wd done (putAll a0 (xs.zip (fill vals us))) w → wpList P xs.toArray Q (xs.drop m) (putAll a0 (xs.zip (fill vals us))) w) : (Code.region id xs.toArray true).wp P Q a0 w := by
  refine wp_region_any hm ?_
  have e0 : dn (Array.replicate xs.toArray.size false) = fun _ => false := by
    funext i
    unfold dn
    rw [Array.getD_eq_getD_getElem?, Array.getElem?_replicate]
    split <;> rfl
  refine any_valsU m n hn hB hT vals hG hl Wd step fin _ _ _ _ (by simp) ?_ (fun j _ => by rw [e0]) ?_
  · rw [e0]
    exact ⟨h0, rfl, rfl, (fun i o _ h => by cases h), (fun s _ => rfl), (fun i o s _ _ h => by cases h)⟩
  · have : (unl xs.toArray (dn (Array.replicate xs.toArray.size false))).length ≤ (List.range xs.toArray.size).length := List.length_filter_le _ _
    simpa using this
end
end Go
end

section
/- A set at work: its 434 cells, told by how far sheets lie apart and by which legs. -/
namespace Go.Proofs
open Go.RowKit

def apL (ap : Nat → Int) : List Value := (List.range 144).map fun i => Value.int .i64 (ap i)
def legC (g : Nat × Bool) (j : Nat) : Value := if j % 2 = 0 then .int .i64 (g.1 : Nat) else .bool g.2
def byL (bf : Nat → Nat × Bool) : List Value := (List.range 288).map fun j => legC (bf (j / 2)) j
theorem apL_len (ap : Nat → Int) : (apL ap).length = 144 := by unfold apL; rw [List.length_map, List.length_range]
theorem byL_len (bf : Nat → Nat × Bool) : (byL bf).length = 288 := by unfold byL; rw [List.length_map, List.length_range]
theorem apL_get (ap : Nat → Int) {i : Nat} (h : i < 144) : (apL ap)[i]? = some (.int .i64 (ap i)) := by unfold apL; rw [List.getElem?_map, List.getElem?_range h]; rfl
theorem byL_get (bf : Nat → Nat × Bool) {i : Nat} (h : i < 288) : (byL bf)[i]? = some (legC (bf (i / 2)) i) := by unfold byL; rw [List.getElem?_map, List.getElem?_range h]; rfl
def updF {α : Type} (f : Nat → α) (c : Nat) (x : α) : Nat → α := fun i => if i = c then x else f i
theorem apL_set (ap : Nat → Int) {n : Nat} (h : n < 144) (x : Int) : (apL ap).set n (.int .i64 x) = apL (updF ap n x) := by
  apply List.ext_getElem?
  intro i
  rw [List.getElem?_set]
  by_cases hi : i < 144
  · rw [apL_get _ hi, apL_get _ hi, apL_len]
    unfold updF
    by_cases e : n = i
    · subst e; simp [h]
    · rw [if_neg e, if_neg (by omega)]
  · rw [if_neg (by omega), List.getElem?_eq_none (by rw [apL_len]; omega), List.getElem?_eq_none (by rw [apL_len]; omega)]
theorem byL_set (bf : Nat → Nat × Bool) {n : Nat} (h : n < 144) (g : Nat × Bool) : ((byL bf).set (2 * n) (.int .i64 (g.1 : Nat))).set (2 * n + 1) (.bool g.2) = byL (updF bf n g) := by
  apply List.ext_getElem?
  intro i
  rw [List.getElem?_set, List.getElem?_set, List.length_set]
  by_cases hi : i < 288
  · rw [byL_get _ hi, byL_get _ hi, byL_len]
    unfold updF legC
    by_cases e1 : 2 * n + 1 = i
    · subst e1
      rw [if_pos rfl, if_pos (by omega), if_pos (show (2 * n + 1) / 2 = n by omega), if_neg (by omega)]
    · rw [if_neg e1]
      by_cases e2 : 2 * n = i
      · subst e2
        rw [if_pos rfl, if_pos (by omega), if_pos (show 2 * n / 2 = n by omega), if_pos (by omega)]
      · rw [if_neg e2, if_neg (show ¬ i / 2 = n by omega)]
  · rw [if_neg (by omega), if_neg (by omega), List.getElem?_eq_none (by rw [byL_len]; omega), List.getElem?_eq_none (by rw [byL_len]; omega)]

/-- The cells of a set at work. -/
def workL (n : Int) (sl : Value) (ap : Nat → Int) (bf : Nat → Nat × Bool) : List Value := [.int .i64 n, sl] ++ (apL ap ++ byL bf)
def workC (n : Int) (sl : Value) (ap : Nat → Int) (bf : Nat → Nat × Bool) : Array Value := (workL n sl ap bf).toArray
section
variable (n : Int) (sl : Value) (ap : Nat → Int) (bf : Nat → Nat × Bool)
theorem workC_0 : (workC n sl ap bf)[0]? = some (.int .i64 n) := rfl
theorem workC_1 : (workC n sl ap bf)[1]? = some sl := rfl
theorem workC_ap {i : Nat} (h : i < 144) : (workC n sl ap bf)[2 + i]? = some (.int .i64 (ap i)) := by
  unfold workC workL
  rw [List.getElem?_toArray, List.getElem?_append_right (by simp <;> omega), List.getElem?_append_left (by rw [apL_len]; simp <;> omega)]
  rw [show 2 + i - [Value.int .i64 n, sl].length = i by simp]
  exact apL_get ap h
theorem workC_by {i : Nat} (h : i < 288) : (workC n sl ap bf)[146 + i]? = some (legC (bf (i / 2)) i) := by
  unfold workC workL
  rw [List.getElem?_toArray, List.getElem?_append_right (by simp <;> omega), List.getElem?_append_right (by rw [apL_len]; simp <;> omega)]
  rw [show 146 + i - [Value.int .i64 n, sl].length - (apL ap).length = i by rw [apL_len]; simp <;> omega]
  exact byL_get bf h
theorem workC_leg {i : Nat} (h : i < 144) : (workC n sl ap bf)[146 + 2 * i]? = some (.int .i64 ((bf i).1 : Nat)) ∧ (workC n sl ap bf)[146 + 2 * i + 1]? = some (.bool (bf i).2) := by
  have h1 := workC_by n sl ap bf (i := 2 * i) (by omega)
  have h2 := workC_by n sl ap bf (i := 2 * i + 1) (by omega)
  rw [show 2 * i / 2 = i by omega] at h1
  rw [show (2 * i + 1) / 2 = i by omega] at h2
  unfold legC at h1 h2
  rw [if_pos (by omega)] at h1
  rw [if_neg (by omega)] at h2
  exact ⟨h1, h2⟩
theorem workC_setAp {i : Nat} (h : i < 144) (x : Int) : (workC n sl ap bf).setIfInBounds (2 + i) (.int .i64 x) = workC n sl (updF ap i x) bf := by
  unfold workC workL
  rw [List.setIfInBounds_toArray, List.set_append_right _ _ (by simp <;> omega), List.set_append_left _ _ (by rw [apL_len]; simp <;> omega)]
  rw [show 2 + i - [Value.int .i64 n, sl].length = i by simp, apL_set ap h]
theorem workC_setBy {i : Nat} (h : i < 144) (g : Nat × Bool) : ((workC n sl ap bf).setIfInBounds (146 + 2 * i) (.int .i64 (g.1 : Nat))).setIfInBounds (146 + 2 * i + 1) (.bool g.2) = workC n sl ap (updF bf i g) := by
  unfold workC workL
  rw [List.setIfInBounds_toArray, List.setIfInBounds_toArray, List.set_append_right _ _ (by simp <;> omega), List.set_append_right _ _ (by simp <;> omega),
    List.set_append_right _ _ (by rw [apL_len]; simp <;> omega), List.set_append_right _ _ (by rw [apL_len]; simp <;> omega)]
  rw [show 146 + 2 * i - [Value.int .i64 n, sl].length - (apL ap).length = 2 * i by rw [apL_len]; simp <;> omega, show 146 + 2 * i + 1 - [Value.int .i64 n, sl].length - (apL ap).length = 2 * i + 1 by rw [apL_len]; simp <;> omega, byL_set bf h]
end
end Go.Proofs
end

section
/- Walks: Check, opened. -/
namespace Go.Proofs
open Go.RowKit
attribute [local go_sem] Oper.semAt_some

/-- A set of sheets and joints. -/
structure SetL where
  n : Int
  J : List Q4
def okJ (n : Int) (j : Q4) : Bool := fromB j.a 0 (n - 1) && fromB j.b 0 (n - 1) && (j.a != j.b)
def numJ (j : Q4) : Bool := fromB j.x (-1000000) 1000000 && fromB j.y (-1000000) 1000000
/-- The error of a set. -/
def setE (S : SetL) : Int :=
  if !fromB S.n 1 12 || decide (40 < S.J.length) then 3 else if !S.J.all (okJ S.n) then 2 else if !S.J.all numJ then 4 else 0

theorem setE_count {S : SetL} (h : fromB S.n 1 12 = false ∨ 40 < S.J.length) : setE S = 3 := by
  unfold setE
  rw [if_pos]
  rcases h with h | h <;> simp [h]
theorem setE_arg {S : SetL} (h : fromB S.n 1 12 = true) (h1 : ¬ 40 < S.J.length) (h2 : S.J.all (okJ S.n) = false) : setE S = 2 := by
  unfold setE
  rw [if_neg (by simp [h]; omega), if_pos (by rw [h2]; rfl)]
theorem setE_value {S : SetL} (h : fromB S.n 1 12 = true) (h1 : ¬ 40 < S.J.length) (h2 : S.J.all (okJ S.n) = true) (h3 : S.J.all numJ = false) : setE S = 4 := by
  unfold setE
  rw [if_neg (by simp [h]; omega), if_neg (by rw [h2]; simp), if_pos (by rw [h3]; rfl)]
theorem setE_fine {S : SetL} (h : fromB S.n 1 12 = true) (h1 : ¬ 40 < S.J.length) (h2 : S.J.all (okJ S.n) = true) (h3 : S.J.all numJ = true) : setE S = 0 := by
  unfold setE
  rw [if_neg (by simp [h]; omega), if_neg (by rw [h2]; simp), if_neg (by rw [h3]; simp)]
theorem sheet98 (n m : Int) (sl : Value) (b : Nat) (w : World) (hn : 1 ≤ n ∧ n ≤ 12) (hb : Blk w b 25 #[.int .i64 n, sl]) :
    Calls Try.prog 98 #[.int .i64 m, .pointer (some ⟨b, 0, none⟩)] w fun e w' => e = .returned (.bool (fromB m 0 (n - 1))) ∧ w = w' := by
  have k0 : w.cell? ⟨b, 0, none⟩ = some (.int .i64 n) := hb.cell 0
  have hlt := hb.lt
  clear hb
  go_enter Try.func98, Try.ntmps98
  go_wp2_with (go_at_call 45; refine (in_any _ _ _ _).mono ?_; rintro e w' ⟨rfl, rfl⟩)
  go_ret
  exact ⟨rfl, rfl⟩

set_option maxHeartbeats 1000000 in
theorem check2_any (n : Int) (j : Q4) (sl : Value) (b f : Nat) (w : World) (hn : 1 ≤ n ∧ n ≤ 12) (hb : Blk w b 25 #[.int .i64 n, sl]) (hf : Blk w f 143 #[.func (.func 98) #[] #[.pointer (some ⟨b, 0, none⟩)]]) :
    Calls Try.prog 100 #[.agg #[.int .i64 j.a, .int .i64 j.b, .int .i64 j.x, .int .i64 j.y], .pointer (some ⟨f, 0, none⟩)] w fun e w' => e = .returned (.bool (okJ n j)) ∧ Aft w w' := by
  have k0 : w.cell? ⟨f, 0, none⟩ = some (.func (.func 98) #[] #[.pointer (some ⟨b, 0, none⟩)]) := hf.cell 0
  have hlt := hf.lt
  have hlt' := hb.lt
  have HS : Hid (∀ m, Calls Try.prog 98 #[.int .i64 m, .pointer (some ⟨b, 0, none⟩)] (w.alloc (.cells #[.int .i64 j.a, .int .i64 j.b, .int .i64 j.x, .int .i64 j.y] 35)) fun e w' => e = .returned (.bool (fromB m 0 (n - 1))) ∧ (w.alloc (.cells #[.int .i64 j.a, .int .i64 j.b, .int .i64 j.x, .int .i64 j.y] 35)) = w') :=
    Lib.hid fun m => sheet98 n m sl b _ hn (hb.alloc _)
  clear hb hf
  obtain ⟨a, b', x, y⟩ := j
  dsimp only at HS
  unfold okJ
  dsimp only
  go_enter Try.func100, Try.ntmps100
  cases h1 : fromB a 0 (n - 1)
  · have H1 := Lib.hid h1
    clear h1
    go_wp2_with (go_at_call 98; refine (HS.out _).mono ?_; rintro e w' ⟨rfl, rfl⟩; rw [H1.out])
    go_ret
    exact ⟨rfl, Aft.alloc _ _⟩
  · have H1 := Lib.hid h1
    clear h1
    cases h2 : fromB b' 0 (n - 1)
    · have H2 := Lib.hid h2
      clear h2
      go_wp2_with (first | (go_at_call_of 98 (Value.int IntKind.i64 a); refine (HS.out a).mono ?_; rintro e w' ⟨rfl, rfl⟩; rw [H1.out]) | (go_at_call_of 98 (Value.int IntKind.i64 b'); refine (HS.out b').mono ?_; rintro e w' ⟨rfl, rfl⟩; rw [H2.out]))
      go_ret
      exact ⟨rfl, Aft.alloc _ _⟩
    · have H2 := Lib.hid h2
      clear h2
      go_wp2_with (first | (go_at_call_of 98 (Value.int IntKind.i64 a); refine (HS.out a).mono ?_; rintro e w' ⟨rfl, rfl⟩; rw [H1.out]) | (go_at_call_of 98 (Value.int IntKind.i64 b'); refine (HS.out b').mono ?_; rintro e w' ⟨rfl, rfl⟩; rw [H2.out]))
      go_ret
      exact ⟨rfl, Aft.alloc _ _⟩

set_option maxHeartbeats 1000000 in
theorem check3_any (j : Q4) (w : World) :
    Calls Try.prog 101 #[.agg #[.int .i64 j.a, .int .i64 j.b, .int .i64 j.x, .int .i64 j.y]] w fun e w' => e = .returned (.bool (numJ j)) ∧ Aft w w' := by
  obtain ⟨a, b, x, y⟩ := j
  unfold numJ
  dsimp only
  go_enter Try.func101, Try.ntmps101
  cases h1 : fromB x (-1000000) 1000000
  · have H1 := Lib.hid h1
    clear h1
    go_wp2_with (go_at_call 45; refine (in_any _ _ _ _).mono ?_; rintro e w' ⟨rfl, rfl⟩; rw [H1.out])
    go_ret
    exact ⟨rfl, Aft.alloc _ _⟩
  · have H1 := Lib.hid h1
    clear h1
    go_wp2_with (first | (go_at_call_of 45 (Value.int IntKind.i64 x); refine (in_any _ _ _ _).mono ?_; rintro e w' ⟨rfl, rfl⟩; rw [H1.out]) | (go_at_call_of 45 (Value.int IntKind.i64 y); refine (in_any _ _ _ _).mono ?_; rintro e w' ⟨rfl, rfl⟩))
    go_ret
    exact ⟨rfl, Aft.alloc _ _⟩
theorem runs_100 (args : Array Value) (w : World) : (callFunc 100 args).run Try.prog w = .ok (.enter 100 args) w := by simp [go_sem]
theorem runs_101 (args : Array Value) (w : World) : (callFunc 101 args).run Try.prog w = .ok (.enter 101 args) w := by simp [go_sem]
theorem every_check2 (n : Int) (J : List Q4) (A : Option Addr) (c : Nat) (sl : Value) (b f : Nat) (w : World) (hA : Quads w A J) (hn : 1 ≤ n ∧ n ≤ 12) (hb : Blk w b 25 #[.int .i64 n, sl]) (hf : Blk w f 143 #[.func (.func 98) #[] #[.pointer (some ⟨b, 0, none⟩)]]) :
    Calls Try.prog 99 #[.slice A J.length c, .func (.func 100) #[] #[.pointer (some ⟨f, 0, none⟩)]] w fun e w' => e = .returned (.bool (J.all (okJ n))) ∧ Aft w w' :=
  everyJoint (FlatR enc4) FlatR.mono 100 [.pointer (some ⟨f, 0, none⟩)] (okJ n) A J c w hA runs_100 fun x _ W ha v0 v1 v2 v3 hv u => by
    unfold FlatR enc4 at hv
    cases hv
    exact check2_any n x sl b f _ hn ((hb.aft ha).lat u) ((hf.aft ha).lat u)
theorem every_check3 (J : List Q4) (A : Option Addr) (c : Nat) (w : World) (hA : Quads w A J) :
    Calls Try.prog 99 #[.slice A J.length c, .func (.func 101) #[] #[]] w fun e w' => e = .returned (.bool (J.all numJ)) ∧ Aft w w' :=
  everyJoint (FlatR enc4) FlatR.mono 101 [] numJ A J c w hA runs_101 fun x _ W ha v0 v1 v2 v3 hv u => by
    unfold FlatR enc4 at hv
    cases hv
    exact check3_any x _

set_option maxRecDepth 100000 in
set_option maxHeartbeats 2000000 in
theorem check_any (S : SetL) (A : Option Addr) (c : Nat) (w : World) (hA : Quads w A S.J) :
    Calls Try.prog 75 #[.agg #[.int .i64 S.n, .slice A S.J.length c]] w fun e w' => e = .returned (.int .i64 (setE S)) ∧ Aft w w' := by
  obtain ⟨n, J⟩ := S
  dsimp only at hA ⊢
  have hlen := hA.len
  have h0 : Aft w (w.alloc (.cells #[.int .i64 n, .slice A J.length c] 25)) := Aft.alloc _ _
  have h01 := h0.then_alloc (.cells #[.func (.func 98) #[] #[.pointer (some ⟨w.heap.size, 0, none⟩)]] 143)
  have HB := Lib.hid ((Blk.new w 25 #[.int .i64 n, .slice A J.length c]).alloc (.cells #[.func (.func 98) #[] #[.pointer (some ⟨w.heap.size, 0, none⟩)]] 143))
  have hf := Blk.new (w.alloc (.cells #[.int .i64 n, .slice A J.length c] 25)) 143 #[.func (.func 98) #[] #[.pointer (some ⟨w.heap.size, 0, none⟩)]]
  rw [World.size_alloc] at hf
  have HF := Lib.hid hf
  have HA := Lib.hid hA
  have H01 := Lib.hid h01
  clear hA hf h0 h01
  go_enter Try.func75, Try.ntmps75
  cases h1 : fromB n 1 12
  · have H1 := Lib.hid h1
    have HE := Lib.hid (setE_count (S := ⟨n, J⟩) (.inl h1))
    clear h1
    go_wp2_with (go_at_call 45; refine (in_any _ _ _ _).mono ?_; rintro e w' ⟨rfl, rfl⟩; rw [H1.out])
    go_ret
    exact ⟨ret_int HE.out.symm, H01.out⟩
  · have hn := fromB_iff.1 h1
    have H1 := Lib.hid h1
    clear h1
    by_cases h2 : 40 < J.length
    · have t2 : decide ((40 : Int) < J.length) = true := by simp; omega
      have HE := Lib.hid (setE_count (S := ⟨n, J⟩) (.inr h2))
      clear h2
      go_wp2_with (go_at_call 45; refine (in_any _ _ _ _).mono ?_; rintro e w' ⟨rfl, rfl⟩; rw [H1.out])
      go_ret
      exact ⟨ret_int HE.out.symm, H01.out⟩
    · have t2 : decide ((40 : Int) < J.length) = false := by simp; omega
      have H2 := Lib.hid (fun W (ha : Aft _ W) => every_check2 n J A c _ _ _ W (HA.out.aft (H01.out.trans ha)) hn (HB.out.aft ha) (HF.out.aft ha))
      have H3 := Lib.hid (fun W (ha : Aft w W) => every_check3 J A c W (HA.out.aft ha))
      clear hn
      cases h3 : J.all (okJ n)
      · rw [h3] at H2
        have HE := Lib.hid (setE_arg (S := ⟨n, J⟩) H1.out h2 h3)
        clear h3 h2 H3
        go_wp2_with (first | (go_at_call 45; refine (in_any _ _ _ _).mono ?_; rintro e w' ⟨rfl, rfl⟩; rw [H1.out]) | (go_at_call 99; refine (H2.out _ (Aft.refl _)).mono ?_; rintro e w' ⟨rfl, u, rfl⟩))
        go_ret
        exact ⟨ret_int HE.out.symm, H01.out.then_lat _⟩
      · rw [h3] at H2
        cases h4 : J.all numJ
        · rw [h4] at H3
          have HE := Lib.hid (setE_value (S := ⟨n, J⟩) H1.out h2 h3 h4)
          clear h4 h3 h2
          go_wp2_with (first | (go_at_call 45; refine (in_any _ _ _ _).mono ?_; rintro e w' ⟨rfl, rfl⟩; rw [H1.out]) | (go_at_call 99; (with_reducible refine (H2.out _ (Aft.refl _)).mono ?_); rintro e w' ⟨rfl, u, rfl⟩) | (go_at_call 99; refine (H3.out _ (H01.out.then_lat _)).mono ?_; rintro e w' ⟨rfl, u2, rfl⟩))
          go_ret
          exact ⟨ret_int HE.out.symm, (H01.out.then_lat _).then_lat _⟩
        · rw [h4] at H3
          have HE := Lib.hid (setE_fine (S := ⟨n, J⟩) H1.out h2 h3 h4)
          clear h4 h3 h2
          go_wp2_with (first | (go_at_call 45; refine (in_any _ _ _ _).mono ?_; rintro e w' ⟨rfl, rfl⟩; rw [H1.out]) | (go_at_call 99; (with_reducible refine (H2.out _ (Aft.refl _)).mono ?_); rintro e w' ⟨rfl, u, rfl⟩) | (go_at_call 99; refine (H3.out _ (H01.out.then_lat _)).mono ?_; rintro e w' ⟨rfl, u2, rfl⟩))
          go_ret
          exact ⟨ret_int HE.out.symm, (H01.out.then_lat _).then_lat _⟩
end Go.Proofs
end

section
/- Walks: opened. -/
namespace Go.Proofs
open Go.RowKit
attribute [local go_sem] Oper.semAt_some

def zAp : Nat → Int := fun _ => 0
def zBy : Nat → Nat × Bool := fun _ => (0, false)
set_option maxRecDepth 100000 in
theorem build124 (n : Int) (sl : Value) (w : World) : (Instr.build 124 #[(0, .agg #[.int .i64 n, sl])]).run Try.prog w = .ok (.agg (workC n sl zAp zBy)) w := by kernel_rfl
attribute [local go_sem ↓] build124

/-- A set at work lies in block d. -/
structure WorkAt (w0 w : World) (d : Nat) (S : SetL) (A : Option Addr) (c : Nat) (ap : Nat → Int) (bf : Nat → Nat × Bool) : Prop where
  blk : Blk w d 124 (workC S.n (.slice A S.J.length c) ap bf)
  rep : Quads w0 A S.J
  base : w0.heap.size ≤ d
  aft : Aft w0 w
section
variable {w0 w w' : World} {d : Nat} {S : SetL} {A : Option Addr} {c : Nat} {ap : Nat → Int} {bf : Nat → Nat × Bool}
theorem WorkAt.lt (h : WorkAt w0 w d S A c ap bf) : d < w.heap.size := h.blk.lt
theorem WorkAt.later (h : WorkAt w0 w d S A c ap bf) (ha : Aft w w') : WorkAt w0 w' d S A c ap bf := ⟨h.blk.aft ha, h.rep, h.base, h.aft.trans ha⟩
theorem WorkAt.grown (h : WorkAt w0 w d S A c ap bf) {row : Option Nat} (hg : w.grownBy w' row) (h1 : some d ≠ row) (h2 : ∀ k, row = some k → w0.heap.size ≤ k) : WorkAt w0 w' d S A c ap bf := ⟨h.blk.grown hg h1, h.rep, h.base, h.aft.grown hg h2⟩
theorem WorkAt.js (h : WorkAt w0 w d S A c ap bf) : Quads w A S.J := h.rep.aft h.aft
theorem WorkAt.k0 (h : WorkAt w0 w d S A c ap bf) : w.cell? ⟨d, 0, none⟩ = some (.int .i64 S.n) := (h.blk.cell 0).trans (workC_0 _ _ _ _)
theorem WorkAt.k1 (h : WorkAt w0 w d S A c ap bf) : w.cell? ⟨d, 1, none⟩ = some (.slice A S.J.length c) := (h.blk.cell 1).trans (workC_1 _ _ _ _)
theorem WorkAt.kap (h : WorkAt w0 w d S A c ap bf) {i : Nat} (hi : i < 144) : w.cell? ⟨d, 2 + i, none⟩ = some (.int .i64 (ap i)) := (h.blk.cell _).trans (workC_ap _ _ _ _ hi)
theorem WorkAt.kby (h : WorkAt w0 w d S A c ap bf) {i : Nat} (hi : i < 144) : w.cell? ⟨d, 146 + 2 * i, none⟩ = some (.int .i64 ((bf i).1 : Nat)) ∧ w.cell? ⟨d, 146 + 2 * i + 1, none⟩ = some (.bool (bf i).2) :=
  ⟨(h.blk.cell _).trans (workC_leg _ _ _ _ hi).1, (h.blk.cell _).trans (workC_leg _ _ _ _ hi).2⟩
theorem WorkAt.fz (h : WorkAt w0 w d S A c ap bf) (i : Nat) : w.frozen? ⟨d, i, none⟩ = false := h.blk.frozen i
theorem WorkAt.setAp (h : WorkAt w0 w d S A c ap bf) {i : Nat} (hi : i < 144) (x : Int) : WorkAt w0 (w.setCell ⟨d, 2 + i, none⟩ (.int .i64 x)) d S A c (updF ap i x) bf :=
  ⟨by have := h.blk.store (2 + i) (.int .i64 x); rwa [workC_setAp _ _ _ _ hi] at this, h.rep, h.base, h.aft.then_setCell h.base _⟩
theorem WorkAt.setBy (h : WorkAt w0 w d S A c ap bf) {i : Nat} (hi : i < 144) (g : Nat × Bool) : WorkAt w0 ((w.setCell ⟨d, 146 + 2 * i, none⟩ (.int .i64 (g.1 : Nat))).setCell ⟨d, 146 + 2 * i + 1, none⟩ (.bool g.2)) d S A c ap (updF bf i g) :=
  ⟨by have := (h.blk.store (146 + 2 * i) (.int .i64 (g.1 : Nat))).store (146 + 2 * i + 1) (.bool g.2); rwa [workC_setBy _ _ _ _ hi] at this, h.rep, h.base, (h.aft.then_setCell h.base _).then_setCell h.base _⟩
end

/-- What opened leaves. -/
def OpenedR (S : SetL) (A : Option Addr) (c : Nat) (w : World) (e : Ending) (w' : World) : Prop := ∃ d, e = .returned (.tuple #[.pointer (some ⟨d, 0, none⟩), .int .i64 0]) ∧ WorkAt w w' d S A c zAp zBy
theorem opened_bad (S : SetL) (A : Option Addr) (c : Nat) (w : World) (hA : Quads w A S.J) (he : setE S ≠ 0) :
    Calls Try.prog 43 #[.agg #[.int .i64 S.n, .slice A S.J.length c]] w fun e w' => e = .returned (.tuple #[.pointer none, .int .i64 (setE S)]) ∧ Aft w w' := by
  have h0 : Aft w (w.alloc (.cells #[.int .i64 S.n, .slice A S.J.length c] 25)) := Aft.alloc _ _
  have H1 := Lib.hid (check_any S A c (w.alloc (.cells #[.int .i64 S.n, .slice A S.J.length c] 25)) (hA.aft h0))
  have H0 := Lib.hid h0
  have t1 : (setE S != 0) = true := by simpa using he
  clear hA h0 he
  generalize setE S = E at *
  go_enter Try.func43, Try.ntmps43
  go_wp2_with (go_at_call 75; refine H1.out.mono ?_; rintro e w' ⟨rfl, u, rfl⟩)
  go_ret2
  exact ⟨rfl, H0.out.then_lat _⟩
set_option maxRecDepth 100000 in
set_option maxHeartbeats 2000000 in
theorem opened_good (S : SetL) (A : Option Addr) (c : Nat) (w : World) (hA : Quads w A S.J) (he : setE S = 0) :
    Calls Try.prog 43 #[.agg #[.int .i64 S.n, .slice A S.J.length c]] w (OpenedR S A c w) := by
  have h0 : Aft w (w.alloc (.cells #[.int .i64 S.n, .slice A S.J.length c] 25)) := Aft.alloc _ _
  have H1 := Lib.hid (check_any S A c (w.alloc (.cells #[.int .i64 S.n, .slice A S.J.length c] 25)) (hA.aft h0))
  have H0 := Lib.hid h0
  have HA := Lib.hid hA
  rw [he] at H1
  clear hA h0 he
  go_enter Try.func43, Try.ntmps43
  go_wp2_with (go_at_call 75; refine H1.out.mono ?_; rintro e w' ⟨rfl, u, rfl⟩)
  go_ret2
  have h1 := H0.out.then_lat u
  exact ⟨_, rfl, Blk.new _ _ _, HA.out, h1.size, h1.then_alloc _⟩
end Go.Proofs
end

section
/- Words: what stands below a block, what is pushed to a list of records. -/
namespace Go.Proofs
open Go.RowKit

theorem cellA {W W' : World} {g i : Nat} {v : Value} (h : W.cell? ⟨g, i, none⟩ = some v) (hg : g < W.heap.size) (ha : Aft W W') : W'.cell? ⟨g, i, none⟩ = some v :=
  (World.cell?_of_block (a := ⟨g, i, none⟩) (ha.below.block g hg)).trans h
theorem evne {a : Act} {dst : Option Tmp} {v : Value} {s : Nat} (h : dst ≠ some s) : (a.put dst v).eval (.tmp s) = a.eval (.tmp s) :=
  Act.eval_put fun d hd e => by cases e; exact h hd
theorem upd_ne' {done : Nat → Bool} {i j : Nat} (h : j ≠ i) : Go.upd done i j = done j := by simp [Go.upd, h]
theorem upd_same' {done : Nat → Bool} {i : Nat} : Go.upd done i i = true := by simp [Go.upd]

/-- All blocks from b on stand as they stood. -/
structure Sm (b : Nat) (w W : World) : Prop where
  size : w.heap.size ≤ W.heap.size
  same : ∀ k, b ≤ k → k < w.heap.size → W.heap[k]? = w.heap[k]?
theorem Sm.of_grown {b : Nat} {w w' : World} {row : Option Nat} (h : w.grownBy w' row) (hr : ∀ k, row = some k → k < b ∨ w.heap.size ≤ k) : Sm b w w' :=
  ⟨h.size, fun k h1 h2 => h.block k h2 (fun e => by have := hr k e.symm; omega)⟩
theorem Sm.of_aft {b : Nat} {w w' : World} (h : Aft w w') : Sm b w w' := ⟨h.size, fun k _ h2 => h.below.block k h2⟩
theorem own_sm {b base : Nat} {w W : World} {t : TypeId} {size : Nat} {v : Value} {n : Nat} {xs : List Value} (h : w.ownsRow base t size v n xs) (hs : Sm b w W) (hb : b ≤ base) : W.ownsRow base t size v n xs := by
  refine ⟨h.1, ?_⟩
  rcases h.2 with h2 | ⟨g, cap, cur, h1, hg, h3, h4⟩
  · exact .inl h2
  · exact .inr ⟨g, cap, cur, h1, hg, (hs.same g (Nat.le_trans hb hg) (Array.getElem?_eq_some_iff.1 h3).1).trans h3, h4⟩
theorem own_block {w : World} {base : Nat} {t : TypeId} {size : Nat} {v : Value} {n : Nat} {xs : List Value} (h : w.ownsRow base t size v n xs) {g : Nat} (hg : v.ownBlock = some g) : ∃ cs, w.heap[g]? = some (.cells cs t (0, 0)) := by
  rcases h.2 with ⟨rfl, _⟩ | ⟨g', cap, cur, rfl, _, hh, _⟩
  · cases hg
  · cases hg; exact ⟨cur, hh⟩
theorem own_other {w w' : World} {base : Nat} {t t' : TypeId} {size : Nat} {v : Value} {n : Nat} {xs : List Value} {g : Nat} {cs : Array Value} {fz : Nat × Nat} (h : w.ownsRow base t size v n xs) (hg : w.grownBy w' (some g)) (hb : w.heap[g]? = some (.cells cs t' fz)) (hne : t ≠ t') : w'.ownsRow base t size v n xs :=
  h.kept hg (by
    cases e : v.ownBlock with
    | none => exact .inl rfl
    | some k =>
      refine .inr fun e2 => ?_
      obtain ⟨cs', hc⟩ := own_block h e
      cases e2
      rw [hb] at hc
      cases hc
      exact hne rfl)
/-- append(v, one record) to a list of records of the call's own. -/
theorem wpList_pushF {α : Type} {enc : α → List Value} {t e : TypeId} {sz bytes : Nat} (hT : SliceTy Try.prog t e sz bytes) {w : World} {ops : Array Oper} {rest : List Oper} {o : Oper} {a : Act} {Q : Exit → Act → World → Prop}
    (hgd : o.guard = none) (s x : Operand) (ho : o.op = .call { callee := .builtin .append, args := #[s, x], argTypes := #[t, t] })
    {base : Nat} {v : Value} {l : List α} (hown : w.ownsRow base e sz v l.length (l.flatMap enc)) (hbase : base ≤ w.heap.size) (hs : a.eval s = v)
    (y : α) {c : Nat} {b : Nat} (hx : a.eval x = .slice (some ⟨b, 0, none⟩) 1 c) (hy : (enc y).length = sz) (hb : ∀ j u, (enc y)[j]? = some u → w.cell? ⟨b, j, none⟩ = some u) (h1 : ∀ u ∈ enc y, u.oneCell' = true) (hl : (l.length + 1) * bytes ≤ 140737488355328) (hpos : 0 < bytes)
    (hn : ∀ v' w', w'.ownsRow base e sz v' (l ++ [y]).length ((l ++ [y]).flatMap enc) → w.grownBy w' v.ownBlock → wpList Try.prog ops Q rest (a.put o.dst v') w') : wpList Try.prog ops Q (o :: rest) a w := by
  refine wpList_app_at hT hgd s x ho hbase hs hown hx (news := enc y) (by rw [hy]; simp) (by intro h; cases h) (fun ad e j u h => ?_) h1 hl hpos fun v' w' h1 h2 => hn v' w' (by simpa [List.flatMap_append] using h1) h2
  cases e
  rw [Addr.add_lit]
  simpa using hb j u h
theorem ty103 : SliceTy Try.prog 103 120 2 16 := .mk' (z := .agg #[.int .i64 0, .bool false]) Try.underlying103 (by kernel_rfl) rfl (by decide)
theorem ty49 : SliceTy Try.prog 49 57 2 16 := .mk' (z := .agg #[.int .i64 0, .int .i64 0]) Try.underlying49 (by kernel_rfl) rfl (by decide)
theorem ty48 : SliceTy Try.prog 48 54 2 16 := .mk' (z := .agg #[.int .i64 0, .int .i64 0]) Try.underlying48 (by kernel_rfl) rfl (by decide)
theorem ty26 : SliceTy Try.prog 26 93 4 32 := .mk' (z := .agg #[.int .i64 0, .int .i64 0, .int .i64 0, .int .i64 0]) Try.underlying26 (by kernel_rfl) rfl (by decide)
end Go.Proofs
end

section
/- Plain: walks in a graph of sheets whose legs have weights; rounds that are left out; the greatest walks of so many legs and the greatest mean of rounds (Karp). -/
namespace Sheet
/-- A leg: from, to, weight. -/
abbrev Edge := Nat × Nat × Int
/-- There is a walk from a to b of k legs, of weight s. -/
inductive Wk (E : List Edge) : Nat → Nat → Nat → Int → Prop
  | nil (a : Nat) : Wk E a a 0 0
  | snoc {a b c k : Nat} {s w : Int} (h : Wk E a b k s) (e : (b, c, w) ∈ E) : Wk E a c (k + 1) (s + w)
variable {E : List Edge} {a b c k l : Nat} {s t w : Int}
theorem Wk.one (e : (a, b, w) ∈ E) : Wk E a b 1 w := by
  have := (Wk.nil (E := E) a).snoc e
  simpa using this
theorem Wk.append (h1 : Wk E a b k s) (h2 : Wk E b c l t) : Wk E a c (k + l) (s + t) := by
  induction h2 with
  | nil => simpa using h1
  | snoc h e ih =>
    have := ih.snoc e
    rw [Int.add_assoc] at this
    exact this
theorem Wk.of_eq (h : Wk E a b k s) (hk : k = l) (hs : s = t) : Wk E a b l t := by subst hk hs; exact h
/-- A walk as a row of places. -/
theorem Wk.rows (h : Wk E a b k s) : ∃ (v : Nat → Nat) (u : Nat → Int), v 0 = a ∧ v k = b ∧ u 0 = 0 ∧ u k = s ∧ ∀ i, i < k → (v i, v (i + 1), u (i + 1) - u i) ∈ E := by
  induction h with
  | nil => exact ⟨fun _ => a, fun _ => 0, rfl, rfl, rfl, rfl, fun i hi => absurd hi (Nat.not_lt_zero _)⟩
  | @snoc b c k s w h e ih =>
    obtain ⟨v, u, h0, hk, u0, uk, hi⟩ := ih
    refine ⟨fun i => if i ≤ k then v i else c, fun i => if i ≤ k then u i else s + w, by simp [h0], if_neg (by omega), by simp [u0], if_neg (by omega), fun i hik => ?_⟩
    by_cases e1 : i < k
    · have := hi i e1
      simp only [show i ≤ k by omega, show i + 1 ≤ k by omega, if_true]
      exact this
    · have e2 : i = k := by omega
      subst e2
      simp only [Nat.le_refl, if_true, show ¬ (i + 1 ≤ i) by omega, if_false, hk, uk]
      have : s + w - s = w := by omega
      rw [this]
      exact e
theorem Wk.of_rows {v : Nat → Nat} {u : Nat → Int} : ∀ (m i : Nat), (∀ j, i ≤ j → j < i + m → (v j, v (j + 1), u (j + 1) - u j) ∈ E) → Wk E (v i) (v (i + m)) m (u (i + m) - u i)
  | 0, i, _ => (Wk.nil (v i)).of_eq rfl (by simp)
  | m + 1, i, h => by
    have h1 := Wk.of_rows m i fun j h1 h2 => h j h1 (by omega)
    have h2 := h1.snoc (h (i + m) (by omega) (by omega))
    exact h2.of_eq rfl (by rw [show i + (m + 1) = i + m + 1 from rfl]; omega)
/-- More places than there are: one twice. -/
theorem twice : ∀ (n : Nat) (f : Nat → Nat), (∀ i, i ≤ n → f i < n) → ∃ i j, i < j ∧ j ≤ n ∧ f i = f j
  | 0, f, h => absurd (h 0 (Nat.le_refl _)) (Nat.not_lt_zero _)
  | n + 1, f, h => by
    by_cases hx : ∃ i, i ≤ n ∧ f i = f (n + 1)
    · obtain ⟨i, hi, e⟩ := hx
      exact ⟨i, n + 1, by omega, Nat.le_refl _, e⟩
    · have hne : ∀ i, i ≤ n → f i ≠ f (n + 1) := fun i hi e => hx ⟨i, hi, e⟩
      obtain ⟨i, j, hij, hj, e⟩ := twice n (fun i => if f i > f (n + 1) then f i - 1 else f i) fun i hi => by
        have h1 := h i (by omega)
        have h2 := h (n + 1) (Nat.le_refl _)
        have h3 := hne i hi
        show (if f i > f (n + 1) then f i - 1 else f i) < n
        split <;> omega
      refine ⟨i, j, hij, by omega, ?_⟩
      have h1 := hne i (by omega)
      have h2 := hne j (by omega)
      have e : (if f i > f (n + 1) then f i - 1 else f i) = (if f j > f (n + 1) then f j - 1 else f j) := e
      split at e <;> split at e <;> omega
/-- All legs lead to and from sheets. -/
def In (E : List Edge) (n : Nat) : Prop := ∀ a b w, (a, b, w) ∈ E → a < n ∧ b < n
/-- A walk of as many legs as there are sheets holds a round. -/
theorem Wk.round {n : Nat} (hE : In E n) (h : Wk E a b k s) (hk : n ≤ k) (h0 : 0 < k) : ∃ c i j l s1 s2 s3, Wk E a c i s1 ∧ Wk E c c j s2 ∧ Wk E c b l s3 ∧ 0 < j ∧ i + j + l = k ∧ s1 + s2 + s3 = s := by
  obtain ⟨v, u, v0, vk, u0, uk, he⟩ := h.rows
  have hv : ∀ i, i ≤ k → v i < n := fun i hi => by
    by_cases e : i < k
    · exact (hE _ _ _ (he i e)).1
    · have e2 : i = (k - 1) + 1 := by omega
      rw [e2]
      exact (hE _ _ _ (he (k - 1) (by omega))).2
  obtain ⟨i, j, hij, hj, e⟩ := twice n v fun i hi => hv i (by omega)
  refine ⟨v i, i, j - i, k - j, u i - u 0, u j - u i, u k - u j, ?_, ?_, ?_, by omega, by omega, by omega⟩
  · have := Wk.of_rows (E := E) (v := v) (u := u) i 0 fun x _ h2 => he x (by omega)
    rw [Nat.zero_add, v0] at this
    exact this
  · have := Wk.of_rows (E := E) (v := v) (u := u) (j - i) i fun x _ h2 => he x (by omega)
    rw [show i + (j - i) = j by omega, ← e] at this
    exact this
  · have := Wk.of_rows (E := E) (v := v) (u := u) (k - j) j fun x _ h2 => he x (by omega)
    rw [show j + (k - j) = k by omega, vk, ← e] at this
    exact this
/-- No round has more than p / q a leg. -/
def AtMost (E : List Edge) (p q : Int) : Prop := ∀ a k s, Wk E a a k s → 0 < k → q * s ≤ p * k
/-- A walk can be made shorter than there are sheets, and loses nothing against the mean. -/
theorem Wk.short {n : Nat} {p q : Int} (hE : In E n) (hn : 0 < n) (hm : AtMost E p q) : ∀ (m : Nat) {a b k : Nat} {s : Int}, k ≤ m → Wk E a b k s → ∃ k' s', k' < n ∧ k' ≤ k ∧ Wk E a b k' s' ∧ q * s - p * k ≤ q * s' - p * k'
  | 0, a, b, k, s, hk, h => ⟨k, s, by omega, Nat.le_refl _, h, Int.le_refl _⟩
  | m + 1, a, b, k, s, hk, h => by
    by_cases e : k < n
    · exact ⟨k, s, e, Nat.le_refl _, h, Int.le_refl _⟩
    · obtain ⟨c, i, j, l, s1, s2, s3, h1, h2, h3, hj, hk2, hs2⟩ := h.round hE (by omega) (by omega)
      obtain ⟨k', s', a1, a2, a3, a4⟩ := Wk.short hE hn hm m (show i + l ≤ m by omega) (h1.append h3)
      refine ⟨k', s', a1, by omega, a3, Int.le_trans ?_ a4⟩
      have := hm c j s2 h2 hj
      have e1 : (k : Int) = i + j + l := by omega
      rw [e1, ← hs2]
      have e2 : q * (s1 + s2 + s3) = q * (s1 + s3) + q * s2 := by rw [← Int.mul_add]; congr 1; omega
      have e3 : p * ((i : Int) + j + l) = p * ((i + l : Nat) : Int) + p * j := by rw [← Int.mul_add]; congr 1; omega
      rw [e2, e3]
      omega
theorem Wk.bound {p q M : Int} (hM : ∀ a b w, (a, b, w) ∈ E → q * w - p ≤ M) (h : Wk E a b k s) : q * s - p * k ≤ M * k := by
  induction h with
  | nil => simp
  | @snoc b c k s w h e ih =>
    have := hM _ _ _ e
    have e1 : q * (s + w) = q * s + q * w := Int.mul_add _ _ _
    have e2 : p * ((k + 1 : Nat) : Int) = p * k + p := by rw [Int.natCast_add, Int.mul_add]; simp
    have e3 : M * ((k + 1 : Nat) : Int) = M * k + M := by rw [Int.natCast_add, Int.mul_add]; simp
    rw [e1, e2, e3]
    omega
end Sheet
end

section
/- Plain: fractions in lowest terms. -/
namespace Sheet
/-- n / d in lowest terms (d above 0). -/
def low (n d : Int) : Int × Int := (n / (Nat.gcd n.natAbs d.toNat : Nat), d / (Nat.gcd n.natAbs d.toNat : Nat))
theorem low_facts (n d : Int) (hd : 0 < d) : ∃ g : Int, 0 < g ∧ n = (low n d).1 * g ∧ d = (low n d).2 * g ∧ 0 < (low n d).2 ∧ Nat.gcd (low n d).1.natAbs (low n d).2.toNat = 1 := by
  have hg : 0 < Nat.gcd n.natAbs d.toNat := Nat.gcd_pos_of_pos_right _ (by omega)
  have h1 : ((Nat.gcd n.natAbs d.toNat : Nat) : Int) ∣ n := by
    rw [← Int.dvd_natAbs]
    exact Int.natCast_dvd_natCast.2 (Nat.gcd_dvd_left _ _)
  have h2 : ((Nat.gcd n.natAbs d.toNat : Nat) : Int) ∣ d := by
    have e : d = (d.toNat : Int) := by omega
    rw [e]
    simp only [Int.toNat_natCast]
    exact Int.natCast_dvd_natCast.2 (Nat.gcd_dvd_right _ _)
  have hgi : 0 < ((Nat.gcd n.natAbs d.toNat : Nat) : Int) := by omega
  have hp : 0 < (low n d).2 := Int.ediv_pos_of_pos_of_dvd hd (by omega) h2
  refine ⟨_, hgi, (Int.ediv_mul_cancel h1).symm, (Int.ediv_mul_cancel h2).symm, hp, ?_⟩
  have e1 : n.natAbs / Nat.gcd n.natAbs d.toNat = (low n d).1.natAbs := by
    unfold low
    simp only
    rw [Int.natAbs_ediv_of_dvd h1]
    rfl
  have e2 : d.toNat / Nat.gcd n.natAbs d.toNat = (low n d).2.toNat := by
    unfold low
    simp only
    generalize Nat.gcd n.natAbs d.toNat = g
    have e : d = (d.toNat : Int) := by omega
    conv => rhs; rw [e]
    rw [← Int.natCast_ediv, Int.toNat_natCast]
  rw [← e1, ← e2]
  exact Nat.coprime_div_gcd_div_gcd hg
/-- The same fraction has the same lowest terms. -/
theorem low_same {n d n' d' : Int} (hd : 0 < d) (hd' : 0 < d') (h : n * d' = n' * d) : low n d = low n' d' := by
  obtain ⟨g, g0, hn, hdd, hp, hc⟩ := low_facts n d hd
  obtain ⟨g', g0', hn', hdd', hp', hc'⟩ := low_facts n' d' hd'
  generalize low n d = x at *
  generalize low n' d' = y at *
  obtain ⟨x1, x2⟩ := x
  obtain ⟨y1, y2⟩ := y
  simp only at *
  have e : x1 * y2 = y1 * x2 := by
    have e1 : x1 * y2 * (g * g') = y1 * x2 * (g * g') := by
      rw [hn, hdd', hn', hdd] at h
      calc x1 * y2 * (g * g') = x1 * g * (y2 * g') := by rw [Int.mul_assoc, Int.mul_assoc, Int.mul_left_comm y2 g g']
        _ = y1 * g' * (x2 * g) := h
        _ = y1 * x2 * (g * g') := by rw [Int.mul_assoc, Int.mul_assoc, Int.mul_left_comm g' x2 g, Int.mul_comm g' g]
    exact Int.eq_of_mul_eq_mul_right (Int.ne_of_gt (Int.mul_pos g0 g0')) e1
  have en : x1.natAbs * y2.toNat = y1.natAbs * x2.toNat := by
    have e2 := congrArg Int.natAbs e
    rw [Int.natAbs_mul, Int.natAbs_mul] at e2
    have a1 : y2.natAbs = y2.toNat := by omega
    have a2 : x2.natAbs = x2.toNat := by omega
    rw [a1, a2] at e2
    exact e2
  have d1 : x2.toNat ∣ y2.toNat := by
    have : x2.toNat ∣ x1.natAbs * y2.toNat := ⟨y1.natAbs, by rw [en, Nat.mul_comm]⟩
    exact (Nat.Coprime.symm hc : Nat.Coprime x2.toNat x1.natAbs).dvd_of_dvd_mul_left this
  have d2 : y2.toNat ∣ x2.toNat := by
    have : y2.toNat ∣ y1.natAbs * x2.toNat := ⟨x1.natAbs, by rw [← en, Nat.mul_comm]⟩
    exact (Nat.Coprime.symm hc' : Nat.Coprime y2.toNat y1.natAbs).dvd_of_dvd_mul_left this
  have e3 : x2 = y2 := by
    have := Nat.dvd_antisymm d1 d2
    omega
  subst e3
  have e4 : x1 = y1 := Int.eq_of_mul_eq_mul_right (Int.ne_of_gt hp) e
  rw [e4]
end Sheet
end

section
/- Plain: the least play of a graph: no round has more a leg, and some round has it (or it is 0); there is one, and it is one number. -/
namespace Sheet
structure Least (E : List Edge) (p q : Int) : Prop where
  q0 : 0 < q
  p0 : 0 ≤ p
  most : AtMost E p q
  has : p = 0 ∨ ∃ c j s, Wk E c c j s ∧ 0 < j ∧ q * s = p * j
theorem Least.le {E : List Edge} {p q p' q' : Int} (h : Least E p q) (hm : AtMost E p' q') (hp' : 0 ≤ p') : p * q' ≤ p' * q := by
  rcases h.has with e | ⟨c, j, s, hw, hj, e⟩
  · subst e
    have := Int.mul_nonneg hp' (Int.le_of_lt h.q0)
    omega
  · have h1 := hm c j s hw hj
    have hj' : (0 : Int) < j := by omega
    have h2 : p * q' * j ≤ p' * q * j := by
      have e1 : p * q' * j = q * (q' * s) := by
        rw [Int.mul_left_comm q q' s, e, Int.mul_comm p q', Int.mul_assoc]
      have e2 : p' * q * j = q * (p' * j) := by rw [Int.mul_comm p' q, Int.mul_assoc]
      rw [e1, e2]
      exact Int.mul_le_mul_of_nonneg_left h1 (Int.le_of_lt h.q0)
    exact Int.le_of_mul_le_mul_right h2 hj'
theorem Least.same {E : List Edge} {p q p' q' : Int} (h : Least E p q) (h' : Least E p' q') : p * q' = p' * q :=
  Int.le_antisymm (h.le h'.most h'.p0) (h'.le h.most h.p0)
theorem Least.low {E : List Edge} {p q p' q' : Int} (h : Least E p q) (h' : Least E p' q') : Sheet.low p q = Sheet.low p' q' := low_same h.q0 h'.q0 (h.same h')
end Sheet
end
