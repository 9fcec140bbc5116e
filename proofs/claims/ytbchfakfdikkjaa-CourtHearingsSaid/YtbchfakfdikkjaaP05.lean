/- Own texts, merged: Rgu CtSt CtFi CtRb CtRc Srt0 CtV CtN. -/
import Derived.Test.YtbchfakfdikkjaaP02
import Derived.Test.YtbchfakfdikkjaaP03
import Derived.Test.YtbchfakfdikkjaaP04
import Derived.Shelf.SlLaysF
import Derived.Lib.Small
set_option linter.unusedSimpArgs false
set_option linter.unusedVariables false
set_option linter.unnecessarySimpa false
section
namespace Go
def wantedO (vals : List (Option Value)) (o : Oper) : Bool :=
  match o.guard with
  | none => true
  | some (j, b) => match vals[j]? with
    | some (some (.bool x)) => x == b
    | _ => false
def guardsO (xs : List Oper) (vals : List (Option Value)) : Bool := xs.all fun o => match o.guard with
  | none => true
  | some (j, _) => (Region.preds o).contains j && ((xs[j]?).bind (·.dst)).isSome && (decide (vals.length ≤ j) || ((vals[j]?).join).isSome)
def FactO (vals : List (Option Value)) : (Nat → Bool) → Nat → Value → World → Prop := fun _ i v _ => ∀ u, vals[i]? = some (some u) → v = u
def fill : List (Option Value) → List Value → List Value
  | [], _ => []
  | some v :: r, us => v :: fill r us
  | none :: r, u :: us => u :: fill r us
  | none :: r, [] => undef :: fill r []
theorem fill_of : ∀ (vals : List (Option Value)) (vs : List Value), vs.length = vals.length → (∀ (i : Nat) (u : Value), vals[i]? = some (some u) → vs[i]? = some u) → ∃ us : List Value, us.length = (vals.filter (·.isNone)).length ∧ vs = fill vals us
  | [], [], _, _ => ⟨[], rfl, rfl⟩
  | some v :: r, x :: vs, hl, h => by
    obtain ⟨us, h1, h2⟩ := fill_of r vs (by simpa using hl) (fun i u hu => by simpa using h (i + 1) u (by simpa using hu))
    have := h 0 v rfl
    simp at this
    exact ⟨us, by simpa using h1, by rw [h2, this]; rfl⟩
  | none :: r, x :: vs, hl, h => by
    obtain ⟨us, h1, h2⟩ := fill_of r vs (by simpa using hl) (fun i u hu => by simpa using h (i + 1) u (by simpa using hu))
    exact ⟨x :: us, by simpa using h1, by rw [h2]; rfl⟩
  | _ :: _, [], hl, _ => by simp at hl
  | [], _ :: _, hl, _ => by simp at hl
structure KnowsO (xs : List Oper) (vals : List (Option Value)) (a0 : Act) (i : Nat) (a : Act) : Prop where
  at_ : ∀ (j : Nat) (o : Oper) (s : Nat) (v : Value), xs[i]? = some o → j ∈ Region.preds o → ∀ oj, xs[j]? = some oj → oj.dst = some s → vals[j]? = some (some v) → a.eval (.tmp s) = v
  same : ∀ s : Nat, s ∉ xs.filterMap (·.dst) → a.eval (.tmp s) = a0.eval (.tmp s)
section
variable {P : Program} {Q : Exit → Act → World → Prop} {a0 : Act}
theorem wanted_eqO {xs : List Oper} {vals : List (Option Value)} {Wd : (Nat → Bool) → Act → World → Prop} {done : Nat → Bool} {a : Act} {w : World} {o : Oper} (hin : ∀ o ∈ xs, ∀ s, o.dst = some s → s < a0.tmps.size)
    (h : HeldG xs.toArray (FactO vals) Wd a0 done a w) (ho : o ∈ xs) (hp : ∀ j ∈ Region.preds o, done j = true) (hlo : ∀ j, vals.length ≤ j → done j = false) (hG : guardsO xs vals = true) : Region.wanted o (yielded xs.toArray a.tmps) = wantedO vals o := by
  have hg := List.all_eq_true.1 hG o ho
  unfold Region.wanted wantedO
  cases hgd : o.guard with
  | none => rfl
  | some p =>
    obtain ⟨j, b⟩ := p
    rw [hgd] at hg
    simp only [Bool.and_eq_true, Bool.or_eq_true, decide_eq_true_eq] at hg
    obtain ⟨⟨h1, h2⟩, h3⟩ := hg
    have hdj' := hp j (by simpa using h1)
    rcases h3 with h3 | h3
    · rw [hlo j h3] at hdj'; cases hdj'
    obtain ⟨s, hs⟩ := Option.isSome_iff_exists.1 h2
    obtain ⟨oj, hoj, hdj⟩ := Option.bind_eq_some_iff.1 hs
    obtain ⟨u, hu⟩ := Option.isSome_iff_exists.1 h3
    have hu' : vals[j]? = some (some u) := by
      cases e : vals[j]? with
      | none => rw [e] at hu; cases hu
      | some x => rw [e] at hu; cases x with
        | none => cases hu
        | some y => simp at hu; rw [hu]
    have hv : a.eval (.tmp s) = u := h.fact j oj s (by simpa using hoj) hdj hdj' u hu'
    have hlt : s < a.tmps.size := by rw [h.size]; exact hin oj (List.mem_of_getElem? hoj) s hdj
    have hy : yielded xs.toArray a.tmps j = match a.eval (.tmp s) with | .bool b => some b | _ => none := by
      unfold yielded
      have : ((xs.toArray[j]?).bind (·.dst)).bind (a.tmps[·]?) = some (a.eval (.tmp s)) := by
        rw [List.getElem?_toArray, hs, Option.bind_some]
        simp only [Act.eval, Array.getD_eq_getD_getElem?]
        rw [Array.getElem?_eq_getElem hlt]
        rfl
      rw [this]
      cases a.eval (.tmp s) <;> rfl
    simp only [hy, hu', hv]
    cases u <;> simp

theorem any_valsU {xs : List Oper} (m n : Nat) (hn : a0.tmps.size = n) (hB : factsGB xs n = true) (hT : tailB xs m = true) (vals : List (Option Value)) (hG : guardsO xs vals = true) (hl : vals.length = m) (Wd : (Nat → Bool) → Act → World → Prop)
    (step : ∀ (i : Nat) (o : Oper) (v : Option Value), xs[i]? = some o → vals[i]? = some v → wantedO vals o = true ∧ (∀ (done : Nat → Bool) (a : Act) (w : World), a.tmps.size = n → done i = false → (∀ j ∈ Region.preds o, done j = true) → KnowsO xs vals a0 i a → Wd done a w → ∀ K : Act → World → Prop, (∀ y w', (∀ u, v = some u → y = u) → Wd (upd done i) (a.put o.dst y) w' → K (a.put o.dst y) w') → Oper.wp P o a w K Q) ∨ wantedO vals o = false ∧ v = some undef ∧ (∀ done a w, Wd done a w → Wd (upd done i) (a.put o.dst undef) w))
    (fin : ∀ done us w, us.length = (vals.filter (·.isNone)).length → (∀ j, j < m → done j = true) → Wd done (putAll a0 (xs.zip (fill vals us))) w → wpList P xs.toArray Q (xs.drop m) (putAll a0 (xs.zip (fill vals us))) w) :
    ∀ (fuel : Nat) (listed : Array Bool) (a : Act) (w : World), listed.size = xs.toArray.size → HeldG xs.toArray (FactO vals) Wd a0 (dn listed) a w → (∀ j, m ≤ j → dn listed j = false) → (unl xs.toArray (dn listed)).length ≤ fuel → wpAny P .any xs.toArray Q fuel listed a w := by
  have hT' := hT
  unfold tailB at hT'
  rw [Bool.and_eq_true, Bool.and_eq_true, Bool.and_eq_true, decide_eq_true_eq] at hT'
  obtain ⟨⟨⟨hmx, t1⟩, t2⟩, t3⟩ := hT'
  have hB' := hB
  unfold factsGB at hB'
  rw [Bool.and_eq_true, Bool.and_eq_true] at hB'
  obtain ⟨⟨h2', h3⟩, h4⟩ := hB'
  have hin : ∀ o ∈ xs, ∀ s, o.dst = some s → s < a0.tmps.size := fun o ho s hs => by
    have := List.all_eq_true.1 h3 o ho
    rw [hs] at this
    rw [hn]
    simpa using this
  have hdst : ∀ (i j : Nat) (oi oj : Oper) (s : Nat), xs.toArray[i]? = some oi → xs.toArray[j]? = some oj → oi.dst = some s → oj.dst = some s → i = j := fun i j oi oj s hi hj => nodup_dst (of_decide_eq_true h2') i j oi oj s (by simpa using hi) (by simpa using hj)
  have hin' : ∀ (i : Nat) (o : Oper) (s : Nat), xs.toArray[i]? = some o → o.dst = some s → s < a0.tmps.size := fun i o s ho => hin o (List.mem_of_getElem? (by simpa using ho)) s
  have tail : ∀ (listed : Array Bool) (a : Act) (w : World), listed.size = xs.toArray.size → HeldG xs.toArray (FactO vals) Wd a0 (dn listed) a w → (∀ j, m ≤ j → dn listed j = false) → (∀ j, j < m → dn listed j = true) → wpAny P .any xs.toArray Q (xs.length - m) listed a w := by
    intro listed a w hs hH hlo hall
    obtain ⟨us, hus, ea⟩ : ∃ us, us.length = (vals.filter (·.isNone)).length ∧ a = putAll a0 (xs.zip (fill vals us)) := by
      let vs : List Value := (List.range m).map fun i => match xs[i]? with | some o => (match o.dst with | some s => a.eval (.tmp s) | none => ((vals[i]?).join).getD undef) | none => undef
      have hvl : vs.length = m := by simp [vs]
      have hvg : ∀ i, i < m → vs[i]? = some (match xs[i]? with | some o => (match o.dst with | some s => a.eval (.tmp s) | none => ((vals[i]?).join).getD undef) | none => undef) := fun i hi => by simp [vs, hi]
      obtain ⟨us, h1, h2⟩ := fill_of vals vs (by omega) (fun i u hu => by
        have him : i < m := by rw [← hl]; exact (List.getElem?_eq_some_iff.1 hu).1
        rw [hvg i him]
        have hx : xs[i]? = some xs[i] := List.getElem?_eq_getElem (by omega)
        rw [hx]
        cases hd : xs[i].dst with
        | none => simp [hd, hu]
        | some s => simp only [hd]; rw [hH.fact i xs[i] s (by simpa using hx) hd (hall i him) u hu])
      refine ⟨us, h1, ?_⟩
      rw [← h2]
      have hzl : (xs.take m).zip vs = xs.zip vs := zip_take_left xs vs m (by omega)
      rw [← hzl]
      have hfm : ∀ s, s ∈ (xs.take m).filterMap (·.dst) → s ∈ xs.filterMap (·.dst) := fun s h => by
        obtain ⟨o, ho, he⟩ := List.mem_filterMap.1 h
        exact List.mem_filterMap.2 ⟨o, List.mem_of_mem_take ho, he⟩
      refine held_putAll (xs := xs.take m) (vals := vs) (Wd := fun _ _ => True) (done := dn listed) (w := w) (by rw [List.length_take]; omega) ?_ (fun o ho => hin o (List.mem_of_mem_take ho)) (fun i hi => hall i (by rw [List.length_take] at hi; omega)) ?_
      · exact (of_decide_eq_true h2').sublist ((List.take_sublist m xs).filterMap _)
      · refine ⟨trivial, hH.size, hH.defers, fun i o ho hd j hj => ?_, fun s hs' => ?_, fun i o s ho hs' hd => ?_⟩
        · have ho' : (xs.take m)[i]? = some o := by simpa using ho
          rw [List.getElem?_take] at ho'
          split at ho'
          · exact hH.closed i o (by simpa using ho') hd j hj
          · cases ho'
        · refine hH.old s fun k ok hk he => ?_
          by_cases hkm : k < m
          · exact hs' k ok (by rw [List.getElem?_toArray, List.getElem?_take, if_pos hkm]; simpa using hk) he
          · exact hlo k (by omega)
        · have ho' : (xs.take m)[i]? = some o := by simpa using ho
          rw [List.getElem?_take] at ho'
          split at ho'
          · rename_i him
            show vs[i]? = some _
            rw [hvg i him, ho']
            simp only [hs']
          · cases ho'
    have hseq : Region.seqB .any xs.toArray (xs.drop m).length m listed = true := by
      rw [List.length_drop, listed_eq (by simpa using hs) hall hlo]
      exact t3
    have := wpAny_of_seq (P := P) (md := .any) (ops := xs.toArray) (Q' := Q) (xs.drop m) m listed a w (fun j => by simp [List.getElem?_drop]) hseq (by rw [ea]; exact fin _ _ _ hus hall (by rw [← ea]; exact hH.wd))
    rwa [List.length_drop] at this
  intro fuel
  induction fuel with
  | zero =>
    intro listed a w hs hH hlo hf
    exfalso
    have : m ∈ unl xs.toArray (dn listed) := List.mem_filter.2 ⟨List.mem_range.2 (by simpa using hmx), by simp [hlo m (Nat.le_refl _)]⟩
    have hz : unl xs.toArray (dn listed) = [] := List.eq_nil_of_length_eq_zero (by omega)
    rw [hz] at this
    cases this
  | succ fuel ih =>
    intro listed a w hs hH hlo hf
    by_cases hall : ∀ j, j < m → dn listed j = true
    · have hge : xs.length - m ≤ fuel + 1 := by
        have : (unl xs.toArray (dn listed)).length = xs.length - m := by
          unfold unl
          have e : (List.range xs.toArray.size).filter (fun i => !dn listed i) = (List.range xs.length).filter (fun i => decide (m ≤ i)) := by
            rw [List.size_toArray]
            apply List.filter_congr
            intro i _
            by_cases e : i < m
            · rw [hall i e]; simp; omega
            · rw [hlo i (by omega)]; simp; omega
          rw [e]
          have hc : ∀ (q : Nat), ((List.range q).filter (fun i => decide (m ≤ i))).length = q - m := by
            intro q
            induction q with
            | zero => simp
            | succ q ihq =>
              rw [List.range_succ, List.filter_append, List.length_append, ihq]
              by_cases e : m ≤ q
              · simp [e]; omega
              · simp [e]; omega
          exact hc _
        omega
      exact wpAny_up hge (tail listed a w hs hH hlo hall)
    · refine ⟨fun hr => ?_, fun i hi => ?_⟩
      · exact absurd (fun j hj => all_done hs (fun i o ho j hj => by
          have ho' : xs[i]? = some o := by simpa using ho
          have := List.all_eq_true.1 h4 i (List.mem_range.2 (List.getElem?_eq_some_iff.1 ho').1)
          rw [ho'] at this
          have := List.all_eq_true.1 this j hj
          simpa using this) hr j (by simp; omega)) hall
      · obtain ⟨o, ho, hd1, hp⟩ := mem_ready' rfl hs hi
        have ho' : xs[i]? = some o := by simpa using ho
        have hio := (Array.getElem?_eq_some_iff.1 ho).1
        have him : i < m := by
          refine Nat.lt_of_not_le fun hmi => ?_
          by_cases e : i = m
          · subst e
            exact hall (all_before hH t1 ho' hp)
          · have h5 := List.all_eq_true.1 t2 i (List.mem_range.2 (by simpa using hio))
            rw [Bool.or_eq_true, decide_eq_true_eq, ho'] at h5
            rcases h5 with h5 | h5
            · omega
            · obtain ⟨k, hk, hkk⟩ := List.any_eq_true.1 h5
              rw [Bool.and_eq_true, decide_eq_true_eq, decide_eq_true_eq] at hkk
              have := hp k hk
              rw [hlo k hkk.1] at this
              cases this
        have hv : vals[i]? = some vals[i] := List.getElem?_eq_getElem (by omega)
        have hk : KnowsO xs vals a0 i a := ⟨fun j o' s v hx hj oj hoj hs hvj => by
          rw [ho'] at hx; cases hx
          exact hH.fact j oj s (by simpa using hoj) hs (hp j hj) v hvj, fun s hs => hH.same (by simpa using hs)⟩
        unfold wpOp
        simp only [ho]
        have next : ∀ (y : Value) (w' : World), (∀ u, vals[i] = some u → y = u) → Wd (upd (dn listed) i) (a.put o.dst y) w' → wpAny P .any xs.toArray Q fuel (listed.setIfInBounds i true) (a.put o.dst y) w' := fun y w' hy hw' => by
          refine ih _ _ _ (by simpa using hs) ?_ (fun j hj => ?_) ?_
          · rw [dn_set (by omega)]
            exact hH.put ho hd1 hp hdst hin' (fun u hu => hy u (by rw [hv] at hu; exact Option.some.inj hu)) hw' fun _ _ _ _ _ _ h => h
          · rw [dn_set (by omega)]
            unfold upd
            rw [if_neg (by omega)]
            exact hlo j hj
          · rw [dn_set (by omega)]
            have := unl_lt (ops := xs.toArray) hio hd1
            omega
        rw [wanted_eqO hin hH (List.mem_of_getElem? ho') hp (fun j hj => hlo j (by omega)) hG]
        rcases step i o _ ho' hv with ⟨hw, hst⟩ | ⟨hw, hst, hst2⟩
        · rw [if_pos hw]
          exact .inl (hst _ a w (by rw [hH.size]; exact hn) hd1 hp hk hH.wd _ next)
        · rw [if_neg (by rw [hw]; decide)]
          exact next undef w (fun u hu => by rw [hst] at hu; exact Option.some.inj hu) (hst2 _ _ _ hH.wd)

theorem wp_region_valsU {id : Nat} {xs : List Oper} {w : World} (hm : P.follows .mixedOrders = true) (m n : Nat) (hn : a0.tmps.size = n) (hB : factsGB xs n = true) (hT : tailB xs m = true) (vals : List (Option Value)) (hG : guardsO xs vals = true) (hl : vals.length = m) (Wd : (Nat → Bool) → Act → World → Prop) (h0 : Wd (fun _ => false) a0 w.drew)
    (step : ∀ (i : Nat) (o : Oper) (v : Option Value), xs[i]? = some o → vals[i]? = some v → wantedO vals o = true ∧ (∀ (done : Nat → Bool) (a : Act) (w : World), a.tmps.size = n → done i = false → (∀ j ∈ Region.preds o, done j = true) → KnowsO xs vals a0 i a → Wd done a w → ∀ K : Act → World → Prop, (∀ y w', (∀ u, v = some u → y = u) → Wd (upd done i) (a.put o.dst y) w' → K (a.put o.dst y) w') → Oper.wp P o a w K Q) ∨ wantedO vals o = false ∧ v = some undef ∧ (∀ done a w, Wd done a w → Wd (upd done i) (a.put o.dst undef) w))
    (fin : ∀ done us w, us.length = (vals.filter (·.isNone)).length → (∀ j, j < m → done j = true) → Wd done (putAll a0 (xs.zip (fill vals us))) w → wpList P xs.toArray Q (xs.drop m) (putAll a0 (xs.zip (fill vals us))) w) : (Code.region id xs.toArray true).wp P Q a0 w := by
  refine wp_region_any hm ?_
  have e0 : dn (Array.replicate xs.toArray.size false) = fun _ => false := by
    funext i
    unfold dn
    rw [Array.getD_eq_getD_getElem?, Array.getElem?_replicate]
    split <;> rfl
  refine any_valsU m n hn hB hT vals hG hl Wd step fin _ _ _ _ (by simp) ?_ (fun j _ => by rw [e0]) ?_
  · rw [e0]
    exact ⟨h0, rfl, rfl, (fun i o _ h => by cases h), (fun s _ => rfl), (fun i o s _ _ h => by cases h)⟩
  · have : (unl xs.toArray (dn (Array.replicate xs.toArray.size false))).length ≤ (List.range xs.toArray.size).length := List.length_filter_le _ _
    simpa using this
end
end Go
end

section
namespace Go.Proofs
open Go.RowKit
attribute [local go_sem] Oper.semAt_some

theorem ty22 : SliceTy Try.prog 22 56 2 16 := .mk' (z := .agg #[.int .i64 0, .int .i64 0]) Try.underlying22 (by kernel_rfl) rfl (by decide)
def strC (L : List (Int × Int)) : List Value := L.flatMap fun s => [.int .i64 s.1, .int .i64 s.2]
theorem strC_get : ∀ (L : List (Int × Int)) (i : Nat) (h : i < L.length), (strC L)[2 * i]? = some (.int .i64 L[i].1) ∧ (strC L)[2 * i + 1]? = some (.int .i64 L[i].2)
  | s :: r, 0, _ => ⟨rfl, rfl⟩
  | s :: r, i + 1, h => by
    have ih := strC_get r i (by simpa using h)
    have e : strC (s :: r) = .int .i64 s.1 :: .int .i64 s.2 :: strC r := rfl
    rw [e, show 2 * (i + 1) = 2 * i + 1 + 1 by omega]
    simpa using ih
theorem strC_snoc (L : List (Int × Int)) (s : Int × Int) : strC (L ++ [s]) = strC L ++ [.int .i64 s.1, .int .i64 s.2] := by
  unfold strC
  rw [List.flatMap_append]
  rfl
theorem own_strs {w : World} {base : Nat} {v : Value} {L : List (Int × Int)} (h : w.ownsRow base 56 2 v L.length (strC L)) (hl : L.length ≤ 1000000) : ∃ A c, v = .slice A L.length c ∧ Strs w A L ∧ ∀ b o, A = some ⟨b, o, none⟩ → base ≤ b := by
  rcases h.2 with ⟨rfl, h0⟩ | ⟨g, cap, cur, rfl, hg, hh, hc, hm, hs, ht⟩
  · have : L = [] := List.eq_nil_of_length_eq_zero h0
    subst this
    exact ⟨none, 0, rfl, ⟨by simp, .inl rfl⟩, fun b o h => by cases h⟩
  · refine ⟨_, cap, rfl, ⟨by omega, .inr ⟨g, 0, rfl, (Array.getElem?_eq_some_iff.1 hh).1, fun i hi => ⟨_, by simp, rfl, fun j hj => ?_⟩⟩⟩, fun b o h => by cases h; exact hg⟩
    obtain ⟨h1, h2⟩ := strC_get L i hi
    match j, hj with
    | 0, _ =>
      have := h.cells (g := g) rfl (2 * i) _ h1
      rw [Addr.add_lit] at this
      simpa [Nat.mul_comm] using this
    | 1, _ =>
      have := h.cells (g := g) rfl (2 * i + 1) _ h2
      rw [Addr.add_lit] at this
      simpa [Nat.mul_comm] using this
theorem wpList_push22 {w : World} {ops : Array Oper} {rest : List Oper} {o : Oper} {a : Act} {Q : Exit → Act → World → Prop}
    (hgd : o.guard = none) (s x : Operand) (ho : o.op = .call { callee := .builtin .append, args := #[s, x], argTypes := #[22, 22] })
    {base : Nat} {v : Value} {L : List (Int × Int)} (hown : w.ownsRow base 56 2 v L.length (strC L)) (hbase : base ≤ w.heap.size) (hs : a.eval s = v)
    {y0 y1 : Int} {c : Nat} {b : Nat} (hx : a.eval x = .slice (some ⟨b, 0, none⟩) 1 c) (hb0 : w.cell? ⟨b, 0, none⟩ = some (.int .i64 y0)) (hb1 : w.cell? ⟨b, 1, none⟩ = some (.int .i64 y1)) (hl : L.length ≤ 1000000)
    (hn : ∀ v' w', w'.ownsRow base 56 2 v' (L ++ [(y0, y1)]).length (strC (L ++ [(y0, y1)])) → w.grownBy w' v.ownBlock → wpList Try.prog ops Q rest (a.put o.dst v') w') : wpList Try.prog ops Q (o :: rest) a w := by
  obtain ⟨ht, ⟨i, z, hi, hz, hsize, hby, hzs⟩, hsz⟩ := ty22
  refine wpList_append_own_at (w := w) hgd s x 22 ho base 56 i z 2 16 ht hi hz hsize hby hzs hsz v L.length _ hs hown ⟨b, 0, none⟩ 1 c [.int .i64 y0, .int .i64 y1] hx rfl (fun j u hj => ?_) (fun u hu => by simp at hu; rcases hu with rfl | rfl <;> rfl)
    (by unfold maxLen; omega) (by omega) hbase fun v2 w2 h2 h3 _ _ => hn v2 w2 (by rw [strC_snoc]; simpa using h2) h3
  match j, hj with
  | 0, hj => simp at hj; subst hj; rw [Addr.add_lit]; simpa using hb0
  | 1, hj => simp at hj; subst hj; rw [Addr.add_lit]; simpa using hb1
theorem cell_of_aft {W W' : World} {g i : Nat} {v : Value} (h : W.cell? ⟨g, i, none⟩ = some v) (hg : g < W.heap.size) (ha : Aft W W') : W'.cell? ⟨g, i, none⟩ = some v :=
  (World.cell?_of_block (a := ⟨g, i, none⟩) (ha.below.block g hg)).trans h
def prL (l : List Int) (k : Nat) : List (Int × Int) := (List.range k).map fun i => (l.getD (2 * i) 0, l.getD (2 * i + 1) 0)
theorem prL_succ (l : List Int) (k : Nat) : prL l (k + 1) = prL l k ++ [(l.getD (2 * k) 0, l.getD (2 * k + 1) 0)] := by
  unfold prL
  rw [List.range_succ, List.map_append]
  rfl
theorem prL_len (l : List Int) (k : Nat) : (prL l k).length = k := by unfold prL; rw [List.length_map, List.length_range]

theorem evne {a : Act} {dst : Option Tmp} {v : Value} {s : Nat} (h : dst ≠ some s) : (a.put dst v).eval (.tmp s) = a.eval (.tmp s) :=
  Act.eval_put fun d hd e => by cases e; exact h hd
theorem upd_ne' {done : Nat → Bool} {i j : Nat} (h : j ≠ i) : upd done i j = done j := by simp [upd, h]
theorem upd_same' {done : Nat → Bool} {i : Nat} : upd done i i = true := by simp [upd]
set_option maxRecDepth 100000 in
set_option maxHeartbeats 2000000 in
theorem struck80_any (l : List Int) (A : Option Addr) (c : Nat) (w : World) (hA : Ints w A l) (hl : l.length ≤ 1000) :
    Calls Try.prog 50 #[.slice A l.length c] w fun e w' => ∃ A' c', e = .returned (.slice A' (prL l (l.length / 2)).length c') ∧ Strs w' A' (prL l (l.length / 2)) ∧ (∀ b o, A' = some ⟨b, o, none⟩ → w.heap.size ≤ b) ∧ Aft w w' := by
  have HA := Lib.hid hA
  have HN0 := Lib.hid (World.ownsRow_nil w w.heap.size 56 2)
  clear hA
  obtain ⟨T, hT⟩ : ∃ T, prL l (l.length / 2) = T := ⟨_, rfl⟩
  rw [hT]
  have HT := Lib.hid hT
  clear hT
  go_enter Try.func50, Try.ntmps50
  go_upto_block 0 with (fail)
  refine wp_block ?_
  go_loopw [3, 4] (fun v i wr => ∃ k : Nat, i = .int .i64 ((2 * k : Nat) : Int) ∧ 2 * k ≤ l.length ∧ wr.ownsRow w.heap.size 56 2 v (prL l k).length (strC (prL l k)) ∧ Aft w wr) (fun _ i _ => l.length - (intOf i).toNat)
  case atStart => exact ⟨0, rfl, by omega, HN0.out, Aft.refl _⟩
  case round =>
    obtain ⟨k, rfl, hk, hown, haw⟩ := hrel
    have HOW := Lib.hid hown
    have HAW := Lib.hid haw
    clear hown haw
    by_cases hkl : 2 * k + 1 < l.length
    · have t1 : decide (2 * k + 1 < l.length) = true := by simpa using hkl
      obtain ⟨bx, ox, hbx, hbl, hx⟩ := (HA.out.aft HAW.out).at (k := 2 * k) (by omega)
      subst hbx
      have x0 := hx (2 * k) (by omega)
      have x1 := hx (2 * k + 1) hkl
      have e0 : l.getD (2 * k) 0 = l[2 * k] := by rw [List.getD_eq_getElem?_getD, List.getElem?_eq_getElem (by omega)]; rfl
      have e1 : l.getD (2 * k + 1) 0 = l[2 * k + 1] := by rw [List.getD_eq_getElem?_getD, List.getElem?_eq_getElem hkl]; rfl
      have HS := Lib.hid (prL_succ l k)
      rw [e0, e1] at HS
      have hpl := prL_len l k
      clear hx e0 e1
      generalize l[2 * k] = y0 at *
      generalize l[2 * k + 1] = y1 at *
      have HX0 : Hid (∀ W, Aft wr W → W.cell? ⟨bx, ox + 2 * k, none⟩ = some (.int .i64 y0)) := Lib.hid fun W h => cell_of_aft x0 hbl h
      have HX1 : Hid (∀ W, Aft wr W → W.cell? ⟨bx, ox + (2 * k + 1), none⟩ = some (.int .i64 y1)) := Lib.hid fun W h => cell_of_aft x1 hbl h
      clear x0 x1
      go_upto_region 5 with (fail)
      have b0 : (0 : Int) ≤ 2 * (k : Int) ∧ 2 * (k : Int) < (l.length : Int) := by omega
      have b1 : (0 : Int) ≤ 2 * (k : Int) + 1 ∧ 2 * (k : Int) + 1 < (l.length : Int) := by omega
      have o0 : (2 * (k : Int)).toNat = 2 * k := by omega
      have o1 : (2 * (k : Int) + 1).toNat = 2 * k + 1 := by omega
      refine wp_region_valsU (by kernel_rfl) 12 26 rfl (by kernel_rfl) (by kernel_rfl) [some (u3), some (.slice (some ⟨bx, ox, none⟩) l.length c), some (.int .i64 (2 * (k : Int))), some (.pointer (some ⟨bx, ox + 2 * k, none⟩)), some (.int .i64 y0), some (.slice (some ⟨bx, ox, none⟩) l.length c), some (.int .i64 (2 * (k : Int))), some (.int .i64 (2 * (k : Int) + 1)), some (.pointer (some ⟨bx, ox + (2 * k + 1), none⟩)), some (.int .i64 y1), some (.agg #[.int .i64 y0, .int .i64 y1]), some (.slice (some ⟨wr.heap.size, 0, none⟩) 1 1)] (by kernel_rfl) rfl (fun done a W => a.eval (.tmp 3) = u3 ∧ Aft wr W ∧ (if done 11 = true then W = wr.drew.alloc (.cells #[.int .i64 y0, .int .i64 y1] 56) else W = wr.drew)) (⟨rfl, Aft.drew _, by simp⟩) ?st1 ?fi1
      case st1 =>
        intro i o v ho hv
        match i, ho, hv with
        | 0, ho, hv =>
          cases ho; cases hv
          refine .inl ⟨rfl, fun done a W hz hd hp hk hw K hK => ?_⟩
          exact op_val (v := u3) (by simp [go_sem, ev' hw.1]) (hK _ _ (fun u hu => by cases hu; rfl) ⟨(evne (by decide)).trans hw.1, hw.2.1, by rw [upd_ne' (by decide)]; exact hw.2.2⟩)
        | 1, ho, hv =>
          cases ho; cases hv
          refine .inl ⟨rfl, fun done a W hz hd hp hk hw K hK => ?_⟩
          have e0 := hk.same 0 (by decide)
          exact op_val (v := .slice (some ⟨bx, ox, none⟩) l.length c) (by simp [go_sem, ev' e0]) (hK _ _ (fun u hu => by cases hu; rfl) ⟨(evne (by decide)).trans hw.1, hw.2.1, by rw [upd_ne' (by decide)]; exact hw.2.2⟩)
        | 2, ho, hv =>
          cases ho; cases hv
          refine .inl ⟨rfl, fun done a W hz hd hp hk hw K hK => ?_⟩
          have e4 := hk.same 4 (by decide)
          exact op_val (v := .int .i64 (2 * (k : Int))) (by simp [go_sem, ev' e4]) (hK _ _ (fun u hu => by cases hu; rfl) ⟨(evne (by decide)).trans hw.1, hw.2.1, by rw [upd_ne' (by decide)]; exact hw.2.2⟩)
        | 3, ho, hv =>
          cases ho; cases hv
          refine .inl ⟨rfl, fun done a W hz hd hp hk hw K hK => ?_⟩
          have e13 := hk.at_ 1 _ 13 _ rfl (by decide) _ rfl rfl rfl
          have e14 := hk.at_ 2 _ 14 _ rfl (by decide) _ rfl rfl rfl
          exact op_val (v := .pointer (some ⟨bx, ox + 2 * k, none⟩)) (by simp [go_sem, ev' e13, ev' e14, b0, o0]) (hK _ _ (fun u hu => by cases hu; rfl) ⟨(evne (by decide)).trans hw.1, hw.2.1, by rw [upd_ne' (by decide)]; exact hw.2.2⟩)
        | 4, ho, hv =>
          cases ho; cases hv
          refine .inl ⟨rfl, fun done a W hz hd hp hk hw K hK => ?_⟩
          have e15 := hk.at_ 3 _ 15 _ rfl (by decide) _ rfl rfl rfl
          have x0 := HX0.out W hw.2.1
          exact op_val (v := .int .i64 y0) (by simp [go_sem, ev' e15, x0]) (hK _ _ (fun u hu => by cases hu; rfl) ⟨(evne (by decide)).trans hw.1, hw.2.1, by rw [upd_ne' (by decide)]; exact hw.2.2⟩)
        | 5, ho, hv =>
          cases ho; cases hv
          refine .inl ⟨rfl, fun done a W hz hd hp hk hw K hK => ?_⟩
          have e0 := hk.same 0 (by decide)
          exact op_val (v := .slice (some ⟨bx, ox, none⟩) l.length c) (by simp [go_sem, ev' e0]) (hK _ _ (fun u hu => by cases hu; rfl) ⟨(evne (by decide)).trans hw.1, hw.2.1, by rw [upd_ne' (by decide)]; exact hw.2.2⟩)
        | 6, ho, hv =>
          cases ho; cases hv
          refine .inl ⟨rfl, fun done a W hz hd hp hk hw K hK => ?_⟩
          have e4 := hk.same 4 (by decide)
          exact op_val (v := .int .i64 (2 * (k : Int))) (by simp [go_sem, ev' e4]) (hK _ _ (fun u hu => by cases hu; rfl) ⟨(evne (by decide)).trans hw.1, hw.2.1, by rw [upd_ne' (by decide)]; exact hw.2.2⟩)
        | 7, ho, hv =>
          cases ho; cases hv
          refine .inl ⟨rfl, fun done a W hz hd hp hk hw K hK => ?_⟩
          have e18 := hk.at_ 6 _ 18 _ rfl (by decide) _ rfl rfl rfl
          refine op_val (v := .int .i64 (2 * (k : Int) + 1)) ?_ (hK _ _ (fun u hu => by cases hu; rfl) ⟨(evne (by decide)).trans hw.1, hw.2.1, by rw [upd_ne' (by decide)]; exact hw.2.2⟩)
          simp [go_sem, ev' e18]
          rw [IntKind.wrap_i64]
          omega
        | 8, ho, hv =>
          cases ho; cases hv
          refine .inl ⟨rfl, fun done a W hz hd hp hk hw K hK => ?_⟩
          have e17 := hk.at_ 5 _ 17 _ rfl (by decide) _ rfl rfl rfl
          have e19 := hk.at_ 7 _ 19 _ rfl (by decide) _ rfl rfl rfl
          exact op_val (v := .pointer (some ⟨bx, ox + (2 * k + 1), none⟩)) (by simp [go_sem, ev' e17, ev' e19, b1, o1]) (hK _ _ (fun u hu => by cases hu; rfl) ⟨(evne (by decide)).trans hw.1, hw.2.1, by rw [upd_ne' (by decide)]; exact hw.2.2⟩)
        | 9, ho, hv =>
          cases ho; cases hv
          refine .inl ⟨rfl, fun done a W hz hd hp hk hw K hK => ?_⟩
          have e20 := hk.at_ 8 _ 20 _ rfl (by decide) _ rfl rfl rfl
          have x1 := HX1.out W hw.2.1
          exact op_val (v := .int .i64 y1) (by simp [go_sem, ev' e20, x1]) (hK _ _ (fun u hu => by cases hu; rfl) ⟨(evne (by decide)).trans hw.1, hw.2.1, by rw [upd_ne' (by decide)]; exact hw.2.2⟩)
        | 10, ho, hv =>
          cases ho; cases hv
          refine .inl ⟨rfl, fun done a W hz hd hp hk hw K hK => ?_⟩
          have e16 := hk.at_ 4 _ 16 _ rfl (by decide) _ rfl rfl rfl
          have e21 := hk.at_ 9 _ 21 _ rfl (by decide) _ rfl rfl rfl
          exact op_val (v := .agg #[.int .i64 y0, .int .i64 y1]) (by simp [go_sem, ev' e16, ev' e21]) (hK _ _ (fun u hu => by cases hu; rfl) ⟨(evne (by decide)).trans hw.1, hw.2.1, by rw [upd_ne' (by decide)]; exact hw.2.2⟩)
        | 11, ho, hv =>
          cases ho; cases hv
          refine .inl ⟨rfl, fun done a W hz hd hp hk hw K hK => ?_⟩
          have e22 := hk.at_ 10 _ 22 _ rfl (by decide) _ rfl rfl rfl
          have h2 := hw.2.2
          rw [hd] at h2
          simp only [Bool.false_eq_true, if_false] at h2
          subst h2
          exact op_valW (v := .slice (some ⟨wr.heap.size, 0, none⟩) 1 1) (w' := wr.drew.alloc (.cells #[.int .i64 y0, .int .i64 y1] 56)) (by simp [go_sem, ev' e22]) (hK _ _ (fun u hu => by cases hu; rfl) ⟨(evne (by decide)).trans hw.1, (Aft.drew wr).then_alloc _, by rw [upd_same', if_pos rfl]⟩)
        | _ + 12, _, hv => cases hv
      intro done us W hus hd hw
      obtain rfl : us = [] := List.eq_nil_of_length_eq_zero hus
      have hw2 := hw.2.2
      rw [if_pos (hd 11 (by decide))] at hw2
      clear hw hd hus
      subst hw2
      simp only [fill, List.drop_succ_cons, List.drop_zero, List.zip_cons_cons, List.zip_nil_right, putAll]
      simp only [Act.put, List.setIfInBounds_toArray, List.set]
      have HO2 := Lib.hid (own_aft HOW.out ((Aft.drew wr).then_alloc (.cells #[.int .i64 y0, .int .i64 y1] 56)))
      have hbase : w.heap.size ≤ (wr.drew.alloc (.cells #[.int .i64 y0, .int .i64 y1] 56)).heap.size := Nat.le_trans HAW.out.size ((Aft.drew wr).then_alloc _).size
      have c0 : (wr.drew.alloc (.cells #[.int .i64 y0, .int .i64 y1] 56)).cell? ⟨wr.heap.size, 0, none⟩ = some (.int .i64 y0) := (Blk.new wr.drew 56 #[.int .i64 y0, .int .i64 y1]).cell 0
      have c1 : (wr.drew.alloc (.cells #[.int .i64 y0, .int .i64 y1] 56)).cell? ⟨wr.heap.size, 1, none⟩ = some (.int .i64 y1) := (Blk.new wr.drew 56 #[.int .i64 y0, .int .i64 y1]).cell 1
      have HC0 := Lib.hid c0
      have HC1 := Lib.hid c1
      have HA2 := Lib.hid (HAW.out.trans ((Aft.drew wr).then_alloc (.cells #[.int .i64 y0, .int .i64 y1] 56)))
      clear c0 c1
      generalize wr.drew.alloc (.cells #[.int .i64 y0, .int .i64 y1] 56) = W2 at *
      go_wp2_with (at_builtin; refine wpList_push22 rfl _ _ rfl HO2.out hbase rfl rfl HC0.out HC1.out (by omega) ?_; intro v7 w7 hr7 hg7; have HR7 := Lib.hid hr7; have HG7 := Lib.hid hg7; clear hr7 hg7)
      exact ⟨⟨k + 1, by go_num, by omega, by rw [HS.out]; exact HR7.out, HA2.out.grown HG7.out (fun g hg => own_ge HO2.out g hg)⟩, by simp [intOf]; omega⟩
    · have t1 : decide (2 * k + 1 < l.length) = false := by simpa using hkl
      have hk2 : l.length / 2 = k := by omega
      have HT2 := Lib.hid (show prL l k = T by rw [← hk2]; exact HT.out)
      have hpl := prL_len l k
      rw [HT2.out] at HOW hpl
      obtain ⟨A7, c7, rfl, hi7, hb7⟩ := own_strs HOW.out (by omega)
      have HI7 := Lib.hid hi7
      have HB7 := Lib.hid hb7
      clear hi7 hb7 hkl
      go_wp2_with fail
      go_ret
      exact ⟨A7, c7, rfl, HI7.out, HB7.out, HAW.out⟩
end Go.Proofs
end

section
namespace Go.Proofs
open Go.RowKit
attribute [local go_sem] Oper.semAt_some

theorem nums_self (l : List Int) : Nums (l.map (Value.int .i64)).toArray l := ⟨by simp, fun t ht => by simp [ht]⟩
def fiveL : List Int := [0, 1, 1, 2, 2, 3, 3, 2, 3, 4]
def fiveC : CaseL := ⟨5, [(0, 1), (1, 2), (2, 3), (3, 2), (3, 4)], [[0], [3]]⟩
theorem five_pairs : prL fiveL (fiveL.length / 2) = fiveC.strikes := by decide

theorem strs_grown {w w' : World} {A : Option Addr} {l : List (Int × Int)} {row : Option Nat} (h : Strs w A l) (hg : w.grownBy w' row) (hr : ∀ b o, A = some ⟨b, o, none⟩ → some b ≠ row) : Strs w' A l := by
  refine ⟨h.1, ?_⟩
  rcases h.2 with h | ⟨b, o, rfl, hb, hc⟩
  · exact .inl h
  · refine .inr ⟨b, o, rfl, Nat.lt_of_lt_of_le hb hg.size, fun i hi => ?_⟩
    obtain ⟨vs, h1, h2, h3⟩ := hc i hi
    exact ⟨vs, h1, h2, fun j hj => (World.cell?_of_block (hg.block b hb (hr b o rfl))).trans (h3 j hj)⟩
theorem info25' : (Try.prog.info? 25).map (·.size) = some 3 := by kernel_rfl
set_option maxRecDepth 100000 in
set_option maxHeartbeats 2000000 in
theorem five_any (w : World) : Calls Try.prog 20 #[] w fun e w' => ∃ a1 a2 c1 c2, e = .returned (.agg #[.int .i64 5, .slice a1 5 c1, .slice a2 2 c2]) ∧ CRep w' fiveC a1 a2 ∧ Aft w w' := by
  have H1 : Hid (∀ W (b : Nat), Blk W b 3 #[.int .i64 0, .int .i64 1, .int .i64 1, .int .i64 2, .int .i64 2, .int .i64 3, .int .i64 3, .int .i64 2, .int .i64 3, .int .i64 4] → Calls Try.prog 50 #[.slice (some ⟨b, 0, none⟩) 10 10] W fun e w' => ∃ A' c', e = .returned (.slice A' 5 c') ∧ Strs w' A' fiveC.strikes ∧ (∀ b o, A' = some ⟨b, o, none⟩ → W.heap.size ≤ b) ∧ Aft W w') := Lib.hid fun W b hb => by
    have h := struck80_any fiveL (some ⟨b, 0, none⟩) 10 W (Nums.ints hb (nums_self fiveL) (by decide)) (by decide)
    rw [five_pairs] at h
    exact h
  have HB0 := Lib.hid (Blk.new w 25 #[.int .i64 0, .slice none 0 0, .slice none 0 0])
  have HB1 : Hid (Blk ((w.alloc (.cells #[.int .i64 0, .slice none 0 0, .slice none 0 0] 25)).alloc (.cells #[.int .i64 0, .int .i64 1, .int .i64 1, .int .i64 2, .int .i64 2, .int .i64 3, .int .i64 3, .int .i64 2, .int .i64 3, .int .i64 4] 3)) (w.heap.size + 1) 3 #[.int .i64 0, .int .i64 1, .int .i64 1, .int .i64 2, .int .i64 2, .int .i64 3, .int .i64 3, .int .i64 2, .int .i64 3, .int .i64 4]) := Lib.hid (by
    have := Blk.new (w.alloc (.cells #[.int .i64 0, .slice none 0 0, .slice none 0 0] 25)) 3 #[.int .i64 0, .int .i64 1, .int .i64 1, .int .i64 2, .int .i64 2, .int .i64 3, .int .i64 3, .int .i64 2, .int .i64 3, .int .i64 4]
    rwa [World.size_alloc] at this)
  go_enter Try.func20, Try.ntmps20
  go_wp2_with (first | (go_at_call 50; refine (H1.out _ _ HB1.out).mono ?_; rintro e w2 ⟨A2, c2, rfl, hs2, hb2, ha2⟩; have HS2 := Lib.hid hs2; have HA2 := Lib.hid (((Aft.alloc w _).then_alloc _).trans ha2); have HBX := Lib.hid ((HB0.out.alloc (.cells #[.int .i64 0, .int .i64 1, .int .i64 1, .int .i64 2, .int .i64 2, .int .i64 3, .int .i64 3, .int .i64 2, .int .i64 3, .int .i64 4] 3)).aft ha2); have HBB := Lib.hid hb2; clear hs2 hb2 ha2) | (refine wpList_store_mid rfl 25 (.tmp 0) (.tmp 6) rfl w.heap.size 0 #[.int .i64 5, .slice A2 5 c2, .slice (some ⟨w2.heap.size + 1 + 1, 0, none⟩) 2 2] rfl rfl (blk_there (((HBX.out.alloc _).alloc _).alloc _) rfl) info25' (all_oneCell_toArray (by intro v hv; simp at hv; rcases hv with rfl | rfl | rfl <;> rfl)) ?_))
  have hne : ∀ g, w2.heap.size ≤ g → w.heap.size ≠ g := fun g hg => by have := HBX.out.lt; omega
  have G3 := Lib.hid (((Blk.new w2 3 #[.int .i64 0]).alloc (.cells #[.int .i64 3] 3)).alloc (.cells #[.slice (some ⟨w2.heap.size, 0, none⟩) 1 1, .slice (some ⟨w2.heap.size + 1, 0, none⟩) 1 1] 26))
  have G4 := Lib.hid ((Blk.new (w2.alloc (.cells #[.int .i64 0] 3)) 3 #[.int .i64 3]).alloc (.cells #[.slice (some ⟨w2.heap.size, 0, none⟩) 1 1, .slice (some ⟨w2.heap.size + 1, 0, none⟩) 1 1] 26))
  have G5 := Lib.hid (Blk.new ((w2.alloc (.cells #[.int .i64 0] 3)).alloc (.cells #[.int .i64 3] 3)) 26 #[.slice (some ⟨w2.heap.size, 0, none⟩) 1 1, .slice (some ⟨w2.heap.size + 1, 0, none⟩) 1 1])
  have G0 := Lib.hid (((HBX.out.alloc (.cells #[.int .i64 0] 3)).alloc (.cells #[.int .i64 3] 3)).alloc (.cells #[.slice (some ⟨w2.heap.size, 0, none⟩) 1 1, .slice (some ⟨w2.heap.size + 1, 0, none⟩) 1 1] 26))
  rw [World.size_alloc] at G4
  rw [World.size_alloc, World.size_alloc] at G5
  have GA := Lib.hid ((((Aft.alloc w2 (.cells #[.int .i64 0] 3)).then_alloc (.cells #[.int .i64 3] 3)).then_alloc (.cells #[.slice (some ⟨w2.heap.size, 0, none⟩) 1 1, .slice (some ⟨w2.heap.size + 1, 0, none⟩) 1 1] 26)))
  generalize (((w2.alloc (.cells #[.int .i64 0] 3)).alloc (.cells #[.int .i64 3] 3)).alloc (.cells #[.slice (some ⟨w2.heap.size, 0, none⟩) 1 1, .slice (some ⟨w2.heap.size + 1, 0, none⟩) 1 1] 26)) = W3 at *
  have hbb : ∀ b o, A2 = some ⟨b, o, none⟩ → w.heap.size ≠ b := fun b o e => by have := HBB.out b o e; simp at this; omega
  generalize w2.heap.size = g at *
  obtain ⟨W9, hW9, hl9, hg9⟩ : ∃ W9, W3.setCells w.heap.size 0 [.int .i64 5, .slice A2 5 c2, .slice (some ⟨g + 1 + 1, 0, none⟩) 2 2] = W9 ∧ (loadVar 25 ⟨w.heap.size, 0, none⟩).run Try.prog W9 = .ok (.agg #[.int .i64 5, .slice A2 5 c2, .slice (some ⟨g + 1 + 1, 0, none⟩) 2 2]) W9 ∧ W3.grownBy W9 (some w.heap.size) :=
    ⟨_, rfl, run_loadVar_mid (P := Try.prog) _ w.heap.size 0 25 [.int .i64 5, .slice A2 5 c2, .slice (some ⟨g + 1 + 1, 0, none⟩) 2 2] _ (World.rangeAt_setCells_same W3 w.heap.size 0 _ (blk_there G0.out rfl)) Try.underlying25 rfl info25', only_setCells _ _ _ (only_refl _ _)⟩
  rw [hW9]
  have q3 := (G3.out.grown hg9 (fun e => hne _ (Nat.le_refl _) (Option.some.inj e).symm))
  have q4 := (G4.out.grown hg9 (fun e => hne _ (Nat.le_succ _) (Option.some.inj e).symm))
  have q5 := (G5.out.grown hg9 (fun e => hne (g + 1 + 1) (by omega) (Option.some.inj e).symm))
  refine bodyPost_ret (v := .agg #[.int .i64 5, .slice A2 5 c2, .slice (some ⟨g + 1 + 1, 0, none⟩) 2 2]) (by simp [results, Try.results20, Act.put, asAddr, hl9]) rfl ⟨_, _, _, _, rfl, ⟨?_, ?_⟩, (HA2.out.trans GA.out).grown hg9 (fun k e => by cases e; exact Nat.le_refl _)⟩
  · exact strs_grown (HS2.out.aft GA.out) hg9 (fun b o e e2 => hbb b o e (Option.some.inj e2).symm)
  · refine ⟨by decide, .inr ⟨g + 1 + 1, 0, rfl, q5.lt, fun i hi => ?_⟩⟩
    match i, hi with
    | 0, _ => exact ⟨[.slice (some ⟨g, 0, none⟩) 1 1], rfl, ⟨_, 1, rfl, Nums.ints q3 (nums_self [0]) (by show 1 ≤ 17592186043904; decide)⟩, fun j hj => by
        have : j = 0 := by simpa using hj
        subst this
        exact q5.cell 0⟩
    | 1, _ => exact ⟨[.slice (some ⟨g + 1, 0, none⟩) 1 1], rfl, ⟨_, 1, rfl, Nums.ints q4 (nums_self [3]) (by show 1 ≤ 17592186043904; decide)⟩, fun j hj => by
        have : j = 0 := by simpa using hj
        subst this
        exact q5.cell 1⟩
end Go.Proofs
end

section
namespace Go.Proofs
open Go.RowKit
open Court (refL begF noS struckB heard1 rule setF strikeL)
attribute [local go_sem] Oper.semAt_some

def ivs (l : List Int) : Array Value := (l.map (Value.int .i64)).toArray
theorem ivs_set (l : List Int) (i : Nat) (x : Int) : (ivs l).setIfInBounds i (.int .i64 x) = ivs (l.set i x) := by
  unfold ivs
  rw [List.setIfInBounds_toArray, List.map_set]
theorem ivs_ints {w : World} {g : Nat} {l : List Int} (h : Blk w g 3 (ivs l)) (hl : l.length ≤ 17592186043904) : Ints w (some ⟨g, 0, none⟩) l := Nums.ints h (nums_self l) hl
theorem ivs_cell {w : World} {g : Nat} {l : List Int} (h : Blk w g 3 (ivs l)) {i : Nat} (hi : i < l.length) : w.cell? ⟨g, i, none⟩ = some (.int .i64 l[i]) := (h.cell i).trans ((nums_self l).2 i hi)
theorem ivs_size (l : List Int) : (ivs l).size = l.length := by unfold ivs; simp
theorem foundL_set (f : Int → Nat) {N n : Nat} (h : n < N) (v : Nat) : (foundL f N).set n (v : Int) = foundL (setF f n v) N := by
  apply List.ext_getElem
  · rw [List.length_set, foundL_len, foundL_len]
  · intro i h1 h2
    rw [List.getElem_set, foundL_get, foundL_get]
    unfold setF
    by_cases e : n = i
    · subst e; simp
    · rw [if_neg e, if_neg (by omega)]
theorem ivs_make (w : World) (N : Nat) (hN : N ≤ 1000) : (Instr.makeSlice 26 (.int .i64 N) (.int .i64 N)).run Try.prog w = .ok (.slice (some ⟨w.heap.size, 0, none⟩) N N) (w.alloc (.cells (ivs (foundL (fun _ => 0) N)) 3)) := by
  obtain ⟨ht, ⟨i, z, hi, hz, hsize, hby, hzs⟩, hsz⟩ := ty24
  have hzz : (Try.prog.info? 3).bind (·.zero) = some (.int .i64 0) := by kernel_rfl
  rw [hi] at hzz
  have hzz : i.zero = some (.int .i64 0) := hzz
  rw [hz] at hzz
  cases hzz
  have h := run_makeSlice (P := Try.prog) (w := w) 26 3 i (.int .i64 0) ht hi hz .i64 .i64 N N (by omega) (Int.le_refl _) (by rw [hsize]; simp; omega) (by rw [hby]; omega) (by omega)
  rw [Int.toNat_natCast, hsize, Nat.mul_one] at h
  have e : (Go.madeCells #[.int .i64 0] N) = ivs (foundL (fun _ => 0) N) := by
    apply Array.ext_getElem?
    intro k
    by_cases hk : k < N
    · unfold ivs foundL
      simp [Go.madeCells, hk, Nat.mod_one]
    · rw [Array.getElem?_eq_none (by simp [Go.madeCells]; omega), Array.getElem?_eq_none (by rw [ivs_size, foundL_len]; omega)]
  rw [← e]
  exact h

def MadeI (L : List Int) (w : World) (e : Ending) (w' : World) : Prop := ∃ g, e = .returned (.slice (some ⟨g, 0, none⟩) L.length L.length) ∧ w.heap.size ≤ g ∧ Blk w' g 3 (ivs L) ∧ Aft w w'
theorem begF_succ (R : List Int) (k : Nat) (h : k < R.length) : begF (refL (R.take (k + 1))) = setF (begF (refL (R.take k))) R[k] 2 := by
  rw [refL_succ R k h]
  funext n
  unfold begF setM setF
  by_cases e : n = R[k]
  · rw [if_pos e, if_pos e]; rfl
  · rw [if_neg e, if_neg e]

set_option maxRecDepth 100000 in
set_option maxHeartbeats 2000000 in
theorem begin_any (N : Nat) (s1 s2 : Option Addr) (n1 n2 c1 c2 : Nat) (A : Option Addr) (R : List Int) (c : Nat) (w : World) (hN : 1 ≤ N ∧ N ≤ 14) (hA : Ints w A R) (hR : ∀ x ∈ R, 0 ≤ x ∧ x < N) :
    Calls Try.prog 41 #[.agg #[.int .i64 N, .slice s1 n1 c1, .slice s2 n2 c2], .slice A R.length c] w (MadeI (foundL (begF (refL R)) N) w) := by
  have hl := hA.len
  have H0 := Lib.hid (Aft.alloc w (.cells #[.int .i64 N, .slice s1 n1 c1, .slice s2 n2 c2] 33))
  have HB := Lib.hid (Blk.new w 33 #[.int .i64 N, .slice s1 n1 c1, .slice s2 n2 c2])
  have HA := Lib.hid (hA.aft H0.out)
  have hmk := ivs_make (w.alloc (.cells #[.int .i64 N, .slice s1 n1 c1, .slice s2 n2 c2] 33)) N (by omega)
  clear hA
  obtain ⟨bC, hbC⟩ : ∃ bC, w.heap.size = bC := ⟨_, rfl⟩
  rw [hbC] at HB
  have HBC := Lib.hid hbC
  have hw0 : w.heap.size ≤ (w.alloc (.cells #[.int .i64 N, .slice s1 n1 c1, .slice s2 n2 c2] 33)).heap.size := H0.out.size
  rw [hbC] at hw0
  clear hbC
  obtain ⟨k0, k1, k2⟩ := box31 HB.out
  have k3 := HB.out.lt
  unfold MadeI
  rw [foundL_len]
  go_enter Try.func41, Try.ntmps41
  go_upto_region 1 with fail
  rw [HBC.out]
  generalize w.alloc (.cells #[.int .i64 N, .slice s1 n1 c1, .slice s2 n2 c2] 33) = W0 at *
  go_upto_block 0 with fail
  have HB2 := Lib.hid (Blk.new W0 3 (ivs (foundL (fun _ => 0) N)))
  have HA1 := Lib.hid (Aft.alloc W0 (.cells (ivs (foundL (fun _ => 0) N)) 3))
  obtain ⟨g, hg⟩ : ∃ g, W0.heap.size = g := ⟨_, rfl⟩
  rw [hg] at HB2 hw0 ⊢
  have HG := Lib.hid hg
  clear hmk hg k0 k1 k2 k3 HB
  generalize W0.alloc (.cells (ivs (foundL (fun _ => 0) N)) 3) = W1 at *
  refine wp_block ?_
  go_loopw [6] (fun i wr => ∃ k : Nat, i = .int .i64 k ∧ k ≤ R.length ∧ Aft W0 wr ∧ Blk wr g 3 (ivs (foundL (begF (refL (R.take k))) N))) (fun i _ => R.length - (intOf i).toNat)
  case atStart =>
    refine ⟨0, rfl, by omega, HA1.out, ?_⟩
    have : begF (refL (R.take 0)) = fun _ => 0 := by funext n; simp [begF, refL]
    rw [this]
    exact HB2.out
  case round =>
    obtain ⟨k, rfl, hk, hy, hbk⟩ := hrel
    have HY := Lib.hid hy
    have HK := Lib.hid hbk
    clear hy hbk
    by_cases hkl : k < R.length
    · have t1 : decide (k < R.length) = true := by simpa using hkl
      have ik : (0 : Int) ≤ (k : Int) ∧ (k : Int) < (R.length : Int) := by omega
      obtain ⟨b, o, rfl, hb, hc⟩ := (HA.out.aft HY.out).at hkl
      have x0 := hc k hkl
      have hx := hR R[k] (List.getElem_mem hkl)
      have HSU := Lib.hid (begF_succ R k hkl)
      obtain ⟨x, hxe⟩ := Int.eq_ofNat_of_zero_le hx.1
      rw [hxe] at x0 hx HSU
      have hxN : x < N := by omega
      have ix : (0 : Int) ≤ (x : Int) ∧ (x : Int) < (N : Int) := by omega
      have y0 := ivs_cell HK.out (i := x) (by rw [foundL_len]; exact hxN)
      have y1 := HK.out.frozen x
      have y2 := HK.out.lt
      clear hc hxe hx
      generalize hvv : (foundL (begF (refL (R.take k))) N)[x]'(by rw [foundL_len]; exact hxN) = vv at y0
      clear hvv
      go_wp2_with fail
      have hs : wr.grownBy (wr.setCell ⟨g, x, none⟩ (.int .i64 2)) (some g) := only_setCell (only_refl wr (some g)) (p := ⟨g, x, none⟩) (.inl rfl) _
      refine ⟨⟨k + 1, by go_num, by omega, HY.out.grown hs (fun j e => by cases e; exact Nat.le_of_eq HG.out), ?_⟩, by simp [intOf]; omega⟩
      have := HK.out.store x (.int .i64 2)
      rw [ivs_set, show ((2 : Int)) = ((2 : Nat) : Int) from rfl, foundL_set _ hxN, ← HSU.out] at this
      exact this
    · have t1 : decide (k < R.length) = false := by simpa using hkl
      have HK2 : Hid (Blk wr g 3 (ivs (foundL (begF (refL R)) N))) := Lib.hid (by
        have := HK.out
        rwa [List.take_of_length_le (by omega)] at this)
      clear HK
      go_wp2_with fail
      go_ret
      exact ⟨g, rfl, by rw [HBC.out]; exact hw0, HK2.out, H0.out.trans HY.out⟩

set_option maxRecDepth 100000 in
set_option maxHeartbeats 4000000 in
theorem heardR_any (C : CaseL) (a1 a2 : Option Addr) (c1 c2 : Nat) (N : Nat) (f : Int → Nat) (A : Option Addr) (c : Nat) (n : Nat) (w : World) (hC : CRep w C a1 a2) (hN : N ≤ 14) (hin : ∀ s ∈ C.strikes, 0 ≤ s.1 ∧ s.1 < N) (hA : Ints w A (foundL f N)) (hn : n < N) :
    Calls Try.prog 42 #[(.agg #[.int .i64 C.claims, .slice a1 C.strikes.length c1, .slice a2 C.surveys.length c2]), .slice A N c, .int .i64 n] w fun e w' => e = .returned (.int .i64 (heard1 C.strikes noS f n : Nat)) ∧ Aft w w' := by
  have hl := hC.strikes.len
  have H0 := Lib.hid (Aft.alloc w (.cells #[.int .i64 C.claims, .slice a1 C.strikes.length c1, .slice a2 C.surveys.length c2] 33))
  have HB := Lib.hid (Blk.new w 33 #[.int .i64 C.claims, .slice a1 C.strikes.length c1, .slice a2 C.surveys.length c2])
  have HA := Lib.hid (hA.aft H0.out)
  have HS := Lib.hid (hC.strikes.aft H0.out)
  clear hA hC
  have iN : (0 : Int) ≤ (n : Int) ∧ (n : Int) < (N : Int) := by omega
  obtain ⟨bC, hbC⟩ : ∃ bC, w.heap.size = bC := ⟨_, rfl⟩
  rw [hbC] at HB
  have HBC := Lib.hid hbC
  obtain ⟨hv, hhv⟩ : ∃ hv, heard1 C.strikes noS f n = hv := ⟨_, rfl⟩
  have HHV := Lib.hid hhv
  rw [hhv]
  clear hbC hhv
  obtain ⟨bA, oA, rfl, hltA, -⟩ := HA.out.at (k := 0) (by rw [foundL_len]; omega)
  have HC : Hid (∀ W, Aft (w.alloc (.cells #[.int .i64 C.claims, .slice a1 C.strikes.length c1, .slice a2 C.surveys.length c2] 33)) W → ∀ i : Nat, i < N → W.cell? ⟨bA, oA + i, none⟩ = some (.int .i64 ((f i : Nat) : Int))) := Lib.hid fun W h i hi => by
    obtain ⟨b', o', e', _, hc'⟩ := (HA.out.aft h).at (show i < (foundL f N).length by rw [foundL_len]; exact hi)
    cases e'
    have := hc' i (by rw [foundL_len]; exact hi)
    rw [foundL_get] at this
    exact this
  obtain ⟨fn, hfn⟩ : ∃ fn, f n = fn := ⟨_, rfl⟩
  have x0 := HC.out _ (Aft.refl _) n hn
  rw [hfn] at x0
  have HFN := Lib.hid hfn
  clear hfn HA
  go_enter Try.func42, Try.ntmps42
  go_upto_region 1 with fail
  rw [HBC.out]
  generalize w.alloc (.cells #[.int .i64 C.claims, .slice a1 C.strikes.length c1, .slice a2 C.surveys.length c2] 33) = W0 at *
  by_cases hf0 : fn = 0
  · have t0 : ((fn : Int) != 0) = false := by simp; omega
    have HHR : Hid (hv = rule C.strikes noS f n) := Lib.hid (by
      have := HHV.out
      unfold heard1 at this
      rw [if_pos (by rw [HFN.out]; exact hf0)] at this
      exact this.symm)
    go_upto_block 0 with fail
    clear x0 hf0 t0
    refine wp_block ?_
    go_loopw [7, 8] (fun o i wr => ∃ (k : Nat) (ov : Int), i = .int .i64 k ∧ o = .int .i64 ov ∧ k ≤ C.strikes.length ∧ Aft W0 wr ∧ Hid (ov = if struckB (C.strikes.take k) noS f n 0 then 0 else 1) ∧ Hid (struckB (C.strikes.take k) noS f n 1 = false)) (fun _ i _ => C.strikes.length - (intOf i).toNat)
    case atStart => exact ⟨0, 1, rfl, rfl, by omega, Aft.refl _, Lib.hid (by simp [struckB]), Lib.hid (by simp [struckB])⟩
    case round =>
      obtain ⟨k, ov, rfl, rfl, hk, hy, HOV, HNO⟩ := hrel
      have HY := Lib.hid hy
      clear hy
      obtain ⟨k0, k1, k2⟩ := box31 (HB.out.aft HY.out)
      have k3 := (HB.out.aft HY.out).lt
      by_cases hkl : k < C.strikes.length
      · have t1 : decide (k < C.strikes.length) = true := by simpa using hkl
        have ik : (0 : Int) ≤ (k : Int) ∧ (k : Int) < (C.strikes.length : Int) := by omega
        obtain ⟨bs, os, hbs, hlts, hcs⟩ := (HS.out.aft HY.out).at hkl
        subst hbs
        obtain ⟨x1, x2⟩ := hcs k hkl
        have hin1 := hin _ (List.getElem_mem hkl)
        have HS0 : Hid (struckB (C.strikes.take (k + 1)) noS f n 0 = (struckB (C.strikes.take k) noS f n 0 || (decide (C.strikes[k].2 = n) && !noS n && decide (f C.strikes[k].1 = 0)))) := Lib.hid (any_take_succ C.strikes _ k hkl)
        have HS1 : Hid (struckB (C.strikes.take (k + 1)) noS f n 1 = (struckB (C.strikes.take k) noS f n 1 || (decide (C.strikes[k].2 = n) && !noS n && decide (f C.strikes[k].1 = 1)))) := Lib.hid (any_take_succ C.strikes _ k hkl)
        have HIN : Hid (∀ v, (decide (C.strikes[k].2 = n) && !noS n && decide (f C.strikes[k].1 = v)) = true → struckB C.strikes noS f n v = true) := Lib.hid fun v h => List.any_eq_true.2 ⟨_, List.getElem_mem hkl, h⟩
        obtain ⟨⟨y, z⟩, hyz⟩ : ∃ s, C.strikes[k] = s := ⟨_, rfl⟩
        rw [hyz] at x1 x2 hin1 HS0 HS1 HIN
        dsimp only at x1 x2 hin1 HS0 HS1 HIN
        obtain ⟨Y, rfl⟩ := Int.eq_ofNat_of_zero_le hin1.1
        have hYN : Y < N := by omega
        have iY : (0 : Int) ≤ (Y : Int) ∧ (Y : Int) < (N : Int) := by omega
        have x3 := HC.out wr HY.out Y hYN
        obtain ⟨fv, hfv⟩ : ∃ fv, f Y = fv := ⟨_, rfl⟩
        rw [hfv] at x3 HS0 HS1 HIN
        have hns : noS (n : Int) = false := rfl
        rw [hns] at HS0 HS1 HIN
        simp only [Bool.not_false, Bool.and_true] at HS0 HS1 HIN
        clear hcs hyz hin1 hfv hns
        cases hzn : (z == (n : Int))
        · have HZ := Lib.hid (show decide (z = (n : Int)) = false by simpa using hzn)
          rw [HZ.out, Bool.false_and, Bool.or_false] at HS0 HS1
          go_wp2_with fail
          exact ⟨⟨k + 1, ov, by go_num, rfl, by omega, HY.out, Lib.hid (by rw [HS0.out]; exact HOV.out), Lib.hid (by rw [HS1.out]; exact HNO.out)⟩, by simp [intOf]; omega⟩
        · have HZ := Lib.hid (show decide (z = (n : Int)) = true by simpa using hzn)
          rw [HZ.out, Bool.true_and] at HS0 HS1
          rw [HZ.out] at HIN
          simp only [Bool.true_and] at HIN
          by_cases hf1 : fv = 1
          · have q1 : ((fv : Int) == 1) = true := by simp; omega
            go_wp2_with fail
            go_ret
            refine ⟨ret_int ?_, H0.out.trans HY.out⟩
            have h := HIN.out 1 (by simpa using hf1)
            rw [HHR.out, Court.rule_two.2 h]
            rfl
          · have q1 : ((fv : Int) == 1) = false := by simp; omega
            have d1 : decide (fv = 1) = false := by simpa using hf1
            rw [d1, Bool.or_false] at HS1
            by_cases hf0 : fv = 0
            · have q0 : ((fv : Int) == 0) = true := by simp; omega
              have d0 : decide (fv = 0) = true := by simpa using hf0
              rw [d0, Bool.or_true] at HS0
              go_wp2_with fail
              exact ⟨⟨k + 1, 0, by go_num, rfl, by omega, HY.out, Lib.hid (by rw [HS0.out]; rfl), Lib.hid (by rw [HS1.out]; exact HNO.out)⟩, by simp [intOf]; omega⟩
            · have q0 : ((fv : Int) == 0) = false := by simp; omega
              have d0 : decide (fv = 0) = false := by simpa using hf0
              rw [d0, Bool.or_false] at HS0
              go_wp2_with fail
              exact ⟨⟨k + 1, ov, by go_num, rfl, by omega, HY.out, Lib.hid (by rw [HS0.out]; exact HOV.out), Lib.hid (by rw [HS1.out]; exact HNO.out)⟩, by simp [intOf]; omega⟩
      · have t1 : decide (k < C.strikes.length) = false := by simpa using hkl
        have HOVE : Hid (ov = (hv : Int)) := Lib.hid (by
          have h0 := HOV.out
          have h1 := HNO.out
          rw [List.take_of_length_le (by omega)] at h0 h1
          rw [h0, HHR.out]
          unfold rule
          rw [h1]
          cases struckB C.strikes noS f n 0 <;> rfl)
        clear HOV HNO
        go_wp2_with fail
        go_ret
        exact ⟨ret_int HOVE.out, H0.out.trans HY.out⟩
  · have t0 : ((fn : Int) != 0) = true := by simp; omega
    have HHR : Hid (hv = fn) := Lib.hid (by
      have := HHV.out
      unfold heard1 at this
      rw [if_neg (by rw [HFN.out]; exact hf0), HFN.out] at this
      exact this.symm)
    go_wp2_with fail
    go_ret
    exact ⟨ret_int (by rw [HHR.out]), H0.out⟩

end Go.Proofs
end

section
namespace Go.Proofs
open Go.RowKit
open Court (refL begF noS struckB)
attribute [local go_sem] Oper.semAt_some


set_option maxRecDepth 100000 in
set_option maxHeartbeats 16000000 in
theorem checkR_any (C : CaseL) (a1 a2 : Option Addr) (c1 c2 : Nat) (w : World) (hC : CRep w C a1 a2) :
    Calls Try.prog 10 #[(.agg #[.int .i64 C.claims, .slice a1 C.strikes.length c1, .slice a2 C.surveys.length c2])] w fun e w' => e = .returned (.int .i64 (caseE C)) ∧ Aft w w' := by
  have hl := hC.strikes.len
  have hl2 := hC.surveys.len
  have H0 := Lib.hid (Aft.alloc w (.cells #[.int .i64 C.claims, .slice a1 C.strikes.length c1, .slice a2 C.surveys.length c2] 33))
  have HB := Lib.hid (Blk.new w 33 #[.int .i64 C.claims, .slice a1 C.strikes.length c1, .slice a2 C.surveys.length c2])
  have HS := Lib.hid (hC.strikes.aft H0.out)
  have HT := Lib.hid (hC.surveys.aft H0.out)
  clear hC
  obtain ⟨bC, hbC⟩ : ∃ bC, w.heap.size = bC := ⟨_, rfl⟩
  rw [hbC] at HB
  have HBC := Lib.hid hbC
  obtain ⟨E, hE⟩ : ∃ E, caseE C = E := ⟨_, rfl⟩
  have HE := Lib.hid hE
  rw [hE]
  unfold caseE at hE
  clear hbC
  obtain ⟨k0, k1, k2⟩ := box31 HB.out
  have k3 := HB.out.lt
  go_enter Try.func10, Try.ntmps10
  go_upto_region 1 with fail
  rw [HBC.out]
  generalize w.alloc (.cells #[.int .i64 C.claims, .slice a1 C.strikes.length c1, .slice a2 C.surveys.length c2] 33) = W0 at *
  go_cut [22] from 8 to 22 (fun s wx => s = .bool (!fromB C.claims 1 14 || decide (60 < C.strikes.length) || decide (6 < C.surveys.length)) ∧ wx = W0)
  case first =>
    cases h1 : fromB C.claims 1 14
    · (repeat (first | go_big_skip | go_big_want | go_big_move | go_big_op | go_step | go_upon | go_back))
      go_at_call 34
      refine (beside_any C.claims 1 14 W0).mono ?_
      rintro e w' ⟨rfl, rfl⟩
      dsimp only
      rw [h1]
      simp only [Bool.not_false]
      (repeat (first | go_big_skip | go_big_want | go_big_move | go_big_op | go_step | go_upon | go_back))
      go_meet
      exact ⟨congrArg Value.bool (by rw [h1]; rfl), rfl⟩
    · cases h2 : decide (60 < C.strikes.length)
      · have t2 : decide ((60 : Int) < (C.strikes.length : Int)) = false := by have := of_decide_eq_false h2; simp; omega
        have t3 : decide ((6 : Int) < (C.surveys.length : Int)) = decide (6 < C.surveys.length) := decide_eq_decide.2 (by omega)
        (repeat (first | go_big_skip | go_big_want | go_big_move | go_big_op | go_step | go_upon | go_back))
        go_at_call 34
        refine (beside_any C.claims 1 14 W0).mono ?_
        rintro e w' ⟨rfl, rfl⟩
        dsimp only
        rw [h1]
        simp only [Bool.not_true]
        (repeat (first | go_big_skip | go_big_want | go_big_move | go_big_op | go_step | go_upon | go_back))
        go_meet
        exact ⟨congrArg Value.bool (by rw [h1, h2]; rfl), rfl⟩
      · have t2 : decide ((60 : Int) < (C.strikes.length : Int)) = true := by have := of_decide_eq_true h2; simp; omega
        (repeat (first | go_big_skip | go_big_want | go_big_move | go_big_op | go_step | go_upon | go_back))
        go_at_call 34
        refine (beside_any C.claims 1 14 W0).mono ?_
        rintro e w' ⟨rfl, rfl⟩
        dsimp only
        rw [h1]
        simp only [Bool.not_true]
        (repeat (first | go_big_skip | go_big_want | go_big_move | go_big_op | go_step | go_upon | go_back))
        go_meet
        exact ⟨congrArg Value.bool (by rw [h1, h2]; rfl), rfl⟩
  obtain ⟨rfl, rfl⟩ := hcut
  obtain ⟨W0, rfl⟩ : ∃ W0, W0 = wc := ⟨_, rfl⟩
  clear k0 k1 k2 k3
  cases hcb : (!fromB C.claims 1 14 || decide (60 < C.strikes.length) || decide (6 < C.surveys.length))
  · rw [hcb, if_neg (by decide)] at hE
    have hcb' := hcb
    simp only [Bool.or_eq_false_iff, Bool.not_eq_false', decide_eq_false_iff_not] at hcb'
    obtain ⟨⟨hn, hn60⟩, hn6⟩ := hcb'
    have hn := fromB_iff.1 hn
    have e1 : IntKind.i64.wrap (C.claims - 1) = C.claims - 1 := by rw [IntWalk.i64_in _ (by omega)]
    have HEE := Lib.hid hE
    clear hE hcb
    go_upto_block 0 with fail
    refine wp_block ?_
    go_loopw [3] (fun i wr => ∃ k : Nat, i = .int .i64 k ∧ k ≤ C.strikes.length ∧ Aft W0 wr ∧ Hid (∀ j, (h : j < C.strikes.length) → j < k → inB C.claims C.strikes[j] = true)) (fun i _ => C.strikes.length - (intOf i).toNat)
    case atStart => exact ⟨0, rfl, by omega, Aft.refl _, Lib.hid fun j _ h => by omega⟩
    case round =>
      obtain ⟨k, rfl, hk, hy, HIN⟩ := hrel
      have HY := Lib.hid hy
      clear hy
      obtain ⟨k0, k1, k2⟩ := box31 (HB.out.aft HY.out)
      have k3 := (HB.out.aft HY.out).lt
      by_cases hkl : k < C.strikes.length
      · have t1 : decide (k < C.strikes.length) = true := by simpa using hkl
        have ik : (0 : Int) ≤ (k : Int) ∧ (k : Int) < (C.strikes.length : Int) := by omega
        obtain ⟨bs, os, hbs, hlts, hcs⟩ := (HS.out.aft HY.out).at hkl
        subst hbs
        obtain ⟨x1, x2⟩ := hcs k hkl
        have HIK : Hid (inB C.claims C.strikes[k] = (Cl C.strikes[k].1 C.claims && Cl C.strikes[k].2 C.claims)) := Lib.hid rfl
        obtain ⟨⟨y, z⟩, hyz⟩ : ∃ s, C.strikes[k] = s := ⟨_, rfl⟩
        have HYZ := Lib.hid hyz
        rw [hyz] at x1 x2 HIK
        dsimp only at x1 x2 HIK
        have HC0 : Hid (∀ W, Aft wr W → W.cell? ⟨bC, 0, none⟩ = some (.int .i64 C.claims)) := Lib.hid fun W h => (box31 (HB.out.aft (HY.out.trans h))).1
        have HC1 : Hid (∀ W, Aft wr W → W.cell? ⟨bC, 1, none⟩ = some (.slice (some ⟨bs, os, none⟩) C.strikes.length c1)) := Lib.hid fun W h => (box31 (HB.out.aft (HY.out.trans h))).2.1
        have HX1 : Hid (∀ W, Aft wr W → W.cell? ⟨bs, os + k * 2, none⟩ = some (.int .i64 y)) := Lib.hid fun W h => cellA x1 hlts h
        have HX2 : Hid (∀ W, Aft wr W → W.cell? ⟨bs, os + k * 2 + 1, none⟩ = some (.int .i64 z)) := Lib.hid fun W h => cellA x2 hlts h
        obtain ⟨b1, hb1⟩ : ∃ b1, (!fromB y 0 (C.claims - 1)) = b1 := ⟨_, rfl⟩
        obtain ⟨b2, hb2⟩ : ∃ b2, (!fromB z 0 (C.claims - 1)) = b2 := ⟨_, rfl⟩
        have H57 : Hid (∀ W, Calls Try.prog 34 #[.int .i64 y, .int .i64 0, .int .i64 (C.claims - 1)] W fun e w' => e = .returned (.bool b1) ∧ W = w') := Lib.hid fun W => by rw [← hb1]; exact beside_any y 0 (C.claims - 1) W
        have H58 : Hid (∀ W, Calls Try.prog 34 #[.int .i64 z, .int .i64 0, .int .i64 (C.claims - 1)] W fun e w' => e = .returned (.bool b2) ∧ W = w') := Lib.hid fun W => by rw [← hb2]; exact beside_any z 0 (C.claims - 1) W
        have HIB : Hid (inB C.claims (y, z) = (!b1 && !b2)) := Lib.hid (by rw [← hb1, ← hb2, Bool.not_not, Bool.not_not]; rfl)
        clear hcs hyz x1 x2 hb1 hb2 HIK
        go_upto_region 6 with fail
        clear k0 k1 k2 k3
        cases b1
        · skip
          refine wp_region_valsG (by kernel_rfl) 99 rfl (by kernel_rfl) (by kernel_rfl) [.pointer (some ⟨bC, 1, none⟩), .slice (some ⟨bs, os, none⟩) C.strikes.length c1, .int .i64 k, .pointer (some ⟨bs, os + k * 2, none⟩), .pointer (some ⟨bs, os + k * 2, none⟩), .int .i64 y, .pointer (some ⟨bC, 0, none⟩), .int .i64 C.claims, .int .i64 (C.claims - 1), .bool false, .bool false, .pointer (some ⟨bC, 1, none⟩), .slice (some ⟨bs, os, none⟩) C.strikes.length c1, .int .i64 k, .pointer (some ⟨bs, os + k * 2, none⟩), .pointer (some ⟨bs, os + k * 2 + 1, none⟩), .int .i64 z, .pointer (some ⟨bC, 0, none⟩), .int .i64 C.claims, .int .i64 (C.claims - 1), .bool b2, .bool b2] rfl (fun W => Aft wr W) (Aft.drew _) ?st1 ?fi1
          case st1 =>
            intro i o v ho hv
            match i, ho, hv with
            | 0, ho, hv =>
              cases ho; cases hv
              refine .inl ⟨rfl, fun a W hk hw K hK => ?_⟩
              have e1 := hk.same 1 (by decide)
              exact op_val (by simp [go_sem, ev' e1]) (hK _ hw)
            | 1, ho, hv =>
              cases ho; cases hv
              refine .inl ⟨rfl, fun a W hk hw K hK => ?_⟩
              have e30 := hk.at_ 0 _ 30 _ rfl (by decide) _ rfl rfl rfl
              exact op_val (by simp [go_sem, ev' e30, HC1.out W hw]) (hK _ hw)
            | 2, ho, hv =>
              cases ho; cases hv
              refine .inl ⟨rfl, fun a W hk hw K hK => ?_⟩
              have e3 := hk.same 3 (by decide)
              exact op_val (by simp [go_sem, ev' e3]) (hK _ hw)
            | 3, ho, hv =>
              cases ho; cases hv
              refine .inl ⟨rfl, fun a W hk hw K hK => ?_⟩
              have e31 := hk.at_ 1 _ 31 _ rfl (by decide) _ rfl rfl rfl
              have e32 := hk.at_ 2 _ 32 _ rfl (by decide) _ rfl rfl rfl
              exact op_val (by simp [go_sem, ev' e31, ev' e32, ik]) (hK _ hw)
            | 4, ho, hv =>
              cases ho; cases hv
              refine .inl ⟨rfl, fun a W hk hw K hK => ?_⟩
              have e33 := hk.at_ 3 _ 33 _ rfl (by decide) _ rfl rfl rfl
              exact op_val (by simp [go_sem, ev' e33]) (hK _ hw)
            | 5, ho, hv =>
              cases ho; cases hv
              refine .inl ⟨rfl, fun a W hk hw K hK => ?_⟩
              have e34 := hk.at_ 4 _ 34 _ rfl (by decide) _ rfl rfl rfl
              exact op_val (by simp [go_sem, ev' e34, HX1.out W hw]) (hK _ hw)
            | 6, ho, hv =>
              cases ho; cases hv
              refine .inl ⟨rfl, fun a W hk hw K hK => ?_⟩
              have e1 := hk.same 1 (by decide)
              exact op_val (by simp [go_sem, ev' e1]) (hK _ hw)
            | 7, ho, hv =>
              cases ho; cases hv
              refine .inl ⟨rfl, fun a W hk hw K hK => ?_⟩
              have e36 := hk.at_ 6 _ 36 _ rfl (by decide) _ rfl rfl rfl
              exact op_val (by simp [go_sem, ev' e36, HC0.out W hw]) (hK _ hw)
            | 8, ho, hv =>
              cases ho; cases hv
              refine .inl ⟨rfl, fun a W hk hw K hK => ?_⟩
              have e37 := hk.at_ 7 _ 37 _ rfl (by decide) _ rfl rfl rfl
              exact op_val (by simp [go_sem, ev' e37, e1]) (hK _ hw)
            | 9, ho, hv =>
              cases ho; cases hv
              refine .inl ⟨rfl, fun a W hk hw K hK => ?_⟩
              have e35 := hk.at_ 5 _ 35 _ rfl (by decide) _ rfl rfl rfl
              have e38 := hk.at_ 8 _ 38 _ rfl (by decide) _ rfl rfl rfl
              refine op_callN rfl rfl rfl _ rfl (vs := #[.int .i64 y, .int .i64 0, .int .i64 (C.claims - 1)]) (by simp [e35, e38, show ∀ v, a.eval (.const v) = v from fun _ => rfl]) (H57.out W) fun e w' h => ?_
              obtain ⟨rfl, rfl⟩ := h
              exact ⟨_, rfl, hK _ hw⟩
            | 10, ho, hv =>
              cases ho; cases hv
              refine .inl ⟨rfl, fun a W hk hw K hK => ?_⟩
              have e39 := hk.at_ 9 _ 39 _ rfl (by decide) _ rfl rfl rfl
              exact op_val (by simp [go_sem, ev' e39]) (hK _ hw)
            | 11, ho, hv =>
              cases ho; cases hv
              refine .inl ⟨rfl, fun a W hk hw K hK => ?_⟩
              have e1 := hk.same 1 (by decide)
              exact op_val (by simp [go_sem, ev' e1]) (hK _ hw)
            | 12, ho, hv =>
              cases ho; cases hv
              refine .inl ⟨rfl, fun a W hk hw K hK => ?_⟩
              have e41 := hk.at_ 11 _ 41 _ rfl (by decide) _ rfl rfl rfl
              exact op_val (by simp [go_sem, ev' e41, HC1.out W hw]) (hK _ hw)
            | 13, ho, hv =>
              cases ho; cases hv
              refine .inl ⟨rfl, fun a W hk hw K hK => ?_⟩
              have e3 := hk.same 3 (by decide)
              exact op_val (by simp [go_sem, ev' e3]) (hK _ hw)
            | 14, ho, hv =>
              cases ho; cases hv
              refine .inl ⟨rfl, fun a W hk hw K hK => ?_⟩
              have e42 := hk.at_ 12 _ 42 _ rfl (by decide) _ rfl rfl rfl
              have e43 := hk.at_ 13 _ 43 _ rfl (by decide) _ rfl rfl rfl
              exact op_val (by simp [go_sem, ev' e42, ev' e43, ik]) (hK _ hw)
            | 15, ho, hv =>
              cases ho; cases hv
              refine .inl ⟨rfl, fun a W hk hw K hK => ?_⟩
              have e44 := hk.at_ 14 _ 44 _ rfl (by decide) _ rfl rfl rfl
              exact op_val (by simp [go_sem, ev' e44]) (hK _ hw)
            | 16, ho, hv =>
              cases ho; cases hv
              refine .inl ⟨rfl, fun a W hk hw K hK => ?_⟩
              have e45 := hk.at_ 15 _ 45 _ rfl (by decide) _ rfl rfl rfl
              exact op_val (by simp [go_sem, ev' e45, HX2.out W hw]) (hK _ hw)
            | 17, ho, hv =>
              cases ho; cases hv
              refine .inl ⟨rfl, fun a W hk hw K hK => ?_⟩
              have e1 := hk.same 1 (by decide)
              exact op_val (by simp [go_sem, ev' e1]) (hK _ hw)
            | 18, ho, hv =>
              cases ho; cases hv
              refine .inl ⟨rfl, fun a W hk hw K hK => ?_⟩
              have e47 := hk.at_ 17 _ 47 _ rfl (by decide) _ rfl rfl rfl
              exact op_val (by simp [go_sem, ev' e47, HC0.out W hw]) (hK _ hw)
            | 19, ho, hv =>
              cases ho; cases hv
              refine .inl ⟨rfl, fun a W hk hw K hK => ?_⟩
              have e48 := hk.at_ 18 _ 48 _ rfl (by decide) _ rfl rfl rfl
              exact op_val (by simp [go_sem, ev' e48, e1]) (hK _ hw)
            | 20, ho, hv =>
              cases ho; cases hv
              refine .inl ⟨rfl, fun a W hk hw K hK => ?_⟩
              have e46 := hk.at_ 16 _ 46 _ rfl (by decide) _ rfl rfl rfl
              have e49 := hk.at_ 19 _ 49 _ rfl (by decide) _ rfl rfl rfl
              refine op_callN rfl rfl rfl _ rfl (vs := #[.int .i64 z, .int .i64 0, .int .i64 (C.claims - 1)]) (by simp [e46, e49, show ∀ v, a.eval (.const v) = v from fun _ => rfl]) (H58.out W) fun e w' h => ?_
              obtain ⟨rfl, rfl⟩ := h
              exact ⟨_, rfl, hK _ hw⟩
            | 21, ho, hv =>
              cases ho; cases hv
              refine .inl ⟨rfl, fun a W hk hw K hK => ?_⟩
              have e40 := hk.at_ 10 _ 40 _ rfl (by decide) _ rfl rfl rfl
              have e50 := hk.at_ 20 _ 50 _ rfl (by decide) _ rfl rfl rfl
              exact op_val (by simp [go_sem, ev' e40, ev' e50]) (hK _ hw)
            | _ + 22, _, hv => cases hv
          intro W hw
          simp only [List.drop_succ_cons, List.drop_zero, List.zip_cons_cons, List.zip_nil_right, putAll]
          simp only [Act.put, List.setIfInBounds_toArray, List.set]
          cases b2
          · have HIN2 : Hid (∀ j, (h : j < C.strikes.length) → j < k + 1 → inB C.claims C.strikes[j] = true) := Lib.hid fun j h h' => by
              by_cases e : j = k
              · subst e
                rw [HYZ.out, HIB.out]
                rfl
              · exact HIN.out j h (by omega)
            go_wp2_with fail
            exact ⟨⟨k + 1, by go_num, by omega, HY.out.trans hw, HIN2⟩, by simp [intOf]; omega⟩
          · have HF : Hid (E = 2) := Lib.hid (by
              have h : C.strikes.all (inB C.claims) = false := by
                rw [Bool.eq_false_iff]
                intro h
                have := List.all_eq_true.1 h _ (List.getElem_mem hkl)
                rw [HYZ.out, HIB.out] at this
                cases this
              have h2 := HEE.out
              rw [h, if_pos (by decide)] at h2
              exact h2.symm)
            go_wp2_with fail
            go_ret
            exact ⟨ret_int HF.out.symm, H0.out.trans (HY.out.trans hw)⟩
        · have HF : Hid (E = 2) := Lib.hid (by
            have h : C.strikes.all (inB C.claims) = false := by
              rw [Bool.eq_false_iff]
              intro h
              have := List.all_eq_true.1 h _ (List.getElem_mem hkl)
              rw [HYZ.out, HIB.out] at this
              cases this
            have h2 := HEE.out
            rw [h, if_pos (by decide)] at h2
            exact h2.symm)
          refine wp_region_valsG (by kernel_rfl) 99 rfl (by kernel_rfl) (by kernel_rfl) [.pointer (some ⟨bC, 1, none⟩), .slice (some ⟨bs, os, none⟩) C.strikes.length c1, .int .i64 k, .pointer (some ⟨bs, os + k * 2, none⟩), .pointer (some ⟨bs, os + k * 2, none⟩), .int .i64 y, .pointer (some ⟨bC, 0, none⟩), .int .i64 C.claims, .int .i64 (C.claims - 1), .bool true, .bool true, undef, undef, undef, undef, undef, undef, undef, undef, undef, undef, .bool true] rfl (fun W => Aft wr W) (Aft.drew _) ?st2 ?fi2
          case st2 =>
            intro i o v ho hv
            match i, ho, hv with
            | 0, ho, hv =>
              cases ho; cases hv
              refine .inl ⟨rfl, fun a W hk hw K hK => ?_⟩
              have e1 := hk.same 1 (by decide)
              exact op_val (by simp [go_sem, ev' e1]) (hK _ hw)
            | 1, ho, hv =>
              cases ho; cases hv
              refine .inl ⟨rfl, fun a W hk hw K hK => ?_⟩
              have e30 := hk.at_ 0 _ 30 _ rfl (by decide) _ rfl rfl rfl
              exact op_val (by simp [go_sem, ev' e30, HC1.out W hw]) (hK _ hw)
            | 2, ho, hv =>
              cases ho; cases hv
              refine .inl ⟨rfl, fun a W hk hw K hK => ?_⟩
              have e3 := hk.same 3 (by decide)
              exact op_val (by simp [go_sem, ev' e3]) (hK _ hw)
            | 3, ho, hv =>
              cases ho; cases hv
              refine .inl ⟨rfl, fun a W hk hw K hK => ?_⟩
              have e31 := hk.at_ 1 _ 31 _ rfl (by decide) _ rfl rfl rfl
              have e32 := hk.at_ 2 _ 32 _ rfl (by decide) _ rfl rfl rfl
              exact op_val (by simp [go_sem, ev' e31, ev' e32, ik]) (hK _ hw)
            | 4, ho, hv =>
              cases ho; cases hv
              refine .inl ⟨rfl, fun a W hk hw K hK => ?_⟩
              have e33 := hk.at_ 3 _ 33 _ rfl (by decide) _ rfl rfl rfl
              exact op_val (by simp [go_sem, ev' e33]) (hK _ hw)
            | 5, ho, hv =>
              cases ho; cases hv
              refine .inl ⟨rfl, fun a W hk hw K hK => ?_⟩
              have e34 := hk.at_ 4 _ 34 _ rfl (by decide) _ rfl rfl rfl
              exact op_val (by simp [go_sem, ev' e34, HX1.out W hw]) (hK _ hw)
            | 6, ho, hv =>
              cases ho; cases hv
              refine .inl ⟨rfl, fun a W hk hw K hK => ?_⟩
              have e1 := hk.same 1 (by decide)
              exact op_val (by simp [go_sem, ev' e1]) (hK _ hw)
            | 7, ho, hv =>
              cases ho; cases hv
              refine .inl ⟨rfl, fun a W hk hw K hK => ?_⟩
              have e36 := hk.at_ 6 _ 36 _ rfl (by decide) _ rfl rfl rfl
              exact op_val (by simp [go_sem, ev' e36, HC0.out W hw]) (hK _ hw)
            | 8, ho, hv =>
              cases ho; cases hv
              refine .inl ⟨rfl, fun a W hk hw K hK => ?_⟩
              have e37 := hk.at_ 7 _ 37 _ rfl (by decide) _ rfl rfl rfl
              exact op_val (by simp [go_sem, ev' e37, e1]) (hK _ hw)
            | 9, ho, hv =>
              cases ho; cases hv
              refine .inl ⟨rfl, fun a W hk hw K hK => ?_⟩
              have e35 := hk.at_ 5 _ 35 _ rfl (by decide) _ rfl rfl rfl
              have e38 := hk.at_ 8 _ 38 _ rfl (by decide) _ rfl rfl rfl
              refine op_callN rfl rfl rfl _ rfl (vs := #[.int .i64 y, .int .i64 0, .int .i64 (C.claims - 1)]) (by simp [e35, e38, show ∀ v, a.eval (.const v) = v from fun _ => rfl]) (H57.out W) fun e w' h => ?_
              obtain ⟨rfl, rfl⟩ := h
              exact ⟨_, rfl, hK _ hw⟩
            | 10, ho, hv =>
              cases ho; cases hv
              refine .inl ⟨rfl, fun a W hk hw K hK => ?_⟩
              have e39 := hk.at_ 9 _ 39 _ rfl (by decide) _ rfl rfl rfl
              exact op_val (by simp [go_sem, ev' e39]) (hK _ hw)
            | 11, ho, hv => cases ho; cases hv; exact .inr ⟨rfl, rfl⟩
            | 12, ho, hv => cases ho; cases hv; exact .inr ⟨rfl, rfl⟩
            | 13, ho, hv => cases ho; cases hv; exact .inr ⟨rfl, rfl⟩
            | 14, ho, hv => cases ho; cases hv; exact .inr ⟨rfl, rfl⟩
            | 15, ho, hv => cases ho; cases hv; exact .inr ⟨rfl, rfl⟩
            | 16, ho, hv => cases ho; cases hv; exact .inr ⟨rfl, rfl⟩
            | 17, ho, hv => cases ho; cases hv; exact .inr ⟨rfl, rfl⟩
            | 18, ho, hv => cases ho; cases hv; exact .inr ⟨rfl, rfl⟩
            | 19, ho, hv => cases ho; cases hv; exact .inr ⟨rfl, rfl⟩
            | 20, ho, hv => cases ho; cases hv; exact .inr ⟨rfl, rfl⟩
            | 21, ho, hv =>
              cases ho; cases hv
              refine .inl ⟨rfl, fun a W hk hw K hK => ?_⟩
              have e40 := hk.at_ 10 _ 40 _ rfl (by decide) _ rfl rfl rfl
              have e50 := hk.at_ 20 _ 50 _ rfl (by decide) _ rfl rfl rfl
              exact op_val (by simp [go_sem, ev' e40, ev' e50]) (hK _ hw)
            | _ + 22, _, hv => cases hv
          intro W hw
          simp only [List.drop_succ_cons, List.drop_zero, List.zip_cons_cons, List.zip_nil_right, putAll]
          simp only [Act.put, List.setIfInBounds_toArray, List.set]
          go_wp2_with fail
          go_ret
          exact ⟨ret_int HF.out.symm, H0.out.trans (HY.out.trans hw)⟩
      · have t1 : decide (k < C.strikes.length) = false := by simpa using hkl
        have HAL : Hid (C.strikes.all (inB C.claims) = true) := Lib.hid (by
          rw [List.all_eq_true]
          intro x hx
          obtain ⟨j, hj, rfl⟩ := List.mem_iff_getElem.1 hx
          exact HIN.out j hj (by omega))
        have HE2 : Hid ((if ¬ C.strikes.Nodup then 6 else surveysE C.claims C.surveys) = E) := Lib.hid (by
          have h2 := HEE.out
          rwa [HAL.out, if_neg (by decide)] at h2)
        obtain ⟨W1, rfl⟩ : ∃ W1, W1 = wr := ⟨_, rfl⟩
        replace HS := Lib.hid (HS.out.aft HY.out)
        replace HT := Lib.hid (HT.out.aft HY.out)
        replace HB := Lib.hid (HB.out.aft HY.out)
        replace H0 := Lib.hid (H0.out.trans HY.out)
        clear HIN HAL HEE HY hkl
        go_upto_block 2 with fail
        clear k0 k1 k2 k3 e1
        refine wp_block ?_
        go_loopw [4] (fun i wr => ∃ k : Nat, i = .int .i64 k ∧ k ≤ C.strikes.length ∧ Aft W1 wr ∧ Hid ((C.strikes.take k).Nodup)) (fun i _ => C.strikes.length - (intOf i).toNat)
        case atStart => exact ⟨0, rfl, by omega, Aft.refl _, Lib.hid (by simp)⟩
        case round =>
          obtain ⟨k, rfl, hk, hy, HNO⟩ := hrel
          have HY := Lib.hid hy
          clear hy
          obtain ⟨k0, k1, k2⟩ := box31 (HB.out.aft HY.out)
          have k3 := (HB.out.aft HY.out).lt
          by_cases hkl : k < C.strikes.length
          · have t2 : decide (k < C.strikes.length) = true := by simpa using hkl
            have ik : (0 : Int) ≤ (k : Int) ∧ (k : Int) < (C.strikes.length : Int) := by omega
            obtain ⟨W2, rfl⟩ : ∃ W2, W2 = wr := ⟨_, rfl⟩
            go_upto_block 4 with fail
            clear k0 k1 k2 k3
            refine wp_block ?_
            go_loopw [5] (fun i wr => ∃ j : Nat, i = .int .i64 j ∧ j ≤ k ∧ Aft W2 wr ∧ Hid (∀ i, (h : i < C.strikes.length) → i < j → C.strikes[i] ≠ C.strikes[k])) (fun i _ => k - (intOf i).toNat)
            case atStart => exact ⟨0, rfl, by omega, Aft.refl _, Lib.hid fun i _ h => by omega⟩
            case round =>
              obtain ⟨j, rfl, hj, hz, HNE⟩ := hrel
              have HZ := Lib.hid (HY.out.trans hz)
              have HZ2 := Lib.hid hz
              clear hz
              by_cases hjk : j < k
              · have t3 : decide (j < k) = true := by simpa using hjk
                have ij : (0 : Int) ≤ (j : Int) ∧ (j : Int) < (C.strikes.length : Int) := by omega
                obtain ⟨bs, os, hbs, hlts, hcs⟩ := (HS.out.aft HZ.out).at hkl
                subst hbs
                obtain ⟨x1, x2⟩ := hcs k hkl
                obtain ⟨x3, x4⟩ := hcs j (by omega)
                obtain ⟨⟨y, z⟩, hyz⟩ : ∃ s, C.strikes[k] = s := ⟨_, rfl⟩
                obtain ⟨⟨y', z'⟩, hyz'⟩ : ∃ s, C.strikes[j] = s := ⟨_, rfl⟩
                have HYZ := Lib.hid hyz
                have HYZ' := Lib.hid hyz'
                rw [hyz] at x1 x2
                rw [hyz'] at x3 x4
                dsimp only at x1 x2 x3 x4
                have HC1 : Hid (∀ W, Aft wr W → W.cell? ⟨bC, 1, none⟩ = some (.slice (some ⟨bs, os, none⟩) C.strikes.length c1)) := Lib.hid fun W h => (box31 (HB.out.aft (HZ.out.trans h))).2.1
                have HX1 : Hid (∀ W, Aft wr W → W.cell? ⟨bs, os + k * 2, none⟩ = some (.int .i64 y)) := Lib.hid fun W h => cellA x1 hlts h
                have HX2 : Hid (∀ W, Aft wr W → W.cell? ⟨bs, os + k * 2 + 1, none⟩ = some (.int .i64 z)) := Lib.hid fun W h => cellA x2 hlts h
                have HX3 : Hid (∀ W, Aft wr W → W.cell? ⟨bs, os + j * 2, none⟩ = some (.int .i64 y')) := Lib.hid fun W h => cellA x3 hlts h
                have HX4 : Hid (∀ W, Aft wr W → W.cell? ⟨bs, os + j * 2 + 1, none⟩ = some (.int .i64 z')) := Lib.hid fun W h => cellA x4 hlts h
                obtain ⟨bb, hbb⟩ : ∃ bb, (y == y' && z == z') = bb := ⟨_, rfl⟩
                have HBB : Hid (bb = true ↔ (y = y' ∧ z = z')) := Lib.hid (by rw [← hbb]; simp)
                clear hcs hyz hyz' x1 x2 x3 x4
                go_upto_region 14 with fail
                refine wp_region_valsG (by kernel_rfl) 99 rfl (by kernel_rfl) (by kernel_rfl) [.pointer (some ⟨bC, 1, none⟩), .slice (some ⟨bs, os, none⟩) C.strikes.length c1, .int .i64 k, .pointer (some ⟨bs, os + k * 2, none⟩), .agg #[.int .i64 y, .int .i64 z], .pointer (some ⟨bC, 1, none⟩), .slice (some ⟨bs, os, none⟩) C.strikes.length c1, .int .i64 j, .pointer (some ⟨bs, os + j * 2, none⟩), .agg #[.int .i64 y', .int .i64 z'], .bool bb] rfl (fun W => Aft wr W) (Aft.drew _) ?st3 ?fi3
                case st3 =>
                  intro i o v ho hv
                  match i, ho, hv with
                  | 0, ho, hv =>
                    cases ho; cases hv
                    refine .inl ⟨rfl, fun a W hk hw K hK => ?_⟩
                    have e1 := hk.same 1 (by decide)
                    exact op_val (by simp [go_sem, ev' e1]) (hK _ hw)
                  | 1, ho, hv =>
                    cases ho; cases hv
                    refine .inl ⟨rfl, fun a W hk hw K hK => ?_⟩
                    have e64 := hk.at_ 0 _ 64 _ rfl (by decide) _ rfl rfl rfl
                    exact op_val (by simp [go_sem, ev' e64, HC1.out W hw]) (hK _ hw)
                  | 2, ho, hv =>
                    cases ho; cases hv
                    refine .inl ⟨rfl, fun a W hk hw K hK => ?_⟩
                    have e4 := hk.same 4 (by decide)
                    exact op_val (by simp [go_sem, ev' e4]) (hK _ hw)
                  | 3, ho, hv =>
                    cases ho; cases hv
                    refine .inl ⟨rfl, fun a W hk hw K hK => ?_⟩
                    have e65 := hk.at_ 1 _ 65 _ rfl (by decide) _ rfl rfl rfl
                    have e66 := hk.at_ 2 _ 66 _ rfl (by decide) _ rfl rfl rfl
                    exact op_val (by simp [go_sem, ev' e65, ev' e66, ik]) (hK _ hw)
                  | 4, ho, hv =>
                    cases ho; cases hv
                    refine .inl ⟨rfl, fun a W hk hw K hK => ?_⟩
                    have e67 := hk.at_ 3 _ 67 _ rfl (by decide) _ rfl rfl rfl
                    exact op_val (by simp [go_sem, ev' e67, HX1.out W hw, HX2.out W hw]) (hK _ hw)
                  | 5, ho, hv =>
                    cases ho; cases hv
                    refine .inl ⟨rfl, fun a W hk hw K hK => ?_⟩
                    have e1 := hk.same 1 (by decide)
                    exact op_val (by simp [go_sem, ev' e1]) (hK _ hw)
                  | 6, ho, hv =>
                    cases ho; cases hv
                    refine .inl ⟨rfl, fun a W hk hw K hK => ?_⟩
                    have e69 := hk.at_ 5 _ 69 _ rfl (by decide) _ rfl rfl rfl
                    exact op_val (by simp [go_sem, ev' e69, HC1.out W hw]) (hK _ hw)
                  | 7, ho, hv =>
                    cases ho; cases hv
                    refine .inl ⟨rfl, fun a W hk hw K hK => ?_⟩
                    have e5 := hk.same 5 (by decide)
                    exact op_val (by simp [go_sem, ev' e5]) (hK _ hw)
                  | 8, ho, hv =>
                    cases ho; cases hv
                    refine .inl ⟨rfl, fun a W hk hw K hK => ?_⟩
                    have e70 := hk.at_ 6 _ 70 _ rfl (by decide) _ rfl rfl rfl
                    have e71 := hk.at_ 7 _ 71 _ rfl (by decide) _ rfl rfl rfl
                    exact op_val (by simp [go_sem, ev' e70, ev' e71, ij]) (hK _ hw)
                  | 9, ho, hv =>
                    cases ho; cases hv
                    refine .inl ⟨rfl, fun a W hk hw K hK => ?_⟩
                    have e72 := hk.at_ 8 _ 72 _ rfl (by decide) _ rfl rfl rfl
                    exact op_val (by simp [go_sem, ev' e72, HX3.out W hw, HX4.out W hw]) (hK _ hw)
                  | 10, ho, hv =>
                    cases ho; cases hv
                    refine .inl ⟨rfl, fun a W hk hw K hK => ?_⟩
                    have e68 := hk.at_ 4 _ 68 _ rfl (by decide) _ rfl rfl rfl
                    have e73 := hk.at_ 9 _ 73 _ rfl (by decide) _ rfl rfl rfl
                    exact op_val (v := .bool bb) (by by_cases g1 : y = y' <;> by_cases g2 : z = z' <;> simp [go_sem, ev' e68, ev' e73, g1, g2, ← hbb]) (hK _ hw)
                  | _ + 11, _, hv => cases hv
                intro W hw
                simp only [List.drop_succ_cons, List.drop_zero, List.zip_cons_cons, List.zip_nil_right, putAll]
                simp only [Act.put, List.setIfInBounds_toArray, List.set]
                cases bb
                · have HNE2 : Hid (∀ i, (h : i < C.strikes.length) → i < j + 1 → C.strikes[i] ≠ C.strikes[k]) := Lib.hid fun i h h' => by
                    by_cases e : i = j
                    · subst e
                      rw [HYZ.out, HYZ'.out]
                      intro e
                      cases e
                      have := HBB.out.2 ⟨rfl, rfl⟩
                      cases this
                    · exact HNE.out i h (by omega)
                  go_wp2_with fail
                  exact ⟨⟨j + 1, by go_num, by omega, HZ2.out.trans hw, HNE2⟩, by simp [intOf]; omega⟩
                · have HF : Hid (E = 6) := Lib.hid (by
                    have h2 := HE2.out
                    rw [if_pos] at h2
                    · exact h2.symm
                    · intro hnd
                      obtain ⟨e1, e2⟩ := HBB.out.1 rfl
                      have := nodup_of_take hkl hnd
                      refine this ?_
                      rw [List.mem_take_iff_getElem]
                      exact ⟨j, by omega, by rw [HYZ.out, HYZ'.out, e1, e2]⟩)
                  go_wp2_with fail
                  go_ret
                  exact ⟨ret_int HF.out.symm, H0.out.trans (HZ.out.trans hw)⟩
              · have t3 : decide (j < k) = false := by simpa using hjk
                have HNO2 : Hid ((C.strikes.take (k + 1)).Nodup) := Lib.hid (nodup_take_succ hkl HNO.out fun hm => by
                  rw [List.mem_take_iff_getElem] at hm
                  obtain ⟨i, hi, e⟩ := hm
                  exact HNE.out i (by omega) (by omega) e)
                clear HNE HNO hjk
                go_wp2_with fail
                exact ⟨⟨k + 1, by go_num, by omega, HZ.out, HNO2⟩, by simp [intOf]; omega⟩
          · have t2 : decide (k < C.strikes.length) = false := by simpa using hkl
            have HE3 : Hid (surveysE C.claims C.surveys = E) := Lib.hid (by
              have h := HNO.out
              rw [List.take_of_length_le (by omega)] at h
              have h2 := HE2.out
              rwa [if_neg (fun hn => hn h)] at h2)
            obtain ⟨W2, rfl⟩ : ∃ W2, W2 = wr := ⟨_, rfl⟩
            replace HT := Lib.hid (HT.out.aft HY.out)
            replace HB := Lib.hid (HB.out.aft HY.out)
            replace H0 := Lib.hid (H0.out.trans HY.out)
            clear HNO HE2 HY hkl HS
            go_upto_block 6 with fail
            clear k0 k1 k2 k3
            refine wp_block ?_
            go_loopw [6] (fun i wr => ∃ k : Nat, i = .int .i64 k ∧ k ≤ C.surveys.length ∧ Aft W2 wr ∧ Hid (SvL C.claims C.surveys k 0)) (fun i _ => C.surveys.length - (intOf i).toNat)
            case atStart => exact ⟨0, rfl, by omega, Aft.refl _, Lib.hid (SvL.start _ _)⟩
            case round =>
              obtain ⟨k, rfl, hk, hy, HSV⟩ := hrel
              have HY := Lib.hid hy
              clear hy
              obtain ⟨k0, k1, k2⟩ := box31 (HB.out.aft HY.out)
              have k3 := (HB.out.aft HY.out).lt
              by_cases hkl : k < C.surveys.length
              · have t4 : decide (k < C.surveys.length) = true := by simpa using hkl
                have ik : (0 : Int) ≤ (k : Int) ∧ (k : Int) < (C.surveys.length : Int) := by omega
                obtain ⟨bt, ot, A', c', hbt, hltt, x1, hil⟩ := (HT.out.aft HY.out).row hkl
                subst hbt
                have HSC := fun hf => Lib.hid (HSV.out.count hkl hf)
                have HSL := fun hf => Lib.hid (HSV.out.listed hkl hf)
                obtain ⟨l, hl0⟩ : ∃ l, C.surveys[k] = l := ⟨_, rfl⟩
                rw [hl0] at x1 hil HSC HSL
                have HIL := Lib.hid hil
                have hll := hil.len
                have H72 : Hid (∀ W, Aft wr W → Calls Try.prog 35 #[.agg #[.int .i64 C.claims, .slice a1 C.strikes.length c1, .slice (some ⟨bt, ot, none⟩) C.surveys.length c2], .slice A' l.length c'] W fun e w' => e = .returned (.int .i64 (listedE C.claims l)) ∧ Aft W w') := Lib.hid fun W h => listedR_any C.claims a1 (some ⟨bt, ot, none⟩) C.strikes.length C.surveys.length c1 c2 A' l c' W hn (HIL.out.aft h)
                have HC0 : Hid (∀ W, Aft wr W → W.cell? ⟨bC, 0, none⟩ = some (.int .i64 C.claims) ∧ W.cell? ⟨bC, 1, none⟩ = some (.slice a1 C.strikes.length c1) ∧ W.cell? ⟨bC, 2, none⟩ = some (.slice (some ⟨bt, ot, none⟩) C.surveys.length c2)) := Lib.hid fun W h => box31 (HB.out.aft (HY.out.trans h))
                have HX1 : Hid (∀ W, Aft wr W → W.cell? ⟨bt, ot + k, none⟩ = some (.slice A' l.length c')) := Lib.hid fun W h => cellA x1 hltt h
                clear hl0 hil
                cases hf : fromB (l.length : Int) 1 6
                · have HF := Lib.hid ((HSC hf).out.done (.inr (by decide)))
                  go_wp2_with (go_at_call 34; refine (beside_any (l.length : Int) 1 6 wr).mono ?_; rintro e w' ⟨rfl, rfl⟩; rw [hf])
                  go_ret
                  exact ⟨ret_int (by rw [← HE3.out]; exact HF.out), H0.out.trans HY.out⟩
                · have HSL2 := HSL hf
                  clear HSC HSL
                  obtain ⟨E2, hE2⟩ : ∃ E2, listedE C.claims l = E2 := ⟨_, rfl⟩
                  rw [hE2] at H72 HSL2
                  clear hE2
                  go_upto_region 21 with (go_at_call 34; refine (beside_any (l.length : Int) 1 6 wr).mono ?_; rintro e w' ⟨rfl, rfl⟩; rw [hf])
                  clear k0 k1 k2 k3 x1 hf
                  refine wp_region_valsT (by kernel_rfl) 7 99 rfl (by kernel_rfl) (by kernel_rfl) (by kernel_rfl) [(.agg #[.int .i64 C.claims, .slice a1 C.strikes.length c1, .slice (some ⟨bt, ot, none⟩) C.surveys.length c2]), .pointer (some ⟨bC, 2, none⟩), .slice (some ⟨bt, ot, none⟩) C.surveys.length c2, .int .i64 k, .pointer (some ⟨bt, ot + k, none⟩), .slice A' l.length c', .int .i64 E2] rfl (fun done W => Aft wr W) (Aft.drew _) ?st4 ?fi4
                  case st4 =>
                    intro i o v ho hv
                    match i, ho, hv with
                    | 0, ho, hv =>
                      cases ho; cases hv
                      refine .inl ⟨rfl, fun done a W hd hp hk hw K hK => ?_⟩
                      have e1 := hk.same 1 (by decide)
                      obtain ⟨j0, j1, j2⟩ := HC0.out W hw
                      exact op_val (v := (.agg #[.int .i64 C.claims, .slice a1 C.strikes.length c1, .slice (some ⟨bt, ot, none⟩) C.surveys.length c2])) (by simp [go_sem, ev' e1, j0, j1, j2]) (hK _ hw)
                    | 1, ho, hv =>
                      cases ho; cases hv
                      refine .inl ⟨rfl, fun done a W hd hp hk hw K hK => ?_⟩
                      have e1 := hk.same 1 (by decide)
                      exact op_val (by simp [go_sem, ev' e1]) (hK _ hw)
                    | 2, ho, hv =>
                      cases ho; cases hv
                      refine .inl ⟨rfl, fun done a W hd hp hk hw K hK => ?_⟩
                      have e90 := hk.at_ 1 _ 90 _ rfl (by decide) _ rfl rfl rfl
                      exact op_val (by simp [go_sem, ev' e90, (HC0.out W hw).2.2]) (hK _ hw)
                    | 3, ho, hv =>
                      cases ho; cases hv
                      refine .inl ⟨rfl, fun done a W hd hp hk hw K hK => ?_⟩
                      have e6 := hk.same 6 (by decide)
                      exact op_val (by simp [go_sem, ev' e6]) (hK _ hw)
                    | 4, ho, hv =>
                      cases ho; cases hv
                      refine .inl ⟨rfl, fun done a W hd hp hk hw K hK => ?_⟩
                      have e91 := hk.at_ 2 _ 91 _ rfl (by decide) _ rfl rfl rfl
                      have e92 := hk.at_ 3 _ 92 _ rfl (by decide) _ rfl rfl rfl
                      exact op_val (by simp [go_sem, ev' e91, ev' e92, ik]) (hK _ hw)
                    | 5, ho, hv =>
                      cases ho; cases hv
                      refine .inl ⟨rfl, fun done a W hd hp hk hw K hK => ?_⟩
                      have e93 := hk.at_ 4 _ 93 _ rfl (by decide) _ rfl rfl rfl
                      exact op_val (by simp [go_sem, ev' e93, HX1.out W hw]) (hK _ hw)
                    | 6, ho, hv =>
                      cases ho; cases hv
                      refine .inl ⟨rfl, fun done a W hd hp hk hw K hK => ?_⟩
                      have e89 := hk.at_ 0 _ 89 _ rfl (by decide) _ rfl rfl rfl
                      have e94 := hk.at_ 5 _ 94 _ rfl (by decide) _ rfl rfl rfl
                      refine op_callN rfl rfl rfl _ rfl (vs := #[(.agg #[.int .i64 C.claims, .slice a1 C.strikes.length c1, .slice (some ⟨bt, ot, none⟩) C.surveys.length c2]), .slice A' l.length c']) (by simp [e89, e94]) (H72.out W hw) fun e w' h => ?_
                      obtain ⟨rfl, ha⟩ := h
                      exact ⟨_, rfl, hK _ (hw.trans ha)⟩
                    | _ + 7, _, hv => cases hv
                  intro done W hd hw
                  simp only [List.drop_succ_cons, List.drop_zero, List.zip_cons_cons, List.zip_nil_right, putAll]
                  simp only [Act.put, List.setIfInBounds_toArray, List.set]
                  by_cases hE2 : E2 = 0
                  · subst hE2
                    go_wp2_with fail
                    exact ⟨⟨k + 1, by go_num, by omega, HY.out.trans hw, HSL2⟩, by simp [intOf]; omega⟩
                  · have t5 : (E2 != 0) = true := by simpa using hE2
                    have HF := Lib.hid (HSL2.out.done (.inr hE2))
                    go_wp2_with fail
                    go_ret
                    exact ⟨ret_int (by rw [← HE3.out]; exact HF.out), H0.out.trans (HY.out.trans hw)⟩
              · have t4 : decide (k < C.surveys.length) = false := by simpa using hkl
                have HF := Lib.hid (HSV.out.done (.inl (by omega)))
                go_wp2_with fail
                go_ret
                exact ⟨ret_int (by rw [← HE3.out]; exact HF.out), H0.out.trans HY.out⟩
  · rw [hcb, if_pos rfl] at hE
    clear hcb
    go_wp2_with fail
    go_ret
    exact ⟨ret_int hE, H0.out⟩

set_option maxRecDepth 100000 in
set_option maxHeartbeats 2000000 in
theorem refutedR_any (C : CaseL) (a1 a2 : Option Addr) (c1 c2 : Nat) (R : List Int) (A : Option Addr) (c : Nat) (w : World) (hC : CRep w C a1 a2) (hA : Ints w A R) :
    Calls Try.prog 40 #[(.agg #[.int .i64 C.claims, .slice a1 C.strikes.length c1, .slice a2 C.surveys.length c2]), .slice A R.length c] w fun e w' => e = .returned (.int .i64 (openE C R)) ∧ Aft w w' := by
  have H0 := Lib.hid (Aft.alloc w (.cells #[.int .i64 C.claims, .slice a1 C.strikes.length c1, .slice a2 C.surveys.length c2] 33))
  have HB := Lib.hid (Blk.new w 33 #[.int .i64 C.claims, .slice a1 C.strikes.length c1, .slice a2 C.surveys.length c2])
  unfold openE
  by_cases h1 : caseE C = 0
  · rw [if_pos h1]
    have hok := caseE_ok h1
    have H1 : Hid (∀ W, Aft w W → Calls Try.prog 10 #[(.agg #[.int .i64 C.claims, .slice a1 C.strikes.length c1, .slice a2 C.surveys.length c2])] W fun e w' => e = .returned (.int .i64 0) ∧ Aft W w') := Lib.hid fun W h => by rw [← h1]; exact checkR_any C a1 a2 c1 c2 W (hC.aft h)
    have H2 : Hid (∀ W, Aft w W → Calls Try.prog 35 #[(.agg #[.int .i64 C.claims, .slice a1 C.strikes.length c1, .slice a2 C.surveys.length c2]), .slice A R.length c] W fun e w' => e = .returned (.int .i64 (listedE C.claims R)) ∧ Aft W w') := Lib.hid fun W h => listedR_any C.claims a1 a2 _ _ c1 c2 A R c W ⟨hok.n1, hok.n2⟩ (hA.aft h)
    obtain ⟨k0, k1, k2⟩ := box31 HB.out
    have hlt := HB.out.lt
    clear hC hA h1 hok
    generalize listedE C.claims R = E at *
    go_enter Try.func40, Try.ntmps40
    go_wp2_with (first | (go_at_call 10; refine (H1.out _ H0.out).mono ?_; rintro e w1 ⟨rfl, ha1⟩; have HA1 := Lib.hid ha1; obtain ⟨j0, j1, j2⟩ := box31 (HB.out.aft ha1); have hlt1 := (HB.out.aft ha1).lt; clear ha1) | (go_at_call 35; refine (H2.out _ (H0.out.trans HA1.out)).mono ?_; rintro e w2 ⟨rfl, ha2⟩; have HA2 := Lib.hid ha2; clear ha2))
    go_ret
    exact ⟨rfl, (H0.out.trans HA1.out).trans HA2.out⟩
  · rw [if_neg h1]
    have H1 : Hid (∀ W, Aft w W → Calls Try.prog 10 #[(.agg #[.int .i64 C.claims, .slice a1 C.strikes.length c1, .slice a2 C.surveys.length c2])] W fun e w' => e = .returned (.int .i64 (caseE C)) ∧ Aft W w') := Lib.hid fun W h => checkR_any C a1 a2 c1 c2 W (hC.aft h)
    have t1 : (caseE C != 0) = true := by simpa using h1
    obtain ⟨k0, k1, k2⟩ := box31 HB.out
    have hlt := HB.out.lt
    clear hC hA h1
    generalize caseE C = E at *
    go_enter Try.func40, Try.ntmps40
    go_wp2_with (go_at_call 10; refine (H1.out _ H0.out).mono ?_; rintro e w1 ⟨rfl, ha1⟩; have HA1 := Lib.hid ha1; clear ha1)
    go_ret
    exact ⟨rfl, H0.out.trans HA1.out⟩
end Go.Proofs
end

section
namespace Go.Proofs
open Go.RowKit Go.Shelf
set_option maxRecDepth 100000
def renSort : Go.Shelf.Ren := ⟨fun | 6 => 52 | 14 => 76 | 15 => 77 | 20 => 86 | 21 => 87 | 22 => 88 | 23 => 89 | 24 => 90 | 25 => 91 | 26 => 92 | 27 => 93 | 28 => 94 | 29 => 95 | 46 => 98 | 47 => 99 | 48 => 100 | 49 => 101 | 50 => 102 | 57 => 103 | n => n, fun | 22 => 23 | 24 => 26 | 25 => 84 | 3 => 3 | 39 => 106 | 0 => 0 | 53 => 121 | 55 => 123 | 4 => 4 | 46 => 114 | 45 => 113 | 50 => 118 | 5 => 5 | 9 => 9 | 66 => 125 | 70 => 129 | 76 => 131 | 77 => 132 | n => n, fun n => n⟩
theorem laySort : SlLaysF.n6 Try.prog renSort := {
  mixed := by kernel_rfl
  f6 := ⟨Try.f52.name, by kernel_rfl, Try.func52.trans (congrArg some (by kernel_rfl))⟩
  f14 := ⟨Try.f76.name, by kernel_rfl, Try.func76.trans (congrArg some (by kernel_rfl))⟩
  f15 := Try.func77.trans (congrArg some (by kernel_rfl))
  f20 := ⟨Try.f86.name, by kernel_rfl, Try.func86.trans (congrArg some (by kernel_rfl))⟩
  f21 := ⟨Try.f87.name, by kernel_rfl, Try.func87.trans (congrArg some (by kernel_rfl))⟩
  f22 := ⟨Try.f88.name, by kernel_rfl, Try.func88.trans (congrArg some (by kernel_rfl))⟩
  f23 := ⟨Try.f89.name, by kernel_rfl, Try.func89.trans (congrArg some (by kernel_rfl))⟩
  f24 := ⟨Try.f90.name, by kernel_rfl, Try.func90.trans (congrArg some (by kernel_rfl))⟩
  f25 := ⟨Try.f91.name, by kernel_rfl, Try.func91.trans (congrArg some (by kernel_rfl))⟩
  f26 := ⟨Try.f92.name, by kernel_rfl, Try.func92.trans (congrArg some (by kernel_rfl))⟩
  f27 := ⟨Try.f93.name, by kernel_rfl, Try.func93.trans (congrArg some (by kernel_rfl))⟩
  f28 := Try.func94.trans (congrArg some (by kernel_rfl))
  f29 := Try.func95.trans (congrArg some (by kernel_rfl))
  f46 := ⟨Try.f98.name, by kernel_rfl, Try.func98.trans (congrArg some (by kernel_rfl))⟩
  f47 := Try.func99.trans (congrArg some (by kernel_rfl))
  f48 := Try.func100.trans (congrArg some (by kernel_rfl))
  f49 := ⟨Try.f101.name, by kernel_rfl, Try.func101.trans (congrArg some (by kernel_rfl))⟩
  f50 := ⟨Try.f102.name, by kernel_rfl, Try.func102.trans (congrArg some (by kernel_rfl))⟩
  f57 := ⟨Try.f103.name, by kernel_rfl, Try.func103.trans (congrArg some (by kernel_rfl))⟩
  t0 := Try.underlying0
  a0 := Try.isAgg0
  z0 := Try.sizeOf0
  v0 := Try.zeroValue0
  t3 := Try.underlying3
  a3 := Try.isAgg3
  z3 := Try.sizeOf3
  v3 := Try.zeroValue3
  t4 := Try.underlying4
  a4 := Try.isAgg4
  z4 := Try.sizeOf4
  v4 := Try.zeroValue4
  t5 := Try.underlying5
  a5 := Try.isAgg5
  z5 := Try.sizeOf5
  v5 := Try.zeroValue5
  t9 := Try.underlying9
  a9 := Try.isAgg9
  z9 := Try.sizeOf9
  v9 := Try.zeroValue9
  t22 := Try.underlying23
  a22 := Try.isAgg23
  z22 := Try.sizeOf23
  v22 := Try.zeroValue23
  a24 := Try.isAgg26
  z24 := Try.sizeOf26
  t25 := Try.underlying84
  a25 := Try.isAgg84
  z25 := Try.sizeOf84
  v25 := Try.zeroValue84
  t39 := Try.underlying106
  a39 := Try.isAgg106
  z39 := Try.sizeOf106
  v39 := Try.zeroValue106
  t45 := Try.underlying113
  a45 := Try.isAgg113
  z45 := Try.sizeOf113
  v45 := Try.zeroValue113
  t46 := Try.underlying114
  a46 := Try.isAgg114
  z46 := Try.sizeOf114
  v46 := Try.zeroValue114
  t50 := Try.underlying118
  a50 := Try.isAgg118
  z50 := Try.sizeOf118
  v50 := Try.zeroValue118
  t53 := Try.underlying121
  a53 := Try.isAgg121
  z53 := Try.sizeOf121
  v53 := Try.zeroValue121
  t55 := Try.underlying123
  a55 := Try.isAgg123
  z55 := Try.sizeOf123
  v55 := Try.zeroValue123
  t66 := Try.underlying125
  a66 := Try.isAgg125
  z66 := Try.sizeOf125
  v66 := Try.zeroValue125
  t70 := Try.underlying129
  a70 := Try.isAgg129
  z70 := Try.sizeOf129
  v70 := Try.zeroValue129
  t76 := Try.underlying131
  a76 := Try.isAgg131
  z76 := Try.sizeOf131
  v76 := Try.zeroValue131
  t77 := Try.underlying132
  a77 := Try.isAgg132
  z77 := Try.sizeOf132
  v77 := Try.zeroValue132 }
end Go.Proofs
end

section
namespace Go.Proofs
open Go.RowKit
attribute [local go_sem] Oper.semAt_some

theorem cmp96_any (x y : Int) (w : World) : Calls Try.prog 78 #[.int .i64 x, .int .i64 y] w fun e w' => e = .returned (.int .i64 (Lib.compareInt x y)) ∧ w' = w := by
  go_enter Try.func78, Try.ntmps78
  go_wp2
  all_goals (go_ret; refine ⟨?_, rfl⟩; unfold Lib.compareInt; (repeat' split) <;> first | rfl | (exfalso; omega))
theorem compareInt_zero {x y : Int} : Lib.compareInt x y = 0 ↔ x = y := by
  unfold Lib.compareInt
  (repeat' split) <;> constructor <;> intro h <;> first | omega | contradiction | (exfalso; omega)
def cmpZ : List Int → List Int → Int
  | [], [] => 0
  | [], _ :: _ => -1
  | _ :: _, [] => 1
  | x :: xs, y :: ys => if x = y then cmpZ xs ys else Lib.compareInt x y
theorem compareInt_neg {x y : Int} : Lib.compareInt x y < 0 ↔ x < y := by
  unfold Lib.compareInt
  (repeat' split) <;> constructor <;> intro h <;> first | omega | contradiction | (exfalso; omega)
theorem cmpZ_same : ∀ x : List Int, cmpZ x x = 0
  | [] => rfl
  | x :: xs => by unfold cmpZ; rw [if_pos rfl]; exact cmpZ_same xs
theorem cmpZ_trans : ∀ {x y z : List Int}, cmpZ x y < 0 → cmpZ y z < 0 → cmpZ x z < 0
  | [], [], z, h, _ => by simp [cmpZ] at h
  | [], _ :: _, [], _, h => by simp [cmpZ] at h
  | [], _ :: _, _ :: _, _, _ => by simp [cmpZ]
  | _ :: _, [], _, h, _ => by simp [cmpZ] at h
  | _ :: _, _ :: _, [], _, h => by simp [cmpZ] at h
  | x :: xs, y :: ys, z :: zs, h1, h2 => by
    unfold cmpZ at h1 h2 ⊢
    by_cases e1 : x = y
    · subst e1
      rw [if_pos rfl] at h1
      by_cases e2 : x = z
      · rw [if_pos e2] at h2 ⊢
        exact cmpZ_trans h1 h2
      · rw [if_neg e2] at h2 ⊢
        exact h2
    · rw [if_neg e1] at h1
      have h1' := compareInt_neg.1 h1
      by_cases e2 : y = z
      · subst e2
        rw [if_neg e1]; exact h1
      · rw [if_neg e2] at h2
        have h2' := compareInt_neg.1 h2
        rw [if_neg (by omega)]
        exact compareInt_neg.2 (by omega)
theorem cmpZ_ge : ∀ {x y z : List Int}, ¬ cmpZ x y < 0 → ¬ cmpZ y z < 0 → ¬ cmpZ x z < 0
  | _, [], _ :: _, _, h => by simp [cmpZ] at h
  | [], _ :: _, _, h, _ => by simp [cmpZ] at h
  | [], [], [], _, _ => by simp [cmpZ]
  | _ :: _, _, [], _, _ => by simp [cmpZ]
  | x :: xs, y :: ys, z :: zs, h1, h2 => by
    unfold cmpZ at h1 h2 ⊢
    by_cases e1 : x = y
    · subst e1
      rw [if_pos rfl] at h1
      by_cases e2 : x = z
      · rw [if_pos e2] at h2 ⊢
        exact cmpZ_ge h1 h2
      · rw [if_neg e2] at h2 ⊢
        exact h2
    · rw [if_neg e1] at h1
      have h1' : ¬ x < y := fun h => h1 (compareInt_neg.2 h)
      by_cases e2 : y = z
      · subst e2
        rw [if_neg e1]; exact h1
      · rw [if_neg e2] at h2
        have h2' : ¬ y < z := fun h => h2 (compareInt_neg.2 h)
        rw [if_neg (by omega)]
        exact fun h => by have := compareInt_neg.1 h; omega
theorem compareInt_anti {x y : Int} : ¬ Lib.compareInt x y < 0 → ¬ Lib.compareInt y x < 0 → x = y := fun h1 h2 => by
  have h1' : ¬ x < y := fun h => h1 (compareInt_neg.2 h)
  have h2' : ¬ y < x := fun h => h2 (compareInt_neg.2 h)
  omega
theorem cmpZ_eq : ∀ {x y : List Int}, ¬ cmpZ x y < 0 → ¬ cmpZ y x < 0 → x = y
  | [], [], _, _ => rfl
  | [], _ :: _, h, _ => by simp [cmpZ] at h
  | _ :: _, [], _, h => by simp [cmpZ] at h
  | x :: xs, y :: ys, h1, h2 => by
    unfold cmpZ at h1 h2
    by_cases e : x = y
    · subst e
      rw [if_pos rfl] at h1 h2
      rw [cmpZ_eq h1 h2]
    · rw [if_neg e] at h1
      rw [if_neg (Ne.symm e)] at h2
      exact absurd (compareInt_anti h1 h2) e
theorem cmpZ_step (x y : List Int) {k : Nat} (hx : k < x.length) (hy : k < y.length) : cmpZ (x.drop k) (y.drop k) = if x[k] = y[k] then cmpZ (x.drop (k + 1)) (y.drop (k + 1)) else Lib.compareInt x[k] y[k] := by
  rw [List.drop_eq_getElem_cons hx, List.drop_eq_getElem_cons hy, cmpZ]
theorem cmpZ_long (x y : List Int) {k : Nat} (hx : k < x.length) (hy : y.length ≤ k) : cmpZ (x.drop k) (y.drop k) = 1 := by
  rw [List.drop_eq_getElem_cons hx, List.drop_eq_nil_of_le hy, cmpZ]
theorem cmpZ_end (x y : List Int) : cmpZ (x.drop x.length) (y.drop x.length) = if x.length < y.length then -1 else 0 := by
  rw [List.drop_eq_nil_of_le (Nat.le_refl _)]
  by_cases h : x.length < y.length
  · rw [List.drop_eq_getElem_cons h, if_pos h, cmpZ]
  · rw [List.drop_eq_nil_of_le (by omega), if_neg h, cmpZ]

set_option maxRecDepth 100000 in
set_option maxHeartbeats 4000000 in
theorem compare_any (w : World) (x y : List Int) (A B : Option Addr) (c d : Nat) (hA : Ints w A x) (hB : Ints w B y) :
    Calls Try.prog 53 #[.slice A x.length c, .slice B y.length d] w fun e w' => e = .returned (.int .i64 (cmpZ x y)) ∧ w' = w := by
  have HA := Lib.hid hA
  have HB := Lib.hid hB
  have hal := hA.len
  have hbl := hB.len
  have HST := Lib.hid (fun (k : Nat) (hx : k < x.length) (hy : k < y.length) => cmpZ_step x y hx hy)
  have HLO := Lib.hid (fun (k : Nat) (hx : k < x.length) (hy : y.length ≤ k) => cmpZ_long x y hx hy)
  have HEN := Lib.hid (cmpZ_end x y)
  have HC0 := Lib.hid (show cmpZ x y = cmpZ (x.drop 0) (y.drop 0) by rw [List.drop_zero, List.drop_zero])
  clear hA hB
  obtain ⟨r, hr⟩ : ∃ r, cmpZ x y = r := ⟨_, rfl⟩
  rw [hr] at HC0 ⊢
  clear hr
  go_enter Try.func53, Try.ntmps53
  go_wp2_with fail
  go_loopw [11] (fun i wr => ∃ k : Nat, i = .int .i64 k ∧ k ≤ x.length ∧ wr = w ∧ Hid (r = cmpZ (x.drop k) (y.drop k))) (fun i _ => x.length - (intOf i).toNat)
  case atStart => exact ⟨0, rfl, by omega, rfl, HC0⟩
  case round =>
    obtain ⟨k, rfl, hk, rfl, HK⟩ := hrel
    by_cases hkn : k < x.length
    · have hdec : decide (k < x.length) = true := decide_eq_true hkn
      by_cases hky : k < y.length
      · have hge : decide (y.length ≤ k) = false := decide_eq_false (by omega)
        obtain ⟨bx, ox, rfl, -, hx⟩ := HA.out.at hkn
        obtain ⟨bY, oY, rfl, -, hy⟩ := HB.out.at hky
        have x0 := hx k hkn
        have y0 := hy k hky
        have HR : Hid (r = if x[k] = y[k] then cmpZ (x.drop (k + 1)) (y.drop (k + 1)) else Lib.compareInt x[k] y[k]) := Lib.hid (HK.out.trans (HST.out k hkn hky))
        have i1 : (0 : Int) ≤ (k : Int) ∧ (k : Int) < (x.length : Int) := by omega
        have i2 : (0 : Int) ≤ (k : Int) ∧ (k : Int) < (y.length : Int) := by omega
        clear hx hy
        generalize x[k] = u at *
        generalize y[k] = v at *
        have HC := Lib.hid (cmp96_any u v wr)
        by_cases huv : u = v
        · have hq : Lib.compareInt u v = 0 := compareInt_zero.2 huv
          rw [hq] at HC
          have HN2 := Lib.hid (show r = cmpZ (x.drop (k + 1)) (y.drop (k + 1)) by rw [HR.out, if_pos huv])
          clear huv HR hq
          go_wp2_with (go_at_call 78; refine HC.out.mono ?_; rintro e w5 ⟨rfl, rfl⟩)
          exact ⟨⟨k + 1, by go_num, by omega, by trivial, HN2⟩, by simp [intOf]; omega⟩
        · have HRR := Lib.hid (show r = Lib.compareInt u v by rw [HR.out, if_neg huv])
          have hqn : (Lib.compareInt u v != 0) = true := by
            simp only [bne_iff_ne, ne_eq]
            exact fun e => huv (compareInt_zero.1 e)
          clear huv HR
          generalize Lib.compareInt u v = q at *
          go_wp2_with (go_at_call 78; refine HC.out.mono ?_; rintro e w5 ⟨rfl, rfl⟩)
          go_ret
          exact ⟨by rw [HRR.out]; rfl, rfl⟩
      · have hge : decide (y.length ≤ k) = true := decide_eq_true (by omega)
        obtain ⟨bx, ox, rfl, -, hx⟩ := HA.out.at hkn
        have x0 := hx k hkn
        have HR := Lib.hid (HK.out.trans (HLO.out k hkn (by omega)))
        have i1 : (0 : Int) ≤ (k : Int) ∧ (k : Int) < (x.length : Int) := by omega
        clear hx hky
        go_wp2_with fail
        go_ret
        exact ⟨by rw [HR.out]; rfl, rfl⟩
    · have hdec : decide (k < x.length) = false := decide_eq_false hkn
      obtain rfl : x.length = k := by omega
      have HR := Lib.hid (HK.out.trans HEN.out)
      clear hkn
      by_cases hxy : x.length < y.length
      · have t1 : decide (x.length < y.length) = true := decide_eq_true hxy
        have HR2 := Lib.hid (show r = -1 by rw [HR.out, if_pos hxy])
        clear hxy HR
        go_wp2_with fail
        go_ret
        exact ⟨by rw [HR2.out]; rfl, rfl⟩
      · have t1 : decide (x.length < y.length) = false := decide_eq_false hxy
        have HR2 := Lib.hid (show r = 0 by rw [HR.out, if_neg hxy])
        clear hxy HR
        go_wp2_with fail
        go_ret
        exact ⟨by rw [HR2.out]; rfl, rfl⟩
end Go.Proofs
end

section
namespace Go.Proofs
open Go.RowKit
open Court (refL begF noS struckB nextR hearR hearsR rule setF allN RankOk openN round award hears)

def heardE (C : CaseL) (R O : List Int) : Int := if openE C R = 0 then (if 400 < O.length then 3 else if O.all (fun n => Cl n C.claims) then 0 else 2) else openE C R
def BadH (C : CaseL) (R O : List Int) (w : World) (e : Ending) (w' : World) : Prop := e = .returned (.tuple #[.slice none 0 0, .int .i64 (heardE C R O)]) ∧ Aft w w'

theorem hears_succ (S : List (Int × Int)) (x : (Int → Nat) × (Int → Nat)) (o : List Int) (k : Nat) (h : k < o.length) : hearsR S noS x (o.take (k + 1)) = hearR S noS (hearsR S noS x (o.take k)) o[k] := by
  unfold hearsR
  rw [List.take_succ_eq_append_getElem h, List.foldl_append]
  rfl

set_option maxRecDepth 100000 in
set_option maxHeartbeats 2000000 in
theorem heard_bad (C : CaseL) (a1 a2 : Option Addr) (c1 c2 : Nat) (R O : List Int) (A A' : Option Addr) (c c' : Nat) (w : World) (hC : CRep w C a1 a2) (hA : Ints w A R) (hA' : Ints w A' O) (he : heardE C R O ≠ 0) :
    Calls Try.prog 11 #[(.agg #[.int .i64 C.claims, .slice a1 C.strikes.length c1, .slice a2 C.surveys.length c2]), .slice A R.length c, .slice A' O.length c'] w (BadH C R O w) := by
  have h0 : Aft w (w.alloc (.cells #[.int .i64 C.claims, .slice a1 C.strikes.length c1, .slice a2 C.surveys.length c2] 25)) := Aft.alloc _ _
  have H0 := Lib.hid h0
  have hlo := hA'.len
  unfold BadH
  unfold heardE at he ⊢
  by_cases h1 : openE C R = 0
  · rw [if_pos h1] at he ⊢
    have hok := (openE_facts h1).1
    have H1 : Hid (∀ W, Aft w W → Calls Try.prog 36 #[(.agg #[.int .i64 C.claims, .slice a1 C.strikes.length c1, .slice a2 C.surveys.length c2]), .slice A R.length c] W (Opened C a1 a2 c1 c2 R W)) := Lib.hid fun W h => opened_good C a1 a2 c1 c2 R A c W (hC.aft h) (hA.aft h) h1
    have H2 : Hid (∀ W, Aft w W → Calls Try.prog 37 #[.slice A' O.length c', .func (.func 32) #[(.agg #[.int .i64 C.claims, .slice a1 C.strikes.length c1, .slice a2 C.surveys.length c2])] #[]] W fun e w' => e = .returned (.bool (O.all fun n => Cl n C.claims)) ∧ Aft W w') := Lib.hid fun W h => none_strange C.claims a1 a2 _ _ c1 c2 A' O c' W ⟨hok.n1, hok.n2⟩ (hA'.aft h)
    have HB := Lib.hid (Blk.new w 25 #[.int .i64 C.claims, .slice a1 C.strikes.length c1, .slice a2 C.surveys.length c2])
    clear hC hA hA' h0 hok
    go_enter Try.func11, Try.ntmps11
    by_cases h2 : 400 < O.length
    · rw [if_pos h2]
      have t1 : decide ((400 : Int) < O.length) = true := by simp; omega
      clear he h1 h2
      go_wp2_with (go_at_call 36; refine (H1.out _ H0.out).mono ?_; rintro e w1 ⟨d, rfl, hd⟩; have HD := Lib.hid hd; clear hd)
      go_ret2
      exact ⟨rfl, H0.out.trans HD.out.aft⟩
    · rw [if_neg h2] at he ⊢
      have t1 : decide ((400 : Int) < O.length) = false := by simp; omega
      have h3 : (O.all fun n => Cl n C.claims) = false := by
        cases h : (O.all fun n => Cl n C.claims)
        · rfl
        · rw [if_pos h] at he; exact absurd rfl he
      rw [h3] at H2 ⊢
      clear he h1 h2 h3
      go_wp2_with (first | (go_at_call 36; refine (H1.out _ H0.out).mono ?_; rintro e w1 ⟨d, rfl, hd⟩; have HD := Lib.hid hd; obtain ⟨k0, k1, k2⟩ := box25 (HB.out.aft hd.aft); have hlt := (HB.out.aft hd.aft).lt; clear hd) | (go_at_call 37; refine (H2.out _ (H0.out.trans HD.out.aft)).mono ?_; rintro e w' ⟨rfl, u, rfl⟩))
      go_ret2
      exact ⟨rfl, (H0.out.trans HD.out.aft).then_lat _⟩
  · rw [if_neg h1] at he ⊢
    have H1 : Hid (∀ W, Aft w W → Calls Try.prog 36 #[(.agg #[.int .i64 C.claims, .slice a1 C.strikes.length c1, .slice a2 C.surveys.length c2]), .slice A R.length c] W fun e w' => e = .returned (.tuple #[.pointer none, .int .i64 (openE C R)]) ∧ Aft W w') := Lib.hid fun W h => opened_bad C a1 a2 c1 c2 R A c W (hC.aft h) (hA.aft h) he
    have t1 : (openE C R != 0) = true := by simpa using he
    clear hC hA h0 he h1 hA'
    generalize openE C R = E at *
    go_enter Try.func11, Try.ntmps11
    go_wp2_with (go_at_call 36; refine (H1.out _ H0.out).mono ?_; rintro e w' ⟨rfl, u, rfl⟩)
    go_ret2
    exact ⟨rfl, H0.out.then_lat _⟩

structure HdI (W0 w1 : World) (d : Nat) (C : CaseL) (a1 a2 : Option Addr) (c1 c2 : Nat) (R O : List Int) (N : Nat) (k : Nat) (W : World) : Prop where
  le : k ≤ O.length
  grown : w1.grownBy W (some d)
  desk : DeskAt W0 W d C a1 a2 c1 c2 (refL R) noS (hearsR C.strikes noS (begF (refL R), fun _ => 0) (O.take k)).1 (hearsR C.strikes noS (begF (refL R), fun _ => 0) (O.take k)).2
  heard : HeardS C.strikes noS N (begF (refL R)) (hearsR C.strikes noS (begF (refL R), fun _ => 0) (O.take k)).1 (hearsR C.strikes noS (begF (refL R), fun _ => 0) (O.take k)).2
theorem HdI.step {W0 w1 W W' : World} {d : Nat} {C : CaseL} {a1 a2 : Option Addr} {c1 c2 : Nat} {R O : List Int} {N : Nat} {k : Nat} (h : HdI W0 w1 d C a1 a2 c1 c2 R O N k W) (hk : k < O.length) (hr : 0 ≤ O[k] ∧ O[k] < N) {e : Ending}
    (hh : Hearing W0 W d C a1 a2 c1 c2 (refL R) noS (hearR C.strikes noS ((hearsR C.strikes noS (begF (refL R), fun _ => 0) (O.take k)).1, (hearsR C.strikes noS (begF (refL R), fun _ => 0) (O.take k)).2) O[k]).1 (hearR C.strikes noS ((hearsR C.strikes noS (begF (refL R), fun _ => 0) (O.take k)).1, (hearsR C.strikes noS (begF (refL R), fun _ => 0) (O.take k)).2) O[k]).2 e W') : HdI W0 w1 d C a1 a2 c1 c2 R O N (k + 1) W' := by
  obtain ⟨_, hg, hd'⟩ := hh
  refine ⟨by omega, h.grown.trans hg, ?_, ?_⟩
  · rw [hears_succ _ _ _ _ hk]; exact hd'
  · rw [hears_succ _ _ _ _ hk]; exact h.heard.step hr

set_option maxRecDepth 100000 in
set_option maxHeartbeats 2000000 in
theorem heard_good (C : CaseL) (a1 a2 : Option Addr) (c1 c2 : Nat) (R O : List Int) (A A' : Option Addr) (c c' : Nat) (w : World) (hC : CRep w C a1 a2) (hA : Ints w A R) (hA' : Ints w A' O) (he : heardE C R O = 0) (N : Nat) (hN : C.claims = N) :
    Calls Try.prog 11 #[(.agg #[.int .i64 C.claims, .slice a1 C.strikes.length c1, .slice a2 C.surveys.length c2]), .slice A R.length c, .slice A' O.length c'] w (GoodL (foundL (hears C.strikes noS (begF (refL R)) O) N) w) := by
  have h0 : Aft w (w.alloc (.cells #[.int .i64 C.claims, .slice a1 C.strikes.length c1, .slice a2 C.surveys.length c2] 25)) := Aft.alloc _ _
  have H0 := Lib.hid h0
  have hlo := hA'.len
  unfold heardE at he
  have h1 : openE C R = 0 := by
    by_cases h1 : openE C R = 0
    · exact h1
    · rw [if_neg h1] at he; exact he
  rw [if_pos h1] at he
  have h2 : ¬ 400 < O.length := fun h => by rw [if_pos h] at he; cases he
  rw [if_neg h2] at he
  have h3 : (O.all fun n => Cl n C.claims) = true := by
    cases h : (O.all fun n => Cl n C.claims)
    · rw [h] at he; cases he
    · rfl
  have HO : Hid (∀ k, (h : k < O.length) → 0 ≤ O[k] ∧ O[k] < N) := Lib.hid fun k h => by
    have := Cl_iff.1 (List.all_eq_true.1 h3 _ (List.getElem_mem h))
    rwa [hN] at this
  have hok := (openE_facts h1).1
  have hN14 : N ≤ 14 := by have := hok.n2; omega
  have HS := Lib.hid (show ∀ s ∈ C.strikes, 0 ≤ s.1 ∧ s.1 < 14 from fun s hs => by have := (hok.ins s hs).1; have := hok.n2; omega)
  have H1 : Hid (∀ W, Aft w W → Calls Try.prog 36 #[(.agg #[.int .i64 C.claims, .slice a1 C.strikes.length c1, .slice a2 C.surveys.length c2]), .slice A R.length c] W (Opened C a1 a2 c1 c2 R W)) := Lib.hid fun W h => opened_good C a1 a2 c1 c2 R A c W (hC.aft h) (hA.aft h) h1
  have H2 : Hid (∀ W, Aft w W → Calls Try.prog 37 #[.slice A' O.length c', .func (.func 32) #[(.agg #[.int .i64 C.claims, .slice a1 C.strikes.length c1, .slice a2 C.surveys.length c2])] #[]] W fun e w' => e = .returned (.bool (O.all fun n => Cl n C.claims)) ∧ Aft W w') := Lib.hid fun W h => none_strange C.claims a1 a2 _ _ c1 c2 A' O c' W ⟨hok.n1, hok.n2⟩ (hA'.aft h)
  rw [h3] at H2
  have HB := Lib.hid (Blk.new w 25 #[.int .i64 C.claims, .slice a1 C.strikes.length c1, .slice a2 C.surveys.length c2])
  have HN := Lib.hid hN
  have HA' := Lib.hid hA'
  have t1 : decide ((400 : Int) < O.length) = false := by simp; omega
  have hO400 : O.length ≤ 400 := by omega
  clear hC hA hA' h0 hok he h1 h2 h3 hN hlo
  go_enter Try.func11, Try.ntmps11
  go_upto_block 1 with (first | (go_at_call 36; refine (H1.out _ H0.out).mono ?_; rintro e w1 ⟨d, rfl, hd⟩; have HD := Lib.hid hd; obtain ⟨k0, k1, k2⟩ := box25 (HB.out.aft hd.aft); have hlt := (HB.out.aft hd.aft).lt; clear hd) | (go_at_call 37; refine (H2.out _ (H0.out.trans HD.out.aft)).mono ?_; rintro e w2 ⟨rfl, ha2⟩; have HA2 := Lib.hid ha2; clear ha2))
  have HA1 : Hid (Aft w w2) := Lib.hid ((H0.out.trans HD.out.aft).trans HA2.out)
  have hdw : w.heap.size < d := by have := HD.out.base; simp at this; omega
  have HB1 := Lib.hid ((HB.out.aft HD.out.aft).aft HA2.out)
  have HD2 := Lib.hid (HD.out.later HA2.out)
  generalize (w.alloc (.cells #[.int .i64 C.claims, .slice a1 C.strikes.length c1, .slice a2 C.surveys.length c2] 25)) = W0 at *
  have HI0 : Hid (HdI W0 w2 d C a1 a2 c1 c2 R O N 0 w2) := Lib.hid ⟨by omega, only_refl _ _, by rw [List.take_zero]; exact HD2.out, by rw [List.take_zero]; exact HeardS.start _ _ _ _⟩
  clear k0 k1 k2 hlt
  refine wp_block ?_
  go_loopw [34] (fun i wr => ∃ k : Nat, i = .int .i64 k ∧ HdI W0 w2 d C a1 a2 c1 c2 R O N k wr) (fun i _ => O.length - (intOf i).toNat)
  case atStart => exact ⟨0, rfl, HI0.out⟩
  case round =>
    obtain ⟨k, rfl, hi⟩ := hrel
    have hk := hi.le
    have HI := Lib.hid hi
    clear hi
    by_cases hkO : k < O.length
    · have t2 : decide (k < O.length) = true := by simpa using hkO
      obtain ⟨b, o, rfl, hb, hc⟩ := ((HA'.out.aft HA1.out).aft (Aft.refl _)).at hkO
      have hok := HO.out k hkO
      have hkc : wr.cell? ⟨b, o + k, none⟩ = some (.int .i64 O[k]) := by
        obtain ⟨b', o', e1, hb', hc'⟩ := HA'.out.at hkO
        cases e1
        have : Ints wr (some ⟨b, o, none⟩) O := (HA'.out.aft (HA1.out.grown HI.out.grown (fun k e => by cases e; omega)))
        obtain ⟨b2, o2, e2, _, hc2⟩ := this.at hkO
        cases e2
        exact hc2 k hkO
      have hbr : b < wr.heap.size := Nat.lt_of_lt_of_le hb HI.out.grown.size
      obtain ⟨n, hn⟩ : ∃ n : Nat, O[k] = n := ⟨O[k].toNat, by omega⟩
      have HE := Lib.hid (fun (hr : ∀ x, (hearsR C.strikes noS (begF (refL R), fun _ => 0) (O.take k)).2 x ≤ 1000) => hear_any W0 wr d C a1 a2 c1 c2 (refL R) noS _ _ HI.out.desk n (by omega) HS.out hr)
      have HE2 := Lib.hid (HE.out (fun x => by have := HI.out.heard.rank (Court.begF_three _) x; omega))
      rw [hn] at hkc
      have HN2 := Lib.hid hn
      clear hc hn hok HE
      go_wp2_with (go_at_call 38; refine HE2.out.mono ?_; rintro e w' hh; have HH2 := Lib.hid (HI.out.step hkO (HO.out k hkO) (by rw [HN2.out]; exact hh)); obtain ⟨⟨v, rfl⟩, -, -⟩ := hh)
      exact ⟨⟨k + 1, by go_num, HH2.out⟩, by simp [intOf]; omega⟩
    · have t2 : decide (k < O.length) = false := by simpa using hkO
      obtain rfl : O.length = k := by omega
      clear hkO
      have hdk := HI.out.desk
      have hg := HI.out.grown
      rw [List.take_of_length_le (Nat.le_refl _)] at hdk
      have HF := Lib.hid (Court.hearsR_fst (S := C.strikes) (sure := noS) O (begF (refL R), fun _ => 0))
      rw [HF.out] at hdk
      have HDK := Lib.hid (hdk.later (Aft.drew _))
      have HG := Lib.hid hg
      have hlt0 : w.heap.size < wr.drew.heap.size := Nat.lt_of_lt_of_le HB1.out.lt hg.size
      have z0 : wr.drew.cell? ⟨w.heap.size, 0, none⟩ = some (.int .i64 N) := by
        rw [← HN.out]; exact (HB1.out.grown hg (by simp; omega)).cell 0
      clear hdk hg
      go_upto_region 13 with (fail)
      refine wp_region_valsT (by kernel_rfl) 5 49 rfl (by kernel_rfl) (by kernel_rfl) (by kernel_rfl) [.pointer (some ⟨d, 0, none⟩), .pointer (some ⟨d, 0, none⟩), .pointer (some ⟨d, 31, none⟩), .pointer (some ⟨w.heap.size, 0, none⟩), .int .i64 N] rfl (fun _ W => W = wr.drew) (rfl) ?st1 ?fi1
      case st1 =>
        intro i o v ho hv
        match i, ho, hv with
        | 0, ho, hv =>
          cases ho; cases hv
          refine .inl ⟨rfl, fun done a W hd hp hk hw K hK => ?_⟩
          have e8 := hk.same 8 (by decide)
          exact op_val (by simp [go_sem, ev' e8]) (hK _ hw)
        | 1, ho, hv =>
          cases ho; cases hv
          refine .inl ⟨rfl, fun done a W hd hp hk hw K hK => ?_⟩
          have e42 := hk.at_ 0 _ 42 _ rfl (by decide) _ rfl rfl rfl
          exact op_val (by simp [go_sem, ev' e42]) (hK _ hw)
        | 2, ho, hv =>
          cases ho; cases hv
          refine .inl ⟨rfl, fun done a W hd hp hk hw K hK => ?_⟩
          have e43 := hk.at_ 1 _ 43 _ rfl (by decide) _ rfl rfl rfl
          exact op_val (by simp [go_sem, ev' e43]) (hK _ hw)
        | 3, ho, hv =>
          cases ho; cases hv
          refine .inl ⟨rfl, fun done a W hd hp hk hw K hK => ?_⟩
          have e3 := hk.same 3 (by decide)
          exact op_val (by simp [go_sem, ev' e3]) (hK _ hw)
        | 4, ho, hv =>
          cases ho; cases hv
          refine .inl ⟨rfl, fun done a W hd hp hk hw K hK => ?_⟩
          have e45 := hk.at_ 3 _ 45 _ rfl (by decide) _ rfl rfl rfl
          exact op_val (by simp [go_sem, ev' e45, hw, z0]) (hK _ hw)
        | _ + 5, _, hv => cases hv
      intro done W hd hw
      simp only [List.drop_succ_cons, List.drop_zero, List.zip_cons_cons, List.zip_nil_right, putAll]
      simp only [Act.put, List.setIfInBounds_toArray, List.set]
      clear hd
      subst hw
      have HCL := Lib.hid (clone84 (some ⟨d, 31, none⟩) (foundL (hears C.strikes noS (begF (refL R)) O) N) 14 wr.drew (HDK.out.foundInts hN14))
      rw [foundL_len] at HCL
      have i1 : (0 : Int) ≤ (N : Int) ∧ (N : Int) ≤ 14 := by omega
      go_wp2_with (go_at_call 39; refine HCL.out.mono ?_; rintro e w9 ⟨v, rfl, hown, ha9⟩; have HO9 := Lib.hid hown; have HA9 := Lib.hid ha9; clear hown ha9)
      go_ret2
      have hbig : Aft w w9 := ((HA1.out.grown HG.out (fun k e => by cases e; omega)).trans (Aft.drew _)).trans HA9.out
      have hsz := HA1.out.size
      have hsz2 := HG.out.size
      refine ⟨v, rfl, ?_, hbig⟩
      rw [foundL_len]
      have := HO9.out
      rw [foundL_len] at this
      exact own_base this (by show w.heap.size ≤ wr.heap.size; omega)
end Go.Proofs
end
