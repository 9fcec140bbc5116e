/- Own texts, merged: Vd Vi Vj0 Vj1 Vj2. -/
import Derived.Test.YthegmhnaiabcpaaC21
import Derived.Deep.RegionLaw
import Derived.Shelf.RegionOpenPlain
import Derived.Lib.SliceRun
import Derived.BigGuard
set_option linter.unusedSimpArgs false
set_option linter.unusedVariables false
set_option linter.unnecessarySimpa false
section
/- Walks: Delete of one joint of a list that lies in a block of its own. -/
namespace Go.Proofs
open Go.RowKit
attribute [local go_sem] Oper.semAt_some

def zQ : List Value := [.int .i64 0, .int .i64 0, .int .i64 0, .int .i64 0]
theorem run_clear4 (w : World) (ty : TypeId) (b o c : Nat) (hc : ∀ j, j < 4 → (w.cell? ⟨b, o + j, none⟩).isSome = true) (hf : ∀ j, j < 4 → w.frozen? ⟨b, o + j, none⟩ = false) :
    (Builtin.clear_ #[23] ty #[.slice (some ⟨b, o, none⟩) 1 c]).run Try.prog w = .ok (.tuple #[]) (w.setCells b o zQ) := by
  have hst := run_storeCells_cells (P := Try.prog) b o zQ 0 w (by simpa [zQ] using hc) (by simpa [zQ] using hf) (by intro v hv'; simp [zQ] at hv'; rw [hv']; rfl)
  simp only [Nat.add_zero] at hst
  have hz : (Builtin.zeroCells (Value.agg #[.int .i64 0, .int .i64 0, .int .i64 0, .int .i64 0]).cells 1) = zQ.toArray := by kernel_rfl
  simp [Builtin.clear_, run_underlying Try.underlying23, Try.zeroValue35, hz, hst]
theorem only_setCells {a : World} {g : Nat} : ∀ (vs : List Value) (o : Nat) (w : World), a.grownBy w (some g) → a.grownBy (w.setCells g o vs) (some g)
  | [], _, _, h => h
  | v :: r, o, _, h => only_setCells r (o + 1) _ (only_setCell h (.inl rfl) v)
theorem setCells_blk2 {g : Nat} {t : TypeId} : ∀ (vs : List Value) (o : Nat) (w : World) (cs : Array Value), Blk w g t cs → o + vs.length ≤ cs.size →
    ∃ cs', cs'.size = cs.size ∧ Blk (w.setCells g o vs) g t cs' ∧ ∀ j, cs'[j]? = if o ≤ j ∧ j < o + vs.length then vs[j - o]? else cs[j]?
  | [], o, _, cs, h, _ => ⟨cs, rfl, h, fun j => by rw [if_neg (by simp only [List.length_nil]; omega)]⟩
  | v :: r, o, w, cs, h, hs => by
    obtain ⟨cs', h1, h2, h3⟩ := setCells_blk2 r (o + 1) (w.setCell ⟨g, o, none⟩ v) _ (h.store o v) (by simp at hs ⊢; omega)
    refine ⟨cs', by simpa using h1, h2, fun j => ?_⟩
    rw [h3 j, Array.getElem?_setIfInBounds]
    simp only [List.length_cons] at hs ⊢
    by_cases e : j = o
    · subst e
      rw [if_neg (by omega), if_pos rfl, if_pos (by omega), if_pos (by omega), Nat.sub_self]
      rfl
    · by_cases e2 : o + 1 ≤ j ∧ j < o + 1 + r.length
      · rw [if_pos e2, if_pos (by omega), show j - o = (j - (o + 1)) + 1 by omega]
        rfl
      · rw [if_neg e2, if_neg (by omega), if_neg (by omega)]
/-- Joints at the head of a block. -/
structure QB (w : World) (g : Nat) (t : TypeId) (cs : Array Value) (ks : List Q4) : Prop where
  blk : Blk w g t cs
  len : ks.length * 4 ≤ cs.size
  at_ : ∀ (j : Nat) (u : Value), (ks.flatMap enc4)[j]? = some u → cs[j]? = some u
theorem QB.quads {w : World} {g : Nat} {t : TypeId} {cs : Array Value} {ks : List Q4} (h : QB w g t cs ks) (hl : ks.length ≤ 1000) : Quads w (some ⟨g, 0, none⟩) ks := by
  refine ⟨by omega, .inr ⟨g, 0, rfl, h.blk.lt, fun i hi => ⟨enc4 ks[i], rfl, rfl, fun j hj => ?_⟩⟩⟩
  have hj4 : j < 4 := hj
  rw [Nat.zero_add, h.blk.cell]
  refine h.at_ _ _ ?_
  rw [flat_get (enc := enc4) (sz := 4) (fun _ => rfl) ks i j hi hj4]
  exact List.getElem?_eq_getElem hj
theorem flat_take {ks : List Q4} {i : Nat} : (ks.eraseIdx i).flatMap enc4 = (ks.take i).flatMap enc4 ++ (ks.drop (i + 1)).flatMap enc4 := by rw [List.eraseIdx_eq_take_drop_succ, List.flatMap_append]
theorem flat_split {ks : List Q4} {i : Nat} : ks.flatMap enc4 = (ks.take i).flatMap enc4 ++ (ks.drop i).flatMap enc4 := by rw [← List.flatMap_append, List.take_append_drop]
set_option maxRecDepth 100000 in
set_option maxHeartbeats 4000000 in
theorem delete_blk (w : World) (g cap : Nat) (t : TypeId) (cs : Array Value) (ks : List Q4) (i : Nat) (h : QB w g t cs ks) (hi : i < ks.length) (hkl : ks.length ≤ 1000) (hnc : ks.length ≤ cap) :
    Calls Try.prog 11 #[.slice (some ⟨g, 0, none⟩) ks.length cap, .int .i64 (i : Nat), .int .i64 ((i : Int) + 1)] w fun e w' => e = .returned (.slice (some ⟨g, 0, none⟩) (ks.length - 1) cap) ∧ w.grownBy w' (some g) ∧ ∃ cs', cs'.size = cs.size ∧ QB w' g t cs' (ks.eraseIdx i) := by
  obtain ⟨n, hn⟩ : ∃ n, ks.length = n := ⟨_, rfl⟩
  have HQB := Lib.hid h
  rw [hn] at hi hkl hnc
  have t1 : ((i : Int) == (i : Int) + 1) = false := by rw [beq_eq_false_iff_ne]; omega
  obtain ⟨m, hm1⟩ : ∃ m, n = m + 1 := ⟨n - 1, by omega⟩
  have hsz : n * 4 ≤ cs.size := hn ▸ h.len
  have hl0 : (ks.flatMap enc4).length = n * 4 := by rw [flat_len (enc := enc4) (sz := 4) (fun _ => rfl), hn]
  have hl1 : ((ks.take i).flatMap enc4).length = i * 4 := by rw [flat_len (enc := enc4) (sz := 4) (fun _ => rfl), List.length_take, hn, Nat.min_eq_left (by omega)]
  have hl2 : ((ks.take (i + 1)).flatMap enc4).length = (i + 1) * 4 := by rw [flat_len (enc := enc4) (sz := 4) (fun _ => rfl), List.length_take, hn, Nat.min_eq_left (by omega)]
  obtain ⟨news, hnews⟩ : ∃ news, news = (ks.drop (i + 1)).flatMap enc4 := ⟨_, rfl⟩
  have hnl : news.length = (n - (i + 1)) * 4 := by rw [hnews, flat_len (enc := enc4) (sz := 4) (fun _ => rfl), List.length_drop, hn]
  have hng : ∀ j u, news[j]? = some u → cs[(i + 1) * 4 + j]? = some u := fun j u hj => h.at_ _ _ (by
    rw [flat_split (i := i + 1), List.getElem?_append_right (by omega), hl2, ← hnews, Nat.add_sub_cancel_left]
    exact hj)
  obtain ⟨A, hA, hsrc⟩ : ∃ A : Addr, (if cap = i + 1 then some (⟨g, 0, none⟩ : Addr) else some ⟨g, (i + 1) * 4, none⟩) = some A ∧ Hid (∀ t u, news[t]? = some u → w.drew.cell? (A.add t) = some u) := by
    by_cases hc : cap = i + 1
    · refine ⟨⟨g, 0, none⟩, by simp [hc], Lib.hid fun t u hu => ?_⟩
      have := (List.getElem?_eq_some_iff.1 hu).1
      omega
    · refine ⟨⟨g, (i + 1) * 4, none⟩, by simp [hc], Lib.hid fun t u hu => ?_⟩
      rw [Addr.add_lit]
      exact (h.blk.cell _).trans (hng t u hu)
  obtain ⟨i0, z0, hi0, -, hz1, -, -⟩ := ty23.hi
  have s1 : Hid (news.length = (n - (i + 1)) * 4) := Lib.hid hnl
  have s2 : Hid (∀ u ∈ news, u.oneCell' = true) := Lib.hid (by rw [hnews]; exact enc4_one _)
  have s3 : Hid (∀ t, t < news.length → (w.drew.cell? ⟨g, 0 + i * 4 + t, none⟩).isSome = true ∧ w.drew.frozen? ⟨g, 0 + i * 4 + t, none⟩ = false) := Lib.hid fun t ht => by
    rw [Nat.zero_add]
    refine ⟨?_, h.blk.frozen _⟩
    have h1 : w.drew.cell? ⟨g, i * 4 + t, none⟩ = _ := h.blk.cell (i * 4 + t)
    rw [h1, Array.getElem?_eq_getElem (by omega)]
    rfl
  have HZ : Hid (i0.size = 4) := Lib.hid hz1
  obtain ⟨W1, hW1⟩ : ∃ W1, W1 = w.drew.setCells g (0 + i * 4) news := ⟨_, rfl⟩
  have hW : Hid (W1 = w.drew.setCells g (0 + i * 4) news) := Lib.hid hW1
  obtain ⟨cs1, e1, e2, e3⟩ := setCells_blk2 (g := g) (t := t) news (i * 4) w.drew cs h.blk (by omega)
  rw [← Nat.zero_add (i * 4), ← hW1] at e2
  obtain ⟨cs2, e4, e5, e6⟩ := setCells_blk2 (g := g) (t := t) zQ (m * 4) W1 cs1 e2 (by simp [zQ]; omega)
  have hcl := fun ty => run_clear4 W1 ty g (m * 4) (cap - m) (fun j hj => by rw [e2.cell, Array.getElem?_eq_getElem (by omega)]; rfl) (fun j hj => e2.frozen _)
  rw [show (1 : Nat) = n - m by omega] at hcl
  have HCL := Lib.hid hcl
  have HGR : Hid (w.grownBy (W1.setCells g (m * 4) zQ) (some g)) := Lib.hid (by
    refine only_setCells _ _ _ ?_
    rw [hW1]
    exact only_setCells _ _ _ (only_drew (only_refl _ _)))
  have HEND : Hid (QB (W1.setCells g (m * 4) zQ) g t cs2 (ks.eraseIdx i)) := Lib.hid (by
    refine ⟨e5, ?_, fun j u hj => ?_⟩
    · rw [List.length_eraseIdx, hn, if_pos hi]
      omega
    · have hjl := (List.getElem?_eq_some_iff.1 hj).1
      rw [flat_len (enc := enc4) (sz := 4) (fun _ => rfl), List.length_eraseIdx, hn, if_pos hi] at hjl
      rw [flat_take] at hj
      rw [e6 j, if_neg (by omega), e3 j]
      by_cases hji : j < i * 4
      · rw [if_neg (by omega)]
        rw [List.getElem?_append_left (by omega)] at hj
        refine h.at_ _ _ ?_
        rw [flat_split (i := i), List.getElem?_append_left (by omega)]
        exact hj
      · rw [List.getElem?_append_right (by omega), hl1, ← hnews] at hj
        rw [if_pos (by omega)]
        exact hj)
  have HSZ : Hid (cs2.size = cs.size) := Lib.hid (by omega)
  have HM : Hid (i + (n - (i + 1)) = m ∧ n - 1 = m) := Lib.hid (by omega)
  have hic : i ≤ cap := by omega
  have hi1n : i + 1 ≤ n := by omega
  have hi1c : i + 1 ≤ cap := by omega
  have hmn : m ≤ n := by omega
  rw [hn, HM.out.2]
  have hcm : ¬ (cap = m) := by omega
  have hj0 : (0 : Int) ≤ (i : Int) + 1 := by omega
  have hj1 : (i : Int) + 1 ≤ (n : Int) := by omega
  have mixed : Try.prog.follows Departure.mixedOrders = true := by kernel_rfl
  clear h hsz hl0 hl1 hl2 hnews hnl hng hz1 hW1 e1 e2 e3 e4 e5 e6 hcl hm1 HQB hn
  go_enter Try.func11, Try.ntmps11
  go_wp2_with fail
  go_region_law_o (refine step_append_room rfl (.tmp 22) (.tmp 25) 23 rfl 35 i0 4 Try.underlying23 hi0 HZ.out g 0 i cap (by simp [Act.eval, Act.put]) A (n - (i + 1)) (cap - (i + 1)) news (by simp [Act.eval, Act.put]) s1.out hsrc.out s2.out (by omega) s3.out ?_; rw [← hW.out, HM.out.1])
  have hcl := HCL.out
  go_wp2_with fail

  go_ret
  exact ⟨rfl, HGR.out, cs2, HSZ.out, HEND.out⟩
end Go.Proofs
end

section
/- Walks: Clone of a set. -/
namespace Go.Proofs
open Go.RowKit
attribute [local go_sem] Oper.semAt_some

/-- Joints in a block of the call's own. -/
structure QO (w : World) (base g cap : Nat) (ks : List Q4) : Prop where
  ge : base ≤ g
  le : ks.length ≤ cap
  max : cap ≤ 9223372036854775807
  qb : ∃ cs, cs.size = cap * 4 ∧ QB w g 35 cs ks
theorem QB.aft {w w' : World} {g : Nat} {t : TypeId} {cs : Array Value} {ks : List Q4} (h : QB w g t cs ks) (ha : Aft w w') : QB w' g t cs ks := ⟨h.blk.aft ha, h.len, h.at_⟩
theorem QO.aft {w w' : World} {base g cap : Nat} {ks : List Q4} (h : QO w base g cap ks) (ha : Aft w w') : QO w' base g cap ks := let ⟨cs, h1, h2⟩ := h.qb; ⟨h.ge, h.le, h.max, cs, h1, h2.aft ha⟩
theorem QO.lt {w : World} {base g cap : Nat} {ks : List Q4} (h : QO w base g cap ks) : g < w.heap.size := let ⟨_, _, h2⟩ := h.qb; h2.blk.lt
theorem QO.quads {w : World} {base g cap : Nat} {ks : List Q4} (h : QO w base g cap ks) (hl : ks.length ≤ 1000) : Quads w (some ⟨g, 0, none⟩) ks := let ⟨_, _, h2⟩ := h.qb; h2.quads hl
theorem own_qo {w : World} {base : Nat} {v : Value} {ks : List Q4} (h : w.ownsRow base 35 4 v ks.length (ks.flatMap enc4)) (hk : 1 ≤ ks.length) : ∃ g cap, v = .slice (some ⟨g, 0, none⟩) ks.length cap ∧ QO w base g cap ks := by
  rcases h.2 with ⟨_, h0⟩ | ⟨g, cap, cur, rfl, hb, hheap, hnc, hcm, hcs, htake⟩
  · omega
  · have hs : cur.size = cap * 4 := hcs
    refine ⟨g, cap, rfl, hb, hnc, hcm, cur, hs, hheap, by omega, fun j u hj => ?_⟩
    rw [← htake, List.getElem?_take] at hj
    split at hj
    · rwa [Array.getElem?_toList] at hj
    · cases hj
theorem QO.box {w : World} {base g cap b : Nat} {ks : List Q4} (h : QO w base g cap ks) {cs : Array Value} (hb : Blk w b 25 cs) (i : Nat) (v : Value) : QO (w.setCell ⟨b, i, none⟩ v) base g cap ks := by
  obtain ⟨cs1, h1, h2⟩ := h.qb
  have hne : g ≠ b := by
    rintro rfl
    have h3 := h2.blk
    unfold Blk at h3 hb
    rw [h3] at hb
    simp at hb
  exact ⟨h.ge, h.le, h.max, cs1, h1, h2.blk.far (p := ⟨b, i, none⟩) hne v, h2.len, h2.at_⟩
/-- Within the region of Clone. -/
structure ClR (W0 : World) (nn : Int) (l : List Q4) (done : Nat → Bool) (a : Act) (W : World) : Prop where
  aft : Aft W0 W
  v : done 4 = true → ∃ g cap, a.eval (.tmp 7) = .slice (some ⟨g, 0, none⟩) l.length cap ∧ QO W W0.heap.size g cap l
  u : done 5 = true → ∃ g cap, a.eval (.tmp 8) = .agg #[.int .i64 nn, .slice (some ⟨g, 0, none⟩) l.length cap] ∧ QO W W0.heap.size g cap l
section
variable {W0 W W' : World} {nn : Int} {l : List Q4} {done : Nat → Bool} {a : Act}
theorem ClR.start : ClR W0 nn l (fun _ => false) a W0.drew := ⟨Aft.drew _, (fun h => by cases h), (fun h => by cases h)⟩
theorem ClR.keep (h : ClR W0 nn l done a W) {i : Nat} {dst : Option Tmp} {v : Value} (hi : i ≠ 4 ∧ i ≠ 5) (hd : dst ≠ some 7 ∧ dst ≠ some 8) : ClR W0 nn l (Go.upd done i) (a.put dst v) W := by
  refine ⟨h.aft, fun p => ?_, fun p => ?_⟩
  · rw [upd_ne' (Ne.symm hi.1)] at p
    obtain ⟨g, c, e, hq⟩ := h.v p
    exact ⟨g, c, by rw [evne hd.1]; exact e, hq⟩
  · rw [upd_ne' (Ne.symm hi.2)] at p
    obtain ⟨g, c, e, hq⟩ := h.u p
    exact ⟨g, c, by rw [evne hd.2]; exact e, hq⟩
theorem ClR.s4 (h : ClR W0 nn l done a W) (ha : Aft W W') {g cap : Nat} (hq : QO W' W.heap.size g cap l) (hz : 7 < a.tmps.size) : ClR W0 nn l (Go.upd done 4) (a.put (some 7) (.slice (some ⟨g, 0, none⟩) l.length cap)) W' := by
  refine ⟨h.aft.trans ha, fun _ => ⟨g, cap, Act.eval_put_same _ _ _ hz, Nat.le_trans h.aft.size hq.ge, hq.le, hq.max, hq.qb⟩, fun p => ?_⟩
  rw [upd_ne' (by decide)] at p
  obtain ⟨g, c, e, hq⟩ := h.u p
  exact ⟨g, c, by rw [evne (by decide)]; exact e, hq.aft ha⟩
theorem ClR.s5 (h : ClR W0 nn l done a W) {g cap : Nat} (hq : QO W W0.heap.size g cap l) (hz : 8 < a.tmps.size) : ClR W0 nn l (Go.upd done 5) (a.put (some 8) (.agg #[.int .i64 nn, .slice (some ⟨g, 0, none⟩) l.length cap])) W := by
  refine ⟨h.aft, fun p => ?_, fun _ => ⟨g, cap, Act.eval_put_same _ _ _ hz, hq⟩⟩
  rw [upd_ne' (by decide)] at p
  obtain ⟨g, c, e, hq⟩ := h.v p
  exact ⟨g, c, by rw [evne (by decide)]; exact e, hq⟩
end
set_option maxRecDepth 100000 in
set_option maxHeartbeats 4000000 in
theorem clone_any (nn : Int) (A : Option Addr) (l : List Q4) (c : Nat) (w : World) (hA : Quads w A l) (hl : 1 ≤ l.length) :
    Calls Try.prog 10 #[.agg #[.int .i64 nn, .slice A l.length c]] w fun e w' => ∃ g cap, e = .returned (.agg #[.int .i64 nn, .slice (some ⟨g, 0, none⟩) l.length cap]) ∧ QO w' w.heap.size g cap l ∧ Aft w w' := by
  obtain ⟨s, hs⟩ : ∃ s, w.heap.size = s := ⟨_, rfl⟩
  have F0 := ((Fr.start w).alloc rfl 25 #[.int .i64 nn, .slice A l.length c]).alloc (by simp) 25 #[.int .i64 0, .slice none 0 0]
  simp only [List.nil_append, List.cons_append] at F0
  rw [hs] at F0
  have HF := Lib.hid F0
  have HQ := Lib.hid (hA.aft ((Aft.alloc w (.cells #[.int .i64 nn, .slice A l.length c] 25)).then_alloc (.cells #[.int .i64 0, .slice none 0 0] 25)))
  have HL : Hid (1 ≤ l.length) := Lib.hid hl
  clear F0 hA hl
  go_enter Try.func10, Try.ntmps10
  go_upto_region 1 with fail
  try rw [hs]
  generalize (w.alloc (.cells #[.int .i64 nn, .slice A l.length c] 25)).alloc (.cells #[.int .i64 0, .slice none 0 0] 25) = W1 at *
  refine wp_region_valsU (by kernel_rfl) 6 9 rfl (by kernel_rfl) (by kernel_rfl) [some (.pointer (some ⟨s, 0, none⟩)), some (.int .i64 nn), some (.pointer (some ⟨s, 1, none⟩)), some (.slice A l.length c), none, none] (by kernel_rfl) rfl (ClR W1 nn l) (ClR.start) ?st1 ?fi1
  case st1 =>
    intro i o v ho hv
    match i, ho, hv with
    | 0, ho, hv =>
      cases ho; cases hv
      refine .inl ⟨rfl, fun done a W hz hd hp hk hw K hK => ?_⟩
      have e1 := hk.same 1 (by decide)
      exact op_val (v := .pointer (some ⟨s, 0, none⟩)) (by simp [go_sem, ev' e1]) (hK _ _ (fun u hu => by cases hu; rfl) (hw.keep (by decide) (by decide)))
    | 1, ho, hv =>
      cases ho; cases hv
      refine .inl ⟨rfl, fun done a W hz hd hp hk hw K hK => ?_⟩
      have e3 := hk.at_ 0 _ 3 _ rfl (by decide) _ rfl rfl rfl
      exact op_val (v := .int .i64 nn) (by simp [go_sem, ev' e3, (HF.out.nth 0 rfl |>.aft hw.aft).cell 0]) (hK _ _ (fun u hu => by cases hu; rfl) (hw.keep (by decide) (by decide)))
    | 2, ho, hv =>
      cases ho; cases hv
      refine .inl ⟨rfl, fun done a W hz hd hp hk hw K hK => ?_⟩
      have e1 := hk.same 1 (by decide)
      exact op_val (v := .pointer (some ⟨s, 1, none⟩)) (by simp [go_sem, ev' e1]) (hK _ _ (fun u hu => by cases hu; rfl) (hw.keep (by decide) (by decide)))
    | 3, ho, hv =>
      cases ho; cases hv
      refine .inl ⟨rfl, fun done a W hz hd hp hk hw K hK => ?_⟩
      have e5 := hk.at_ 2 _ 5 _ rfl (by decide) _ rfl rfl rfl
      exact op_val (v := .slice A l.length c) (by simp [go_sem, ev' e5, (HF.out.nth 0 rfl |>.aft hw.aft).cell 1]) (hK _ _ (fun u hu => by cases hu; rfl) (hw.keep (by decide) (by decide)))
    | 4, ho, hv =>
      cases ho; cases hv
      refine .inl ⟨rfl, fun done a W hz hd hp hk hw K hK => ?_⟩
      have e6 := hk.at_ 3 _ 6 _ rfl (by decide) _ rfl rfl rfl
      refine op_callN rfl rfl rfl _ rfl (vs := #[.slice A l.length c]) (by simp [e6]) (kitCloneJoint A l c W (HQ.out.aft hw.aft)) fun e w' h => ?_
      obtain ⟨v, rfl, ho, ha⟩ := h
      obtain ⟨g, cap, rfl, hq⟩ := own_qo ho HL.out
      exact ⟨_, rfl, hK _ _ (fun u hu => by cases hu) (hw.s4 ha hq (by rw [hz]; decide))⟩
    | 5, ho, hv =>
      cases ho; cases hv
      refine .inl ⟨rfl, fun done a W hz hd hp hk hw K hK => ?_⟩
      have e4 := hk.at_ 1 _ 4 _ rfl (by decide) _ rfl rfl rfl
      obtain ⟨g, cap, er, hq⟩ := hw.v (hp 4 (by decide))
      exact op_val (v := .agg #[.int .i64 nn, .slice (some ⟨g, 0, none⟩) l.length cap]) (by simp [go_sem, ev' e4, ev' er]) (hK _ _ (fun u hu => by cases hu) (hw.s5 hq (by rw [hz]; decide)))
    | _ + 6, _, hv => cases hv
  intro done us W hus hd hw
  obtain ⟨x1, x2, rfl⟩ := list2 hus
  obtain ⟨g, cap, e8, hq⟩ := hw.u (hd 5 (by decide))
  have e8' : x2 = .agg #[.int .i64 nn, .slice (some ⟨g, 0, none⟩) l.length cap] := by simpa [fill, putAll, Act.put, Act.eval] using e8
  subst e8'
  have hwa := hw.aft
  simp only [fill, List.drop_succ_cons, List.drop_zero, List.zip_cons_cons, List.zip_nil_right, putAll]
  simp only [Act.put, List.setIfInBounds_toArray, List.set]
  have HB := Lib.hid ((HF.out.nth 1 rfl).aft hwa)
  have HF2 := Lib.hid (HF.out.aft.trans hwa)
  have hge : w.heap.size ≤ s + 1 := by omega
  have hs1 := HF.out.size
  have HQO : Hid (QO W w.heap.size g cap l) := Lib.hid ⟨by have := hq.ge; omega, hq.le, hq.max, hq.qb⟩
  clear hw hd hus hwa e8 hq hs1 HF
  have c0 := HB.out.cell 0
  have c1 := HB.out.cell 1
  have c2 := HB.out.frozen 0
  have c3 := HB.out.frozen 1
  have c4 := HB.out.lt
  simp only [List.getElem?_toArray, List.getElem?_cons_zero, List.getElem?_cons_succ] at c0 c1
  go_wp2_with fail
  have z0 := ((HB.out.store 0 (.int .i64 nn)).store 1 (.slice (some ⟨g, 0, none⟩) l.length cap)).cell 0
  have z1 := ((HB.out.store 0 (.int .i64 nn)).store 1 (.slice (some ⟨g, 0, none⟩) l.length cap)).cell 1
  have Q2 := (HQO.out.box HB.out 0 (.int .i64 nn)).box (HB.out.store 0 (.int .i64 nn)) 1 (.slice (some ⟨g, 0, none⟩) l.length cap)
  have A2 := (HF2.out.then_setCell (p := ⟨s + 1, 0, none⟩) hge (.int .i64 nn)).then_setCell (p := ⟨s + 1, 1, none⟩) hge (.slice (some ⟨g, 0, none⟩) l.length cap)
  generalize (W.setCell ⟨s + 1, 0, none⟩ (.int .i64 nn)).setCell ⟨s + 1, 1, none⟩ (.slice (some ⟨g, 0, none⟩) l.length cap) = X at *
  simp at z0 z1
  exact bodyPost_ret (v := .agg #[.int .i64 nn, .slice (some ⟨g, 0, none⟩) l.length cap]) (by simp [results, Try.results10, go_sem, z0, z1]) rfl ⟨g, cap, rfl, Q2, A2⟩
end Go.Proofs
end

section
/- Plain: the sets that SheetMore makes of one. -/
namespace Go.Proofs
open Go.RowKit

/-- A joint within small bounds. -/
structure JB (n : Nat) (B : Int) (j : Q4) : Prop where
  a : 0 ≤ j.a ∧ j.a < n
  b : 0 ≤ j.b ∧ j.b < n
  ne : j.a ≠ j.b
  x : -B ≤ j.x ∧ j.x ≤ B
  y : -B ≤ j.y ∧ j.y ≤ B
theorem JOk.jb {n : Nat} {play : Int} {X Y : List Int} {j : Q4} (h : JOk n play X Y j) (hp : play ≤ 12) (hX : ∀ x ∈ X, -200 ≤ x ∧ x ≤ 200) (hY : ∀ x ∈ Y, -200 ≤ x ∧ x ≤ 200) : JB n 412 j := by
  have a1 := h.a
  have a2 := h.b
  have a3 := h.x
  have a4 := h.y
  have x1 := xOf_le hX j.b.toNat
  have x2 := xOf_le hX j.a.toNat
  have y1 := xOf_le hY j.b.toNat
  have y2 := xOf_le hY j.a.toNat
  unfold xOf at x1 x2 y1 y2
  exact ⟨by omega, by omega, h.ne, by omega, by omega⟩
theorem setE_of {n : Nat} {J : List Q4} {B : Int} (hn1 : 1 ≤ n) (hn2 : n ≤ 12) (hl : J.length ≤ 40) (hB : B ≤ 5000) (h : ∀ j ∈ J, JB n B j) : setE ⟨n, J⟩ = 0 := by
  unfold setE
  have h1 : fromB (n : Int) 1 12 = true := by rw [fromB_iff]; omega
  have h2 : decide (40 < J.length) = false := by simp; omega
  have h3 : J.all (okJ n) = true := List.all_eq_true.2 fun j hj => by
    have := h j hj
    unfold okJ
    simp only [Bool.and_eq_true, fromB_iff, bne_iff_ne]
    have a1 := this.a
    have a2 := this.b
    exact ⟨⟨by omega, by omega⟩, this.ne⟩
  have h4 : J.all numJ = true := List.all_eq_true.2 fun j hj => by
    have := h j hj
    unfold numJ
    simp only [Bool.and_eq_true, fromB_iff]
    have a1 := this.x
    have a2 := this.y
    omega
  dsimp only
  rw [h1, h2, h3, h4]
  rfl
theorem JB.turn {n : Nat} {B : Int} {j : Q4} (h : JB n B j) : JB n B (turnJ j) := by
  have a3 := h.x
  have a4 := h.y
  unfold turnJ
  exact ⟨h.b, h.a, h.ne.symm, by dsimp only; omega, by dsimp only; omega⟩
theorem JB.sev {n : Nat} {j : Q4} (h : JB n 412 j) : JB n 2884 (sevJ j) := by
  have a3 := h.x
  have a4 := h.y
  unfold sevJ
  exact ⟨h.a, h.b, h.ne, by dsimp only; omega, by dsimp only; omega⟩
theorem JB.rot {n : Nat} {B : Int} {j : Q4} (h : JB n B j) : JB n B (rotJ j) := by
  have a3 := h.x
  have a4 := h.y
  unfold rotJ
  exact ⟨h.a, h.b, h.ne, by dsimp only; omega, by dsimp only; omega⟩
theorem few_setE {n i : Nat} {J : List Q4} (hn1 : 1 ≤ n) (hn2 : n ≤ 12) (hl : J.length ≤ 17) (h : ∀ j ∈ J, JB n 412 j) : setE ⟨n, J.eraseIdx i⟩ = 0 :=
  setE_of (B := 412) hn1 hn2 (Nat.le_trans (List.length_eraseIdx_le J i) (by omega)) (by decide) fun j hj => h j (List.mem_of_mem_eraseIdx hj)
theorem twice_setE {n : Nat} {J : List Q4} {j : Q4} (hj : j ∈ J) (hn1 : 1 ≤ n) (hn2 : n ≤ 12) (hl : J.length ≤ 17) (h : ∀ j ∈ J, JB n 412 j) : setE ⟨n, J ++ [turnJ j]⟩ = 0 :=
  setE_of (B := 412) hn1 hn2 (by simp; omega) (by decide) fun k hk => by
    rcases List.mem_append.1 hk with h1 | h1
    · exact h k h1
    · simp at h1
      subst h1
      exact (h j hj).turn
theorem sev_setE {n : Nat} {J : List Q4} (hn1 : 1 ≤ n) (hn2 : n ≤ 12) (hl : J.length ≤ 17) (h : ∀ j ∈ J, JB n 412 j) : setE ⟨n, J.map sevJ⟩ = 0 :=
  setE_of (B := 2884) hn1 hn2 (by simp; omega) (by decide) fun k hk => by
    obtain ⟨j, hj, rfl⟩ := List.mem_map.1 hk
    exact (h j hj).sev
theorem rot_setE {n : Nat} {J : List Q4} (hn1 : 1 ≤ n) (hn2 : n ≤ 12) (hl : J.length ≤ 17) (h : ∀ j ∈ J, JB n 412 j) : setE ⟨n, J.map rotJ⟩ = 0 :=
  setE_of (B := 412) hn1 hn2 (by simp; omega) (by decide) fun k hk => by
    obtain ⟨j, hj, rfl⟩ := List.mem_map.1 hk
    exact (h j hj).rot
end Go.Proofs
end

section
/- Four clones of one set, laid within a region. -/
namespace Go.Proofs
open Go.RowKit

theorem Blk.other {W : World} {g b : Nat} {cs cs' : Array Value} (h : Blk W g 35 cs) (hb : Blk W b 25 cs') : g ≠ b := by
  rintro rfl
  unfold Blk at h hb
  rw [h] at hb
  simp at hb
def zS : Array Value := #[.int .i64 0, .slice none 0 0]
structure Cl4 (W0 : World) (nn : Int) (l : List Q4) (done : Nat → Bool) (a : Act) (W : World) : Prop where
  aft : Aft W0 W
  late : ∀ q, q < 4 → done (12 + q) = true → done (8 + q) = true
  v : ∀ q, q < 4 → done (2 * q + 1) = true → ∃ g cap, a.eval (.tmp (55 + 2 * q)) = .agg #[.int .i64 nn, .slice (some ⟨g, 0, none⟩) l.length cap] ∧ QO W W0.heap.size g cap l ∧
    ∀ q', q' < 4 → q' ≠ q → done (2 * q' + 1) = true → ∀ g' cap', a.eval (.tmp (55 + 2 * q')) = .agg #[.int .i64 nn, .slice (some ⟨g', 0, none⟩) l.length cap'] → g' ≠ g
  b : ∀ q, q < 4 → done (8 + q) = true → ∃ b cs, a.eval (.tmp (14 + q)) = .pointer (some ⟨b, 0, none⟩) ∧ W0.heap.size ≤ b ∧ Blk W b 25 cs ∧
    (done (12 + q) = false → cs = zS) ∧ (done (12 + q) = true → done (2 * q + 1) = true ∧ ∀ x, a.eval (.tmp (55 + 2 * q)) = .agg #[.int .i64 nn, x] → cs = #[.int .i64 nn, x]) ∧
    ∀ q', q' < 4 → q' ≠ q → done (8 + q') = true → a.eval (.tmp (14 + q')) ≠ .pointer (some ⟨b, 0, none⟩)
  no : done 15 = false
section
variable {W0 W W' : World} {nn : Int} {l : List Q4} {done : Nat → Bool} {a : Act}
theorem Cl4.start : Cl4 W0 nn l (fun _ => false) a W0.drew := ⟨Aft.drew _, (fun _ _ h => by cases h), (fun _ _ h => by cases h), (fun _ _ h => by cases h), rfl⟩
theorem Cl4.keep (h : Cl4 W0 nn l done a W) {i : Nat} {dst : Option Tmp} {v : Value} (hi : ∀ q, q < 4 → i ≠ 2 * q + 1 ∧ i ≠ 8 + q ∧ i ≠ 12 + q) (hd : ∀ q, q < 4 → dst ≠ some (55 + 2 * q) ∧ dst ≠ some (14 + q)) : Cl4 W0 nn l (Go.upd done i) (a.put dst v) W := by
  have u1 : ∀ q, q < 4 → Go.upd done i (2 * q + 1) = done (2 * q + 1) := fun q hq => upd_ne' (Ne.symm (hi q hq).1)
  have u2 : ∀ q, q < 4 → Go.upd done i (8 + q) = done (8 + q) := fun q hq => upd_ne' (Ne.symm (hi q hq).2.1)
  have u3 : ∀ q, q < 4 → Go.upd done i (12 + q) = done (12 + q) := fun q hq => upd_ne' (Ne.symm (hi q hq).2.2)
  have w1 : ∀ q : Nat, q < 4 → (a.put dst v).eval (.tmp (55 + 2 * q)) = a.eval (.tmp (55 + 2 * q)) := fun q hq => evne (hd q hq).1
  have w2 : ∀ q : Nat, q < 4 → (a.put dst v).eval (.tmp (14 + q)) = a.eval (.tmp (14 + q)) := fun q hq => evne (hd q hq).2
  refine ⟨h.aft, fun q hq p => ?_, fun q hq p => ?_, fun q hq p => ?_, by rw [upd_ne' (Ne.symm (hi 3 (by decide)).2.2)]; exact h.no⟩
  · rw [u3 q hq] at p
    rw [u2 q hq]
    exact h.late q hq p
  · rw [u1 q hq] at p
    obtain ⟨g, c, e, hQ, hD⟩ := h.v q hq p
    refine ⟨g, c, by rw [w1 q hq]; exact e, hQ, fun q' hq' hn p' g' c' e' => ?_⟩
    rw [u1 q' hq'] at p'
    rw [w1 q' hq'] at e'
    exact hD q' hq' hn p' g' c' e'
  · rw [u2 q hq] at p
    obtain ⟨b, cs, e, hge, hb, hz, hs, hD⟩ := h.b q hq p
    refine ⟨b, cs, by rw [w2 q hq]; exact e, hge, hb, fun p2 => hz (by rw [u3 q hq] at p2; exact p2), fun p2 => ?_, fun q' hq' hn p' => ?_⟩
    · rw [u3 q hq] at p2
      rw [u1 q hq, w1 q hq]
      exact hs p2
    · rw [u2 q' hq'] at p'
      rw [w2 q' hq']
      exact hD q' hq' hn p'
theorem Cl4.call (h : Cl4 W0 nn l done a W) (ha : Aft W W') {k : Nat} (hk : k < 4) (hnd : done (12 + k) = false) {g cap : Nat} (hQ : QO W' W.heap.size g cap l) (hz : 55 + 2 * k < a.tmps.size) :
    Cl4 W0 nn l (Go.upd done (2 * k + 1)) (a.put (some (55 + 2 * k)) (.agg #[.int .i64 nn, .slice (some ⟨g, 0, none⟩) l.length cap])) W' := by
  obtain ⟨X, hX⟩ : ∃ X, X = Value.agg #[.int .i64 nn, .slice (some ⟨g, 0, none⟩) l.length cap] := ⟨_, rfl⟩
  rw [← hX]
  have u1 : ∀ q, q ≠ k → Go.upd done (2 * k + 1) (2 * q + 1) = done (2 * q + 1) := fun q hq => upd_ne' (by omega)
  have u2 : ∀ q, q < 4 → Go.upd done (2 * k + 1) (8 + q) = done (8 + q) := fun q hq => upd_ne' (by omega)
  have u3 : ∀ q, q < 4 → Go.upd done (2 * k + 1) (12 + q) = done (12 + q) := fun q hq => upd_ne' (by omega)
  have w0 : (a.put (some (55 + 2 * k)) X).eval (.tmp (55 + 2 * k)) = X := Act.eval_put_same _ _ _ hz
  have w1 : ∀ q, q ≠ k → (a.put (some (55 + 2 * k)) X).eval (.tmp (55 + 2 * q)) = a.eval (.tmp (55 + 2 * q)) := fun q hq => evne (fun e => hq (by have e : (55 + 2 * k : Nat) = 55 + 2 * q := Option.some.inj e; omega))
  have w2 : ∀ q : Nat, q < 4 → (a.put (some (55 + 2 * k)) X).eval (.tmp (14 + q)) = a.eval (.tmp (14 + q)) := fun q hq => evne (fun e => by have e : (55 + 2 * k : Nat) = 14 + q := Option.some.inj e; omega)
  refine ⟨h.aft.trans ha, fun q hq p => ?_, fun q hq p => ?_, fun q hq p => ?_, by rw [upd_ne' (by omega)]; exact h.no⟩
  · rw [u3 q hq] at p
    rw [u2 q hq]
    exact h.late q hq p
  · by_cases hqk : q = k
    · subst hqk
      refine ⟨g, cap, by rw [w0, hX], ⟨Nat.le_trans h.aft.size hQ.ge, hQ.le, hQ.max, hQ.qb⟩, fun q' hq' hn p' g' c' e' => ?_⟩
      rw [u1 q' hn] at p'
      rw [w1 q' hn] at e'
      obtain ⟨g2, c2, e2, hQ2, -⟩ := h.v q' hq' p'
      rw [e2] at e'
      have hl := hQ2.lt
      have hge := hQ.ge
      have hg2 : g2 = g' := by
        injection e' with e'
        simpa using (And.left (by simpa using e'))
      omega
    · rw [u1 q hqk] at p
      obtain ⟨g2, c2, e2, hQ2, hD⟩ := h.v q hq p
      refine ⟨g2, c2, by rw [w1 q hqk]; exact e2, hQ2.aft ha, fun q' hq' hn p' g' c' e' => ?_⟩
      by_cases hqk' : q' = k
      · subst hqk'
        rw [w0, hX] at e'
        have hl := hQ2.lt
        have hge := hQ.ge
        have hg2 : g = g' := by
          injection e' with e'
          simpa using (And.left (by simpa using e'))
        omega
      · rw [u1 q' hqk'] at p'
        rw [w1 q' hqk'] at e'
        exact hD q' hq' hn p' g' c' e'
  · rw [u2 q hq] at p
    obtain ⟨b, cs, e, hge, hb, hz, hs, hD⟩ := h.b q hq p
    refine ⟨b, cs, by rw [w2 q hq]; exact e, hge, hb.aft ha, fun p2 => hz (by rw [u3 q hq] at p2; exact p2), fun p2 => ?_, fun q' hq' hn p' => ?_⟩
    · rw [u3 q hq] at p2
      have hqk : q ≠ k := by
        rintro rfl
        rw [hnd] at p2
        cases p2
      rw [u1 q hqk, w1 q hqk]
      exact hs p2
    · rw [u2 q' hq'] at p'
      rw [w2 q' hq']
      exact hD q' hq' hn p'
theorem Cl4.call' (h : Cl4 W0 nn l done a W) (ha : Aft W W') {k : Nat} (hk : k < 4) (hnd : done (2 * k + 1) = false) {g cap : Nat} (hQ : QO W' W.heap.size g cap l) (hz : 55 + 2 * k < a.tmps.size) :
    Cl4 W0 nn l (Go.upd done (2 * k + 1)) (a.put (some (55 + 2 * k)) (.agg #[.int .i64 nn, .slice (some ⟨g, 0, none⟩) l.length cap])) W' := by
  refine h.call ha hk ?_ hQ hz
  cases e : done (12 + k)
  · rfl
  · obtain ⟨b, cs, -, -, -, -, h2, -⟩ := h.b k hk (h.late k hk e)
    rw [(h2 e).1] at hnd
    cases hnd
theorem Cl4.lay (h : Cl4 W0 nn l done a W) {k : Nat} (hk : k < 4) (hnd : done (8 + k) = false) (hz : 14 + k < a.tmps.size) :
    Cl4 W0 nn l (Go.upd done (8 + k)) (a.put (some (14 + k)) (.pointer (some ⟨W.heap.size, 0, none⟩))) (W.alloc (.cells zS 25)) := by
  obtain ⟨X, hX⟩ : ∃ X, X = Value.pointer (some ⟨W.heap.size, 0, none⟩) := ⟨_, rfl⟩
  rw [← hX]
  have u1 : ∀ q, q < 4 → Go.upd done (8 + k) (2 * q + 1) = done (2 * q + 1) := fun q hq => upd_ne' (by omega)
  have u2 : ∀ q, q ≠ k → Go.upd done (8 + k) (8 + q) = done (8 + q) := fun q hq => upd_ne' (by omega)
  have u3 : ∀ q, q < 4 → Go.upd done (8 + k) (12 + q) = done (12 + q) := fun q hq => upd_ne' (by omega)
  have w0 : (a.put (some (14 + k)) X).eval (.tmp (14 + k)) = X := Act.eval_put_same _ _ _ hz
  have w1 : ∀ q : Nat, q < 4 → (a.put (some (14 + k)) X).eval (.tmp (55 + 2 * q)) = a.eval (.tmp (55 + 2 * q)) := fun q hq => evne (fun e => by have e : (14 + k : Nat) = 55 + 2 * q := Option.some.inj e; omega)
  have w2 : ∀ q, q ≠ k → (a.put (some (14 + k)) X).eval (.tmp (14 + q)) = a.eval (.tmp (14 + q)) := fun q hq => evne (fun e => hq (by have e : (14 + k : Nat) = 14 + q := Option.some.inj e; omega))
  have hnk : done (12 + k) = false := by
    cases e : done (12 + k)
    · rfl
    · rw [h.late k hk e] at hnd
      cases hnd
  refine ⟨h.aft.then_alloc _, fun q hq p => ?_, fun q hq p => ?_, fun q hq p => ?_, by rw [upd_ne' (by omega)]; exact h.no⟩
  · rw [u3 q hq] at p
    by_cases hqk : q = k
    · subst hqk
      exact upd_same' ..
    · rw [u2 q hqk]
      exact h.late q hq p
  · rw [u1 q hq] at p
    obtain ⟨g, c, e, hQ, hD⟩ := h.v q hq p
    refine ⟨g, c, by rw [w1 q hq]; exact e, hQ.aft (Aft.alloc _ _), fun q' hq' hn p' g' c' e' => ?_⟩
    rw [u1 q' hq'] at p'
    rw [w1 q' hq'] at e'
    exact hD q' hq' hn p' g' c' e'
  · by_cases hqk : q = k
    · subst hqk
      refine ⟨W.heap.size, zS, by rw [w0, hX], h.aft.size, Blk.new _ _ _, fun _ => rfl, fun p2 => ?_, fun q' hq' hn p' => ?_⟩
      · rw [u3 q hq, hnk] at p2
        cases p2
      · rw [u2 q' hn] at p'
        rw [w2 q' hn]
        obtain ⟨b, cs, e, -, hb, -⟩ := h.b q' hq' p'
        rw [e]
        intro e2
        have := hb.lt
        cases e2
        omega
    · rw [u2 q hqk] at p
      obtain ⟨b, cs, e, hge, hb, hz, hs, hD⟩ := h.b q hq p
      refine ⟨b, cs, by rw [w2 q hqk]; exact e, hge, hb.alloc _, fun p2 => hz (by rw [u3 q hq] at p2; exact p2), fun p2 => ?_, fun q' hq' hn p' => ?_⟩
      · rw [u3 q hq] at p2
        rw [u1 q hq, w1 q hq]
        exact hs p2
      · by_cases hqk' : q' = k
        · subst hqk'
          rw [w0, hX]
          intro e2
          have := hb.lt
          cases e2
          omega
        · rw [u2 q' hqk'] at p'
          rw [w2 q' hqk']
          exact hD q' hq' hn p'
theorem Cl4.put (h : Cl4 W0 nn l done a W) {k : Nat} (hk : k < 4) (h8 : done (8 + k) = true) (h1 : done (2 * k + 1) = true) {b : Nat} {x : Value} (eb : a.eval (.tmp (14 + k)) = .pointer (some ⟨b, 0, none⟩)) (ex : a.eval (.tmp (55 + 2 * k)) = .agg #[.int .i64 nn, x]) (hnk : done (12 + k) = false) (hk3 : k ≠ 3) {v : Value} :
    Cl4 W0 nn l (Go.upd done (12 + k)) (a.put none v) ((W.setCell ⟨b, 0, none⟩ (.int .i64 nn)).setCell ⟨b, 1, none⟩ x) := by
  have u1 : ∀ q, q < 4 → Go.upd done (12 + k) (2 * q + 1) = done (2 * q + 1) := fun q hq => upd_ne' (by omega)
  have u2 : ∀ q, q < 4 → Go.upd done (12 + k) (8 + q) = done (8 + q) := fun q hq => upd_ne' (by omega)
  have u3 : ∀ q, q ≠ k → Go.upd done (12 + k) (12 + q) = done (12 + q) := fun q hq => upd_ne' (by omega)
  have w1 : ∀ t, (a.put none v).eval (.tmp t) = a.eval (.tmp t) := fun t => evne (fun e => by cases e)
  obtain ⟨b0, cs0, e0, hge0, hb0, hz0, -, hD0⟩ := h.b k hk h8
  rw [eb] at e0
  obtain rfl : b = b0 := by cases e0; rfl
  have hcs := hz0 hnk
  subst hcs
  have hb1 := (hb0.store 0 (.int .i64 nn)).store 1 x
  refine ⟨(h.aft.then_setCell (p := ⟨b, 0, none⟩) hge0 _).then_setCell (p := ⟨b, 1, none⟩) hge0 _, fun q hq p => ?_, fun q hq p => ?_, fun q hq p => ?_, by rw [upd_ne' (by omega)]; exact h.no⟩
  · rw [u2 q hq]
    by_cases hqk : q = k
    · subst hqk; exact h8
    · rw [u3 q hqk] at p
      exact h.late q hq p
  · rw [u1 q hq] at p
    obtain ⟨g, c, e, hQ, hD⟩ := h.v q hq p
    refine ⟨g, c, by rw [w1]; exact e, (hQ.box hb0 0 _).box (hb0.store 0 _) 1 _, fun q' hq' hn p' g' c' e' => ?_⟩
    rw [u1 q' hq'] at p'
    rw [w1] at e'
    exact hD q' hq' hn p' g' c' e'
  · rw [u2 q hq] at p
    by_cases hqk : q = k
    · subst hqk
      refine ⟨b, _, by rw [w1]; exact eb, hge0, hb1, fun p2 => ?_, fun p2 => ⟨by rw [u1 q hq]; exact h1, fun y ey => ?_⟩, fun q' hq' hn p' => ?_⟩
      · rw [upd_same'] at p2
        cases p2
      · rw [w1, ex] at ey
        have e3 : x = y := by
          injection ey with ey
          simpa using ey
        rw [← e3]
        rfl
      · rw [u2 q' hq'] at p'
        rw [w1]
        exact hD0 q' hq' hn p'
    · obtain ⟨b2, cs, e, hge, hb, hz, hs, hD⟩ := h.b q hq p
      have hne : b2 ≠ b := by
        rintro rfl
        exact hD0 q hq hqk p e
      refine ⟨b2, cs, by rw [w1]; exact e, hge, (hb.far (p := ⟨b, 0, none⟩) hne _).far (p := ⟨b, 1, none⟩) hne _, fun p2 => hz (by rw [u3 q hqk] at p2; exact p2), fun p2 => ?_, fun q' hq' hn p' => ?_⟩
      · rw [u3 q hqk] at p2
        rw [u1 q hq, w1]
        exact hs p2
      · rw [u2 q' hq'] at p'
        rw [w1]
        exact hD q' hq' hn p'
end
theorem list8 {us : List Value} (h : us.length = 8) : ∃ a b c d e f g i, us = [a, b, c, d, e, f, g, i] := by
  match us, h with
  | [a, b, c, d, e, f, g, i], _ => exact ⟨a, b, c, d, e, f, g, i, rfl⟩
/-- A set in a box, its joints in a block: all of the call's own. -/
structure SBox (W : World) (base b g cap : Nat) (nn : Int) (ks : List Q4) : Prop where
  ge : base ≤ b
  blk : Blk W b 25 #[.int .i64 nn, .slice (some ⟨g, 0, none⟩) ks.length cap]
  qo : QO W base g cap ks
theorem SBox.aft {W W' : World} {base b g cap : Nat} {nn : Int} {ks : List Q4} (h : SBox W base b g cap nn ks) (ha : Aft W W') : SBox W' base b g cap nn ks := ⟨h.ge, h.blk.aft ha, h.qo.aft ha⟩
theorem SBox.grown {W W' : World} {base b g cap : Nat} {nn : Int} {ks : List Q4} (h : SBox W base b g cap nn ks) {r : Nat} (hw : W.grownBy W' (some r)) (h1 : b ≠ r) (h2 : g ≠ r) : SBox W' base b g cap nn ks :=
  ⟨h.ge, h.blk.grown hw (fun e => h1 (Option.some.inj e)), h.qo.ge, h.qo.le, h.qo.max, let ⟨cs, q1, q2⟩ := h.qo.qb; ⟨cs, q1, q2.blk.grown hw (fun e => h2 (Option.some.inj e)), q2.len, q2.at_⟩⟩
theorem SBox.other {W : World} {base b g cap base' b' g' cap' : Nat} {nn nn' : Int} {ks ks' : List Q4} (h : SBox W base b g cap nn ks) (h' : SBox W base' b' g' cap' nn' ks') : g ≠ b' := let ⟨_, _, q2⟩ := h.qo.qb; Blk.other q2.blk h'.blk
theorem SBox.cut {W W' : World} {base b g cap i : Nat} {nn : Int} {ks : List Q4} (h : SBox W base b g cap nn ks) (hi : i < ks.length) (hw : W.grownBy W' (some g)) {cs' : Array Value} (hs : cs'.size = cap * 4) (hq : QB W' g 35 cs' (ks.eraseIdx i)) (hne : b ≠ g) :
    SBox (W'.setCell ⟨b, 1, none⟩ (.slice (some ⟨g, 0, none⟩) (ks.length - 1) cap)) base b g cap nn (ks.eraseIdx i) := by
  have hl : (ks.eraseIdx i).length = ks.length - 1 := by rw [List.length_eraseIdx, if_pos hi]
  have hb := h.blk.grown hw (fun e => hne (Option.some.inj e))
  have hb2 := hb.store 1 (.slice (some ⟨g, 0, none⟩) (ks.length - 1) cap)
  have hle := h.qo.le
  refine ⟨h.ge, ?_, QO.box ⟨h.qo.ge, by omega, h.qo.max, cs', hs, hq⟩ hb 1 _⟩
  rw [hl]
  exact hb2
theorem SBox.far1 {W : World} {base b g cap b' : Nat} {nn : Int} {ks : List Q4} (h : SBox W base b g cap nn ks) {cs : Array Value} (hb : Blk W b' 25 cs) (hne : b ≠ b') (v : Value) : SBox (W.setCell ⟨b', 1, none⟩ v) base b g cap nn ks :=
  ⟨h.ge, h.blk.far (p := ⟨b', 1, none⟩) hne v, h.qo.box hb 1 v⟩
theorem qo_own {w : World} {base g cap : Nat} {ks : List Q4} (h : QO w base g cap ks) : w.ownsRow base 35 4 (.slice (some ⟨g, 0, none⟩) ks.length cap) ks.length (ks.flatMap enc4) := by
  obtain ⟨cs, h1, h2⟩ := h.qb
  have hl : (ks.flatMap enc4).length = ks.length * 4 := flat_len (enc := enc4) (sz := 4) (fun _ => rfl) ks
  refine ⟨hl, .inr ⟨g, cap, cs, rfl, h.ge, h2.blk, h.le, h.max, h1, ?_⟩⟩
  refine List.ext_getElem? fun j => ?_
  rw [List.getElem?_take, Array.getElem?_toList]
  by_cases e : j < ks.length * 4
  · rw [if_pos e]
    have h3 : (ks.flatMap enc4)[j]? = some ((ks.flatMap enc4)[j]'(by omega)) := List.getElem?_eq_getElem _
    rw [h3]
    exact h2.at_ j _ h3
  · rw [if_neg e, List.getElem?_eq_none (by omega)]
end Go.Proofs
end

section
/- Plain: a list of joints of whose records two cells are stored, one record after the other. -/
namespace Go.Proofs
open Go.RowKit

def mixJ (f : Q4 → Q4) (J : List Q4) (k : Nat) : List Q4 := (J.take k).map f ++ J.drop k
theorem mixJ_zero (f : Q4 → Q4) (J : List Q4) : mixJ f J 0 = J := by simp [mixJ]
theorem mixJ_all (f : Q4 → Q4) (J : List Q4) : mixJ f J J.length = J.map f := by simp [mixJ]
theorem mixJ_len (f : Q4 → Q4) (J : List Q4) (k : Nat) : (mixJ f J k).length = J.length := by
  simp only [mixJ, List.length_append, List.length_map, List.length_take, List.length_drop]
  omega
theorem mixJ_at (f : Q4 → Q4) (J : List Q4) (k : Nat) (h : k < J.length) : (mixJ f J k)[k]'(by rw [mixJ_len]; exact h) = J[k] := by
  unfold mixJ
  rw [List.getElem_append_right (by simp; omega)]
  simp [Nat.min_eq_left (Nat.le_of_lt h)]
theorem mixJ_set (f : Q4 → Q4) (J : List Q4) (k : Nat) (h : k < J.length) : (mixJ f J k).set k (f J[k]) = mixJ f J (k + 1) := by
  unfold mixJ
  have hl : ((J.take k).map f).length = k := by simp; omega
  rw [List.set_append_right _ _ (by omega), hl, Nat.sub_self, List.drop_eq_getElem_cons h, List.set_cons_zero, List.take_succ_eq_append_getElem h, List.map_append, List.append_assoc]
  rfl
theorem QB.set2 {w : World} {g : Nat} {t : TypeId} {cs : Array Value} {ks : List Q4} (h : QB w g t cs ks) (k : Nat) (hk : k < ks.length) (x y : Int) :
    QB ((w.setCell ⟨g, k * 4 + 2, none⟩ (.int .i64 x)).setCell ⟨g, k * 4 + 3, none⟩ (.int .i64 y)) g t ((cs.setIfInBounds (k * 4 + 2) (.int .i64 x)).setIfInBounds (k * 4 + 3) (.int .i64 y)) (ks.set k ⟨ks[k].a, ks[k].b, x, y⟩) := by
  have hlen := h.len
  refine ⟨(h.blk.store _ _).store _ _, by simpa using h.len, fun j u hj => ?_⟩
  have hj2 : j < (ks.set k ⟨ks[k].a, ks[k].b, x, y⟩).length * 4 := by
    have := (List.getElem?_eq_some_iff.1 hj).1
    rwa [flat_len (enc := enc4) (sz := 4) (fun _ => rfl)] at this
  rw [List.length_set] at hj2
  obtain ⟨i, r, rfl, hr⟩ : ∃ i r, j = i * 4 + r ∧ r < 4 := ⟨j / 4, j % 4, by omega, by omega⟩
  have hi : i < ks.length := by omega
  rw [flat_get (enc := enc4) (sz := 4) (fun _ => rfl) _ i r (by rw [List.length_set]; exact hi) hr] at hj
  have hold := flat_get (enc := enc4) (sz := 4) (fun _ => rfl) ks i r hi hr
  by_cases hik : i = k
  · subst hik
    rw [List.getElem_set_self] at hj
    obtain rfl | rfl | rfl | rfl : r = 0 ∨ r = 1 ∨ r = 2 ∨ r = 3 := by omega
    · rw [Array.getElem?_setIfInBounds_ne (by omega), Array.getElem?_setIfInBounds_ne (by omega)]
      exact h.at_ _ _ (hold.trans hj)
    · rw [Array.getElem?_setIfInBounds_ne (by omega), Array.getElem?_setIfInBounds_ne (by omega)]
      exact h.at_ _ _ (hold.trans hj)
    · rw [Array.getElem?_setIfInBounds_ne (by omega), Array.getElem?_setIfInBounds_self_of_lt (by omega)]
      exact hj
    · rw [Array.getElem?_setIfInBounds_self_of_lt (by simp; omega)]
      exact hj
  · rw [List.getElem_set_ne (Ne.symm hik)] at hj
    rw [Array.getElem?_setIfInBounds_ne (by omega), Array.getElem?_setIfInBounds_ne (by omega)]
    exact h.at_ _ _ (hold.trans hj)
theorem SBox.set2 {W : World} {base b g cap : Nat} {nn : Int} {ks : List Q4} (h : SBox W base b g cap nn ks) (k : Nat) (hk : k < ks.length) (x y : Int) :
    SBox ((W.setCell ⟨g, k * 4 + 2, none⟩ (.int .i64 x)).setCell ⟨g, k * 4 + 3, none⟩ (.int .i64 y)) base b g cap nn (ks.set k ⟨ks[k].a, ks[k].b, x, y⟩) := by
  obtain ⟨cs, h1, h2⟩ := h.qo.qb
  have hne : b ≠ g := (h.other h).symm
  have hl : (ks.set k (⟨ks[k].a, ks[k].b, x, y⟩ : Q4)).length = ks.length := List.length_set ..
  refine ⟨h.ge, ?_, h.qo.ge, by rw [hl]; exact h.qo.le, h.qo.max, _, by simpa using h1, h2.set2 k hk x y⟩
  rw [hl]
  exact (h.blk.far (p := ⟨g, k * 4 + 2, none⟩) hne _).far (p := ⟨g, k * 4 + 3, none⟩) hne _
/-- One step of a list whose records are changed. -/
theorem SBox.step {W : World} {base b g cap : Nat} {nn : Int} {f : Q4 → Q4} {J : List Q4} {k : Nat} (h : SBox W base b g cap nn (mixJ f J k)) (hk : k < J.length) {x y : Int} (hf : f J[k] = ⟨J[k].a, J[k].b, x, y⟩) :
    SBox ((W.setCell ⟨g, k * 4 + 2, none⟩ (.int .i64 x)).setCell ⟨g, k * 4 + 3, none⟩ (.int .i64 y)) base b g cap nn (mixJ f J (k + 1)) := by
  have := h.set2 k (by rw [mixJ_len]; exact hk) x y
  rw [mixJ_at f J k hk, ← hf, mixJ_set f J k hk] at this
  exact this
/-- Cells of another block. -/
theorem SBox.far2 {W : World} {base b g cap : Nat} {nn : Int} {ks : List Q4} (h : SBox W base b g cap nn ks) {p : Addr} (h1 : b ≠ p.block) (h2 : g ≠ p.block) (v : Value) : SBox (W.setCell p v) base b g cap nn ks :=
  ⟨h.ge, h.blk.far h1 v, h.qo.ge, h.qo.le, h.qo.max, let ⟨cs, q1, q2⟩ := h.qo.qb; ⟨cs, q1, q2.blk.far h2 v, q2.len, q2.at_⟩⟩

/-- What Between says for a play that is enough: both ends. -/
def BtTwo (S : SetL) (N D : Int) (a b : Nat) (w : World) (e : Ending) (w' : World) : Prop := Aft w w' ∧ ∃ t0 t1, Tabs S N D t0 t1 ∧
      ((t0 a b = Sheet.far ∧ e = .returned (.tuple #[.agg #[.int .i64 0, .int .i64 0, .int .i64 0, .int .i64 0], .agg #[.int .i64 0, .int .i64 0, .int .i64 0, .int .i64 0], .int .i64 7])) ∨
       ∃ e1 e2 e3 e4 e5 e6 e7 e8, e = .returned (.tuple #[.agg #[.int .i64 e1, .int .i64 e2, .int .i64 e3, .int .i64 e4], .agg #[.int .i64 e5, .int .i64 e6, .int .i64 e7, .int .i64 e8], .int .i64 0]) ∧ BtF S N D a b t0 t1 e1 e2 e3 e4 e5 e6 e7 e8)
theorem bt_two {S : SetL} (hE : setE S = 0) {N D : Int} (hp : PlayOk N D) (hD : D ≤ 12) (hm : ∀ north, Sheet.AtMost (Sheet.legs (joOf north S.J)) N D) {A : Option Addr} {c : Nat} {w : World} (hA : Quads w A S.J) {a b : Nat} (ha : a < S.n.toNat) (hb : b < S.n.toNat) :
    Calls Try.prog 14 #[.agg #[.int .i64 S.n, .slice A S.J.length c], .int .i64 (a : Nat), .int .i64 (b : Nat), .agg #[.int .i64 N, .int .i64 D]] w (BtTwo S N D a b w) := by
  refine Calls.mono (bt_any hE hp hm hA ha hb) ?_
  rintro e w' ⟨t0, t1, hw, c0, c1, h⟩
  have ht : Tabs S N D t0 t1 := ⟨c0, c1⟩
  have hS := setE_ok hE
  have hD0 : 0 < D := hp.d1
  refine ⟨hw, t0, t1, ht, ?_⟩
  rcases h with ⟨hf2, rfl⟩ | ⟨hne, rfl⟩
  · exact .inl ⟨hf2, rfl⟩
  · have k1 := ht.fx hS hp ha hne
    have k2 := ht.fx hS hp hb (ht.back ha hb hne)
    exact .inr ⟨_, _, _, _, _, _, _, _, rfl, ht, hne, .low hD0 hD ⟨by omega, by omega⟩, .low hD0 hD k1.1, .low hD0 hD ⟨by omega, by omega⟩, .low hD0 hD k1.2⟩
/-- The tables of a set with a joint fewer. -/
theorem Tabs.few {n : Nat} {J : List Q4} {i : Nat} {N D : Int} {t0 t1 s0 s1 : Nat → Nat → Int} (h : Tabs ⟨(n : Nat), J⟩ N D t0 t1) (h' : Tabs ⟨(n : Nat), J.eraseIdx i⟩ N D s0 s1) {a b : Nat} (ha : a < n) (hf : s0 a b ≠ Sheet.far) : t0 a b ≠ Sheet.far ∧ t0 a b ≤ s0 a b ∧ t1 a b ≤ s1 a b := by
  have k0 := Sheet.calms_mono (few_sub false J i) h.x h'.x ha hf
  have k1 := Sheet.calms_mono (few_sub true J i) h.y h'.y ha (h'.far_y ha hf)
  exact ⟨k0.1, k0.2, k1.2⟩
/-- What Play says of both, compared. -/
theorem play_less {S S' : SetL} {p q : Int × Int} (h : PlayOf S p) (h' : PlayOf S' q) (hl : q.1 * p.2 ≤ p.1 * q.2) (w : World) :
    Calls Try.prog 13 #[.agg #[.int .i64 q.1, .int .i64 q.2], .agg #[.int .i64 p.1, .int .i64 p.2]] w fun e w' => e = .returned (.bool true) ∧ Aft w w' := by
  have a1 := h.small
  have a2 := h'.small
  have b1 := h.ok.n1
  have b2 := h'.ok.n1
  have m1 := mul_in (x := q.1) (y := p.2) (B := 12000000) (C := 12) (by omega) a2.2 (by decide) (Int.le_of_lt h.d0) a1.1
  have m2 := mul_in (x := p.1) (y := q.2) (B := 12000000) (C := 12) (by omega) a1.2 (by decide) (Int.le_of_lt h'.d0) a2.1
  have h3 := less_any q.1 q.2 p.1 p.2 w ⟨by omega, by omega⟩ ⟨by omega, by omega⟩
  rwa [decide_eq_true hl] at h3
/-- The four sets of SheetMore, within the loop that changes two of them. -/
structure MoreI (y : World) (b0 g0 cap0 b1 g1 cap1 b2 g2 cap2 b3 g3 cap3 : Nat) (nn : Int) (Jf Jt J : List Q4) (k2 k3 : Nat) (W : World) : Prop where
  aft : Aft y W
  few : SBox W y.heap.size b0 g0 cap0 nn Jf
  twice : SBox W y.heap.size b1 g1 cap1 nn Jt
  sev : SBox W y.heap.size b2 g2 cap2 nn (mixJ sevJ J k2)
  rot : SBox W y.heap.size b3 g3 cap3 nn (mixJ rotJ J k3)
  d : g0 ≠ g2 ∧ g0 ≠ g3 ∧ g1 ≠ g2 ∧ g1 ≠ g3 ∧ g2 ≠ g3
section
variable {y W W' : World} {b0 g0 cap0 b1 g1 cap1 b2 g2 cap2 b3 g3 cap3 : Nat} {nn : Int} {Jf Jt J : List Q4} {k2 k3 : Nat}
theorem MoreI.later (h : MoreI y b0 g0 cap0 b1 g1 cap1 b2 g2 cap2 b3 g3 cap3 nn Jf Jt J k2 k3 W) (ha : Aft W W') : MoreI y b0 g0 cap0 b1 g1 cap1 b2 g2 cap2 b3 g3 cap3 nn Jf Jt J k2 k3 W' :=
  ⟨h.aft.trans ha, h.few.aft ha, h.twice.aft ha, h.sev.aft ha, h.rot.aft ha, h.d⟩
theorem MoreI.sevs (h : MoreI y b0 g0 cap0 b1 g1 cap1 b2 g2 cap2 b3 g3 cap3 nn Jf Jt J k2 k3 W) (hk : k2 < J.length) {ja jb jx jy x' y' : Int} (hj : J[k2] = ⟨ja, jb, jx, jy⟩) (hx : 7 * jx = x') (hy : 7 * jy = y') :
    MoreI y b0 g0 cap0 b1 g1 cap1 b2 g2 cap2 b3 g3 cap3 nn Jf Jt J (k2 + 1) k3 ((W.setCell ⟨g2, k2 * 4 + 2, none⟩ (.int .i64 x')).setCell ⟨g2, k2 * 4 + 3, none⟩ (.int .i64 y')) := by
  have hge := h.sev.qo.ge
  have hs := h.sev.step hk (x := x') (y := y') (by rw [hj, ← hx, ← hy]; rfl)
  have d := h.d
  exact ⟨(h.aft.then_setCell (p := ⟨g2, k2 * 4 + 2, none⟩) hge _).then_setCell (p := ⟨g2, k2 * 4 + 3, none⟩) hge _,
    (h.few.far2 (p := ⟨g2, k2 * 4 + 2, none⟩) (h.sev.other h.few).symm d.1 _).far2 (p := ⟨g2, k2 * 4 + 3, none⟩) (h.sev.other h.few).symm d.1 _,
    (h.twice.far2 (p := ⟨g2, k2 * 4 + 2, none⟩) (h.sev.other h.twice).symm d.2.2.1 _).far2 (p := ⟨g2, k2 * 4 + 3, none⟩) (h.sev.other h.twice).symm d.2.2.1 _,
    hs,
    (h.rot.far2 (p := ⟨g2, k2 * 4 + 2, none⟩) (h.sev.other h.rot).symm d.2.2.2.2.symm _).far2 (p := ⟨g2, k2 * 4 + 3, none⟩) (h.sev.other h.rot).symm d.2.2.2.2.symm _, d⟩
theorem MoreI.rots (h : MoreI y b0 g0 cap0 b1 g1 cap1 b2 g2 cap2 b3 g3 cap3 nn Jf Jt J k2 k3 W) (hk : k3 < J.length) {ja jb jx jy x' y' : Int} (hj : J[k3] = ⟨ja, jb, jx, jy⟩) (hx : jy = x') (hy : -jx = y') :
    MoreI y b0 g0 cap0 b1 g1 cap1 b2 g2 cap2 b3 g3 cap3 nn Jf Jt J k2 (k3 + 1) ((W.setCell ⟨g3, k3 * 4 + 2, none⟩ (.int .i64 x')).setCell ⟨g3, k3 * 4 + 3, none⟩ (.int .i64 y')) := by
  have hge := h.rot.qo.ge
  have hs := h.rot.step hk (x := x') (y := y') (by rw [hj, ← hx, ← hy]; rfl)
  have d := h.d
  exact ⟨(h.aft.then_setCell (p := ⟨g3, k3 * 4 + 2, none⟩) hge _).then_setCell (p := ⟨g3, k3 * 4 + 3, none⟩) hge _,
    (h.few.far2 (p := ⟨g3, k3 * 4 + 2, none⟩) (h.rot.other h.few).symm d.2.1 _).far2 (p := ⟨g3, k3 * 4 + 3, none⟩) (h.rot.other h.few).symm d.2.1 _,
    (h.twice.far2 (p := ⟨g3, k3 * 4 + 2, none⟩) (h.rot.other h.twice).symm d.2.2.2.1 _).far2 (p := ⟨g3, k3 * 4 + 3, none⟩) (h.rot.other h.twice).symm d.2.2.2.1 _,
    (h.sev.far2 (p := ⟨g3, k3 * 4 + 2, none⟩) (h.rot.other h.sev).symm d.2.2.2.2 _).far2 (p := ⟨g3, k3 * 4 + 3, none⟩) (h.rot.other h.sev).symm d.2.2.2.2 _,
    hs, d⟩
end
/-- What a step of the loop needs of a list that is changed: its box's slice, the two cells, and that the block can be stored to. -/
theorem SBox.mix {W : World} {base b g cap : Nat} {nn : Int} {f : Q4 → Q4} {J : List Q4} {k kk : Nat} (h : SBox W base b g cap nn (mixJ f J k)) (hl : J.length = kk) (hk : k < kk) (v : Value) :
    (W.cell? ⟨b, 1, none⟩ = some (.slice (some ⟨g, 0, none⟩) kk cap) ∧ (W.setCell ⟨g, k * 4 + 2, none⟩ v).cell? ⟨b, 1, none⟩ = some (.slice (some ⟨g, 0, none⟩) kk cap)) ∧
    (∃ u, W.cell? ⟨g, k * 4 + 2, none⟩ = some u) ∧ W.frozen? ⟨g, k * 4 + 2, none⟩ = false ∧ (∃ u, (W.setCell ⟨g, k * 4 + 2, none⟩ v).cell? ⟨g, k * 4 + 3, none⟩ = some u) ∧ (W.setCell ⟨g, k * 4 + 2, none⟩ v).frozen? ⟨g, k * 4 + 3, none⟩ = false ∧ g < W.heap.size ∧ g < (W.setCell ⟨g, k * 4 + 2, none⟩ v).heap.size := by
  obtain ⟨cs, h1, h2⟩ := h.qo.qb
  have hb := h.blk
  have hlen := h2.len
  rw [mixJ_len, hl] at hb hlen
  have hne : b ≠ g := (h.other h).symm
  have h3 := h2.blk.store (k * 4 + 2) v
  refine ⟨⟨hb.cell 1, (hb.far (p := ⟨g, k * 4 + 2, none⟩) hne v).cell 1⟩, ⟨_, (h2.blk.cell _).trans (Array.getElem?_eq_getElem (by omega))⟩, h2.blk.frozen _, ⟨_, (h3.cell _).trans (Array.getElem?_eq_getElem (by simp; omega))⟩, h3.frozen _, h2.blk.lt, h3.lt⟩
end Go.Proofs
end
