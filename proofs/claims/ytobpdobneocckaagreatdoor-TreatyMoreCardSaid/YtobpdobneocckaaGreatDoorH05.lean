/- Own texts, merged: WkO81 WkP73 WkB47. -/
import Derived.Test.YtobpdobneocckaaGreatDoorH04
set_option linter.unusedSimpArgs false
set_option linter.unusedVariables false
section
/- Walks: opened's inmost loop. -/
namespace Go.Proofs
open Go.RowKit

def firstLoop : Code → Option Code
  | .loop c => some c
  | .seq a b => match firstLoop a with
    | some c => some c
    | none => firstLoop b
  | .block _ c => firstLoop c
  | .scope c => firstLoop c
  | .cond _ a b => match firstLoop a with
    | some c => some c
    | none => firstLoop b
  | _ => none
noncomputable def body21 : Code := (Tryz.f49.body.bind firstLoop).getD .skip
noncomputable def body73 : Code := (firstLoop body21).getD .skip
noncomputable def body81 : Code := (firstLoop body73).getD .skip

/-- The state of the search for a place's ends. -/
structure SInv (w : World) (T : Treaty) (a1 a2 a3 a4 : Option Addr) (c1 c2 c3 c4 : Nat) (R : List Int) (D0 D B : Nat) (A1 : Option Addr) (d1 : Nat) (ks : List Int) (A2 : Option Addr) (d2 : Nat) (es : List Int) (Ay : Option Addr) (cy : Nat) (ys : List Int) (k a : Nat) (l : List Int) (W : World) : Prop where
  aft : Aft w W
  size : B ≤ W.heap.size
  box : Blk W D0 27 #[.int .i64 T.places, .slice a1 T.ways.length c1, .slice a2 T.words.length c2, .slice a3 T.starts.length c3, .slice a4 T.legs.length c4]
  own1 : W.ownsRow B 3 1 (.slice A1 ks.length d1) ks.length (ks.map (Value.int .i64))
  own2 : W.ownsRow B 3 1 (.slice A2 es.length d2) es.length (es.map (Value.int .i64))
  own3 : W.ownsRow B 3 1 (.slice Ay ys.length cy) ys.length (ys.map (Value.int .i64))
  desk : ∃ cs f, Blk W D 154 cs ∧ DGrid T a1 a2 a3 a4 c1 c2 c3 c4 cs f ∧ LInv3 T R k a es l f

section
variable {w : World} {T : Treaty} {a1 a2 a3 a4 : Option Addr} {c1 c2 c3 c4 : Nat} {R : List Int} {D0 D B : Nat} {A1 : Option Addr} {d1 : Nat} {ks : List Int} {A2 : Option Addr} {d2 : Nat} {es : List Int} {Ay : Option Addr} {cy : Nat} {ys : List Int} {k a : Nat} {l : List Int} {W : World}
theorem SInv.store (h : SInv w T a1 a2 a3 a4 c1 c2 c3 c4 R D0 D B A1 d1 ks A2 d2 es Ay cy ys k a l W) (hD0 : w.heap.size ≤ D0) (hD1 : D0 < D) (hD : D < B) (hk : k < 10) (ha : a < 12) {y : Nat} (hy : y < 12) :
    SInv w T a1 a2 a3 a4 c1 c2 c3 c4 R D0 D B A1 d1 ks A2 d2 es Ay cy ys k a (l ++ [(y : Int)]) (W.setCell ⟨D, 5 + k * 144 + a * 12 + y, none⟩ (.bool (hasB es y))).drew := by
  obtain ⟨cs, f, hb, hg, hl⟩ := h.desk
  refine ⟨(h.aft.then_setCell (p := ⟨D, 5 + k * 144 + a * 12 + y, none⟩) (by simp; omega) _).then_drew, by have := h.size; simpa [World.setCell] using this, (h.box.far (by simp; omega) _).drew, (ownsRow_setCell_below h.own1 (by simpa using hD) _).drew, (ownsRow_setCell_below h.own2 (by simpa using hD) _).drew, (ownsRow_setCell_below h.own3 (by simpa using hD) _).drew,
    _, _, (hb.store _ _).drew, hg.set hk ha hy _, hl.step y⟩
end

set_option maxRecDepth 100000 in
set_option maxHeartbeats 2000000 in
theorem loop81 (w : World) (T : Treaty) (a1 a2 a3 a4 : Option Addr) (c1 c2 c3 c4 : Nat) (R : List Int) (D0 D B : Nat) (A1 : Option Addr) (d1 : Nat) (ks : List Int) (A2 : Option Addr) (d2 : Nat) (es : List Int) (Ay : Option Addr) (cy : Nat) (ys : List Int) (k a : Nat)
    (hD0 : w.heap.size ≤ D0) (hD1 : D0 < D) (hD : D < B) (hk : k < 10) (ha : a < 12) (hes : es.length ≤ 17592186043904) (hys : ys.length ≤ 12) (hr : InR 12 ys)
    (q0 q1 q2 q3 q4 q7 q8 q9 q11 q13 q14 q15 q16 q17 q18 q19 q20 q21 q22 q23 q24 q25 q26 q27 q28 q29 q30 q31 q32 q33 q34 q35 q36 q37 q38 q39 q40 q41 q42 q43 q44 q45 q46 q47 q48 q49 q50 q51 q52 q53 q54 q55 q56 q57 q58 q59 q60 q61 q62 q63 q64 q65 q66 q67 q68 q69 q70 q71 q72 q73 q74 q75 q76 q77 q78 q82 q83 q84 q85 q86 q87 q88 q89 q90 q91 q92 q93 q94 q95 q96 q97 q98 q99 q100 : Value) (Q0 : Exit → Act → World → Prop) (W : World) (h0 : SInv w T a1 a2 a3 a4 c1 c2 c3 c4 R D0 D B A1 d1 ks A2 d2 es Ay cy ys k a [] W)
    (hexit : ∀ u14 u81 u82 u83 u84 u85 u86 u87 u88 u89 u90 u91 u92 u93 u94 u95 u96 u97 W', SInv w T a1 a2 a3 a4 c1 c2 c3 c4 R D0 D B A1 d1 ks A2 d2 es Ay cy ys k a ys W' → Q0 (.exit 4) ⟨(List.toArray (q0 :: q1 :: q2 :: q3 :: q4 :: .pointer (some ⟨D, 0, none⟩) :: .int .i64 k :: q7 :: q8 :: q9 :: .slice A2 es.length d2 :: q11 :: .int .i64 a :: q13 :: u14 :: q15 :: q16 :: q17 :: q18 :: q19 :: q20 :: q21 :: q22 :: q23 :: q24 :: q25 :: q26 :: q27 :: q28 :: q29 :: q30 :: q31 :: q32 :: q33 :: q34 :: q35 :: q36 :: q37 :: q38 :: q39 :: q40 :: q41 :: q42 :: q43 :: q44 :: q45 :: q46 :: q47 :: q48 :: q49 :: q50 :: q51 :: q52 :: q53 :: q54 :: q55 :: q56 :: q57 :: q58 :: q59 :: q60 :: q61 :: q62 :: q63 :: q64 :: q65 :: q66 :: q67 :: q68 :: q69 :: q70 :: q71 :: q72 :: q73 :: q74 :: q75 :: q76 :: q77 :: q78 :: .slice Ay ys.length cy :: .int .i64 ys.length :: u81 :: u82 :: u83 :: u84 :: u85 :: u86 :: u87 :: u88 :: u89 :: u90 :: u91 :: u92 :: u93 :: u94 :: u95 :: u96 :: u97 :: q98 :: q99 :: q100 :: [])), []⟩ W') :
    Code.wp Tryz.prog (Code.loop body81) Q0 ⟨(List.toArray (q0 :: q1 :: q2 :: q3 :: q4 :: .pointer (some ⟨D, 0, none⟩) :: .int .i64 k :: q7 :: q8 :: q9 :: .slice A2 es.length d2 :: q11 :: .int .i64 a :: q13 :: q14 :: q15 :: q16 :: q17 :: q18 :: q19 :: q20 :: q21 :: q22 :: q23 :: q24 :: q25 :: q26 :: q27 :: q28 :: q29 :: q30 :: q31 :: q32 :: q33 :: q34 :: q35 :: q36 :: q37 :: q38 :: q39 :: q40 :: q41 :: q42 :: q43 :: q44 :: q45 :: q46 :: q47 :: q48 :: q49 :: q50 :: q51 :: q52 :: q53 :: q54 :: q55 :: q56 :: q57 :: q58 :: q59 :: q60 :: q61 :: q62 :: q63 :: q64 :: q65 :: q66 :: q67 :: q68 :: q69 :: q70 :: q71 :: q72 :: q73 :: q74 :: q75 :: q76 :: q77 :: q78 :: .slice Ay ys.length cy :: .int .i64 ys.length :: .int .i64 0 :: q82 :: q83 :: q84 :: q85 :: q86 :: q87 :: q88 :: q89 :: q90 :: q91 :: q92 :: q93 :: q94 :: q95 :: q96 :: q97 :: q98 :: q99 :: q100 :: [])), []⟩ W := by
  have HEX := Lib.hid hexit
  have HR := Lib.hid hr
  have HES := Lib.hid hes
  clear hexit hr hes
  conv => arg 2; arg 1; whnf
  go_loopw [81] (fun i wr => ∃ j : Nat, i = .int .i64 j ∧ j ≤ ys.length ∧ SInv w T a1 a2 a3 a4 c1 c2 c3 c4 R D0 D B A1 d1 ks A2 d2 es Ay cy ys k a (ys.take j) wr) (fun i _ => ys.length - (intOf i).toNat)
  case atStart => exact ⟨0, rfl, by omega, by simpa using h0⟩
  case round =>
    clear h0
    obtain ⟨j, rfl, hj, hs⟩ := hrel
    have HS := Lib.hid hs
    clear hs
    by_cases hjl : j < ys.length
    · obtain ⟨A', c', e, _, hi3⟩ := own_ints HS.out.own3 (by omega)
      cases e
      obtain ⟨A', c', e, _, hi2⟩ := own_ints HS.out.own2 HES.out
      cases e
      obtain ⟨b3, o3, rfl, hb3, hc3⟩ := hi3.at hjl
      have c3 := hc3 j hjl
      obtain ⟨y1, y2⟩ := HR.out _ (List.getElem_mem hjl)
      obtain ⟨y, hy⟩ := Int.eq_ofNat_of_zero_le y1
      rw [hy] at c3
      have hy12 : y < 12 := by omega
      have HY := Lib.hid hy
      obtain ⟨cs, f, hb, hg, hl⟩ := HS.out.desk
      have e1 := hg.desk hb |>.lead k a y hk ha hy12
      have e2 := hb.frozen (5 + k * 144 + a * 12 + y)
      have HB := Lib.hid hb
      have HG := Lib.hid hg
      have HL := Lib.hid hl
      clear hb hg hl hi3 hc3 y1 y2 hy
      have hC : Calls Tryz.prog 60 #[.slice A2 es.length d2, .int .i64 y] wr.drew (fun e w' => e = .returned (.bool (hasB es y)) ∧ w' = wr.drew) := ((contains_any A2 es d2 y wr.drew hi2).mono fun _ _ ⟨h1, h2⟩ => ⟨h1, h2.symm⟩)
      have HC := Lib.hid hC
      clear hC
      have i1 : (0 : Int) ≤ (k : Int) ∧ (k : Int) < 10 := by omega
      have i2 : (0 : Int) ≤ (a : Int) ∧ (a : Int) < 12 := by omega
      have i3 : (0 : Int) ≤ (y : Int) ∧ (y : Int) < 12 := by omega
      clear hi2
      go_wp2_with fail
      refine wp_region_tail 12 (by kernel_rfl) (by kernel_rfl) ?_
      simp only [List.take_succ_cons, List.take_zero, List.drop_succ_cons, List.drop_zero]
      repeat (first | go_big_quiet_skip | (go_big_quiet_want; go_big_quiet_op; go_big_quiet_on))
      (go_big_quiet_want; go_big_quiet_op; refine ⟨_, HC.out, ?_⟩; go_big_quiet_on)
      repeat (first | go_big_quiet_skip | (go_big_quiet_want; go_big_quiet_op; go_big_quiet_on))
      refine wpQuiet_nil ?_
      go_wp2_with fail
      refine ⟨⟨j + 1, by go_num, by omega, ?_⟩, by simp [intOf]; omega⟩
      rw [List.take_succ_eq_append_getElem hjl, HY.out]
      exact HS.out.store hD0 hD1 hD hk ha hy12
    · go_wp2_with fail
      refine HEX.out _ _ _ _ _ _ _ _ _ _ _ _ _ _ _ _ _ _ _ ?_
      have hso := HS.out
      rw [List.take_of_length_le (l := ys) (i := j) (by omega)] at hso
      exact hso
end Go.Proofs
end

section
/- Walks: opened's middle loop. -/
namespace Go.Proofs
open Go.RowKit

/-- The state of the search for all places' ends. -/
structure PInv (w : World) (T : Treaty) (a1 a2 a3 a4 : Option Addr) (c1 c2 c3 c4 : Nat) (R : List Int) (D0 D B : Nat) (A1 : Option Addr) (d1 : Nat) (ks : List Int) (A2 : Option Addr) (d2 : Nat) (es : List Int) (k a : Nat) (W : World) : Prop where
  aft : Aft w W
  size : B ≤ W.heap.size
  box : Blk W D0 27 #[.int .i64 T.places, .slice a1 T.ways.length c1, .slice a2 T.words.length c2, .slice a3 T.starts.length c3, .slice a4 T.legs.length c4]
  own1 : W.ownsRow B 3 1 (.slice A1 ks.length d1) ks.length (ks.map (Value.int .i64))
  own2 : W.ownsRow B 3 1 (.slice A2 es.length d2) es.length (es.map (Value.int .i64))
  desk : ∃ cs f, Blk W D 154 cs ∧ DGrid T a1 a2 a3 a4 c1 c2 c3 c4 cs f ∧ LInv2 T R k a f

section
variable {w : World} {T : Treaty} {a1 a2 a3 a4 : Option Addr} {c1 c2 c3 c4 : Nat} {R : List Int} {D0 D B : Nat} {A1 : Option Addr} {d1 : Nat} {ks : List Int} {A2 : Option Addr} {d2 : Nat} {es : List Int} {k a : Nat} {W : World}
theorem PInv.later (h : PInv w T a1 a2 a3 a4 c1 c2 c3 c4 R D0 D B A1 d1 ks A2 d2 es k a W) {Ay : Option Addr} {cy : Nat} {ys : List Int} {W' : World} (hA : Aft W W') (ho : W'.ownsRow W.heap.size 3 1 (.slice Ay ys.length cy) ys.length (ys.map (Value.int .i64))) :
    SInv w T a1 a2 a3 a4 c1 c2 c3 c4 R D0 D B A1 d1 ks A2 d2 es Ay cy ys k a [] W' := by
  obtain ⟨cs, f, hb, hg, hl⟩ := h.desk
  exact ⟨h.aft.trans hA, Nat.le_trans h.size hA.size, h.box.aft hA, own_aft h.own1 hA, own_aft h.own2 hA, World.ownsRow.mono ho h.size, cs, f, hb.aft hA, hg, hl.start⟩
theorem SInv.shut {Ay : Option Addr} {cy : Nat} {ys : List Int} (h : SInv w T a1 a2 a3 a4 c1 c2 c3 c4 R D0 D B A1 d1 ks A2 d2 es Ay cy ys k a ys W) {x : Leg} (hx : T.legs[k]? = some x) (ha : a < T.places.toNat) (hk : kindsAt T R x = ks) (he : endsAt T R x = es) (hm : ∀ y, y ∈ ys ↔ ReachP (edgeB T.ways ks) a y) :
    PInv w T a1 a2 a3 a4 c1 c2 c3 c4 R D0 D B A1 d1 ks A2 d2 es k (a + 1) W := by
  obtain ⟨cs, f, hb, hg, hl⟩ := h.desk
  exact ⟨h.aft, h.size, h.box, h.own1, h.own2, cs, f, hb, hg, hl.done hx ha hk he hm⟩
end

set_option maxRecDepth 100000 in
set_option maxHeartbeats 2000000 in
theorem loop73 (w : World) (T : Treaty) (a1 a2 a3 a4 : Option Addr) (c1 c2 c3 c4 : Nat) (R : List Int) (D0 D B : Nat) (A1 : Option Addr) (d1 : Nat) (ks : List Int) (A2 : Option Addr) (d2 : Nat) (es : List Int) (k p : Nat) (x : Leg)
    (hD0 : w.heap.size ≤ D0) (hD1 : D0 < D) (hD : D < B) (hk : k < 10) (hp : p ≤ 12) (hpp : T.places = p) (hks : ks.length ≤ 17592186043904) (hes : es.length ≤ 17592186043904) (ok : TOk T) (hways : RowsP w a1 3 WayR T.ways)
    (hx : T.legs[k]? = some x) (hkx : kindsAt T R x = ks) (hex : endsAt T R x = es)
    (q0 q1 q2 q3 q4 q7 q8 q11 q12 q13 q14 q15 q16 q17 q18 q19 q20 q21 q22 q23 q24 q25 q26 q27 q28 q29 q30 q31 q32 q33 q34 q35 q36 q37 q38 q39 q40 q41 q42 q43 q44 q45 q46 q47 q48 q49 q50 q51 q52 q53 q54 q55 q56 q57 q58 q59 q60 q61 q62 q63 q64 q65 q66 q67 q68 q69 q70 q71 q74 q75 q76 q77 q78 q79 q80 q81 q82 q83 q84 q85 q86 q87 q88 q89 q90 q91 q92 q93 q94 q95 q96 q97 q98 q99 q100 : Value) (Q0 : Exit → Act → World → Prop) (W : World) (h0 : PInv w T a1 a2 a3 a4 c1 c2 c3 c4 R D0 D B A1 d1 ks A2 d2 es k 0 W)
    (hexit : ∀ u12 u14 u73 u74 u75 u76 u77 u78 u79 u80 u81 u82 u83 u84 u85 u86 u87 u88 u89 u90 u91 u92 u93 u94 u95 u96 u97 u98 W', PInv w T a1 a2 a3 a4 c1 c2 c3 c4 R D0 D B A1 d1 ks A2 d2 es k p W' → Q0 (.exit 2) ⟨(List.toArray (q0 :: q1 :: q2 :: q3 :: q4 :: .pointer (some ⟨D, 0, none⟩) :: .int .i64 k :: q7 :: q8 :: .slice A1 ks.length d1 :: .slice A2 es.length d2 :: q11 :: u12 :: q13 :: u14 :: q15 :: q16 :: q17 :: q18 :: q19 :: q20 :: q21 :: q22 :: q23 :: q24 :: q25 :: q26 :: q27 :: q28 :: q29 :: q30 :: q31 :: q32 :: q33 :: q34 :: q35 :: q36 :: q37 :: q38 :: q39 :: q40 :: q41 :: q42 :: q43 :: q44 :: q45 :: q46 :: q47 :: q48 :: q49 :: q50 :: q51 :: q52 :: q53 :: q54 :: q55 :: q56 :: q57 :: q58 :: q59 :: q60 :: q61 :: q62 :: q63 :: q64 :: q65 :: q66 :: q67 :: q68 :: q69 :: q70 :: q71 :: .int .i64 p :: u73 :: u74 :: u75 :: u76 :: u77 :: u78 :: u79 :: u80 :: u81 :: u82 :: u83 :: u84 :: u85 :: u86 :: u87 :: u88 :: u89 :: u90 :: u91 :: u92 :: u93 :: u94 :: u95 :: u96 :: u97 :: u98 :: q99 :: q100 :: [])), []⟩ W') :
    Code.wp Tryz.prog (Code.loop body73) Q0 ⟨(List.toArray (q0 :: q1 :: q2 :: q3 :: q4 :: .pointer (some ⟨D, 0, none⟩) :: .int .i64 k :: q7 :: q8 :: .slice A1 ks.length d1 :: .slice A2 es.length d2 :: q11 :: q12 :: q13 :: q14 :: q15 :: q16 :: q17 :: q18 :: q19 :: q20 :: q21 :: q22 :: q23 :: q24 :: q25 :: q26 :: q27 :: q28 :: q29 :: q30 :: q31 :: q32 :: q33 :: q34 :: q35 :: q36 :: q37 :: q38 :: q39 :: q40 :: q41 :: q42 :: q43 :: q44 :: q45 :: q46 :: q47 :: q48 :: q49 :: q50 :: q51 :: q52 :: q53 :: q54 :: q55 :: q56 :: q57 :: q58 :: q59 :: q60 :: q61 :: q62 :: q63 :: q64 :: q65 :: q66 :: q67 :: q68 :: q69 :: q70 :: q71 :: .int .i64 p :: .int .i64 0 :: q74 :: q75 :: q76 :: q77 :: q78 :: q79 :: q80 :: q81 :: q82 :: q83 :: q84 :: q85 :: q86 :: q87 :: q88 :: q89 :: q90 :: q91 :: q92 :: q93 :: q94 :: q95 :: q96 :: q97 :: q98 :: q99 :: q100 :: [])), []⟩ W := by
  have HEX := Lib.hid hexit
  have HKS := Lib.hid hks
  have HES := Lib.hid hes
  have HPP := Lib.hid hpp
  have HX := Lib.hid hx
  have HKX := Lib.hid hkx
  have HEE := Lib.hid hex
  have OK := Lib.hid ok
  clear hexit hks hes hpp hx hkx hex ok
  conv => arg 2; arg 1; whnf
  go_loopw [73] (fun i wr => ∃ a : Nat, i = .int .i64 a ∧ a ≤ p ∧ PInv w T a1 a2 a3 a4 c1 c2 c3 c4 R D0 D B A1 d1 ks A2 d2 es k a wr) (fun i _ => p - (intOf i).toNat)
  case atStart => exact ⟨0, rfl, by omega, h0⟩
  case round =>
    clear h0
    obtain ⟨a, rfl, hap, hs⟩ := hrel
    have HS := Lib.hid hs
    clear hs
    by_cases hal : a < p
    · obtain ⟨A', c', e, _, hi1⟩ := own_ints HS.out.own1 HKS.out
      cases e
      have hdesk : ∃ f, Desk wr D T a1 a2 a3 a4 c1 c2 c3 c4 f := by
        obtain ⟨cs, f, hb, hg, _⟩ := HS.out.desk
        exact ⟨f, hg.desk hb⟩
      obtain ⟨f, hd⟩ := hdesk
      have hcall := Lib.hid (reached_any wr D A1 d1 ks T a1 a2 a3 a4 c1 c2 c3 c4 f hd (hways.aft WayR.mono HS.out.aft) hi1 OK.out.p2 OK.out.ways a)
      clear hi1 hd
      obtain ⟨wo, hwo⟩ : ∃ wo : World, wo = wr := ⟨_, rfl⟩
      subst hwo
      go_wp2_with (go_at_call 109; refine hcall.out.mono ?_; rintro e w' ⟨hA, ys, Ay, cy, rfl, hoy, hnd, hir, hmem⟩)
      have hS7 := HS.out.later hA hoy
      have hy12 : ys.length ≤ 12 := by
        have := nodup_le (p := 12) hnd (fun y hy => by have := hir y hy; have := OK.out.p2; omega)
        exact this
      have hr12 : InR 12 ys := fun y hy => by have := hir y hy; have := OK.out.p2; omega
      refine loop81 w T a1 a2 a3 a4 c1 c2 c3 c4 R D0 D B A1 d1 ks A2 d2 es Ay cy ys k a hD0 hD1 hD hk (by omega) HES.out hy12 hr12 _ _ _ _ _ _ _ _ _ _ _ _ _ _ _ _ _ _ _ _ _ _ _ _ _ _ _ _ _ _ _ _ _ _ _ _ _ _ _ _ _ _ _ _ _ _ _ _ _ _ _ _ _ _ _ _ _ _ _ _ _ _ _ _ _ _ _ _ _ _ _ _ _ _ _ _ _ _ _ _ _ _ _ _ _ _ _ _ _ _ _ _ _ _ _ _ hS7 ?_
      clear hS7 hr12 hcall hir hA hoy
      intro u14 u81 u82 u83 u84 u85 u86 u87 u88 u89 u90 u91 u92 u93 u94 u95 u96 u97 W' hS8
      have HS8 := Lib.hid hS8
      have HM := Lib.hid hmem
      clear hS8 hmem hnd
      go_wp2_with fail
      refine ⟨⟨a + 1, by go_num, by omega, ?_⟩, by simp [intOf]; omega⟩
      exact HS8.out.shut HX.out (by rw [HPP.out]; omega) HKX.out HEE.out HM.out
    · obtain rfl : a = p := by omega
      go_wp2_with fail
      exact HEX.out _ _ _ _ _ _ _ _ _ _ _ _ _ _ _ _ _ _ _ _ _ _ _ _ _ _ _ _ _ HS.out
end Go.Proofs
end

section
/- Walks: a leg that is told in two languages, opened. -/
namespace Go.Proofs
open Go.RowKit

theorem lat_keep (W : World) (u : Later W) {b i : Nat} {v : Value} (hb : b < W.heap.size) (h : W.cell? ⟨b, i, none⟩ = some v) : (W.lat u).cell? ⟨b, i, none⟩ = some v := (World.lat_cell _ _ _ _ hb).trans h
theorem lists_nil (w : World) : Lists w none [] := ⟨by simp, .inl rfl⟩
theorem lists_one {W : World} {b : Nat} {A : Option Addr} {l : List Int} {c : Nat} (hb : b < W.heap.size) (h : W.cell? ⟨b, 0, none⟩ = some (.slice A l.length c)) (hi : Ints W A l) : Lists W (some ⟨b, 0, none⟩) [l] := by
  refine ⟨by simp, .inr ⟨b, 0, rfl, hb, fun i hi' => ?_⟩⟩
  have : i = 0 := by simp at hi'; omega
  subst this
  exact ⟨[.slice A l.length c], rfl, ⟨A, c, rfl, hi⟩, fun j hj => by
    have : j = 0 := by simp at hj; omega
    subst this; simpa using h⟩

def firstThen (n : Nat) : Code → Option Code
  | .loop c => firstThen n c
  | .seq a b => match firstThen n a with
    | some c => some c
    | none => firstThen n b
  | .block _ c => firstThen n c
  | .scope c => firstThen n c
  | .cond (.tmp m) a b => if m = n then some a else match firstThen n a with
    | some c => some c
    | none => firstThen n b
  | _ => none
noncomputable def branch47 : Code := (firstThen 47 body21).getD .skip

/-- Kinds and ends of a leg, at hand. -/
def JoinR (w : World) (T : Treaty) (a1 a2 a3 a4 : Option Addr) (c1 c2 c3 c4 : Nat) (R : List Int) (ks es : List Int) (k : Nat) (s9 s10 : Value) (W : World) : Prop :=
  ∃ A1 d1 A2 d2, s9 = .slice A1 ks.length d1 ∧ s10 = .slice A2 es.length d2 ∧ PInv w T a1 a2 a3 a4 c1 c2 c3 c4 R w.heap.size (w.heap.size + 1) (w.heap.size + 2) A1 d1 ks A2 d2 es k 0 W

def CommonR (base : Nat) (X : World) (l : List Int) (e : Ending) (w' : World) : Prop :=
  ∃ x y, e = .returned (.slice x l.length y) ∧ w'.ownsRow base 3 1 (.slice x l.length y) l.length (l.map (Value.int .i64)) ∧ ∃ u : Later X, w' = X.lat u

theorem common_one {W8 : World} (X : World) (A1 : Option Addr) (k1 : List Int) (d1 : Nat) (Ab : Option Addr) (lb : List Int) (cb b base : Nat) (hj : Ints W8 A1 k1) (hk : Ints W8 Ab lb) (hbase : base ≤ W8.heap.size) (hl : k1.length ≤ 17592186043904) (hA : Aft W8 X)
    (hlt : b < X.heap.size) (hb : X.cell? ⟨b, 0, none⟩ = some (.slice Ab lb.length cb)) :
    Calls Tryz.prog 108 #[.slice A1 k1.length d1, .slice (some ⟨b, 0, none⟩) 1 1] X (CommonR base X (commonL k1 [lb])) := by
  refine (common_any A1 k1 d1 (some ⟨b, 0, none⟩) [lb] 1 X (hj.aft hA) (lists_one hlt hb (hk.aft hA))).mono ?_
  rintro e w' ⟨v, rfl, hown, ha⟩
  obtain ⟨x, y, rfl, _, _⟩ := own_ints hown (Nat.le_trans (commonL_le _ _) hl)
  exact ⟨x, y, rfl, World.ownsRow.mono hown (Nat.le_trans hbase hA.size), ha⟩

theorem cell_aftX {X W : World} (h : Aft X W) {b i : Nat} {v : Value} (hb : b < X.heap.size) (hc : X.cell? ⟨b, i, none⟩ = some v) : W.cell? ⟨b, i, none⟩ = some v := by
  obtain ⟨u, rfl⟩ := h; exact lat_keep _ _ hb hc
theorem new_one (w : World) (v : Value) (t : TypeId) : (w.alloc (.cells #[v] t)).cell? ⟨w.heap.size, 0, none⟩ = some v := by simp
theorem PInv.joined {w : World} {T : Treaty} {a1 a2 a3 a4 : Option Addr} {c1 c2 c3 c4 : Nat} {R : List Int} {D0 D B : Nat} {A1 : Option Addr} {d1 : Nat} {ks : List Int} {A2 : Option Addr} {d2 : Nat} {es : List Int} {k a : Nat} {W W1 W2 : World} (h : PInv w T a1 a2 a3 a4 c1 c2 c3 c4 R D0 D B A1 d1 ks A2 d2 es k a W) (hA : Aft W W1) (hB : Aft W1 W2)
    {x1 x2 : Option Addr} {y1 y2 : Nat} {ks' es' : List Int} (o1 : W1.ownsRow B 3 1 (.slice x1 ks'.length y1) ks'.length (ks'.map (Value.int .i64))) (o2 : W2.ownsRow B 3 1 (.slice x2 es'.length y2) es'.length (es'.map (Value.int .i64))) :
    PInv w T a1 a2 a3 a4 c1 c2 c3 c4 R D0 D B x1 y1 ks' x2 y2 es' k a W2 := by
  obtain ⟨cs, f, hb, hg, hl⟩ := h.desk
  exact ⟨h.aft.trans (hA.trans hB), Nat.le_trans h.size (hA.trans hB).size, h.box.aft (hA.trans hB), own_aft o1 hB, o2, cs, f, hb.aft (hA.trans hB), hg, hl⟩

/-- What the operations of the regions yield. -/
def OwnC (base : Nat) (l : List Int) (v : Value) (w : World) : Prop := ∃ x y, v = .slice x l.length y ∧ w.ownsRow base 3 1 (.slice x l.length y) l.length (l.map (Value.int .i64))
def OneC (u : Value) (v : Value) (w : World) : Prop := ∃ b, v = .slice (some ⟨b, 0, none⟩) 1 1 ∧ b < w.heap.size ∧ w.cell? ⟨b, 0, none⟩ = some u
theorem OwnC.aft {base : Nat} {l : List Int} {v : Value} {w w' : World} (h : OwnC base l v w) (ha : Aft w w') : OwnC base l v w' := let ⟨x, y, h1, h2⟩ := h; ⟨x, y, h1, own_aft h2 ha⟩
theorem OneC.aft {u v : Value} {w w' : World} (h : OneC u v w) (ha : Aft w w') : OneC u v w' := let ⟨b, h1, h2, h3⟩ := h; ⟨b, h1, Nat.lt_of_lt_of_le h2 ha.size, cell_aftX ha h2 h3⟩
def Fact9 (base M : Nat) (v1 v2 u1 u2 : Value) (l1 l2 : List Int) : Nat → Value → World → Prop
  | 0, v, _ => v = v1
  | 1, v, _ => v = .pointer (some ⟨M, 0, none⟩)
  | 2, v, _ => v = u1
  | 3, v, w => OneC u1 v w
  | 4, v, w => OwnC base l1 v w
  | 5, v, _ => v = v2
  | 6, v, _ => v = .pointer (some ⟨M, 1, none⟩)
  | 7, v, _ => v = u2
  | 8, v, w => OneC u2 v w
  | 9, v, w => OwnC base l2 v w
  | 10, v, w => OwnC base l1 v w
  | 11, v, w => OwnC base l2 v w
  | _, _, _ => True
theorem Fact9.aft {base M : Nat} {v1 v2 u1 u2 : Value} {l1 l2 : List Int} {i : Nat} {v : Value} {w w' : World} (h : Fact9 base M v1 v2 u1 u2 l1 l2 i v w) (ha : Aft w w') : Fact9 base M v1 v2 u1 u2 l1 l2 i v w' := by
  unfold Fact9 at h ⊢
  split at h <;> first | exact h | exact OneC.aft h ha | exact OwnC.aft h ha

section
variable {w : World} {o : Oper} {a : Act} {K : Act → World → Prop} {Q : Exit → Act → World → Prop}
theorem ev {s : Nat} {v : Value} (h : a.eval (.tmp s) = v) : a.tmps[s]?.getD undef = v := by rw [← h]; simp [Act.eval]
theorem op_value {v : Value} (h1 : (execOp a.eval o).run Tryz.prog w = .ok (.value v) w) (h : K (a.put o.dst v) w) : Oper.wp Tryz.prog o a w K Q := by
  unfold Oper.wp; rw [h1]; exact h
theorem op_call2 {f : Nat} {fn : Func} (hf : Tryz.prog.funcs[f]? = some fn) (hn : (fn.name == "runtime.NumGoroutine") = false) (hb : fn.body.isNone = false)
    (x y : Operand) {t1 t2 : TypeId} (ho : o.op = .call { callee := .value (.func f), args := #[x, y], argTypes := #[t1, t2] })
    {vx vy : Value} (hx : a.eval x = vx) (hy : a.eval y = vy) {R : Ending → World → Prop} (hc : Calls Tryz.prog f #[vx, vy] w R)
    (h : ∀ e w', R e w' → ∃ v, e = .returned v ∧ K (a.put o.dst v) w') : Oper.wp Tryz.prog o a w K Q := by
  unfold Oper.wp
  have hrun : (execOp a.eval o).run Tryz.prog w = .ok (.enter f #[vx, vy]) w := by
    unfold execOp
    simp only [ho, resolve, invoke, Sem.run_bind, List.map_toArray, List.map_cons, List.map_nil, hx, hy]
    simp [go_sem]
    exact run_enters hf hn hb _ _
  rw [hrun, Oper.upon_enter]
  refine hc.mono ?_
  intro e w' hr
  obtain ⟨v, rfl, hk⟩ := h e w' hr
  exact hk
end

noncomputable def opsOf47 (n : Nat) : List Oper := match branch47 with
  | .seq (.region _ a _) (.region _ b _) => if n = 8 then a.toList else b.toList
  | _ => []

set_option maxRecDepth 100000 in
set_option maxHeartbeats 2000000 in
theorem region9_core (W8 : World) (base M : Nat) (A1 : Option Addr) (d1 : Nat) (k1 : List Int) (A2 : Option Addr) (d2 : Nat) (e1 : List Int) (Ak' Ae' : Option Addr) (ck' ce' : Nat) (k2 e2 : List Int) (a0 : Act) (Q0 : Exit → Act → World → Prop)
    (hz : a0.tmps.size = 101) (s9 : a0.eval (.tmp 9) = .slice A1 k1.length d1) (s10 : a0.eval (.tmp 10) = .slice A2 e1.length d2) (s11 : a0.eval (.tmp 11) = .pointer (some ⟨M, 0, none⟩))
    (hM : M < W8.heap.size) (m8 : W8.cell? ⟨M, 0, none⟩ = some (.slice Ak' k2.length ck')) (n8 : W8.cell? ⟨M, 1, none⟩ = some (.slice Ae' e2.length ce'))
    (hj1 : Ints W8 A1 k1) (hj2 : Ints W8 A2 e1) (hik8 : Ints W8 Ak' k2) (hie8 : Ints W8 Ae' e2) (hbase : base ≤ W8.heap.size) (hk1 : k1.length ≤ 17592186043904) (he1 : e1.length ≤ 17592186043904)
    (hexit : ∀ a W', Aft W8 W' → a.tmps.size = 101 → a.defers = a0.defers → (∀ s : Nat, s ≠ 9 → s ≠ 10 → (s < 61 ∨ 70 < s) → a.eval (.tmp s) = a0.eval (.tmp s)) → OwnC base (commonL k1 [k2]) (a.eval (.tmp 9)) W' → OwnC base (commonL e1 [e2]) (a.eval (.tmp 10)) W' → Q0 .normal a W') :
    Code.wp Tryz.prog (Code.region 9 (opsOf47 9).toArray true) Q0 a0 W8 := by
  have HEX := Lib.hid hexit
  clear hexit
  refine wp_region_facts (by kernel_rfl) 101 hz (by kernel_rfl) (Fact9 base M (.slice A1 k1.length d1) (.slice A2 e1.length d2) (.slice Ak' k2.length ck') (.slice Ae' e2.length ce') (commonL k1 [k2]) (commonL e1 [e2])) (fun _ w => Aft W8 w) (Aft.drew _) ?step ?fin
  case step =>
    intro i o ho done a w hH hd hp K hK
    have ha := hH.wd
    have hK' : ∀ v, Fact9 base M (.slice A1 k1.length d1) (.slice A2 e1.length d2) (.slice Ak' k2.length ck') (.slice Ae' e2.length ce') (commonL k1 [k2]) (commonL e1 [e2]) i v w → K (a.put o.dst v) w := fun v hv => hK v w hv ha fun j _ u hu => hu
    have hold : ∀ s : Nat, s ≠ 9 → s ≠ 10 → (s < 61 ∨ 70 < s) → a.eval (.tmp s) = a0.eval (.tmp s) := fun s h9 h10 h => hH.old s fun k ok hk hs => by
      match k, hk with
      | 0, hk => cases hk; cases hs; first | exact absurd h (by decide) | exact absurd rfl h9 | exact absurd rfl h10
      | 1, hk => cases hk; cases hs; first | exact absurd h (by decide) | exact absurd rfl h9 | exact absurd rfl h10
      | 2, hk => cases hk; cases hs; first | exact absurd h (by decide) | exact absurd rfl h9 | exact absurd rfl h10
      | 3, hk => cases hk; cases hs; first | exact absurd h (by decide) | exact absurd rfl h9 | exact absurd rfl h10
      | 4, hk => cases hk; cases hs; first | exact absurd h (by decide) | exact absurd rfl h9 | exact absurd rfl h10
      | 5, hk => cases hk; cases hs; first | exact absurd h (by decide) | exact absurd rfl h9 | exact absurd rfl h10
      | 6, hk => cases hk; cases hs; first | exact absurd h (by decide) | exact absurd rfl h9 | exact absurd rfl h10
      | 7, hk => cases hk; cases hs; first | exact absurd h (by decide) | exact absurd rfl h9 | exact absurd rfl h10
      | 8, hk => cases hk; cases hs; first | exact absurd h (by decide) | exact absurd rfl h9 | exact absurd rfl h10
      | 9, hk => cases hk; cases hs; first | exact absurd h (by decide) | exact absurd rfl h9 | exact absurd rfl h10
      | 10, hk => cases hk; cases hs; first | exact absurd h (by decide) | exact absurd rfl h9 | exact absurd rfl h10
      | 11, hk => cases hk; cases hs; first | exact absurd h (by decide) | exact absurd rfl h9 | exact absurd rfl h10
      | _ + 12, hk => cases hk
    match i, ho with
    | 0, ho =>
      cases ho
      have e9 : a.eval (.tmp 9) = .slice A1 k1.length d1 := (hH.old 9 fun k ok hk hs => by
        match k, hk with
        | 0, hk => cases hk; cases hs
        | 1, hk => cases hk; cases hs
        | 2, hk => cases hk; cases hs
        | 3, hk => cases hk; cases hs
        | 4, hk => cases hk; cases hs
        | 5, hk => cases hk; cases hs
        | 6, hk => cases hk; cases hs
        | 7, hk => cases hk; cases hs
        | 8, hk => cases hk; cases hs
        | 9, hk => cases hk; cases hs
        | 10, hk =>
          cases hdk : done 10 with
          | false => rfl
          | true => have := hH.closed 10 _ hk hdk 0 (by cases hk; decide); rw [hd] at this; cases this
        | 11, hk => cases hk; cases hs
        | _ + 12, hk => cases hk).trans s9
      exact op_value (by simp [go_sem, ev e9]) (hK' _ rfl)
    | 1, ho =>
      cases ho
      have e := (hold 11 (by decide) (by decide) (by decide)).trans s11
      exact op_value (by simp [go_sem, ev e]) (hK' _ rfl)
    | 2, ho =>
      cases ho
      have e : a.eval (.tmp 62) = .pointer (some ⟨M, 0, none⟩) := hH.fact 1 _ 62 rfl rfl (hp 1 (by decide))
      have hc := cell_aftX ha hM m8
      exact op_value (by simp [go_sem, ev e, hc]) (hK' _ rfl)
    | 3, ho =>
      cases ho
      have e : a.eval (.tmp 63) = .slice Ak' k2.length ck' := hH.fact 2 _ 63 rfl rfl (hp 2 (by decide))
      have h1 : OneC (.slice Ak' k2.length ck') (.slice (some ⟨w.heap.size, 0, none⟩) 1 1) (w.alloc (.cells #[.slice Ak' k2.length ck'] 24)) := ⟨_, rfl, by simp, by simp⟩
      have := hK _ _ h1 (ha.then_alloc _) fun j _ u hu => Fact9.aft hu (Aft.alloc _ _)
      unfold Oper.wp
      simpa [go_sem, ev e] using this
    | 4, ho =>
      cases ho
      have e : a.eval (.tmp 61) = .slice A1 k1.length d1 := hH.fact 0 _ 61 rfl rfl (hp 0 (by decide))
      obtain ⟨b, e2, hb1, hb2⟩ : OneC (.slice Ak' k2.length ck') (a.eval (.tmp 64)) w := hH.fact 3 _ 64 rfl rfl (hp 3 (by decide))
      refine op_call2 Tryz.func108 (by kernel_rfl) (by kernel_rfl) _ _ rfl e e2 (common_one w A1 k1 d1 Ak' k2 ck' b base hj1 hik8 hbase hk1 ha hb1 hb2) ?_
      rintro e w' ⟨x, y, rfl, hown, hu⟩
      exact ⟨_, rfl, hK _ _ ⟨x, y, rfl, hown⟩ (Aft.trans ha hu) fun j _ u hu' => Fact9.aft hu' hu⟩
    | 5, ho =>
      cases ho
      have e10 : a.eval (.tmp 10) = .slice A2 e1.length d2 := (hH.old 10 fun k ok hk hs => by
        match k, hk with
        | 0, hk => cases hk; cases hs
        | 1, hk => cases hk; cases hs
        | 2, hk => cases hk; cases hs
        | 3, hk => cases hk; cases hs
        | 4, hk => cases hk; cases hs
        | 5, hk => cases hk; cases hs
        | 6, hk => cases hk; cases hs
        | 7, hk => cases hk; cases hs
        | 8, hk => cases hk; cases hs
        | 9, hk => cases hk; cases hs
        | 10, hk => cases hk; cases hs
        | 11, hk =>
          cases hdk : done 11 with
          | false => rfl
          | true => have := hH.closed 11 _ hk hdk 10 (by cases hk; decide); have := hH.closed 10 _ rfl this 9 (by decide); have := hH.closed 9 _ rfl this 5 (by decide); rw [hd] at this; cases this
        | _ + 12, hk => cases hk).trans s10
      exact op_value (by simp [go_sem, ev e10]) (hK' _ rfl)
    | 6, ho =>
      cases ho
      have e := (hold 11 (by decide) (by decide) (by decide)).trans s11
      exact op_value (by simp [go_sem, ev e]) (hK' _ rfl)
    | 7, ho =>
      cases ho
      have e : a.eval (.tmp 67) = .pointer (some ⟨M, 1, none⟩) := hH.fact 6 _ 67 rfl rfl (hp 6 (by decide))
      have hc := cell_aftX ha hM n8
      exact op_value (by simp [go_sem, ev e, hc]) (hK' _ rfl)
    | 8, ho =>
      cases ho
      have e : a.eval (.tmp 68) = .slice Ae' e2.length ce' := hH.fact 7 _ 68 rfl rfl (hp 7 (by decide))
      have h1 : OneC (.slice Ae' e2.length ce') (.slice (some ⟨w.heap.size, 0, none⟩) 1 1) (w.alloc (.cells #[.slice Ae' e2.length ce'] 24)) := ⟨_, rfl, by simp, by simp⟩
      have := hK _ _ h1 (ha.then_alloc _) fun j _ u hu => Fact9.aft hu (Aft.alloc _ _)
      unfold Oper.wp
      simpa [go_sem, ev e] using this
    | 9, ho =>
      cases ho
      have e : a.eval (.tmp 66) = .slice A2 e1.length d2 := hH.fact 5 _ 66 rfl rfl (hp 5 (by decide))
      obtain ⟨b, e2', hb1, hb2⟩ : OneC (.slice Ae' e2.length ce') (a.eval (.tmp 69)) w := hH.fact 8 _ 69 rfl rfl (hp 8 (by decide))
      refine op_call2 Tryz.func108 (by kernel_rfl) (by kernel_rfl) _ _ rfl e e2' (common_one w A2 e1 d2 Ae' e2 ce' b base hj2 hie8 hbase he1 ha hb1 hb2) ?_
      rintro e w' ⟨x, y, rfl, hown, hu⟩
      exact ⟨_, rfl, hK _ _ ⟨x, y, rfl, hown⟩ (Aft.trans ha hu) fun j _ u hu' => Fact9.aft hu' hu⟩
    | 10, ho =>
      cases ho
      have hf : OwnC base (commonL k1 [k2]) (a.eval (.tmp 65)) w := hH.fact 4 _ 65 rfl rfl (hp 4 (by decide))
      exact op_value (v := a.eval (.tmp 65)) (by simp [go_sem]) (hK' _ hf)
    | 11, ho =>
      cases ho
      have hf : OwnC base (commonL e1 [e2]) (a.eval (.tmp 70)) w := hH.fact 9 _ 70 rfl rfl (hp 9 (by decide))
      exact op_value (v := a.eval (.tmp 70)) (by simp [go_sem]) (hK' _ hf)
    | _ + 12, ho => cases ho
  case fin =>
    intro done a W' hall hH
    refine HEX.out a W' hH.wd (hH.size.trans hz) hH.defers (fun s h9 h10 h => hH.old s fun k ok hk hs => ?_) (hH.fact 10 _ 9 rfl rfl (hall 10 (by decide))) (hH.fact 11 _ 10 rfl rfl (hall 11 (by decide)))
    match k, hk with
    | 0, hk => cases hk; cases hs; exact absurd h (by decide)
    | 1, hk => cases hk; cases hs; exact absurd h (by decide)
    | 2, hk => cases hk; cases hs; exact absurd h (by decide)
    | 3, hk => cases hk; cases hs; exact absurd h (by decide)
    | 4, hk => cases hk; cases hs; exact absurd h (by decide)
    | 5, hk => cases hk; cases hs; exact absurd h (by decide)
    | 6, hk => cases hk; cases hs; exact absurd h (by decide)
    | 7, hk => cases hk; cases hs; exact absurd h (by decide)
    | 8, hk => cases hk; cases hs; exact absurd h (by decide)
    | 9, hk => cases hk; cases hs; exact absurd h (by decide)
    | 10, hk => cases hk; cases hs; exact absurd rfl h9
    | 11, hk => cases hk; cases hs; exact absurd rfl h10
    | _ + 12, hk => cases hk

def Fact8 (bt B br or' cR bw ow nW cW n2 q bm om m cm M : Nat) (nR : Nat) (ks es : Value) : Nat → Value → World → Prop
  | 0, v, _ => v = .pointer (some ⟨bt, 2, none⟩)
  | 1, v, _ => v = .slice (some ⟨bw, ow, none⟩) nW cW
  | 2, v, _ => v = .pointer (some ⟨B, 1, none⟩)
  | 3, v, _ => v = .int .i64 n2
  | 4, v, _ => v = .pointer (some ⟨bw, ow + n2, none⟩)
  | 5, v, _ => v = .slice (some ⟨bm, om, none⟩) m cm
  | 6, v, _ => v = .slice (some ⟨br, or', none⟩) nR cR
  | 7, v, _ => v = .pointer (some ⟨B, 1, none⟩)
  | 8, v, _ => v = .int .i64 n2
  | 9, v, _ => v = .pointer (some ⟨br, or' + n2, none⟩)
  | 10, v, _ => v = .int .i64 q
  | 11, v, _ => v = .pointer (some ⟨bm, om + q * 2, none⟩)
  | 12, v, _ => v = .agg #[ks, es]
  | 13, v, _ => v = .pointer (some ⟨M, 0, none⟩)
  | _, _, _ => True
theorem Fact8.world {bt B br or' cR bw ow nW cW n2 q bm om m cm M nR : Nat} {ks es : Value} {i : Nat} {v : Value} {w w' : World} (h : Fact8 bt B br or' cR bw ow nW cW n2 q bm om m cm M nR ks es i v w) : Fact8 bt B br or' cR bw ow nW cW n2 q bm om m cm M nR ks es i v w' := by
  unfold Fact8 at h ⊢
  split at h <;> exact h
def Wd8 (W6 : World) (ks es : Value) (done : Nat → Bool) (w : World) : Prop :=
  Aft W6 w ∧ (done 13 = false → w.heap.size = W6.heap.size) ∧ (done 13 = true → ∃ cs, Blk w W6.heap.size 67 cs ∧ cs.size = 2 ∧ (done 14 = true → cs[0]? = some ks ∧ cs[1]? = some es))

set_option maxRecDepth 100000 in
set_option maxHeartbeats 2000000 in
theorem region8_core (W6 : World) (bt B br or' cR bw ow nW cW n2 q bm om m cm nR : Nat) (Ak Ae : Option Addr) (lk le ck ce : Nat) (a0 : Act) (Q0 : Exit → Act → World → Prop)
    (hz : a0.tmps.size = 101) (s1 : a0.eval (.tmp 1) = .slice (some ⟨br, or', none⟩) nR cR) (s2 : a0.eval (.tmp 2) = .pointer (some ⟨bt, 0, none⟩)) (s7 : a0.eval (.tmp 7) = .pointer (some ⟨B, 0, none⟩))
    (hbt : bt < W6.heap.size) (hB : B < W6.heap.size) (hbr : br < W6.heap.size) (hbw : bw < W6.heap.size) (hbm : bm < W6.heap.size)
    (k2 : W6.cell? ⟨bt, 2, none⟩ = some (.slice (some ⟨bw, ow, none⟩) nW cW)) (x6 : W6.cell? ⟨B, 1, none⟩ = some (.int .i64 n2)) (cR' : W6.cell? ⟨br, or' + n2, none⟩ = some (.int .i64 q)) (cM : W6.cell? ⟨bw, ow + n2, none⟩ = some (.slice (some ⟨bm, om, none⟩) m cm))
    (cK : W6.cell? ⟨bm, om + q * 2, none⟩ = some (.slice Ak lk ck)) (cE : W6.cell? ⟨bm, om + q * 2 + 1, none⟩ = some (.slice Ae le ce)) (hnW : n2 < nW) (hnR : n2 < nR) (hq : q < m) (_hnW6 : nW ≤ 6) (_hnR6 : nR ≤ 6) (_hm4 : m ≤ 4)
    (hexit : ∀ a W', Aft W6 W' → W6.heap.size < W'.heap.size → W'.cell? ⟨W6.heap.size, 0, none⟩ = some (.slice Ak lk ck) → W'.cell? ⟨W6.heap.size, 1, none⟩ = some (.slice Ae le ce) → a.tmps.size = 101 → a.defers = a0.defers → (∀ s : Nat, s ≠ 11 → (s < 48 ∨ 60 < s) → a.eval (.tmp s) = a0.eval (.tmp s)) → a.eval (.tmp 11) = .pointer (some ⟨W6.heap.size, 0, none⟩) → Q0 .normal a W') :
    Code.wp Tryz.prog (Code.region 8 (opsOf47 8).toArray true) Q0 a0 W6 := by
  have HEX := Lib.hid hexit
  clear hexit
  have hD : (opsOf47 8).filterMap (·.dst) = [48, 49, 50, 51, 52, 53, 54, 55, 56, 57, 58, 59, 60, 11] := by kernel_rfl
  refine wp_region_facts (by kernel_rfl) 101 hz (by kernel_rfl) (Fact8 bt B br or' cR bw ow nW cW n2 q bm om m cm W6.heap.size nR (.slice Ak lk ck) (.slice Ae le ce)) (Wd8 W6 (.slice Ak lk ck) (.slice Ae le ce)) ⟨Aft.drew _, fun _ => rfl, fun h => by cases h⟩ ?step ?fin
  case step =>
    intro i o ho done a w hH hd hp K hK
    obtain ⟨ha, hw1, hw2⟩ := hH.wd
    have same : ∀ s : Nat, s ∉ [48, 49, 50, 51, 52, 53, 54, 55, 56, 57, 58, 59, 60, 11] → a.eval (.tmp s) = a0.eval (.tmp s) := fun s hs => hH.same (by show s ∉ (opsOf47 8).filterMap (·.dst); rw [hD]; exact hs)
    have hK' : i ≠ 13 → i ≠ 14 → ∀ v, Fact8 bt B br or' cR bw ow nW cW n2 q bm om m cm W6.heap.size nR (.slice Ak lk ck) (.slice Ae le ce) i v w → K (a.put o.dst v) w := fun h13 h14 v hv => hK v w hv (by
      refine ⟨ha, fun h => hw1 (by simpa [upd, Ne.symm h13] using h), fun h => ?_⟩
      obtain ⟨cs, h1, h2, h3⟩ := hw2 (by simpa [upd, Ne.symm h13] using h)
      exact ⟨cs, h1, h2, fun h => h3 (by simpa [upd, Ne.symm h14] using h)⟩) fun j _ u hu => hu
    match i, ho with
    | 0, ho =>
      cases ho
      have e := (same 2 (by decide)).trans s2
      exact op_value (by simp [go_sem, ev e]) (hK' (by decide) (by decide) _ rfl)
    | 1, ho =>
      cases ho
      have e : a.eval (.tmp 48) = .pointer (some ⟨bt, 2, none⟩) := hH.fact 0 _ 48 rfl rfl (hp 0 (by decide))
      have hc := cell_aftX ha hbt k2
      exact op_value (by simp [go_sem, ev e, hc]) (hK' (by decide) (by decide) _ rfl)
    | 2, ho =>
      cases ho
      have e := (same 7 (by decide)).trans s7
      exact op_value (by simp [go_sem, ev e]) (hK' (by decide) (by decide) _ rfl)
    | 3, ho =>
      cases ho
      have e : a.eval (.tmp 50) = .pointer (some ⟨B, 1, none⟩) := hH.fact 2 _ 50 rfl rfl (hp 2 (by decide))
      have hc := cell_aftX ha hB x6
      exact op_value (by simp [go_sem, ev e, hc]) (hK' (by decide) (by decide) _ rfl)
    | 4, ho =>
      cases ho
      have e : a.eval (.tmp 49) = .slice (some ⟨bw, ow, none⟩) nW cW := hH.fact 1 _ 49 rfl rfl (hp 1 (by decide))
      have e2 : a.eval (.tmp 51) = .int .i64 n2 := hH.fact 3 _ 51 rfl rfl (hp 3 (by decide))
      have i1 : (0 : Int) ≤ (n2 : Int) ∧ (n2 : Int) < (nW : Int) := by omega
      exact op_value (v := .pointer (some ⟨bw, ow + n2, none⟩)) (by simp [go_sem, ev e, ev e2, i1]) (hK' (by decide) (by decide) _ rfl)
    | 5, ho =>
      cases ho
      have e : a.eval (.tmp 52) = .pointer (some ⟨bw, ow + n2, none⟩) := hH.fact 4 _ 52 rfl rfl (hp 4 (by decide))
      have hc := cell_aftX ha hbw cM
      exact op_value (by simp [go_sem, ev e, hc]) (hK' (by decide) (by decide) _ rfl)
    | 6, ho =>
      cases ho
      have e := (same 1 (by decide)).trans s1
      exact op_value (by simp [go_sem, ev e]) (hK' (by decide) (by decide) _ rfl)
    | 7, ho =>
      cases ho
      have e := (same 7 (by decide)).trans s7
      exact op_value (by simp [go_sem, ev e]) (hK' (by decide) (by decide) _ rfl)
    | 8, ho =>
      cases ho
      have e : a.eval (.tmp 55) = .pointer (some ⟨B, 1, none⟩) := hH.fact 7 _ 55 rfl rfl (hp 7 (by decide))
      have hc := cell_aftX ha hB x6
      exact op_value (by simp [go_sem, ev e, hc]) (hK' (by decide) (by decide) _ rfl)
    | 9, ho =>
      cases ho
      have e : a.eval (.tmp 54) = .slice (some ⟨br, or', none⟩) nR cR := hH.fact 6 _ 54 rfl rfl (hp 6 (by decide))
      have e2 : a.eval (.tmp 56) = .int .i64 n2 := hH.fact 8 _ 56 rfl rfl (hp 8 (by decide))
      have i1 : (0 : Int) ≤ (n2 : Int) ∧ (n2 : Int) < (nR : Int) := by omega
      exact op_value (v := .pointer (some ⟨br, or' + n2, none⟩)) (by simp [go_sem, ev e, ev e2, i1]) (hK' (by decide) (by decide) _ rfl)
    | 10, ho =>
      cases ho
      have e : a.eval (.tmp 57) = .pointer (some ⟨br, or' + n2, none⟩) := hH.fact 9 _ 57 rfl rfl (hp 9 (by decide))
      have hc := cell_aftX ha hbr cR'
      exact op_value (by simp [go_sem, ev e, hc]) (hK' (by decide) (by decide) _ rfl)
    | 11, ho =>
      cases ho
      have e : a.eval (.tmp 53) = .slice (some ⟨bm, om, none⟩) m cm := hH.fact 5 _ 53 rfl rfl (hp 5 (by decide))
      have e2 : a.eval (.tmp 58) = .int .i64 q := hH.fact 10 _ 58 rfl rfl (hp 10 (by decide))
      have i1 : (0 : Int) ≤ (q : Int) ∧ (q : Int) < (m : Int) := by omega
      exact op_value (v := .pointer (some ⟨bm, om + q * 2, none⟩)) (by simp [go_sem, ev e, ev e2, i1]) (hK' (by decide) (by decide) _ rfl)
    | 12, ho =>
      cases ho
      have e : a.eval (.tmp 59) = .pointer (some ⟨bm, om + q * 2, none⟩) := hH.fact 11 _ 59 rfl rfl (hp 11 (by decide))
      have hc := cell_aftX ha hbm cK
      have hc2 := cell_aftX ha hbm cE
      exact op_value (v := .agg #[.slice Ak lk ck, .slice Ae le ce]) (by simp [go_sem, ev e, hc, hc2]) (hK' (by decide) (by decide) _ rfl)
    | 13, ho =>
      cases ho
      have hs := hw1 hd
      have hb := Blk.new w 67 #[Value.slice none 0 0, Value.slice none 0 0]
      have := hK (.pointer (some ⟨w.heap.size, 0, none⟩)) (w.alloc (.cells #[Value.slice none 0 0, Value.slice none 0 0] 67)) (by show _ = _; rw [hs]) (by
        refine ⟨ha.then_alloc _, fun h => by simp [upd] at h, fun _ => ⟨_, by rw [← hs]; exact hb, rfl, fun h => ?_⟩⟩
        have h14 : done 14 = true := by simpa [upd] using h
        have := hH.closed 14 _ rfl h14 13 (by decide)
        rw [hd] at this; cases this) fun j _ u hu => Fact8.world hu
      unfold Oper.wp
      simpa [go_sem, Act.put] using this
    | 14, ho =>
      cases ho
      have e : a.eval (.tmp 11) = .pointer (some ⟨W6.heap.size, 0, none⟩) := hH.fact 13 _ 11 rfl rfl (hp 13 (by decide))
      have e2 : a.eval (.tmp 60) = .agg #[.slice Ak lk ck, .slice Ae le ce] := hH.fact 12 _ 60 rfl rfl (hp 12 (by decide))
      obtain ⟨cs, h1, h2, h3⟩ := hw2 (hp 13 (by decide))
      have c0 : w.cell? ⟨W6.heap.size, 0, none⟩ = some cs[0] := (h1.cell 0).trans (Array.getElem?_eq_getElem (by omega))
      have c1 : w.cell? ⟨W6.heap.size, 1, none⟩ = some cs[1] := (h1.cell 1).trans (Array.getElem?_eq_getElem (by omega))
      have f0 := h1.frozen 0
      have f1 := h1.frozen 1
      have := hK undef ((w.setCell ⟨W6.heap.size, 0, none⟩ (.slice Ak lk ck)).setCell ⟨W6.heap.size, 1, none⟩ (.slice Ae le ce)) trivial (by
        refine ⟨(ha.then_setCell (p := ⟨W6.heap.size, 0, none⟩) (Nat.le_refl _) _).then_setCell (p := ⟨W6.heap.size, 1, none⟩) (Nat.le_refl _) _, fun h => ?_, fun _ => ⟨_, (h1.store 0 _).store 1 _, by simp [h2], fun _ => ?_⟩⟩
        · have := hp 13 (by decide)
          simp [upd, this] at h
        · simp [h2]) fun j _ u hu => Fact8.world hu
      unfold Oper.wp
      simpa [go_sem, ev e, ev e2, c0, c1, f0, f1, Act.put] using this
    | _ + 15, ho => cases ho
  case fin =>
    intro done a W' hall hH
    obtain ⟨ha, _, hw2⟩ := hH.wd
    obtain ⟨cs, h1, h2, h3⟩ := hw2 (hall 13 (by decide))
    obtain ⟨h4, h5⟩ := h3 (hall 14 (by decide))
    refine HEX.out a W' ha h1.lt ((h1.cell 0).trans h4) ((h1.cell 1).trans h5) (hH.size.trans hz) hH.defers (fun s h11 h => hH.same (by
      show s ∉ (opsOf47 8).filterMap (·.dst)
      rw [hD]
      simp
      omega)) (hH.fact 13 _ 11 rfl rfl (hall 13 (by decide)))

theorem branch47_eq : branch47 = .seq (.region 8 (opsOf47 8).toArray true) (.region 9 (opsOf47 9).toArray true) := by kernel_rfl

set_option maxRecDepth 100000 in
set_option maxHeartbeats 2000000 in
theorem branch47_core (w : World) (T : Treaty) (a1 a3 a4 : Option Addr) (c1 c2 c3 c4 : Nat) (R : List Int) (B : Nat) (A1 : Option Addr) (d1 : Nat) (k1 : List Int) (A2 : Option Addr) (d2 : Nat) (e1 : List Int) (k : Nat) (bw ow br or' cR : Nat) (Ak' Ae' : Option Addr) (ck' ce' : Nat) (k2 e2 : List Int)
    (n2 q bm' om' cm' : Nat) (m' : Nat) (hn2w : n2 < T.words.length) (hn2r : n2 < R.length) (hql : q < m')
    (a0 : Act) (Q0 : Exit → Act → World → Prop) (W6 : World) (hP : PInv w T a1 (some ⟨bw, ow, none⟩) a3 a4 c1 c2 c3 c4 R w.heap.size (w.heap.size + 1) (w.heap.size + 2) A1 d1 k1 A2 d2 e1 k 0 W6)
    (hk1 : k1.length ≤ 17592186043904) (he1 : e1.length ≤ 17592186043904) (hBW : B < W6.heap.size) (hbr : br < W6.heap.size) (hbw : bw < W6.heap.size) (hbm : bm' < W6.heap.size)
    (x6 : W6.cell? ⟨B, 1, none⟩ = some (.int .i64 n2)) (cR' : W6.cell? ⟨br, or' + n2, none⟩ = some (.int .i64 q)) (cM : W6.cell? ⟨bw, ow + n2, none⟩ = some (.slice (some ⟨bm', om', none⟩) m' cm'))
    (cK : W6.cell? ⟨bm', om' + q * 2, none⟩ = some (.slice Ak' k2.length ck')) (cE : W6.cell? ⟨bm', om' + q * 2 + 1, none⟩ = some (.slice Ae' e2.length ce')) (hik : Ints W6 Ak' k2) (hie : Ints W6 Ae' e2) (hwl : T.words.length ≤ 6) (hrl : R.length ≤ 6) (hml : m' ≤ 4)
    (hz : a0.tmps.size = 101) (s1 : a0.eval (.tmp 1) = .slice (some ⟨br, or', none⟩) R.length cR) (s2 : a0.eval (.tmp 2) = .pointer (some ⟨w.heap.size, 0, none⟩)) (s7 : a0.eval (.tmp 7) = .pointer (some ⟨B, 0, none⟩))
    (s9 : a0.eval (.tmp 9) = .slice A1 k1.length d1) (s10 : a0.eval (.tmp 10) = .slice A2 e1.length d2)
    (hexit : ∀ a W', a.tmps.size = 101 → a.defers = a0.defers → (∀ s : Nat, s ≠ 9 → s ≠ 10 → s ≠ 11 → (s < 48 ∨ 70 < s) → a.eval (.tmp s) = a0.eval (.tmp s)) → JoinR w T a1 (some ⟨bw, ow, none⟩) a3 a4 c1 c2 c3 c4 R (commonL k1 [k2]) (commonL e1 [e2]) k (a.eval (.tmp 9)) (a.eval (.tmp 10)) W' → Q0 .normal a W') :
    Code.wp Tryz.prog branch47 Q0 a0 W6 := by
  rw [branch47_eq]
  refine wp_seq_k fun K HK => ?_
  have hsz := hP.aft.size
  obtain ⟨A', c', e, _, hj1⟩ := own_ints hP.own1 hk1
  cases e
  obtain ⟨A', c', e, _, hj2⟩ := own_ints hP.own2 he1
  cases e
  refine region8_core W6 w.heap.size B br or' cR bw ow T.words.length c2 n2 q bm' om' m' cm' R.length Ak' Ae' k2.length e2.length ck' ce' a0 _ hz s1 s2 s7 hP.box.lt hBW hbr hbw hbm (hP.box.cell 2) x6 cR' cM cK cE hn2w hn2r hql hwl hrl hml ?_
  intro a W8 ha hlt m8 n8 hz' hd' hs' h11
  refine HK _ _ ?_
  have o := hs' 9 (by decide) (by decide)
  have o' := hs' 10 (by decide) (by decide)
  refine region9_core W8 (w.heap.size + 2) W6.heap.size A1 d1 k1 A2 d2 e1 Ak' Ae' ck' ce' k2 e2 a Q0 hz' (o.trans s9) (o'.trans s10) h11 hlt m8 n8 (hj1.aft ha) (hj2.aft ha) (hik.aft ha) (hie.aft ha) (by have := hP.size; have := ha.size; omega) hk1 he1 ?_
  rintro a' W' ha' hz2 hd2 hs2 ⟨x1, y1, e1', o1⟩ ⟨x2, y2, e2', o2⟩
  exact hexit a' W' hz2 (hd2.trans hd') (fun s h9 h10 h11 h => (hs2 s h9 h10 (by omega)).trans (hs' s h11 (by omega))) ⟨x1, y1, x2, y2, e1', e2', hP.joined (ha.trans ha') (Aft.refl _) o1 o2⟩

theorem frame_list (n : Nat) (t : Array Value) (hz : t.size = n) : t = ((List.range n).map fun j => t.getD j undef).toArray := by
  apply Array.ext
  · simp [hz]
  · intro i h1 h2
    simp [Array.getElem?_eq_getElem h1]
theorem frame_act (n : Nat) (a a0 : Act) (hz : a.tmps.size = n) (hd : a.defers = a0.defers) (p : Nat → Bool) (hs : ∀ s : Nat, p s = false → a.eval (.tmp s) = a0.eval (.tmp s)) :
    a = ⟨((List.range n).map fun j => if p j = true then a.eval (.tmp j) else a0.eval (.tmp j)).toArray, a0.defers⟩ := by
  obtain ⟨t, d⟩ := a
  cases hd
  rw [Act.mk.injEq]
  refine ⟨?_, rfl⟩
  have h1 := frame_list n t hz
  have h2 : ((List.range n).map fun j => t.getD j undef) = (List.range n).map fun j => if p j = true then (Act.mk t a0.defers).eval (.tmp j) else a0.eval (.tmp j) := by
    apply List.map_congr_left
    intro j _
    cases hp : p j with
    | true => rw [if_pos rfl]; rfl
    | false => rw [if_neg (by simp)]; exact hs j hp
  rw [h2] at h1
  exact h1

set_option maxRecDepth 100000 in
set_option maxHeartbeats 2000000 in
theorem opened_both (w : World) (T : Treaty) (a1 a3 a4 : Option Addr) (c1 c2 c3 c4 : Nat) (R : List Int) (B : Nat) (A1 : Option Addr) (d1 : Nat) (k1 : List Int) (A2 : Option Addr) (d2 : Nat) (e1 : List Int) (k : Nat) (bw ow br or' cR : Nat) (Ak' Ae' : Option Addr) (ck' ce' : Nat) (k2 e2 : List Int)
    (n2 q bm' om' cm' : Nat) (m' : Nat) (hn2w : n2 < T.words.length) (hn2r : n2 < R.length) (hql : q < m')
    (q0 q3 q4 q5 q6 q8 q11 q12 q13 q14 q15 q16 q17 q18 q19 q20 q21 q22 q23 q24 q25 q26 q27 q28 q29 q30 q31 q32 q33 q34 q35 q36 q37 q38 q39 q40 q41 q42 q43 q44 q45 q46 q47 q48 q49 q50 q51 q52 q53 q54 q55 q56 q57 q58 q59 q60 q61 q62 q63 q64 q65 q66 q67 q68 q69 q70 q71 q72 q73 q74 q75 q76 q77 q78 q79 q80 q81 q82 q83 q84 q85 q86 q87 q88 q89 q90 q91 q92 q93 q94 q95 q96 q97 q98 q99 q100 : Value) (Q0 : Exit → Act → World → Prop) (W6 : World) (hP : PInv w T a1 (some ⟨bw, ow, none⟩) a3 a4 c1 c2 c3 c4 R w.heap.size (w.heap.size + 1) (w.heap.size + 2) A1 d1 k1 A2 d2 e1 k 0 W6)
    (hk1 : k1.length ≤ 17592186043904) (he1 : e1.length ≤ 17592186043904) (_hBw : w.heap.size + 1 < B) (hBW : B < W6.heap.size) (hbr : br < W6.heap.size) (hbw : bw < W6.heap.size) (hbm : bm' < W6.heap.size)
    (x6 : W6.cell? ⟨B, 1, none⟩ = some (.int .i64 n2)) (cR' : W6.cell? ⟨br, or' + n2, none⟩ = some (.int .i64 q)) (cM : W6.cell? ⟨bw, ow + n2, none⟩ = some (.slice (some ⟨bm', om', none⟩) m' cm'))
    (cK : W6.cell? ⟨bm', om' + q * 2, none⟩ = some (.slice Ak' k2.length ck')) (cE : W6.cell? ⟨bm', om' + q * 2 + 1, none⟩ = some (.slice Ae' e2.length ce')) (hik : Ints W6 Ak' k2) (hie : Ints W6 Ae' e2) (hwl : T.words.length ≤ 6) (hrl : R.length ≤ 6) (hml : m' ≤ 4)
    (hexit : ∀ u9 u10 u11 u48 u49 u50 u51 u52 u53 u54 u55 u56 u57 u58 u59 u60 u61 u62 u63 u64 u65 u66 u67 u68 u69 u70 W', JoinR w T a1 (some ⟨bw, ow, none⟩) a3 a4 c1 c2 c3 c4 R (commonL k1 [k2]) (commonL e1 [e2]) k u9 u10 W' → Q0 .normal ⟨(List.toArray (q0 :: .slice (some ⟨br, or', none⟩) R.length cR :: .pointer (some ⟨w.heap.size, 0, none⟩) :: q3 :: q4 :: q5 :: q6 :: .pointer (some ⟨B, 0, none⟩) :: q8 :: u9 :: u10 :: u11 :: q12 :: q13 :: q14 :: q15 :: q16 :: q17 :: q18 :: q19 :: q20 :: q21 :: q22 :: q23 :: q24 :: q25 :: q26 :: q27 :: q28 :: q29 :: q30 :: q31 :: q32 :: q33 :: q34 :: q35 :: q36 :: q37 :: q38 :: q39 :: q40 :: q41 :: q42 :: q43 :: q44 :: q45 :: q46 :: q47 :: u48 :: u49 :: u50 :: u51 :: u52 :: u53 :: u54 :: u55 :: u56 :: u57 :: u58 :: u59 :: u60 :: u61 :: u62 :: u63 :: u64 :: u65 :: u66 :: u67 :: u68 :: u69 :: u70 :: q71 :: q72 :: q73 :: q74 :: q75 :: q76 :: q77 :: q78 :: q79 :: q80 :: q81 :: q82 :: q83 :: q84 :: q85 :: q86 :: q87 :: q88 :: q89 :: q90 :: q91 :: q92 :: q93 :: q94 :: q95 :: q96 :: q97 :: q98 :: q99 :: q100 :: [])), []⟩ W') :
    Code.wp Tryz.prog branch47 Q0 ⟨(List.toArray (q0 :: .slice (some ⟨br, or', none⟩) R.length cR :: .pointer (some ⟨w.heap.size, 0, none⟩) :: q3 :: q4 :: q5 :: q6 :: .pointer (some ⟨B, 0, none⟩) :: q8 :: .slice A1 k1.length d1 :: .slice A2 e1.length d2 :: q11 :: q12 :: q13 :: q14 :: q15 :: q16 :: q17 :: q18 :: q19 :: q20 :: q21 :: q22 :: q23 :: q24 :: q25 :: q26 :: q27 :: q28 :: q29 :: q30 :: q31 :: q32 :: q33 :: q34 :: q35 :: q36 :: q37 :: q38 :: q39 :: q40 :: q41 :: q42 :: q43 :: q44 :: q45 :: q46 :: q47 :: q48 :: q49 :: q50 :: q51 :: q52 :: q53 :: q54 :: q55 :: q56 :: q57 :: q58 :: q59 :: q60 :: q61 :: q62 :: q63 :: q64 :: q65 :: q66 :: q67 :: q68 :: q69 :: q70 :: q71 :: q72 :: q73 :: q74 :: q75 :: q76 :: q77 :: q78 :: q79 :: q80 :: q81 :: q82 :: q83 :: q84 :: q85 :: q86 :: q87 :: q88 :: q89 :: q90 :: q91 :: q92 :: q93 :: q94 :: q95 :: q96 :: q97 :: q98 :: q99 :: q100 :: [])), []⟩ W6 := by
  refine branch47_core w T a1 a3 a4 c1 c2 c3 c4 R B A1 d1 k1 A2 d2 e1 k bw ow br or' cR Ak' Ae' ck' ce' k2 e2 n2 q bm' om' cm' m' hn2w hn2r hql _ Q0 W6 hP hk1 he1 hBW hbr hbw hbm x6 cR' cM cK cE hik hie hwl hrl hml rfl rfl rfl rfl rfl rfl ?_
  intro a W' hz hd hs hJ
  have e := frame_act 101 a _ hz hd (fun j => decide (j = 9 ∨ j = 10 ∨ j = 11 ∨ (48 ≤ j ∧ j ≤ 70))) (fun s hp => by
    have hp' := of_decide_eq_false hp
    exact hs s (by omega) (by omega) (by omega) (by omega))
  have e2 : a = ⟨(List.toArray (q0 :: .slice (some ⟨br, or', none⟩) R.length cR :: .pointer (some ⟨w.heap.size, 0, none⟩) :: q3 :: q4 :: q5 :: q6 :: .pointer (some ⟨B, 0, none⟩) :: q8 :: a.eval (.tmp 9) :: a.eval (.tmp 10) :: a.eval (.tmp 11) :: q12 :: q13 :: q14 :: q15 :: q16 :: q17 :: q18 :: q19 :: q20 :: q21 :: q22 :: q23 :: q24 :: q25 :: q26 :: q27 :: q28 :: q29 :: q30 :: q31 :: q32 :: q33 :: q34 :: q35 :: q36 :: q37 :: q38 :: q39 :: q40 :: q41 :: q42 :: q43 :: q44 :: q45 :: q46 :: q47 :: a.eval (.tmp 48) :: a.eval (.tmp 49) :: a.eval (.tmp 50) :: a.eval (.tmp 51) :: a.eval (.tmp 52) :: a.eval (.tmp 53) :: a.eval (.tmp 54) :: a.eval (.tmp 55) :: a.eval (.tmp 56) :: a.eval (.tmp 57) :: a.eval (.tmp 58) :: a.eval (.tmp 59) :: a.eval (.tmp 60) :: a.eval (.tmp 61) :: a.eval (.tmp 62) :: a.eval (.tmp 63) :: a.eval (.tmp 64) :: a.eval (.tmp 65) :: a.eval (.tmp 66) :: a.eval (.tmp 67) :: a.eval (.tmp 68) :: a.eval (.tmp 69) :: a.eval (.tmp 70) :: q71 :: q72 :: q73 :: q74 :: q75 :: q76 :: q77 :: q78 :: q79 :: q80 :: q81 :: q82 :: q83 :: q84 :: q85 :: q86 :: q87 :: q88 :: q89 :: q90 :: q91 :: q92 :: q93 :: q94 :: q95 :: q96 :: q97 :: q98 :: q99 :: q100 :: [])), []⟩ := e.trans (by kernel_rfl)
  have h := hexit (a.eval (.tmp 9)) (a.eval (.tmp 10)) (a.eval (.tmp 11)) (a.eval (.tmp 48)) (a.eval (.tmp 49)) (a.eval (.tmp 50)) (a.eval (.tmp 51)) (a.eval (.tmp 52)) (a.eval (.tmp 53)) (a.eval (.tmp 54)) (a.eval (.tmp 55)) (a.eval (.tmp 56)) (a.eval (.tmp 57)) (a.eval (.tmp 58)) (a.eval (.tmp 59)) (a.eval (.tmp 60)) (a.eval (.tmp 61)) (a.eval (.tmp 62)) (a.eval (.tmp 63)) (a.eval (.tmp 64)) (a.eval (.tmp 65)) (a.eval (.tmp 66)) (a.eval (.tmp 67)) (a.eval (.tmp 68)) (a.eval (.tmp 69)) (a.eval (.tmp 70)) W' hJ
  rw [← e2] at h
  exact h
end Go.Proofs
end
