/- Merged by program out of the texts Pvd. -/
import Derived.Test.YtfliejmidnnggaaP17
import Derived.BigGuard
section
/- Walks: TreatyProved. -/
namespace Go.Proofs
open Go.RowKit

theorem OwnLists.keptb {W W' : World} {base : Nat} {v : Value} {ls : List (List Int)} (h : OwnLists W base v ls) {row : Option Nat} (hg : W.grownBy W' row) (hr : ∀ k, row = some k → k < base) : OwnLists W' base v ls := let ⟨vs, h⟩ := h; ⟨vs, h.keptb hg hr⟩
theorem SV.small {T : Treaty} {F : List (List Int)} (h : SV T F) (hl : T.legs.length ≤ 10) (hp : T.places ≤ 12) : F.length ≤ 17592186043904 ∧ ∀ l ∈ F, l.length ≤ 17592186043904 :=
  ⟨by rw [h.len]; omega, fun l hx => by have := (SV.iff.1 h).2.1 l hx; omega⟩

theorem OwnLists.lists' {W : World} {base n c : Nat} {A : Option Addr} {ls : List (List Int)} (h : OwnLists W base (.slice A n c) ls) (hl : ls.length ≤ 17592186043904) (hr : ∀ l ∈ ls, l.length ≤ 17592186043904) : n = ls.length ∧ Lists W A ls := by
  obtain ⟨A', c', e, _, hi⟩ := h.lists hl hr
  cases e
  exact ⟨rfl, hi⟩
/-- Between two changes. -/
def PI (X0 X4 : World) (d : Nat) (B : Option Addr) (m : List Int) (c' q nb : Nat) (T : Treaty) (v : Value) (W : World) : Prop :=
  ∃ F, SV T F ∧ DeckAt X0 d B m c' q W ∧ X4.grownBy W (some d) ∧ OwnLists W nb v F

theorem tc_cells {X : World} {D : Nat} {T : Treaty} {a1 a2 a3 a4 : Option Addr} {c1 c2 c3 c4 : Nat} (h : Blk X D 27 #[.int .i64 T.places, .slice a1 T.ways.length c1, .slice a2 T.words.length c2, .slice a3 T.starts.length c3, .slice a4 T.legs.length c4]) :
    X.cell? ⟨D, 0, none⟩ = some (.int .i64 T.places) ∧ X.cell? ⟨D, 1, none⟩ = some (.slice a1 T.ways.length c1) ∧ X.cell? ⟨D, 2, none⟩ = some (.slice a2 T.words.length c2) ∧ X.cell? ⟨D, 3, none⟩ = some (.slice a3 T.starts.length c3) ∧ X.cell? ⟨D, 4, none⟩ = some (.slice a4 T.legs.length c4) :=
  ⟨h.cell 0, h.cell 1, h.cell 2, h.cell 3, h.cell 4⟩

set_option maxRecDepth 100000 in
set_option maxHeartbeats 4000000 in
theorem proved_any (w : World) (A B : Option Addr) (l m : List Int) (c c' : Nat) (hA : Bytes w A l) (hB : Bytes w B m) : Calls Try.prog 5 #[.slice A l.length c, .slice B m.length c'] w fun e w' => e = .returned (.bool true) ∧ Aft w w' := by
  have HA := Lib.hid hA
  have HB := Lib.hid hB
  clear hA hB
  go_enter Try.func5, Try.ntmps5
  (repeat (first | go_big_skip | go_big_want | go_big_move | go_big_op | go_step | go_upon | go_back))
  go_at_call 24
  refine (of_any A l c w HA.out).mono ?_
  rintro e x ⟨rfl, hdk⟩
  dsimp only
  have HDK := Lib.hid hdk
  clear hdk
  (repeat (first | go_big_skip | go_big_want | go_big_move | go_big_op | go_step | go_upon | go_back))
  go_at_call 25
  refine (made_any w w.heap.size A l c 0 x HDK.out (by omega) 10 (by omega)).mono ?_
  rintro e y ⟨T, a1, a2, a3, a4, c1, c2, c3, c4, rfl, hok, hdk, hgr, htr⟩
  dsimp only
  have HOK := Lib.hid hok
  have ha := Aft.alloc y (.cells #[.int .i64 T.places, .slice a1 T.ways.length c1, .slice a2 T.words.length c2, .slice a3 T.starts.length c3, .slice a4 T.legs.length c4] 27)
  have HDK := Lib.hid (hdk.aft ha)
  have HTR := Lib.hid (htr.grown (only_of_aft ha _))
  have hb := Blk.new y 27 #[.int .i64 T.places, .slice a1 T.ways.length c1, .slice a2 T.words.length c2, .slice a3 T.starts.length c3, .slice a4 T.legs.length c4]
  have hD : w.heap.size < y.heap.size := hdk.lt
  clear hok hdk hgr htr ha
  go_upto_region 3 with fail
  generalize y.alloc (.cells #[.int .i64 T.places, .slice a1 T.ways.length c1, .slice a2 T.words.length c2, .slice a3 T.starts.length c3, .slice a4 T.legs.length c4] 27) = Y at *
  generalize y.heap.size = D at *
  have hlt := hb.lt
  obtain ⟨k0, k1, k2, k3, k4⟩ := tc_cells hb
  have HBX := Lib.hid hb
  clear hb
  (repeat (first | go_big_skip | go_big_want | go_big_move | go_big_op | go_step | go_upon | go_back))
  go_at_call 26
  have hwl : ∀ x ∈ T.words, 1 ≤ x.length ∧ x.length ≤ 1000 := fun x hx => by have := HOK.out.wlen x hx; omega
  have hnw : T.words.length ≤ 1000 := by have := HOK.out.nwords; omega
  refine (read26_any w w.heap.size A l c 1000 T a1 a2 a3 a4 c1 c2 c3 c4 Y (HDK.out.more (by omega)) HTR.out (by omega) hnw hwl).mono ?_
  rintro e X0 ⟨vR, R, rfl, hown, hlen, hin, hdk, hgr⟩
  dsimp only
  have hRl : R.length ≤ 17592186043904 := by omega
  obtain ⟨AR, cR, rfl, _, hri⟩ := own_ints hown hRl
  have HRE : Hid (readE T R = 0) := Lib.hid (readE_zero.2 ⟨HOK.out.check, hlen, hin⟩)
  have HR := Lib.hid hri
  have HT := Lib.hid (HTR.out.grown hgr).rep
  have HBX := Lib.hid (HBX.out.grown hgr (fun e => by injection e with e; omega))
  have HAW := Lib.hid hdk.dealt
  have HB0 : Hid (Bytes X0 B m) := Lib.hid (HB.out.aft hdk.dealt)
  clear hwl hnw hown hlen hin hdk hgr hRl hri hlt k0 k1 k2 k3 k4 HB HDK HTR hD
  (repeat (first | go_big_skip | go_big_want | go_big_move | go_big_op | go_step | go_upon | go_back))
  go_at_call 24
  refine (of_any B m c' X0 HB0.out).mono ?_
  rintro e X1 ⟨rfl, hdk⟩
  dsimp only
  have ha := hdk.dealt
  have hb := HBX.out.aft ha
  have HDK := Lib.hid hdk
  have HDK0 := HDK
  have hlt := hb.lt
  obtain ⟨k0, k1, k2, k3, k4⟩ := tc_cells hb
  have HA1 := Lib.hid ha
  clear hb hdk ha
  (repeat (first | go_big_skip | go_big_want | go_big_move | go_big_op | go_step | go_upon | go_back))
  go_at_call 29
  refine (floorsX_any X1 T a1 a2 a3 a4 c1 c2 c3 c4 R AR cR (HT.out.aft HA1.out) (HR.out.aft HA1.out)).mono ?_
  rintro e X2 ⟨ha, ⟨h, -⟩ | ⟨-, vF, rfl, hown⟩⟩
  · exact absurd HRE.out h
  dsimp only
  have hok := HOK.out
  have HSV : Hid (SV T (floorsL T R)) := Lib.hid (SV.floors R (by have := hok.p1; omega))
  obtain ⟨hf1, hf2⟩ := HSV.out.small hok.nlegs (by have := hok.p2; omega)
  have hfl := floorsL_len T R
  obtain ⟨AF, cF, rfl, -, hls⟩ := hown.lists hf1 hf2
  rw [hfl] at *
  have HLS := Lib.hid hls
  have HOF := Lib.hid hown
  have HDK := Lib.hid (HDK.out.aft ha)
  have ha2 := HA1.out.trans ha
  have hb := HBX.out.aft ha2
  clear hlt k0 k1 k2 k3 k4 HA1
  have HA2 := Lib.hid ha2
  have hlt := hb.lt
  obtain ⟨k0, k1, k2, k3, k4⟩ := tc_cells hb
  have hd2 : X0.heap.size < X1.heap.size := HDK0.out.lt
  clear hb ha ha2 hls hown hok hf1 hf2
  (repeat (first | go_big_skip | go_big_want | go_big_move | go_big_op | go_step | go_upon | go_back))
  go_at_call 27
  refine (yield_any X2 T a1 a2 a3 a4 c1 c2 c3 c4 R AR cR (HT.out.aft HA2.out) (HR.out.aft HA2.out)).mono ?_
  rintro e X3 ⟨ha, ⟨h, -⟩ | ⟨-, vY, rfl, hown⟩⟩
  · exact absurd HRE.out h
  dsimp only
  have hyl : (yieldL T (leadsF T R)).length ≤ 10 := by
    unfold yieldL
    rw [List.length_reverse]
    exact Nat.le_trans (yl_le _ _ _ _) HOK.out.nlegs
  obtain ⟨AY, cY, rfl, _, _⟩ := own_ints hown (by omega)
  have HLS := Lib.hid (HLS.out.aft ha)
  have HOF := Lib.hid (HOF.out.aft ha)
  have HDK := Lib.hid (HDK.out.aft ha)
  have ha2 := HA2.out.trans ha
  have hb := HBX.out.aft ha2
  clear hlt k0 k1 k2 k3 k4 HA2 hown
  have HA2 := Lib.hid ha2
  have hlt := hb.lt
  obtain ⟨k0, k1, k2, k3, k4⟩ := tc_cells hb
  clear hb ha ha2
  (repeat (first | go_big_skip | go_big_want | go_big_move | go_big_op | go_step | go_upon | go_back))
  go_at_call 30
  have HP := Lib.hid (proves_any (c1 := c1) (c2 := c2) (c3 := c3) (c4 := c4) X3 T a1 a2 a3 a4 R AR cR (floorsL T R) AF cF (HT.out.aft HA2.out) (HR.out.aft HA2.out) HLS.out)
  rw [floorsL_len T R] at HP
  refine HP.out.mono ?_
  rintro e X4 ⟨ha, rfl⟩
  dsimp only
  rw [provesN_floors HRE.out, provesE_floors HRE.out]
  generalize hny0 : (yieldL T (leadsF T R)).length = ny at *
  have HNY := Lib.hid hny0
  clear hny0
  have HLS := Lib.hid (HLS.out.aft ha)
  have HOF := Lib.hid (HOF.out.aft ha)
  have HDK := Lib.hid (HDK.out.aft ha)
  have ha2 := HA2.out.trans ha
  have hb := HBX.out.aft ha2
  clear hlt k0 k1 k2 k3 k4 HA2 HP
  have HA2 := Lib.hid ha2
  have hlt := hb.lt
  obtain ⟨k0, k1, k2, k3, k4⟩ := tc_cells hb
  clear hb ha ha2
  have hll := HOK.out.nlegs
  have hwr : wrap64 ((T.legs.length : Int) + 1) = T.legs.length + 1 := by unfold wrap64; omega
  have hne : ((T.legs.length : Int) + 1 != wrap64 ((T.legs.length : Int) + 1)) = false := by rw [hwr]; simp
  (repeat (first | go_big_skip | go_big_want | go_big_move | go_big_op | go_step | go_upon | go_back))
  have hN := HDK.out.lt
  have HX0 : Hid (DeckAt X0 X0.heap.size B m c' (13 * 0) X4 ∧ X4.grownBy X4 (some X0.heap.size)) := Lib.hid ⟨HDK.out.more (by omega), only_refl _ _⟩
  have hdD : D < X0.heap.size := HBX.out.lt
  have hdb : ∀ k, some X0.heap.size = some k → k < X1.heap.size := fun k e => by cases e; exact hd2
  clear hlt k0 k1 k2 k3 k4 HDK HA2 HLS
  go_loopw [72] (fun i wr => ∃ k : Nat, i = .int .i64 k ∧ k ≤ 8 ∧ DeckAt X0 X0.heap.size B m c' (13 * k) wr ∧ X4.grownBy wr (some X0.heap.size)) (fun i _ => 8 - (intOf i).toNat)
  case atStart => exact ⟨0, rfl, by omega, HX0.out⟩
  case round =>
    obtain ⟨k, rfl, hk, hdk, hgr⟩ := hrel
    have HOFw := Lib.hid (HOF.out.keptb hgr hdb)
    obtain ⟨hf1, hf2⟩ := HSV.out.small hll (by have := HOK.out.p2; omega)
    have HLS := Lib.hid (HOFw.out.lists' hf1 hf2).2
    have hb := HBX.out.aft hdk.dealt
    have hlt := hb.lt
    obtain ⟨k0, k1, k2, k3, k4⟩ := tc_cells hb
    have HDK := Lib.hid hdk
    have HDKr := HDK
    have HGR := Lib.hid hgr
    have hX4 := hgr.size
    clear hb hdk hgr HX0 hf1 hf2
    by_cases hkn : k < 8
    · have hdec : decide ((k : Int) < 8) = true := by simp; omega
      have HC := cloneAll_any wr AF (floorsL T R) cF HLS.out (by rw [floorsL_len]; omega)
      rw [floorsL_len] at HC
      have HC := Lib.hid HC
      (repeat (first | go_big_skip | go_big_want | go_big_move | go_big_op | go_step | go_upon | go_back))
      go_at_call 31
      refine HC.out.mono ?_
      rintro e xc ⟨vC, rfl, hown, ha⟩
      dsimp only
      obtain ⟨hf1, hf2⟩ := HSV.out.small hll (by have := HOK.out.p2; omega)
      obtain ⟨vs0, hown0⟩ := hown
      obtain ⟨gC, cC, rfl⟩ := own_form hown0.own (by rw [floorsL_len]; omega)
      rw [floorsL_len] at hown0
      have HOC := Lib.hid hown0
      have HDK := Lib.hid (HDK.out.aft ha)
      have HGR := Lib.hid (only_aft HGR.out ha)
      rw [floorsL_len]
      clear hown0 hf1 hf2 ha HC HLS HOFw
      (repeat (first | go_big_skip | go_big_want | go_big_move | go_big_op | go_step | go_upon | go_back))
      go_at_call 32
      refine (between_any X0 X0.heap.size B m c' (13 * k) 1 4 xc HDK.out (by omega) (by omega) (by omega) (by omega)).mono ?_
      rintro e xn ⟨nn, rfl, g1, g2, hdk, hgr⟩
      dsimp only
      obtain ⟨nn, rfl⟩ := Int.eq_ofNat_of_zero_le (show 0 ≤ nn by omega)
      have hdc : X0.heap.size < wr.heap.size := HDKr.out.lt
      have hdcb : ∀ k, some X0.heap.size = some k → k < wr.heap.size := fun k e => by cases e; exact hdc
      have HPI : Hid (PI X0 X4 X0.heap.size B m c' (13 * k + 1 + 3 * 0) wr.heap.size T (.slice (some ⟨gC, 0, none⟩) (T.legs.length + 1) cC) xn) := Lib.hid ⟨floorsL T R, HSV.out, hdk, HGR.out.trans hgr, ⟨vs0, HOC.out.keptb hgr hdcb⟩⟩
      clear hdk hgr HOC HDK HGR hlt k0 k1 k2 k3 k4
      (repeat (first | go_big_skip | go_big_want | go_big_move | go_big_op | go_step | go_upon | go_back))
      go_loopw [78] (fun i wq => ∃ k2 : Nat, i = .int .i64 k2 ∧ k2 ≤ nn ∧ PI X0 X4 X0.heap.size B m c' (13 * k + 1 + 3 * k2) wr.heap.size T (.slice (some ⟨gC, 0, none⟩) (T.legs.length + 1) cC) wq) (fun i _ => nn - (intOf i).toNat)
      case atStart => exact ⟨0, rfl, by omega, HPI.out⟩
      case round =>
        obtain ⟨k2, rfl, hk2, F, hsv, hdk, hgr, vs, hown⟩ := hrel
        have HSF := Lib.hid hsv
        have HDK := Lib.hid hdk
        have HGR := Lib.hid hgr
        have HOW := Lib.hid hown
        have hFl := hsv.len
        clear hsv hdk hgr hown HPI
        by_cases hkn2 : k2 < nn
        · have hdec2 : decide ((k2 : Int) < (nn : Int)) = true := by simp; omega
          have hi0 : (0 : Int) ≤ (T.legs.length : Int) + 1 := by omega
          (repeat (first | go_big_skip | go_big_want | go_big_move | go_big_op | go_step | go_upon | go_back))
          go_at_call 33
          refine (draw_any X0 X0.heap.size B m c' _ ((T.legs.length : Int) + 1) _ HDK.out (by omega) (by omega) (by omega)).mono ?_
          rintro e y1 ⟨r, rfl, g3, g4, hdk, hgr⟩
          dsimp only
          obtain ⟨r, rfl⟩ := Int.eq_ofNat_of_zero_le g3
          have hr : r < F.length := by omega
          have how := HOW.out.keptb hgr hdcb
          have hv : r < vs.length := by rw [how.len]; exact hr
          have hrow := HSF.out.row hr
          obtain ⟨g, cg, eg, hfz, hgb, hgl, hcl⟩ := how.rowAt hr hv (by have := HOK.out.p1; omega)
          have cr := how.cellAt hv
          rw [eg] at cr
          have i1 : (0 : Int) ≤ (r : Int) ∧ (r : Int) < ((T.legs.length + 1 : Nat) : Int) := by omega
          have i2 : (0 : Int) ≤ (r : Int) ∧ (r : Int) < (T.legs.length : Int) + 1 := by omega
          have HDK := Lib.hid hdk
          have HGR := Lib.hid (HGR.out.trans hgr)
          have HOW := Lib.hid how
          have hb := HBX.out.aft hdk.dealt
          have hlt := hb.lt
          obtain ⟨k0, k1, k2', k3, k4⟩ := tc_cells hb
          have hne2 : ((F[r].length : Int) != T.places) = false := by rw [hrow]; simp
          clear hb hdk hgr how
          (repeat (first | go_big_skip | go_big_want | go_big_move | go_big_op | go_step | go_upon | go_back))
          go_at_call 33
          refine (draw_any X0 X0.heap.size B m c' _ T.places _ HDK.out (by omega) (by have := HOK.out.p1; omega) (by have := HOK.out.p2; omega)).mono ?_
          rintro e y2 ⟨j, rfl, g5, g6, hdk, hgr⟩
          dsimp only
          obtain ⟨j, rfl⟩ := Int.eq_ofNat_of_zero_le g5
          have how := HOW.out.keptb hgr hdcb
          have HDK := Lib.hid hdk
          have HGR := Lib.hid (HGR.out.trans hgr)
          have HOW := Lib.hid how
          clear how hdk hgr hlt k0 k1 k2' k3 k4 hfz cr hcl
          (repeat (first | go_big_skip | go_big_want | go_big_move | go_big_op | go_step | go_upon | go_back))
          go_at_call 33
          refine (draw_any X0 X0.heap.size B m c' _ 12 _ HDK.out (by omega) (by omega) (by omega)).mono ?_
          rintro e y3 ⟨x, rfl, g7, g8, hdk, hgr⟩
          dsimp only
          have how := HOW.out.keptb hgr hdcb
          have HDK := Lib.hid hdk
          have HGR := Lib.hid (HGR.out.trans hgr)
          have HOW := Lib.hid how
          have hjl : j < F[r].length := by have := HOK.out.p1; omega
          obtain ⟨g', cg', eg', hfz, hgb', hgl, hcl⟩ := how.rowAt hr hv (by omega)
          rw [eg] at eg'
          cases eg'
          have cj := hcl j hjl
          have fj := hfz j
          have i3 : (0 : Int) ≤ (j : Int) ∧ (j : Int) < (F[r].length : Int) := by omega
          have i4 : (0 : Int) ≤ (j : Int) ∧ (j : Int) < T.places := by omega
          clear how hdk hgr hcl hfz
          (repeat (first | go_big_skip | go_big_want | go_big_move | go_big_op | go_step | go_upon | go_back))
          have hgs := setc y3 g j (.int .i64 x)
          have hgx : ∀ q, some g = some q → X0.heap.size < q := fun q e => by cases e; omega
          refine ⟨⟨k2 + 1, by go_num, by omega, F.set r (F[r].set j x), HSF.out.set hr g7 (by omega), (HDK.out.grown hgs hgx).more (by omega), only_grown HGR.out hgs (fun q e => by cases e; omega), vs, HOW.out.set hr hv eg j x⟩, by simp [intOf]; omega⟩
        · have hdec2 : decide ((k2 : Int) < (nn : Int)) = false := by simp; omega
          have hb := HBX.out.aft HDK.out.dealt
          have hlt := hb.lt
          obtain ⟨k0, k1, k2', k3, k4⟩ := tc_cells hb
          obtain ⟨hf1, hf2⟩ := HSF.out.small hll (by have := HOK.out.p2; omega)
          have hls := (OwnLists.lists' ⟨vs, HOW.out⟩ hf1 hf2).2
          have HC := proves_any (c1 := c1) (c2 := c2) (c3 := c3) (c4 := c4) (cF := cC) _ T a1 a2 a3 a4 R AR cR F _ (HT.out.aft HDK.out.dealt) (HR.out.aft HDK.out.dealt) hls
          rw [hFl] at HC
          have HC := Lib.hid HC
          clear hb hls hf1 hf2 HOW
          (repeat (first | go_big_skip | go_big_want | go_big_move | go_big_op | go_step | go_upon | go_back))
          go_at_call 30
          refine HC.out.mono ?_
          rintro e z ⟨ha, rfl⟩
          dsimp only
          have HDK := Lib.hid (HDK.out.aft ha)
          have HGR := Lib.hid (only_aft HGR.out ha)
          have hE := provesE_two HRE.out HSF.out
          have HN : Hid (provesE T R F = 0 → provesN T R F ≤ ny) := Lib.hid (fun h => by have := provesN_le (F := F) HRE.out HSF.out h; rw [HNY.out] at this; exact this)
          clear ha HC hlt k0 k1 k2' k3 k4
          rcases hE with hE | hE
          · have hN := HN.out hE
            rw [hE]
            generalize provesN T R F = N at *
            have hgt : decide ((ny : Int) < N) = false := by simp; omega
            (repeat (first | go_big_skip | go_big_want | go_big_move | go_big_op | go_step | go_upon | go_back))
            exact ⟨⟨k + 1, by go_num, by omega, HDK.out.more (by omega), HGR.out⟩, by simp [intOf]; omega⟩
          · rw [hE]
            (repeat (first | go_big_skip | go_big_want | go_big_move | go_big_op | go_step | go_upon | go_back))
            exact ⟨⟨k + 1, by go_num, by omega, HDK.out.more (by omega), HGR.out⟩, by simp [intOf]; omega⟩
    · have hdec : decide ((k : Int) < 8) = false := by simp; omega
      obtain ⟨vs, hown⟩ := HOFw.out
      have hfl := HSV.out.len
      clear k0 k1 k2 k4 HLS HOF HOFw HNY
      have HSV' := HSV
      generalize floorsL T R = FL at *
      have h0l : 0 < FL.length := by omega
      have h0v : 0 < vs.length := by rw [hown.len]; exact h0l
      have hrow := HSV.out.row h0l
      have hp1 := HOK.out.p1
      have hp2 := HOK.out.p2
      obtain ⟨gF, cF', eF⟩ := own_form hown.own h0l
      rw [hfl] at eF
      cases eF
      have HOW := Lib.hid hown
      obtain ⟨g, cg, eg, hfz, hgb, hgl, hcl⟩ := hown.rowAt h0l h0v (by omega)
      have hs1 := HOK.out.nstarts
      have hs2 := HOK.out.nstarts2
      have hst : ∀ x ∈ T.starts, 0 ≤ x ∧ x < FL[0].length := fun x hx => by have := HOK.out.starts x hx; omega
      clear hown hfz hcl hlt k3
      go_wp2_with fail
      refine region24_lit X0 X0.heap.size B m c' (13 * k) X1.heap.size T a1 a2 a3 a4 c1 c2 c3 c4 D gF (T.legs.length + 1) cF g cg vs FL h0l h0v HT.out HBX.out (by omega) hs1 (by omega) hst (by omega) eg hd2 wr HDK.out HOW.out _ _ _ _ _ _ _ _ _ _ _ _ _ _ _ _ _ _ _ _ _ _ _ _ _ _ _ _ _ _ _ _ _ _ _ _ _ _ _ _ _ _ _ _ _ _ _ _ _ _ _ _ _ _ _ _ _ _ _ _ _ _ _ _ _ _ _ _ _ _ _ _ _ _ _ _ _ _ _ _ _ _ _ _ _ _ _ _ _ _ _ _ _ _ _ _ _ _ _ _ _ _ _ _ _ _ _ _ _ _ _ _ _ _ _ _ _ _ _ _ _ _ _ _ _ _ _ _ _ _ _ _ _ _ _ _ _ _ _ _ _ _ _ _ _ _ _ ?_
      intro u124 u125 u126 u127 u128 u129 u130 u131 u132 u133 u134 u135 u136 z st hdz hmem how
      have hsv := HSV'.out.set h0l (j := st) (show (0 : Int) ≤ 1 by decide) (show (1 : Int) ≤ 11 by decide)
      have hsl : st < FL[0].length := by have := (hst _ hmem).2; omega
      have hce : cellF (FL.set 0 (FL[0].set st 1)) 0 (st : Int).toNat ≠ 0 := by
        rw [Int.toNat_natCast, cellF_eq (by simpa using h0l) (by simpa using hsl)]
        simp
      have hpe : provesE T R (FL.set 0 (FL[0].set st 1)) = 9 := provesE_start HRE.out hsv (s := (st : Int)) hmem hce
      have hlen := hsv.len
      generalize FL.set 0 (FL[0].set st 1) = FZ at *
      have hb := HBX.out.aft hdz.dealt
      have hlt := hb.lt
      obtain ⟨k0, k1, k2', k3, k4⟩ := tc_cells hb
      obtain ⟨hf1, hf2⟩ := hsv.small hll (by omega)
      have hls := (OwnLists.lists' ⟨vs, how⟩ hf1 hf2).2
      have HC2 := proves_any (c1 := c1) (c2 := c2) (c3 := c3) (c4 := c4) (cF := cF) _ T a1 a2 a3 a4 R AR cR FZ _ (HT.out.aft hdz.dealt) (HR.out.aft hdz.dealt) hls
      rw [hlen] at HC2
      have HC2 := Lib.hid HC2
      have HAZ := Lib.hid (HAW.out.trans hdz.dealt)
      clear hb hls hf1 hf2 how hdz hsv hce hst hmem hsl
      (repeat (first | go_big_skip | go_big_want | go_big_move | go_big_op | go_step | go_upon | go_back))
      go_at_call 30
      refine HC2.out.mono ?_
      rintro e z2 ⟨ha, rfl⟩
      dsimp only
      rw [hpe]
      generalize provesN T R FZ = N at *
      (repeat (first | go_big_skip | go_big_want | go_big_move | go_big_op | go_step | go_upon | go_back))
      go_at_call 9
      refine (awake_any _).mono ?_
      rintro e z3 ⟨rfl, ha2⟩
      dsimp only
      (repeat (first | go_big_skip | go_big_want | go_big_move | go_big_op | go_step | go_upon | go_back))
      go_ret
      exact ⟨rfl, (HAZ.out.trans ha).trans ha2⟩
end Go.Proofs
end
