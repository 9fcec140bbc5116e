/- Own texts, merged: Rrl. -/
import Derived.Test.YtfliejmidnnggaaL17
section
/- Walks: the reference: Lines and Breaks. -/
namespace Go.Proofs
open Go.RowKit
attribute [local go_sem] Oper.semAt_some

set_option maxRecDepth 100000 in
set_option maxHeartbeats 4000000 in
theorem linesTopRef (HCK : CheckC) (w : World) (T : Treaty) (a1 a2 a3 a4 : Option Addr) (c1 c2 c3 c4 : Nat) (R : List Int) (AR : Option Addr) (cR : Nat) (hT : TRep w T a1 a2 a3 a4) (hR : Ints w AR R) :
    Calls Try.prog 16 #[.agg #[.int .i64 T.places, .slice a1 T.ways.length c1, .slice a2 T.words.length c2, .slice a3 T.starts.length c3, .slice a4 T.legs.length c4], .slice AR R.length cR] w (LinesR w T R) := by
  have HRD := Lib.hid (fun (y : World) (hy : Aft w y) => readingRef_any HCK y T a1 a2 a3 a4 c1 c2 c3 c4 R AR cR (hT.aft hy) (hR.aft hy))
  have HLN := Lib.hid (fun (y : World) (hy : Aft w y) (h : readE T R = 0) => linesRef_any y T a1 a2 a3 a4 c1 c2 c3 c4 R AR cR (hT.aft hy) (hR.aft hy) (readE_zero.1 h).1 (readE_zero.1 h).2)
  clear hT hR HCK
  go_enter Try.func16, Try.ntmps16
  go_upto_region 1 with fail
  have hb := Blk.new w 36 #[.int .i64 T.places, .slice a1 T.ways.length c1, .slice a2 T.words.length c2, .slice a3 T.starts.length c3, .slice a4 T.legs.length c4]
  have ha := Aft.alloc w (.cells #[.int .i64 T.places, .slice a1 T.ways.length c1, .slice a2 T.words.length c2, .slice a3 T.starts.length c3, .slice a4 T.legs.length c4] 36)
  generalize w.alloc (.cells #[.int .i64 T.places, .slice a1 T.ways.length c1, .slice a2 T.words.length c2, .slice a3 T.starts.length c3, .slice a4 T.legs.length c4] 36) = X at *
  have HB := Lib.hid hb
  have HA := Lib.hid ha
  have hsz := ha.size
  have k0 : X.cell? ⟨w.heap.size, 0, none⟩ = some (.int .i64 T.places) := hb.cell 0
  have k1 : X.cell? ⟨w.heap.size, 1, none⟩ = some (.slice a1 T.ways.length c1) := hb.cell 1
  have k2 : X.cell? ⟨w.heap.size, 2, none⟩ = some (.slice a2 T.words.length c2) := hb.cell 2
  have k3 : X.cell? ⟨w.heap.size, 3, none⟩ = some (.slice a3 T.starts.length c3) := hb.cell 3
  have k4 : X.cell? ⟨w.heap.size, 4, none⟩ = some (.slice a4 T.legs.length c4) := hb.cell 4
  clear hb ha
  (repeat (first | go_big_skip | go_big_want | go_big_move | go_big_op | go_step | go_upon | go_back))
  go_at_call 65
  refine (HRD.out X HA.out).mono ?_
  rintro e Y ⟨rfl, haY⟩
  dsimp only
  have HAY := Lib.hid haY
  have hBw := HB.out.aft haY
  clear k0 k1 k2 k3 k4
  by_cases hre : readE T R = 0
  · have HRE := Lib.hid hre
    have k0 : Y.cell? ⟨w.heap.size, 0, none⟩ = some (.int .i64 T.places) := hBw.cell 0
    have k1 : Y.cell? ⟨w.heap.size, 1, none⟩ = some (.slice a1 T.ways.length c1) := hBw.cell 1
    have k2 : Y.cell? ⟨w.heap.size, 2, none⟩ = some (.slice a2 T.words.length c2) := hBw.cell 2
    have k3 : Y.cell? ⟨w.heap.size, 3, none⟩ = some (.slice a3 T.starts.length c3) := hBw.cell 3
    have k4 : Y.cell? ⟨w.heap.size, 4, none⟩ = some (.slice a4 T.legs.length c4) := hBw.cell 4
    have hszY := haY.size
    have d0 : ((0 : Int) != 0) = false := by decide
    rw [hre]
    clear hre hBw haY
    (repeat (first | go_big_skip | go_big_want | go_big_move | go_big_op | go_step | go_upon | go_back))
    go_at_call 66
    refine (HLN.out Y (HA.out.trans HAY.out) HRE.out).mono ?_
    rintro e Z ⟨v, all, rfl, haZ, hol, hle1, hle2, hle3⟩
    obtain ⟨vs, hls⟩ := hol
    obtain ⟨sA, sc, rfl⟩ := own_slice2 hls.own
    dsimp only
    have HLS := Lib.hid hls
    have HAZ := Lib.hid haZ
    clear k0 k1 k2 k3 k4 haZ hls
    by_cases h200 : all.length ≤ 200
    · have HE := Lib.hid (hle1 h200)
      have d1 : decide ((200 : Int) < (all.length : Int)) = false := decide_eq_false (by omega)
      have d2 : decide (200 < all.length) = false := decide_eq_false (by omega)
      have HL0 : Hid (linesE T R = 0) := Lib.hid (by unfold linesE; rw [if_pos HRE.out, HE.out, if_pos h200])
      clear hle1 hle2 h200
      (repeat (first | go_big_skip | go_big_want | go_big_move | go_big_op | go_step | go_upon | go_back))
      go_ret2
      refine ⟨HA.out.trans (HAY.out.trans HAZ.out), .inr ⟨HL0.out, _, rfl, ?_⟩⟩
      rw [HE.out]
      exact (show OwnLists _ _ _ _ from ⟨_, HLS.out⟩).mono (Nat.le_trans hsz hszY)
    · have HE := Lib.hid (hle2 (by omega))
      have d1 : decide ((200 : Int) < (all.length : Int)) = true := decide_eq_true (by omega)
      have d2 : decide (200 < all.length) = true := decide_eq_true (by omega)
      have HL0 : Hid (linesE T R = 11) := Lib.hid (by unfold linesE; rw [if_pos HRE.out, if_neg (by have := HE.out; omega)])
      clear hle1 hle2 h200
      (repeat (first | go_big_skip | go_big_want | go_big_move | go_big_op | go_step | go_upon | go_back))
      go_ret2
      refine ⟨HA.out.trans (HAY.out.trans HAZ.out), .inl ⟨by rw [HL0.out]; decide, ?_⟩⟩
      rw [HL0.out]; rfl
  · have HL0 : Hid (linesE T R = readE T R) := Lib.hid (by unfold linesE; rw [if_neg hre])
    have HNZ := Lib.hid hre
    have hz : (readE T R != 0) = true := by rw [bne_iff_ne]; exact hre
    clear hre hBw haY
    generalize readE T R = ce at *
    (repeat (first | go_big_skip | go_big_want | go_big_move | go_big_op | go_step | go_upon | go_back))
    go_ret2
    exact ⟨HA.out.trans HAY.out, .inl ⟨by rw [HL0.out]; exact HNZ.out, by rw [HL0.out]; rfl⟩⟩

set_option maxRecDepth 100000 in
set_option maxHeartbeats 4000000 in
theorem breaksTopRef (HCK : CheckC) (w : World) (T : Treaty) (a1 a2 a3 a4 : Option Addr) (c1 c2 c3 c4 : Nat) (R : List Int) (AR : Option Addr) (cR : Nat) (l : List Int) (Al : Option Addr) (cl : Nat) (hT : TRep w T a1 a2 a3 a4) (hR : Ints w AR R) (hl : Ints w Al l) :
    Calls Try.prog 19 #[.agg #[.int .i64 T.places, .slice a1 T.ways.length c1, .slice a2 T.words.length c2, .slice a3 T.starts.length c3, .slice a4 T.legs.length c4], .slice AR R.length cR, .slice Al l.length cl] w (BreaksR w T R l) := by
  have HRD := Lib.hid (fun (y : World) (hy : Aft w y) => readingRef_any HCK y T a1 a2 a3 a4 c1 c2 c3 c4 R AR cR (hT.aft hy) (hR.aft hy))
  have HBK := Lib.hid (fun (y : World) (hy : Aft w y) (h : readE T R = 0) (h2 : linedB T l = true) => brokenRef_any y T a1 a2 a3 a4 c1 c2 c3 c4 R AR cR l Al cl (hT.aft hy) (hR.aft hy) (hl.aft hy) (checkE_ok (readE_zero.1 h).1) (readE_zero.1 h).2 h2)
  have HLI := Lib.hid (fun (y : World) (hy : Aft w y) (h : readE T R = 0) => lined70 y T a1 a2 a3 a4 c1 c2 c3 c4 l Al cl (hl.aft hy) (checkE_ok (readE_zero.1 h).1).p1 (checkE_ok (readE_zero.1 h).1).p2 (checkE_ok (readE_zero.1 h).1).nlegs)
  have HST := Lib.hid hT.starts
  have HL := Lib.hid hl
  clear hT hR HCK hl
  go_enter Try.func19, Try.ntmps19
  go_upto_region 1 with fail
  have hb := Blk.new w 36 #[.int .i64 T.places, .slice a1 T.ways.length c1, .slice a2 T.words.length c2, .slice a3 T.starts.length c3, .slice a4 T.legs.length c4]
  have ha := Aft.alloc w (.cells #[.int .i64 T.places, .slice a1 T.ways.length c1, .slice a2 T.words.length c2, .slice a3 T.starts.length c3, .slice a4 T.legs.length c4] 36)
  generalize w.alloc (.cells #[.int .i64 T.places, .slice a1 T.ways.length c1, .slice a2 T.words.length c2, .slice a3 T.starts.length c3, .slice a4 T.legs.length c4] 36) = X at *
  have HB := Lib.hid hb
  have HA := Lib.hid ha
  have hsz := ha.size
  have k0 : X.cell? ⟨w.heap.size, 0, none⟩ = some (.int .i64 T.places) := hb.cell 0
  have k1 : X.cell? ⟨w.heap.size, 1, none⟩ = some (.slice a1 T.ways.length c1) := hb.cell 1
  have k2 : X.cell? ⟨w.heap.size, 2, none⟩ = some (.slice a2 T.words.length c2) := hb.cell 2
  have k3 : X.cell? ⟨w.heap.size, 3, none⟩ = some (.slice a3 T.starts.length c3) := hb.cell 3
  have k4 : X.cell? ⟨w.heap.size, 4, none⟩ = some (.slice a4 T.legs.length c4) := hb.cell 4
  clear hb ha
  (repeat (first | go_big_skip | go_big_want | go_big_move | go_big_op | go_step | go_upon | go_back))
  go_at_call 65
  refine (HRD.out X HA.out).mono ?_
  rintro e Y ⟨rfl, haY⟩
  dsimp only
  have HAY := Lib.hid haY
  have hBw := HB.out.aft haY
  have HAW := Lib.hid (HA.out.trans haY)
  clear k0 k1 k2 k3 k4
  by_cases hre : readE T R = 0
  · have HRE := Lib.hid hre
    have k0 : Y.cell? ⟨w.heap.size, 0, none⟩ = some (.int .i64 T.places) := hBw.cell 0
    have k1 : Y.cell? ⟨w.heap.size, 1, none⟩ = some (.slice a1 T.ways.length c1) := hBw.cell 1
    have k2 : Y.cell? ⟨w.heap.size, 2, none⟩ = some (.slice a2 T.words.length c2) := hBw.cell 2
    have k3 : Y.cell? ⟨w.heap.size, 3, none⟩ = some (.slice a3 T.starts.length c3) := hBw.cell 3
    have k4 : Y.cell? ⟨w.heap.size, 4, none⟩ = some (.slice a4 T.legs.length c4) := hBw.cell 4
    have d0 : ((0 : Int) != 0) = false := by decide
    rw [hre]
    clear hre hBw haY
    (repeat (first | go_big_skip | go_big_want | go_big_move | go_big_op | go_step | go_upon | go_back))
    go_at_call 70
    refine (HLI.out Y HAW.out HRE.out).mono ?_
    rintro e Z ⟨rfl, haZ⟩
    dsimp only
    have HAZ := Lib.hid (HAW.out.trans haZ)
    have hBw := HB.out.aft (HAY.out.trans haZ)
    clear k0 k1 k2 k3 k4 haZ
    cases hli : linedB T l with
    | false =>
      have HE : Hid (breaksE T R l = 2) := Lib.hid (by unfold breaksE; rw [if_pos HRE.out, hli]; rfl)
      clear hli hBw
      (repeat (first | go_big_skip | go_big_want | go_big_move | go_big_op | go_step | go_upon | go_back))
      go_ret2
      refine ⟨HAZ.out, .inl ⟨by rw [HE.out]; decide, ?_⟩⟩
      rw [HE.out]; rfl
    | true =>
      have HLB := Lib.hid hli
      have h1 := (linedB_iff.1 hli).1
      have hl0 : 0 < l.length := by omega
      obtain ⟨bl, ol, rfl, hbl, hcl⟩ := (HL.out.aft HAZ.out).at hl0
      have g0 : Z.cell? ⟨bl, ol, none⟩ = some (.int .i64 l[0]) := by have := hcl 0 hl0; simpa using this
      have k3 : Z.cell? ⟨w.heap.size, 3, none⟩ = some (.slice a3 T.starts.length c3) := hBw.cell 3
      have i1 : (0 : Int) ≤ (0 : Int) ∧ (0 : Int) < (l.length : Int) := by omega
      have hgd : l.getD 0 0 = l[0] := by rw [List.getD_eq_getElem?_getD, List.getElem?_eq_getElem hl0]; rfl
      have HGD := Lib.hid hgd
      have hq : ∀ n, Calls Try.prog 71 #[.slice a3 T.starts.length c3, .int .i64 l[0]] (Z.drewN n) fun e w'' => e = .returned (.bool (hasB T.starts l[0])) ∧ ∃ m, w'' = Z.drewN m := fun n => (has_any _ _ _ _ _ (HST.out.aft (HAZ.out.then_drewN n))).mono fun e w' h => ⟨h.1, n, h.2⟩
      clear hcl hgd h1 hli
      generalize l[0] = l0 at *
      have hBZ := Lib.hid hBw
      clear hBw
      cases hst : hasB T.starts l0 with
      | false =>
        rw [hst] at hq
        have HQ := Lib.hid hq
        have HE : Hid (breaksE T R l = 9) := Lib.hid (by unfold breaksE; rw [if_pos HRE.out, HLB.out, if_pos rfl, HGD.out, hst]; rfl)
        clear hq hst
        (repeat (first | go_big_skip | go_big_want | go_big_move | go_big_op | go_step | go_upon | go_back))
        go_quiet (exact HQ.out _)
        (repeat (first | go_big_skip | go_big_want | go_big_move | go_big_op | go_step | go_upon | go_back))
        go_ret2
        refine ⟨HAZ.out.then_drewN _, .inl ⟨by rw [HE.out]; decide, ?_⟩⟩
        rw [HE.out]; rfl
      | true =>
        rw [hst] at hq
        have HQ := Lib.hid hq
        have HE : Hid (breaksE T R l = 0) := Lib.hid (by unfold breaksE; rw [if_pos HRE.out, HLB.out, if_pos rfl, HGD.out, hst]; rfl)
        clear hq hst
        (repeat (first | go_big_skip | go_big_want | go_big_move | go_big_op | go_step | go_upon | go_back))
        go_quiet (exact HQ.out _)
        generalize hu : Z.drewN _ = U at *
        have hAu : Aft Z U := by rw [← hu]; exact Aft.drewN _ _
        have HAU := Lib.hid (HAZ.out.trans hAu)
        have hBw := hBZ.out.aft hAu
        clear hu g0 k3 hAu
        have k0 : U.cell? ⟨w.heap.size, 0, none⟩ = some (.int .i64 T.places) := hBw.cell 0
        have k1 : U.cell? ⟨w.heap.size, 1, none⟩ = some (.slice a1 T.ways.length c1) := hBw.cell 1
        have k2 : U.cell? ⟨w.heap.size, 2, none⟩ = some (.slice a2 T.words.length c2) := hBw.cell 2
        have k3 : U.cell? ⟨w.heap.size, 3, none⟩ = some (.slice a3 T.starts.length c3) := hBw.cell 3
        have k4 : U.cell? ⟨w.heap.size, 4, none⟩ = some (.slice a4 T.legs.length c4) := hBw.cell 4
        clear hBw
        (repeat (first | go_big_skip | go_big_want | go_big_move | go_big_op | go_step | go_upon | go_back))
        go_at_call 72
        refine (HBK.out U HAU.out HRE.out HLB.out).mono ?_
        rintro e V ⟨v, rfl, haV, hown⟩
        obtain ⟨sA, sc, rfl⟩ := own_slice2 hown
        dsimp only
        have HOV := Lib.hid hown
        have HAV := Lib.hid haV
        have hszU := HAU.out.size
        clear k0 k1 k2 k3 k4 hown haV
        (repeat (first | go_big_skip | go_big_want | go_big_move | go_big_op | go_step | go_upon | go_back))
        go_ret2
        exact ⟨HAU.out.trans HAV.out, .inr ⟨HE.out, _, rfl, World.ownsRow.mono HOV.out hszU⟩⟩
  · have HL0 : Hid (breaksE T R l = readE T R) := Lib.hid (by unfold breaksE; rw [if_neg hre])
    have HNZ := Lib.hid hre
    have hz : (readE T R != 0) = true := by rw [bne_iff_ne]; exact hre
    clear hre hBw haY
    generalize readE T R = ce at *
    (repeat (first | go_big_skip | go_big_want | go_big_move | go_big_op | go_step | go_upon | go_back))
    go_ret2
    exact ⟨HAW.out, .inl ⟨by rw [HL0.out]; exact HNZ.out, by rw [HL0.out]; rfl⟩⟩
end Go.Proofs
end
