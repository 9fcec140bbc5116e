/- Own texts, merged: CtL9. -/
import Derived.Test.YtbchfakfdikkjaaGreatW01
import Derived.BigGuard
set_option linter.unusedSimpArgs false
set_option linter.unusedVariables false
set_option linter.unnecessarySimpa false
section
namespace Go.Proofs
open Go.RowKit
open Court (refL begF noS struckB nextR hears award Done HeldP winB FewIs)

set_option maxRecDepth 100000 in
set_option maxHeartbeats 16000000 in
theorem won_any (w : World) (A : Option Addr) (l : List Int) (c : Nat) (Am : Option Addr) (tr : List Int) (cm : Nat) (q0 : Nat) (hq0 : q0 ≤ 255) (hA : Bytes w A l) (hB : Bytes w Am tr) : Calls Tryz.prog 9 #[.slice A l.length c, .slice Am tr.length cm, .int .u8 q0] w fun e w' => e = .returned (.bool true) ∧ Aft w w' := by
  have HA := Lib.hid hA
  have HB := Lib.hid hB
  clear hA hB
  go_enter Tryz.func9, Tryz.ntmps9
  (repeat (first | go_big_skip | go_big_want | go_big_move | go_big_op | go_step | go_upon | go_back))
  go_at_call 37
  refine (of_any A l c w HA.out).mono ?_
  rintro e x ⟨rfl, hdk⟩
  dsimp only
  have HDK := Lib.hid hdk
  clear hdk
  (repeat (first | go_big_skip | go_big_want | go_big_move | go_big_op | go_step | go_upon | go_back))
  go_at_call 36
  refine (made_any w w.heap.size A l c 0 9 x HDK.out (by omega) (by omega) (by omega)).mono ?_
  rintro e y ⟨N, L, T, a1, a2, c1, c2, rfl, hN1, hN14, hdr, hT3, hrep, hd1, hg1⟩
  dsimp only
  have HDR := Lib.hid hdr
  have HY0 := Lib.hid (hd1.2.2.1)
  have HRS := Lib.hid hrep
  clear hd1 hdr hrep hg1 HDK
  go_upto_region 2 with (refine wpList_store_new rfl 25 (.tmp 7) (.tmp 28) rfl rfl rfl info25b rfl (all_oneCell_toArray (by intro v hv; simp at hv; rcases hv with rfl | rfl | rfl <;> rfl)) ?_)
  try simp only [Act.put]
  have HY := Lib.hid (Aft.alloc y (.cells #[.int .i64 N, .slice a1 L.length c1, .slice a2 T.length c2] 25))
  have HBX := Lib.hid (Blk.new y 25 #[.int .i64 N, .slice a1 L.length c1, .slice a2 T.length c2])
  have HSY := Lib.hid (Sm.of_aft (b := x.heap.size) HY.out)
  have hyY : y.heap.size < (y.alloc (.cells #[.int .i64 N, .slice a1 L.length c1, .slice a2 T.length c2] 25)).heap.size := by simp
  have HWY := Lib.hid (HY0.out.trans HY.out)
  obtain ⟨b7, hb7⟩ : ∃ b7, y.heap.size = b7 := ⟨_, rfl⟩
  rw [hb7] at HBX hyY ⊢
  have HB7S := Lib.hid hb7
  clear HY hb7 HY0
  generalize y.alloc (.cells #[.int .i64 N, .slice a1 L.length c1, .slice a2 T.length c2] 25) = Y at *
  have hcase : caseE ⟨N, L, T⟩ = 0 := HDR.out.ok ⟨hN1, by omega⟩ (by omega)
  have HCASE := Lib.hid hcase
  have HINS := Lib.hid (show ∀ s ∈ L, (0 ≤ s.1 ∧ s.1 < N) ∧ (0 ≤ s.2 ∧ s.2 < N) from HDR.out.ins)
  clear hcase HDR
  apply wp_region_lit
  (repeat (first | go_big_skip | go_big_want | go_big_move | go_big_op | go_step | go_upon | go_back))
  go_at_call 37
  refine (of_any Am tr cm Y (HB.out.aft HWY.out)).mono ?_
  rintro e z ⟨rfl, hdk⟩
  dsimp only
  have hdt0 : w.heap.size ≤ Y.heap.size := HWY.out.size
  have HD2 := Lib.hid (hdk.base HB.out (HWY.out.trans hdk.2.2.1) hdt0)
  have hz := hdk.lt
  have HBX := Lib.hid (HBX.out.aft hdk.2.2.1)
  have HSZ := Lib.hid (HSY.out.trans (Sm.of_aft (b := x.heap.size) hdk.2.2.1))
  obtain ⟨dt, hdt⟩ : ∃ dt, Y.heap.size = dt := ⟨_, rfl⟩
  rw [hdt] at HD2 hz hyY ⊢
  have HWD := Lib.hid (show w.heap.size ≤ dt by omega)
  clear hdk hdt hdt0 HA HB HWY HSY
  obtain ⟨k0, k1, k2⟩ := box25 HBX.out
  have k3 := HBX.out.lt
  have hqN : (q0 : Int) % (N : Int) < N := Int.emod_lt_of_pos _ (by omega)
  obtain ⟨q, hq⟩ : ∃ q : Nat, (q0 : Int) % (N : Int) = q := ⟨((q0 : Int) % (N : Int)).toNat, by have := Int.emod_nonneg (q0 : Int) (show (N : Int) ≠ 0 by omega); omega⟩
  rw [hq] at hqN
  have hqN' : q < N := by omega
  have HQ := Lib.hid hq
  clear hq hqN
  go_upto_region 4 with fail
  rw [HQ.out]
  have HREP : Hid (∀ W, Ex dt (z.alloc (.cells #[.int .i64 q] 3)) W → CRep W ⟨N, L, T⟩ a1 a2) := Lib.hid fun W hW => HRS.out W ((HSZ.out.trans (Sm.of_aft (Aft.alloc _ _))).ex hW (by have := HB7S.out; omega))
  have HB7 : Hid (∀ W, Ex dt (z.alloc (.cells #[.int .i64 q] 3)) W → Blk W b7 25 #[.int .i64 N, .slice a1 L.length c1, .slice a2 T.length c2]) := Lib.hid fun W hW => blk_ex (HBX.out.alloc _) hW (by omega)
  have HB9 : Hid (∀ W, Ex dt (z.alloc (.cells #[.int .i64 q] 3)) W → Blk W z.heap.size 3 #[.int .i64 q]) := Lib.hid fun W hW => blk_ex (Blk.new z 3 _) hW (by omega)
  have HD2 := Lib.hid (HD2.out.aft (Aft.alloc z (.cells #[.int .i64 q] 3)))
  obtain ⟨b9, hb9⟩ : ∃ b9, z.heap.size = b9 := ⟨_, rfl⟩
  have hzz : b9 < (z.alloc (.cells #[.int .i64 q] 3)).heap.size := by simp; omega
  rw [hb9] at HB9 hz ⊢
  clear hb9 HRS HSZ HBX HB7S k0 k1 k2 k3 HQ
  generalize z.alloc (.cells #[.int .i64 q] 3) = Z at *
  have hopen : ∀ R : List Int, (∀ n ∈ R, 0 ≤ n ∧ n < N) → risesB R = true → openE ⟨N, L, T⟩ R = 0 := fun R h1 h2 => openE_zero HCASE.out h1 h2
  have HOP := Lib.hid hopen
  have H39 : Hid (∀ W AR cR (R : List Int), Ex dt Z W → Ints W AR R → (∀ n ∈ R, 0 ≤ n ∧ n < N) → risesB R = true → Calls Tryz.prog 39 #[.agg #[.int .i64 N, .slice a1 L.length c1, .slice a2 T.length c2], .slice AR R.length cR] W (GoodL (foundL (award L noS N (begF (refL R))) N) W)) := Lib.hid fun W AR cR R hW hR h1 h2 => award_good ⟨N, L, T⟩ a1 a2 c1 c2 R AR cR W (HREP.out W hW) hR (HOP.out R h1 h2) N rfl
  have H45 : Hid (∀ W, Ex dt Z W → Calls Tryz.prog 45 #[.slice a1 L.length c1, .agg #[.int .i64 q, .int .i64 q]] W fun e w' => e = .returned (.bool (decide (((q : Int), (q : Int)) ∈ L))) ∧ Aft W w') := Lib.hid fun W hW => containsS_any a1 L c1 q q W (HREP.out W hW).strikes
  have hlS : L.length ≤ 17592186043904 := (HREP.out Z (Ex.refl _ _)).strikes.len
  have HCl := Lib.hid (show Cl (q : Int) (N : Int) = true from Cl_iff.2 ⟨by omega, by omega⟩)
  clear hopen
  obtain ⟨k0, k1, k2⟩ := box25 (HB7.out Z (Ex.refl _ _))
  have k3 := (HB7.out Z (Ex.refl _ _)).lt
  have j0 : Z.cell? ⟨b9, 0, none⟩ = some (.int .i64 q) := (HB9.out Z (Ex.refl _ _)).cell 0
  by_cases hself : ((q : Int), (q : Int)) ∈ L
  · have hfe : fewE ⟨N, L, T⟩ q = 7 := by
      unfold fewE
      rw [if_pos HCASE.out, if_pos HCl.out, if_pos hself]
    have h20 := few20_bad ⟨N, L, T⟩ a1 a2 c1 c2 q Z (HREP.out Z (Ex.refl _ _)) (by rw [hfe]; decide)
    rw [hfe] at h20
    have H20 := Lib.hid h20
    have HNV := Lib.hid (Court.self_never (S := L) (N := N) (c := q) ⟨by omega, by omega⟩ hself (refL []))
    rw [decide_eq_true hself] at H45
    clear h20 hfe hself
    go_upto_region 5 with (go_at_call 20; refine H20.out.mono ?_; rintro e z1 ⟨rfl, ha⟩; have HX := Lib.hid ((Ex.refl dt Z).aft ha); have HD2 := Lib.hid (HD2.out.aft ha); clear ha k0 k1 k2 k3 j0)
    obtain ⟨k0, k1, k2⟩ := box25 (HB7.out z1 HX.out)
    have k3 := (HB7.out z1 HX.out).lt
    have j0 : z1.cell? ⟨b9, 0, none⟩ = some (.int .i64 q) := (HB9.out z1 HX.out).cell 0
    have j1 := (HB9.out z1 HX.out).lt
    go_upto_region 6 with (go_at_call 45; refine (H45.out _ HX.out).mono ?_; rintro e z2 ⟨rfl, ha⟩; have HX := Lib.hid (HX.out.aft ha); have HD2 := Lib.hid (HD2.out.aft ha); clear ha k0 k1 k2 k3 j0 j1)
    obtain ⟨k0, k1, k2⟩ := box25 (HB7.out z2 HX.out)
    have k3 := (HB7.out z2 HX.out).lt
    have hc := H39.out z2 none 0 [] HX.out (ints_none _) (fun n h => by cases h) rfl
    obtain ⟨aw, haw⟩ : ∃ aw, foundL (award L noS N (begF (refL []))) N = aw := ⟨_, rfl⟩
    have hawl : aw.length = N := by rw [← haw, foundL_len]
    have hawq : aw[q]'(by omega) ≠ 1 := fun e => by
      have : (foundL (award L noS N (begF (refL []))) N)[q]'(by rw [foundL_len]; exact hqN') = ((award L noS N (begF (refL [])) q : Nat) : Int) := foundL_get _ _ _
      simp only [haw] at this
      rw [e] at this
      exact HNV.out (by omega)
    rw [haw] at hc
    have HC := Lib.hid hc
    have HAWL := Lib.hid hawl
    obtain ⟨v1, hv1⟩ : ∃ v1, aw[q]'(by omega) = v1 := ⟨_, rfl⟩
    rw [hv1] at hawq
    have HV1 : Hid (∀ h : q < aw.length, aw[q] = v1) := Lib.hid fun _ => hv1
    have t7 : (v1 != 1) = true := by simpa using hawq
    clear haw hawl hv1 hawq hc
    go_upto_region 7 with (go_at_call 39; refine HC.out.mono ?_; rintro e z3 ⟨v, rfl, ho, ha⟩; obtain ⟨A12, c12, rfl, _, hi⟩ := own_ints ho (by have := HAWL.out; omega); have HI := Lib.hid hi; have HX := Lib.hid (HX.out.aft ha); have HD2 := Lib.hid (HD2.out.aft ha); rw [HAWL.out]; clear ho hi ha k0 k1 k2 k3)
    obtain ⟨b12, o12, rfl, hlt12, hx12⟩ := HI.out.at (show q < aw.length by rw [HAWL.out]; exact hqN')
    have y0 := hx12 q (by rw [HAWL.out]; exact hqN')
    rw [HV1.out] at y0
    obtain ⟨k0, k1, k2⟩ := box25 (HB7.out z3 HX.out)
    have k3 := (HB7.out z3 HX.out).lt
    have j0 : z3.cell? ⟨b9, 0, none⟩ = some (.int .i64 q) := (HB9.out z3 HX.out).cell 0
    have j1 := (HB9.out z3 HX.out).lt
    have iq : (0 : Int) ≤ (q : Int) ∧ (q : Int) < (N : Int) := by omega
    have HWF := Lib.hid HD2.out.2.2.1
    clear hx12
    go_wp2_with (go_at_call 12; refine (awake_any _).mono ?_; rintro e z4 ⟨rfl, ha⟩; have HWE := Lib.hid (HWF.out.trans ha); clear ha)
    go_ret
    exact ⟨rfl, HWE.out⟩
  · have hfe : fewE ⟨N, L, T⟩ q = 0 := by
      unfold fewE
      rw [if_pos HCASE.out, if_pos HCl.out, if_neg hself]
    have h20 := few20_good ⟨N, L, T⟩ a1 a2 c1 c2 q Z (HREP.out Z (Ex.refl _ _)) hfe
    unfold GoodFew at h20
    have h20 : Calls Tryz.prog 20 #[.agg #[.int .i64 N, .slice a1 L.length c1, .slice a2 T.length c2], .int .i64 q] Z fun e w' => ∃ Lw, FewIs L N q Lw ∧ GoodL Lw Z e w' := h20
    have H20 := Lib.hid h20
    rw [decide_eq_false hself] at H45
    clear h20 hfe hself
    go_upto_region 5 with (go_at_call 20; refine H20.out.mono ?_; rintro e z1 ⟨Lw, hf, v, rfl, ho, ha⟩; obtain ⟨A10, c10, rfl, hi⟩ := own_intsX (d := dt) ho (by have := few_len hf; omega) (by omega); have HFW := Lib.hid hf; have HIL := Lib.hid hi; have HX0 := Lib.hid ((Ex.refl dt Z).aft ha); have HD2 := Lib.hid (HD2.out.aft ha); clear ha hi ho hf k0 k1 k2 k3 j0)
    have hLN := few_len HFW.out
    obtain ⟨⟨hLs, hLr⟩, hLw, hLm⟩ := HFW.out.facts
    have HLS := Lib.hid hLs
    have HLR := Lib.hid hLr
    have HLW := Lib.hid hLw
    have HLM := Lib.hid hLm
    have hz1 : b9 < z1.heap.size := Nat.lt_of_lt_of_le hzz HX0.out.size
    have HREP := Lib.hid (fun W (h : Ex dt z1 W) => HREP.out W (HX0.out.trans h))
    have HB7 := Lib.hid (fun W (h : Ex dt z1 W) => HB7.out W (HX0.out.trans h))
    have HB9 := Lib.hid (fun W (h : Ex dt z1 W) => HB9.out W (HX0.out.trans h))
    have H39 := Lib.hid (fun W AR cR (R : List Int) (h : Ex dt z1 W) => H39.out W AR cR R (HX0.out.trans h))
    have H45 := Lib.hid (fun W (h : Ex dt z1 W) => H45.out W (HX0.out.trans h))
    clear hLs hLr hLw hLm H20 HX0
    have HX := Lib.hid (Ex.refl dt z1)
    obtain ⟨k0, k1, k2⟩ := box25 (HB7.out z1 HX.out)
    have k3 := (HB7.out z1 HX.out).lt
    have j0 : z1.cell? ⟨b9, 0, none⟩ = some (.int .i64 q) := (HB9.out z1 HX.out).cell 0
    have j1 := (HB9.out z1 HX.out).lt
    go_upto_region 8 with (go_at_call 45; refine (H45.out _ HX.out).mono ?_; rintro e z2 ⟨rfl, ha⟩; have HX := Lib.hid (HX.out.aft ha); have HD2 := Lib.hid (HD2.out.aft ha); clear ha k0 k1 k2 k3 j0 j1)
    obtain ⟨k0, k1, k2⟩ := box25 (HB7.out z2 HX.out)
    have k3 := (HB7.out z2 HX.out).lt
    have hc := H39.out z2 A10 c10 Lw HX.out (HIL.out z2 HX.out) (fun n h => by have := HLR.out n h; omega) (rises_of HLS.out)
    obtain ⟨aw, haw⟩ : ∃ aw, foundL (award L noS N (begF (refL Lw))) N = aw := ⟨_, rfl⟩
    have hawl : aw.length = N := by rw [← haw, foundL_len]
    have hawq : aw[q]'(by omega) = ((award L noS N (begF (refL Lw)) q : Nat) : Int) := by
      have : (foundL (award L noS N (begF (refL Lw))) N)[q]'(by rw [foundL_len]; exact hqN') = ((award L noS N (begF (refL Lw)) q : Nat) : Int) := foundL_get _ _ _
      simpa only [haw] using this
    have hwv : award L noS N (begF (refL Lw)) q = 1 := of_decide_eq_true HLW.out
    rw [hwv] at hawq
    rw [haw] at hc
    have HC := Lib.hid hc
    have HAWL := Lib.hid hawl
    have HV1 : Hid (∀ h : q < aw.length, aw[q] = 1) := Lib.hid fun _ => hawq
    clear haw hawl hawq hc hwv
    go_upto_region 9 with (go_at_call 39; refine HC.out.mono ?_; rintro e z3 ⟨v, rfl, ho, ha⟩; obtain ⟨A12, c12, rfl, _, hi⟩ := own_ints ho (by have := HAWL.out; omega); have HI := Lib.hid hi; have HX := Lib.hid (HX.out.aft ha); have HD2 := Lib.hid (HD2.out.aft ha); rw [HAWL.out]; clear ho hi ha k0 k1 k2 k3)
    obtain ⟨b12, o12, rfl, hlt12, hx12⟩ := HI.out.at (show q < aw.length by rw [HAWL.out]; exact hqN')
    have y0 := hx12 q (by rw [HAWL.out]; exact hqN')
    rw [HV1.out] at y0
    obtain ⟨k0, k1, k2⟩ := box25 (HB7.out z3 HX.out)
    have k3 := (HB7.out z3 HX.out).lt
    have j0 : z3.cell? ⟨b9, 0, none⟩ = some (.int .i64 q) := (HB9.out z3 HX.out).cell 0
    have j1 := (HB9.out z3 HX.out).lt
    have iq : (0 : Int) ≤ (q : Int) ∧ (q : Int) < (N : Int) := by omega
    clear hx12
    go_upto_block 0 with fail
    clear k0 k1 k2 k3 j0 j1 y0
    refine wp_block ?_
    go_loopw [16, 105] (fun v i wr => ∃ k : Nat, i = .int .i64 k ∧ k ≤ L.length ∧ v = .bool ((L.take k).any fun s => s.2 == (q : Int)) ∧ Ex dt z1 wr ∧ DeckAt w dt Am tr cm 0 wr) (fun _ i _ => L.length - (intOf i).toNat)
    case atStart => exact ⟨0, rfl, by omega, by simp, HX.out, HD2.out⟩
    case round =>
      obtain ⟨k, rfl, hk, rfl, hx, hdk⟩ := hrel
      have HX := Lib.hid hx
      have HD2 := Lib.hid hdk
      clear hx hdk
      by_cases hkl : k < L.length
      · have t1 : decide (k < L.length) = true := by simpa using hkl
        obtain ⟨bs, os, hbs, hlts, hcs⟩ := (HREP.out wr HX.out).strikes.at hkl
        subst hbs
        obtain ⟨x0, x1⟩ := hcs k hkl
        have hin : (0 : Int) ≤ (k : Int) ∧ (k : Int) < (L.length : Int) := by omega
        have HTK : Hid ((L.take (k + 1)).any (fun s => s.2 == (q : Int)) = ((L.take k).any (fun s => s.2 == (q : Int)) || L[k].2 == (q : Int))) := Lib.hid (by rw [List.take_succ_eq_append_getElem hkl, List.any_append]; simp)
        clear hcs
        obtain ⟨⟨y0, y1⟩, hy⟩ : ∃ y, L[k] = y := ⟨_, rfl⟩
        rw [hy] at x0 x1 HTK
        clear hy
        go_upto_region 15 with (refine wpList_store_new rfl 57 (.tmp 18) (.tmp 108) rfl rfl rfl info57' rfl (all_oneCell_toArray (by intro v hv; simp at hv; rcases hv with rfl | rfl <;> rfl)) ?_)
        try simp only [Act.put]
        have u1 : (wr.alloc (.cells #[.int .i64 y0, .int .i64 y1] 57)).cell? ⟨wr.heap.size, 1, none⟩ = some (.int .i64 y1) := (Blk.new wr 57 #[.int .i64 y0, .int .i64 y1]).cell 1
        have u2 : wr.heap.size < (wr.alloc (.cells #[.int .i64 y0, .int .i64 y1] 57)).heap.size := (Blk.new wr 57 #[.int .i64 y0, .int .i64 y1]).lt
        have HX := Lib.hid (HX.out.aft (Aft.alloc wr (.cells #[.int .i64 y0, .int .i64 y1] 57)))
        have HD2 := Lib.hid (HD2.out.aft (Aft.alloc wr (.cells #[.int .i64 y0, .int .i64 y1] 57)))
        have j0 : (wr.alloc (.cells #[.int .i64 y0, .int .i64 y1] 57)).cell? ⟨b9, 0, none⟩ = some (.int .i64 q) := (HB9.out _ HX.out).cell 0
        have j1 := (HB9.out _ HX.out).lt
        generalize wr.alloc (.cells #[.int .i64 y0, .int .i64 y1] 57) = wr2 at *
        generalize wr.heap.size = b18 at *
        clear x0 x1
        cases hv : (L.take k).any fun s => s.2 == (q : Int)
        · rw [hv, Bool.false_or] at HTK
          clear hv
          cases hy1 : (y1 == (q : Int))
          · rw [hy1] at HTK
            go_wp2_with fail
            exact ⟨⟨k + 1, by go_num, by omega, by rw [HTK.out], HX.out, HD2.out⟩, by simp [intOf]; omega⟩
          · rw [hy1] at HTK
            go_wp2_with fail
            exact ⟨⟨k + 1, by go_num, by omega, by rw [HTK.out], HX.out, HD2.out⟩, by simp [intOf]; omega⟩
        · rw [hv, Bool.true_or] at HTK
          clear hv
          go_wp2_with fail
          exact ⟨⟨k + 1, by go_num, by omega, by rw [HTK.out], HX.out, HD2.out⟩, by simp [intOf]; omega⟩
      · have t1 : decide (k < L.length) = false := by simpa using hkl
        obtain rfl : L.length = k := by omega
        rw [List.take_length]
        have HST : Hid ((L.any fun s => s.2 == (q : Int)) = false → Lw.length = 0) := Lib.hid fun h => by
          have hw := unstruck_wins (S := L) (N := N) (c := q) ⟨by omega, by omega⟩ (fun s hs e => by
            have := List.any_eq_false.1 h s hs
            simp [e] at this)
          have := HLM.out [] List.Pairwise.nil (fun x hx => by cases hx) hw
          simpa using this
        obtain ⟨sb, hsb⟩ : ∃ sb, (L.any fun s => s.2 == (q : Int)) = sb := ⟨_, rfl⟩
        rw [hsb] at HST ⊢
        obtain ⟨W4, rfl⟩ : ∃ W4, W4 = wr := ⟨_, rfl⟩
        clear hsb hkl
        have hL9 : Lw.length ≤ 9 := by omega
        have HLL := Lib.hid hLN
        cases sb
        · have t9 : decide ((0 : Int) < (Lw.length : Int)) = false := by rw [HST.out rfl]; rfl
          have t9' : decide (0 < Lw.length) = false := by rw [HST.out rfl]; rfl
          clear HST
          go_upto_region 19 with fail
          clear t9 t9'
          go_upto_block 2 with fail
          refine wp_block ?_
          go_loopw [126] (fun i wr => ∃ k : Nat, i = .int .i64 k ∧ k ≤ Lw.length ∧ Ex dt z1 wr ∧ DeckAt w dt Am tr cm 0 wr) (fun i _ => Lw.length - (intOf i).toNat)
          case atStart => exact ⟨0, rfl, by omega, HX.out, HD2.out⟩
          case round =>
            obtain ⟨k, rfl, hk, hx, hdk⟩ := hrel
            have HX := Lib.hid hx
            have HD2 := Lib.hid hdk
            clear hx hdk
            by_cases hkl : k < Lw.length
            · have t1 : decide (k < Lw.length) = true := by simpa using hkl
              have hcl := kitClone_int A10 Lw c10 wr (HIL.out wr HX.out)
              have HCL := Lib.hid hcl
              clear hcl
              have hzw : z1.heap.size ≤ wr.heap.size := HX.out.size
              go_upto_region 22 with fail
              apply wp_region_lit
              (repeat (first | go_big_skip | go_big_want | go_big_move | go_big_op | go_step | go_upon | go_back))
              go_at_call 24
              refine HCL.out.mono ?_
              rintro e w5 ⟨v, rfl, ho, ha⟩
              dsimp only
              obtain ⟨g20, q20, rfl, hg20, -⟩ := ho.form (by omega)
              have HX := Lib.hid (HX.out.aft ha)
              have HD2 := Lib.hid (HD2.out.aft ha)
              have HDE := Lib.hid (delete_own w5 wr.heap.size g20 q20 Lw k ho hkl (by omega))
              clear ho ha HCL
              (repeat (first | go_big_skip | go_big_want | go_big_move | go_big_op | go_step | go_upon | go_back))
              go_at_call 46
              refine HDE.out.mono ?_
              rintro e w6 ⟨rfl, hg6, hi6⟩
              dsimp only
              have HI6 := Lib.hid hi6
              have HX := Lib.hid (HX.out.next hg6 (fun g e => by cases e; right; omega))
              have HD2 := Lib.hid (HD2.out.grown hg6 (fun g e => by cases e; omega))
              obtain ⟨M, hM⟩ : ∃ M, Lw.eraseIdx k = M := ⟨_, rfl⟩
              have hMl : M.length < Lw.length := by rw [← hM, List.length_eraseIdx, if_pos hkl]; omega
              have HMS : Hid (M.Pairwise (· < ·)) := Lib.hid (by rw [← hM]; exact sorted_erase HLS.out k)
              have HMR : Hid (∀ x ∈ M, 0 ≤ x ∧ x < N ∧ x ≠ q) := Lib.hid fun x hx => HLR.out x (mem_erase (by rw [hM]; exact hx))
              have hMw : award L noS N (begF (refL M)) q ≠ 1 := fun e => by
                have := HLM.out M HMS.out HMR.out (decide_eq_true e)
                omega
              rw [hM] at HI6 ⊢
              have HMW := Lib.hid hMw
              clear hM hMw hg6 hi6 HDE
              have hc := H39.out w6 (some ⟨g20, 0, none⟩) q20 M HX.out HI6.out (fun n h => by have := HMR.out n h; omega) (rises_of HMS.out)
              obtain ⟨aw2, haw⟩ : ∃ aw, foundL (award L noS N (begF (refL M))) N = aw := ⟨_, rfl⟩
              have hawl : aw2.length = N := by rw [← haw, foundL_len]
              have hawq : aw2[q]'(by omega) = ((award L noS N (begF (refL M)) q : Nat) : Int) := by
                have : (foundL (award L noS N (begF (refL M))) N)[q]'(by rw [foundL_len]; exact hqN') = ((award L noS N (begF (refL M)) q : Nat) : Int) := foundL_get _ _ _
                simpa only [haw] using this
              rw [haw] at hc
              have HC := Lib.hid hc
              have HAWL2 := Lib.hid hawl
              obtain ⟨v1, hv1⟩ : ∃ v1, aw2[q]'(by omega) = v1 := ⟨_, rfl⟩
              have HV1 : Hid (∀ h : q < aw2.length, aw2[q] = v1) := Lib.hid fun _ => hv1
              have t7 : (v1 == 1) = false := by
                rw [← hv1, hawq]
                exact beq_eq_false_iff_ne.2 (fun e => HMW.out (by omega))
              clear haw hawl hv1 hawq hc
              go_upto_region 23 with fail
              obtain ⟨k0, k1, k2⟩ := box25 (HB7.out w6 HX.out)
              have k3 := (HB7.out w6 HX.out).lt
              go_upto_region 24 with (go_at_call 39; refine HC.out.mono ?_; rintro e w7 ⟨v, rfl, ho, ha⟩; obtain ⟨A21, c21, rfl, _, hi⟩ := own_ints ho (by have := HAWL2.out; omega); have HI2 := Lib.hid hi; have HX := Lib.hid (HX.out.aft ha); have HD2 := Lib.hid (HD2.out.aft ha); rw [HAWL2.out]; clear ho hi ha k0 k1 k2 k3)
              obtain ⟨b21, o21, rfl, hlt21, hx21⟩ := HI2.out.at (show q < aw2.length by rw [HAWL2.out]; exact hqN')
              have y0 := hx21 q (by rw [HAWL2.out]; exact hqN')
              rw [HV1.out] at y0
              obtain ⟨k0, k1, k2⟩ := box25 (HB7.out w7 HX.out)
              have k3 := (HB7.out w7 HX.out).lt
              have j0 : w7.cell? ⟨b9, 0, none⟩ = some (.int .i64 q) := (HB9.out w7 HX.out).cell 0
              have j1 := (HB9.out w7 HX.out).lt
              clear hx21
              go_wp2_with fail
              exact ⟨⟨k + 1, by go_num, by omega, HX.out, HD2.out⟩, by simp [intOf]; omega⟩
            · have t1 : decide (k < Lw.length) = false := by simpa using hkl
              obtain ⟨W5, rfl⟩ : ∃ W5, W5 = wr := ⟨_, rfl⟩
              clear hkl
              go_upto_block 4 with fail
              refine wp_block ?_
              go_loopw [158] (fun i wr => ∃ k : Nat, i = .int .i64 k ∧ k ≤ 6 ∧ Ex dt z1 wr ∧ DeckAt w dt Am tr cm (20 * k) wr) (fun i _ => 6 - (intOf i).toNat)
              case atStart => exact ⟨0, rfl, by omega, HX.out, HD2.out⟩
              case round =>
                obtain ⟨k6, rfl, hk6, hx, hdk⟩ := hrel
                have HX := Lib.hid hx
                have HD2 := Lib.hid hdk
                clear hx hdk
                by_cases hkl : k6 < 6
                · have t2 : decide ((k6 : Int) < 6) = true := by simp; omega
                  have HSO := Lib.hid (some_any w dt Am tr cm (20 * k6) N 3 wr HD2.out (by omega) (by omega) (by omega) (by omega))
                  have hzw : z1.heap.size ≤ wr.heap.size := HX.out.size
                  obtain ⟨k0, k1, k2⟩ := box25 (HB7.out wr HX.out)
                  have k3 := (HB7.out wr HX.out).lt
                  go_upto_region 29 with fail
                  apply wp_region_lit
                  (repeat (first | go_big_skip | go_big_want | go_big_move | go_big_op | go_step | go_upon | go_back))
                  go_at_call 41
                  refine HSO.out.mono ?_
                  rintro e w5 ⟨v, R, rfl, ho, hR1, hR2, hR3, hd5, hg⟩
                  dsimp only
                  have HX := Lib.hid (HX.out.deal hg)
                  have HD2 := Lib.hid hd5
                  have hge5 := own_ge ho
                  have HDF := Lib.hid (df_own ho (by omega) q b9 (HB9.out w5 HX.out) (by omega))
                  have hRs := rises_pair hR3
                  have HR2 := Lib.hid hR2
                  have HRS := Lib.hid hRs
                  clear ho hg hd5 hR2 hR3 hRs HSO k0 k1 k2 k3
                  (repeat (first | go_big_skip | go_big_want | go_big_move | go_big_op | go_step | go_upon | go_back))
                  go_at_call 47
                  refine HDF.out.mono ?_
                  rintro e w6 ⟨A23, c23, rfl, hi6, hg6⟩
                  dsimp only
                  have HI6 := Lib.hid hi6
                  have HX := Lib.hid (HX.out.next hg6 (fun g e => by have := hge5 g e; right; omega))
                  have HD2 := Lib.hid (HD2.out.grown hg6 (fun g e => by have := hge5 g e; omega))
                  obtain ⟨M, hM⟩ : ∃ M, (R.filter fun x => !(x == (q : Int))) = M := ⟨_, rfl⟩
                  have hMl : M.length ≤ 9 := by rw [← hM]; have := List.length_filter_le (fun x => !(x == (q : Int))) R; omega
                  have HMS : Hid (M.Pairwise (· < ·)) := Lib.hid (by rw [← hM]; exact HRS.out.filter _)
                  have HMR : Hid (∀ x ∈ M, 0 ≤ x ∧ x < N ∧ x ≠ q) := Lib.hid fun x hx => by
                    rw [← hM] at hx
                    obtain ⟨h1, h2⟩ := List.mem_filter.1 hx
                    have := HR2.out x h1
                    refine ⟨this.1, this.2, fun e => by simp [e] at h2⟩
                  have hMw : award L noS N (begF (refL M)) q = 1 → Lw.length ≤ M.length := fun e => HLM.out M HMS.out HMR.out (decide_eq_true e)
                  rw [hM] at HI6 ⊢
                  have HMW := Lib.hid hMw
                  clear hM hMw hg6 hi6 HDF hge5 HR2 HRS
                  have hc := H39.out w6 A23 c23 M HX.out HI6.out (fun n h => by have := HMR.out n h; omega) (rises_of HMS.out)
                  obtain ⟨aw3, haw⟩ : ∃ aw, foundL (award L noS N (begF (refL M))) N = aw := ⟨_, rfl⟩
                  have hawl : aw3.length = N := by rw [← haw, foundL_len]
                  have hawq : aw3[q]'(by omega) = ((award L noS N (begF (refL M)) q : Nat) : Int) := by
                    have : (foundL (award L noS N (begF (refL M))) N)[q]'(by rw [foundL_len]; exact hqN') = ((award L noS N (begF (refL M)) q : Nat) : Int) := foundL_get _ _ _
                    simpa only [haw] using this
                  rw [haw] at hc
                  have HC := Lib.hid hc
                  have HAWL2 := Lib.hid hawl
                  obtain ⟨v1, hv1⟩ : ∃ v1, aw3[q]'(by omega) = v1 := ⟨_, rfl⟩
                  have HV1 : Hid (∀ h : q < aw3.length, aw3[q] = v1) := Lib.hid fun _ => hv1
                  have HT7 : Hid ((v1 == 1) = true → decide ((M.length : Nat) < Lw.length) = false) := Lib.hid fun h => by
                    have h1 : v1 = 1 := by simpa using h
                    have := HMW.out (by rw [← hv1, hawq] at h1; omega)
                    simp; omega
                  clear haw hawl hv1 hawq hc
                  go_upto_region 30 with fail
                  obtain ⟨k0, k1, k2⟩ := box25 (HB7.out w6 HX.out)
                  have k3 := (HB7.out w6 HX.out).lt
                  go_upto_region 31 with (go_at_call 39; refine HC.out.mono ?_; rintro e w7 ⟨v, rfl, ho, ha⟩; obtain ⟨A21, c21, rfl, _, hi⟩ := own_ints ho (by have := HAWL2.out; omega); have HI2 := Lib.hid hi; have HX := Lib.hid (HX.out.aft ha); have HD2 := Lib.hid (HD2.out.aft ha); rw [HAWL2.out]; clear ho hi ha k0 k1 k2 k3)
                  obtain ⟨b21, o21, rfl, hlt21, hx21⟩ := HI2.out.at (show q < aw3.length by rw [HAWL2.out]; exact hqN')
                  have y0 := hx21 q (by rw [HAWL2.out]; exact hqN')
                  rw [HV1.out] at y0
                  obtain ⟨k0, k1, k2⟩ := box25 (HB7.out w7 HX.out)
                  have k3 := (HB7.out w7 HX.out).lt
                  have j0 : w7.cell? ⟨b9, 0, none⟩ = some (.int .i64 q) := (HB9.out w7 HX.out).cell 0
                  have j1 := (HB9.out w7 HX.out).lt
                  clear hx21
                  cases ht : (v1 == 1)
                  · clear HT7
                    go_wp2_with fail
                    exact ⟨⟨k6 + 1, by go_num, by omega, HX.out, HD2.out.more (by omega)⟩, by simp [intOf]; omega⟩
                  · have t8 := HT7.out ht
                    clear HT7
                    go_wp2_with fail
                    exact ⟨⟨k6 + 1, by go_num, by omega, HX.out, HD2.out.more (by omega)⟩, by simp [intOf]; omega⟩
                · have t2 : decide ((k6 : Int) < 6) = false := by simp; omega
                  have HWF := Lib.hid HD2.out.2.2.1
                  go_wp2_with (go_at_call 12; refine (awake_any _).mono ?_; rintro e z4 ⟨rfl, ha⟩; have HWE := Lib.hid (HWF.out.trans ha); clear ha)
                  go_ret
                  exact ⟨rfl, HWE.out⟩
        · clear HST
          go_upto_region 19 with fail
          go_upto_block 2 with fail
          refine wp_block ?_
          go_loopw [126] (fun i wr => ∃ k : Nat, i = .int .i64 k ∧ k ≤ Lw.length ∧ Ex dt z1 wr ∧ DeckAt w dt Am tr cm 0 wr) (fun i _ => Lw.length - (intOf i).toNat)
          case atStart => exact ⟨0, rfl, by omega, HX.out, HD2.out⟩
          case round =>
            obtain ⟨k, rfl, hk, hx, hdk⟩ := hrel
            have HX := Lib.hid hx
            have HD2 := Lib.hid hdk
            clear hx hdk
            by_cases hkl : k < Lw.length
            · have t1 : decide (k < Lw.length) = true := by simpa using hkl
              have hcl := kitClone_int A10 Lw c10 wr (HIL.out wr HX.out)
              have HCL := Lib.hid hcl
              clear hcl
              have hzw : z1.heap.size ≤ wr.heap.size := HX.out.size
              go_upto_region 22 with fail
              apply wp_region_lit
              (repeat (first | go_big_skip | go_big_want | go_big_move | go_big_op | go_step | go_upon | go_back))
              go_at_call 24
              refine HCL.out.mono ?_
              rintro e w5 ⟨v, rfl, ho, ha⟩
              dsimp only
              obtain ⟨g20, q20, rfl, hg20, -⟩ := ho.form (by omega)
              have HX := Lib.hid (HX.out.aft ha)
              have HD2 := Lib.hid (HD2.out.aft ha)
              have HDE := Lib.hid (delete_own w5 wr.heap.size g20 q20 Lw k ho hkl (by omega))
              clear ho ha HCL
              (repeat (first | go_big_skip | go_big_want | go_big_move | go_big_op | go_step | go_upon | go_back))
              go_at_call 46
              refine HDE.out.mono ?_
              rintro e w6 ⟨rfl, hg6, hi6⟩
              dsimp only
              have HI6 := Lib.hid hi6
              have HX := Lib.hid (HX.out.next hg6 (fun g e => by cases e; right; omega))
              have HD2 := Lib.hid (HD2.out.grown hg6 (fun g e => by cases e; omega))
              obtain ⟨M, hM⟩ : ∃ M, Lw.eraseIdx k = M := ⟨_, rfl⟩
              have hMl : M.length < Lw.length := by rw [← hM, List.length_eraseIdx, if_pos hkl]; omega
              have HMS : Hid (M.Pairwise (· < ·)) := Lib.hid (by rw [← hM]; exact sorted_erase HLS.out k)
              have HMR : Hid (∀ x ∈ M, 0 ≤ x ∧ x < N ∧ x ≠ q) := Lib.hid fun x hx => HLR.out x (mem_erase (by rw [hM]; exact hx))
              have hMw : award L noS N (begF (refL M)) q ≠ 1 := fun e => by
                have := HLM.out M HMS.out HMR.out (decide_eq_true e)
                omega
              rw [hM] at HI6 ⊢
              have HMW := Lib.hid hMw
              clear hM hMw hg6 hi6 HDE
              have hc := H39.out w6 (some ⟨g20, 0, none⟩) q20 M HX.out HI6.out (fun n h => by have := HMR.out n h; omega) (rises_of HMS.out)
              obtain ⟨aw2, haw⟩ : ∃ aw, foundL (award L noS N (begF (refL M))) N = aw := ⟨_, rfl⟩
              have hawl : aw2.length = N := by rw [← haw, foundL_len]
              have hawq : aw2[q]'(by omega) = ((award L noS N (begF (refL M)) q : Nat) : Int) := by
                have : (foundL (award L noS N (begF (refL M))) N)[q]'(by rw [foundL_len]; exact hqN') = ((award L noS N (begF (refL M)) q : Nat) : Int) := foundL_get _ _ _
                simpa only [haw] using this
              rw [haw] at hc
              have HC := Lib.hid hc
              have HAWL2 := Lib.hid hawl
              obtain ⟨v1, hv1⟩ : ∃ v1, aw2[q]'(by omega) = v1 := ⟨_, rfl⟩
              have HV1 : Hid (∀ h : q < aw2.length, aw2[q] = v1) := Lib.hid fun _ => hv1
              have t7 : (v1 == 1) = false := by
                rw [← hv1, hawq]
                exact beq_eq_false_iff_ne.2 (fun e => HMW.out (by omega))
              clear haw hawl hv1 hawq hc
              go_upto_region 23 with fail
              obtain ⟨k0, k1, k2⟩ := box25 (HB7.out w6 HX.out)
              have k3 := (HB7.out w6 HX.out).lt
              go_upto_region 24 with (go_at_call 39; refine HC.out.mono ?_; rintro e w7 ⟨v, rfl, ho, ha⟩; obtain ⟨A21, c21, rfl, _, hi⟩ := own_ints ho (by have := HAWL2.out; omega); have HI2 := Lib.hid hi; have HX := Lib.hid (HX.out.aft ha); have HD2 := Lib.hid (HD2.out.aft ha); rw [HAWL2.out]; clear ho hi ha k0 k1 k2 k3)
              obtain ⟨b21, o21, rfl, hlt21, hx21⟩ := HI2.out.at (show q < aw2.length by rw [HAWL2.out]; exact hqN')
              have y0 := hx21 q (by rw [HAWL2.out]; exact hqN')
              rw [HV1.out] at y0
              obtain ⟨k0, k1, k2⟩ := box25 (HB7.out w7 HX.out)
              have k3 := (HB7.out w7 HX.out).lt
              have j0 : w7.cell? ⟨b9, 0, none⟩ = some (.int .i64 q) := (HB9.out w7 HX.out).cell 0
              have j1 := (HB9.out w7 HX.out).lt
              clear hx21
              go_wp2_with fail
              exact ⟨⟨k + 1, by go_num, by omega, HX.out, HD2.out⟩, by simp [intOf]; omega⟩
            · have t1 : decide (k < Lw.length) = false := by simpa using hkl
              obtain ⟨W5, rfl⟩ : ∃ W5, W5 = wr := ⟨_, rfl⟩
              clear hkl
              go_upto_block 4 with fail
              refine wp_block ?_
              go_loopw [158] (fun i wr => ∃ k : Nat, i = .int .i64 k ∧ k ≤ 6 ∧ Ex dt z1 wr ∧ DeckAt w dt Am tr cm (20 * k) wr) (fun i _ => 6 - (intOf i).toNat)
              case atStart => exact ⟨0, rfl, by omega, HX.out, HD2.out⟩
              case round =>
                obtain ⟨k6, rfl, hk6, hx, hdk⟩ := hrel
                have HX := Lib.hid hx
                have HD2 := Lib.hid hdk
                clear hx hdk
                by_cases hkl : k6 < 6
                · have t2 : decide ((k6 : Int) < 6) = true := by simp; omega
                  have HSO := Lib.hid (some_any w dt Am tr cm (20 * k6) N 3 wr HD2.out (by omega) (by omega) (by omega) (by omega))
                  have hzw : z1.heap.size ≤ wr.heap.size := HX.out.size
                  obtain ⟨k0, k1, k2⟩ := box25 (HB7.out wr HX.out)
                  have k3 := (HB7.out wr HX.out).lt
                  go_upto_region 29 with fail
                  apply wp_region_lit
                  (repeat (first | go_big_skip | go_big_want | go_big_move | go_big_op | go_step | go_upon | go_back))
                  go_at_call 41
                  refine HSO.out.mono ?_
                  rintro e w5 ⟨v, R, rfl, ho, hR1, hR2, hR3, hd5, hg⟩
                  dsimp only
                  have HX := Lib.hid (HX.out.deal hg)
                  have HD2 := Lib.hid hd5
                  have hge5 := own_ge ho
                  have HDF := Lib.hid (df_own ho (by omega) q b9 (HB9.out w5 HX.out) (by omega))
                  have hRs := rises_pair hR3
                  have HR2 := Lib.hid hR2
                  have HRS := Lib.hid hRs
                  clear ho hg hd5 hR2 hR3 hRs HSO k0 k1 k2 k3
                  (repeat (first | go_big_skip | go_big_want | go_big_move | go_big_op | go_step | go_upon | go_back))
                  go_at_call 47
                  refine HDF.out.mono ?_
                  rintro e w6 ⟨A23, c23, rfl, hi6, hg6⟩
                  dsimp only
                  have HI6 := Lib.hid hi6
                  have HX := Lib.hid (HX.out.next hg6 (fun g e => by have := hge5 g e; right; omega))
                  have HD2 := Lib.hid (HD2.out.grown hg6 (fun g e => by have := hge5 g e; omega))
                  obtain ⟨M, hM⟩ : ∃ M, (R.filter fun x => !(x == (q : Int))) = M := ⟨_, rfl⟩
                  have hMl : M.length ≤ 9 := by rw [← hM]; have := List.length_filter_le (fun x => !(x == (q : Int))) R; omega
                  have HMS : Hid (M.Pairwise (· < ·)) := Lib.hid (by rw [← hM]; exact HRS.out.filter _)
                  have HMR : Hid (∀ x ∈ M, 0 ≤ x ∧ x < N ∧ x ≠ q) := Lib.hid fun x hx => by
                    rw [← hM] at hx
                    obtain ⟨h1, h2⟩ := List.mem_filter.1 hx
                    have := HR2.out x h1
                    refine ⟨this.1, this.2, fun e => by simp [e] at h2⟩
                  have hMw : award L noS N (begF (refL M)) q = 1 → Lw.length ≤ M.length := fun e => HLM.out M HMS.out HMR.out (decide_eq_true e)
                  rw [hM] at HI6 ⊢
                  have HMW := Lib.hid hMw
                  clear hM hMw hg6 hi6 HDF hge5 HR2 HRS
                  have hc := H39.out w6 A23 c23 M HX.out HI6.out (fun n h => by have := HMR.out n h; omega) (rises_of HMS.out)
                  obtain ⟨aw3, haw⟩ : ∃ aw, foundL (award L noS N (begF (refL M))) N = aw := ⟨_, rfl⟩
                  have hawl : aw3.length = N := by rw [← haw, foundL_len]
                  have hawq : aw3[q]'(by omega) = ((award L noS N (begF (refL M)) q : Nat) : Int) := by
                    have : (foundL (award L noS N (begF (refL M))) N)[q]'(by rw [foundL_len]; exact hqN') = ((award L noS N (begF (refL M)) q : Nat) : Int) := foundL_get _ _ _
                    simpa only [haw] using this
                  rw [haw] at hc
                  have HC := Lib.hid hc
                  have HAWL2 := Lib.hid hawl
                  obtain ⟨v1, hv1⟩ : ∃ v1, aw3[q]'(by omega) = v1 := ⟨_, rfl⟩
                  have HV1 : Hid (∀ h : q < aw3.length, aw3[q] = v1) := Lib.hid fun _ => hv1
                  have HT7 : Hid ((v1 == 1) = true → decide ((M.length : Nat) < Lw.length) = false) := Lib.hid fun h => by
                    have h1 : v1 = 1 := by simpa using h
                    have := HMW.out (by rw [← hv1, hawq] at h1; omega)
                    simp; omega
                  clear haw hawl hv1 hawq hc
                  go_upto_region 30 with fail
                  obtain ⟨k0, k1, k2⟩ := box25 (HB7.out w6 HX.out)
                  have k3 := (HB7.out w6 HX.out).lt
                  go_upto_region 31 with (go_at_call 39; refine HC.out.mono ?_; rintro e w7 ⟨v, rfl, ho, ha⟩; obtain ⟨A21, c21, rfl, _, hi⟩ := own_ints ho (by have := HAWL2.out; omega); have HI2 := Lib.hid hi; have HX := Lib.hid (HX.out.aft ha); have HD2 := Lib.hid (HD2.out.aft ha); rw [HAWL2.out]; clear ho hi ha k0 k1 k2 k3)
                  obtain ⟨b21, o21, rfl, hlt21, hx21⟩ := HI2.out.at (show q < aw3.length by rw [HAWL2.out]; exact hqN')
                  have y0 := hx21 q (by rw [HAWL2.out]; exact hqN')
                  rw [HV1.out] at y0
                  obtain ⟨k0, k1, k2⟩ := box25 (HB7.out w7 HX.out)
                  have k3 := (HB7.out w7 HX.out).lt
                  have j0 : w7.cell? ⟨b9, 0, none⟩ = some (.int .i64 q) := (HB9.out w7 HX.out).cell 0
                  have j1 := (HB9.out w7 HX.out).lt
                  clear hx21
                  cases ht : (v1 == 1)
                  · clear HT7
                    go_wp2_with fail
                    exact ⟨⟨k6 + 1, by go_num, by omega, HX.out, HD2.out.more (by omega)⟩, by simp [intOf]; omega⟩
                  · have t8 := HT7.out ht
                    clear HT7
                    go_wp2_with fail
                    exact ⟨⟨k6 + 1, by go_num, by omega, HX.out, HD2.out.more (by omega)⟩, by simp [intOf]; omega⟩
                · have t2 : decide ((k6 : Int) < 6) = false := by simp; omega
                  have HWF := Lib.hid HD2.out.2.2.1
                  go_wp2_with (go_at_call 12; refine (awake_any _).mono ?_; rintro e z4 ⟨rfl, ha⟩; have HWE := Lib.hid (HWF.out.trans ha); clear ha)
                  go_ret
                  exact ⟨rfl, HWE.out⟩
end Go.Proofs
end
