/- Own texts, merged: CtL10. -/
import Derived.Test.YtbchfakfdikkjaaGreatD01
import Derived.BigGuard
import Derived.Deep.CutRange
set_option linter.unusedSimpArgs false
set_option linter.unusedVariables false
set_option linter.unnecessarySimpa false
section
namespace Go.Proofs
open Go.RowKit
open Court (refL begF noS struckB nextR hears award Done HeldP)
theorem all_range_succ (b : Bool) (p : Nat → Bool) (n : Nat) : (b && (List.range (n + 1)).all p) = ((b && (List.range n).all p) && p n) := by
  rw [List.range_succ, List.all_append, List.all_cons, List.all_nil, Bool.and_true, Bool.and_assoc]
def LsS (b : Nat) (w : World) (A : Option Addr) (l : List (List Int)) : Prop := ∀ X, Sm b w X → Lists X A l
theorem LsS.sm {b : Nat} {w w' : World} {A : Option Addr} {l : List (List Int)} (h : LsS b w A l) (hs : Sm b w w') : LsS b w' A l := fun X hX => h X (hs.trans hX)
def FullU (G : List (List Int)) (w : World) (e : Ending) (w' : World) : Prop := ∃ A c F FE, e = .returned (.tuple #[.slice A F.length c, .int .i64 FE]) ∧ (∀ X, Sm w.heap.size w' X → Lists X A F) ∧ ((FE = 0 ∧ F.Perm G ∧ SortedZ F ∧ F.length ≤ 50) ∨ (FE = 11 ∧ 50 < G.length)) ∧ Aft w w'
theorem full27_any (C : CaseL) (a1 a2 : Option Addr) (c1 c2 : Nat) (R : List Int) (A : Option Addr) (c : Nat) (w : World) (hC : CRep w C a1 a2) (hA : Ints w A R) (he : openE C R = 0) :
    Calls Tryz.prog 27 #[(.agg #[.int .i64 C.claims, .slice a1 C.strikes.length c1, .slice a2 C.surveys.length c2]), .slice A R.length c] w (FullU (fullsL C R) w) := by
  by_cases h : 50 < (fullsL C R).length
  · have hf : fullE C R = 11 := by unfold fullE; rw [if_pos he, if_pos h]
    refine (full27_bad C a1 a2 c1 c2 R A c w hC hA (by rw [hf]; decide)).mono ?_
    rintro e w' ⟨rfl, ha⟩
    exact ⟨none, 0, [], 11, by rw [hf]; rfl, fun _ _ => ⟨by simp, .inl rfl⟩, .inr ⟨rfl, h⟩, ha⟩
  · have hf : fullE C R = 0 := by unfold fullE; rw [if_pos he, if_neg h]
    refine (full27_goodS C a1 a2 c1 c2 R A c w hC hA hf).mono ?_
    rintro e w' ⟨A', c', F, rfl, hF, hp, hs, ha⟩
    exact ⟨A', c', F, 0, rfl, hF, .inl ⟨rfl, hp, hs, by rw [hp.length_eq]; omega⟩, ha⟩
def AlwU (C : CaseL) (R : List Int) (w : World) (e : Ending) (w' : World) : Prop := ∃ A c AL AE, e = .returned (.tuple #[.slice A AL.length c, .int .i64 AE]) ∧ Ints w' A AL ∧ AL.length ≤ 14 ∧ ((AE = 0 ∧ 0 < (fullsL C R).length ∧ AL = alwaysL C R) ∨ (AE ≠ 0 ∧ (fullsL C R).length = 0)) ∧ Aft w w'
theorem always30_any (C : CaseL) (a1 a2 : Option Addr) (c1 c2 : Nat) (R : List Int) (A : Option Addr) (c : Nat) (w : World) (hC : CRep w C a1 a2) (hA : Ints w A R) (he : openE C R = 0) (hN : C.claims ≤ 14) :
    Calls Tryz.prog 30 #[(.agg #[.int .i64 C.claims, .slice a1 C.strikes.length c1, .slice a2 C.surveys.length c2]), .slice A R.length c] w (AlwU C R w) := by
  by_cases h : alwaysE C R = 0
  · refine (always_good C a1 a2 c1 c2 R A c w hC hA h).mono ?_
    rintro e w' ⟨A', c', rfl, hi, ha⟩
    exact ⟨A', c', _, 0, rfl, hi, always_len hN, .inl ⟨rfl, (always_err he).1 h, rfl⟩, ha⟩
  · refine (always_bad C a1 a2 c1 c2 R A c w hC hA h).mono ?_
    rintro e w' ⟨rfl, ha⟩
    refine ⟨none, 0, [], _, rfl, ⟨by simp, .inl rfl⟩, by simp, .inr ⟨h, ?_⟩, ha⟩
    rcases Nat.eq_zero_or_pos (fullsL C R).length with e | e
    · exact e
    · exact absurd ((always_err he).2 e) h

set_option maxRecDepth 100000 in
set_option maxHeartbeats 16000000 in
theorem stood_any (w : World) (A : Option Addr) (l : List Int) (c : Nat) (Am : Option Addr) (tr : List Int) (cm : Nat) (hA : Bytes w A l) (hB : Bytes w Am tr) : Calls Tryz.prog 10 #[.slice A l.length c, .slice Am tr.length cm] w fun e w' => e = .returned (.bool true) ∧ Aft w w' := by
  replace HA := Lib.hid hA
  replace HB := Lib.hid hB
  clear hA hB
  go_enter Tryz.func10, Tryz.ntmps10
  (repeat (first | go_big_skip | go_big_want | go_big_move | go_big_op | go_step | go_upon | go_back))
  go_at_call 37
  refine (of_any A l c w HA.out).mono ?_
  rintro e x ⟨rfl, hdk⟩
  dsimp only
  replace HDK := Lib.hid hdk
  clear hdk
  (repeat (first | go_big_skip | go_big_want | go_big_move | go_big_op | go_step | go_upon | go_back))
  go_at_call 37
  refine (of_any Am tr cm x (HB.out.aft HDK.out.2.2.1)).mono ?_
  rintro e x2 ⟨rfl, hdk⟩
  dsimp only
  replace HD2 := Lib.hid (hdk.base HB.out (HDK.out.2.2.1.trans hdk.2.2.1) HDK.out.2.2.1.size)
  replace HD1 := Lib.hid (HDK.out.aft hdk.2.2.1)
  have hdd : w.heap.size < x.heap.size := HDK.out.lt
  have hb2 : x.heap.size < x2.heap.size := hdk.lt
  clear hdk HDK
  (repeat (first | go_big_skip | go_big_want | go_big_move | go_big_op | go_step | go_upon | go_back))
  go_at_call 36
  refine (made_any w w.heap.size A l c 0 10 x2 HD1.out (by omega) (by omega) (by omega)).mono ?_
  rintro e y ⟨N, L, T, a1, a2, c1, c2, rfl, hN1, hN14, hdr, hT3, hrep, hd1, hg1⟩
  dsimp only
  replace HD2 := Lib.hid (HD2.out.other hg1 (by omega) (Nat.le_refl _))
  replace HD1 := Lib.hid hd1
  replace HDR := Lib.hid hdr
  replace HRP := Lib.hid hrep
  have hsz := hg1.size
  clear hd1 hdr hrep hg1
  obtain ⟨dn, hdn⟩ : ∃ dn, w.heap.size = dn := ⟨_, rfl⟩
  obtain ⟨dt, hdt⟩ : ∃ dt, x.heap.size = dt := ⟨_, rfl⟩
  obtain ⟨b, hb⟩ : ∃ b, x2.heap.size = b := ⟨_, rfl⟩
  rw [hdn] at HD1
  rw [hdt] at HD2
  rw [hb] at HRP
  rw [hdn, hdt] at hdd
  rw [hdt, hb] at hb2
  rw [hb] at hsz
  rw [hdn, hdt]
  clear hdt hb HB HA
  replace HDN := Lib.hid hdn
  clear hdn
  go_upto_region 3 with (refine wpList_store_new rfl 25 (.tmp 7) (.tmp 47) rfl rfl rfl info25b rfl (all_oneCell_toArray (by intro v hv; simp at hv; rcases hv with rfl | rfl | rfl <;> rfl)) ?_)
  simp only [Act.put]
  replace HY := Lib.hid (Aft.alloc y (.cells #[.int .i64 N, .slice a1 L.length c1, .slice a2 T.length c2] 25))
  have HBX : Hid (∀ X, Sm b (y.alloc (.cells #[.int .i64 N, .slice a1 L.length c1, .slice a2 T.length c2] 25)) X → Blk X y.heap.size 25 #[.int .i64 N, .slice a1 L.length c1, .slice a2 T.length c2]) := Lib.hid fun X hX => blk_sm (Blk.new y 25 _) hX hsz
  replace HRP := Lib.hid (HRP.out.sm (Sm.of_aft HY.out))
  replace HD1 := Lib.hid (HD1.out.aft HY.out)
  replace HD2 := Lib.hid (HD2.out.aft HY.out)
  have hsy : b ≤ (y.alloc (.cells #[.int .i64 N, .slice a1 L.length c1, .slice a2 T.length c2] 25)).heap.size := Nat.le_trans hsz HY.out.size
  obtain ⟨b7, hb7⟩ : ∃ b7, y.heap.size = b7 := ⟨_, rfl⟩
  rw [hb7] at HBX ⊢
  clear HY hb7 hsz
  generalize y.alloc (.cells #[.int .i64 N, .slice a1 L.length c1, .slice a2 T.length c2] 25) = Y at *
  have hcase : caseE ⟨N, L, T⟩ = 0 := HDR.out.ok ⟨hN1, by omega⟩ (by omega)
  replace HCASE := Lib.hid hcase
  replace HINS := Lib.hid (show ∀ s ∈ L, 0 ≤ s.1 ∧ s.1 < N from fun s hs => (HDR.out.ins s hs).1)
  have hL60 := HDR.out.len
  clear hcase HDR
  have hbox := HBX.out Y (Sm.refl _ _)
  have k0 : Y.cell? ⟨b7, 0, none⟩ = some (.int .i64 N) := hbox.cell 0
  have k3 := hbox.lt
  replace HSO := Lib.hid (some_any w dn A l c (0 + 200) N 6 Y HD1.out (by omega) (by omega) (by omega) (by omega))
  clear hbox
  go_upto_region 4 with (go_at_call 41; refine HSO.out.mono ?_; rintro e y3 ⟨v, R, rfl, ho, hR1, hR2, hR3, -, hg⟩; obtain ⟨AR, cR, rfl, hri⟩ := IntsS.of_own (b := b) ho (by omega) hsy; replace HR := Lib.hid hri; replace HRI := Lib.hid hR2; replace HRR := Lib.hid hR3; replace HSM := Lib.hid (sm_deal hg (show dn < b by omega)); replace HD2 := Lib.hid (HD2.out.other hg (by omega) (by have := HDN.out; omega)); clear ho hR2 hR3 hg hri)
  have hopen : openE ⟨N, L, T⟩ R = 0 := openE_zero HCASE.out HRI.out HRR.out
  replace HOP := Lib.hid hopen
  have hS3 := Nat.le_trans hsy HSM.out.size
  replace HRP := Lib.hid (HRP.out.sm HSM.out)
  replace HBX := Lib.hid (fun X hX => HBX.out X (HSM.out.trans hX))
  clear hopen HRR k0 k3 HSO HD1 hsy HRI HSM
  obtain ⟨f, hf⟩ : ∃ f, award L noS N (begF (refL R)) = f := ⟨_, rfl⟩
  replace HF := Lib.hid hf
  clear hf
  have H39 : Hid (∀ X, Sm b y3 X → Calls Tryz.prog 39 #[.agg #[.int .i64 N, .slice a1 L.length c1, .slice a2 T.length c2], .slice AR R.length cR] X (GoodL (foundL f N) X)) := Lib.hid fun X hX => by
    have := award_good ⟨N, L, T⟩ a1 a2 c1 c2 R AR cR X (HRP.out X hX) (HR.out X hX) HOP.out N rfl
    rw [← HF.out]
    exact this
  obtain ⟨aw, haw⟩ : ∃ aw, foundL f N = aw := ⟨_, rfl⟩
  rw [haw] at H39
  have hawl : aw.length = N := by rw [← haw, foundL_len]
  have HAWG : Hid (∀ i, (h : i < N) → (h1 : i < aw.length) → aw[i] = ((f i : Nat) : Int)) := Lib.hid fun i h h1 => by
    have : (foundL f N)[i]'(by rw [foundL_len]; exact h) = ((f i : Nat) : Int) := foundL_get _ _ _
    simpa only [haw] using this
  replace HAWL := Lib.hid hawl
  clear haw hawl
  obtain ⟨G, hG⟩ : ∃ G, fullsL ⟨N, L, T⟩ R = G := ⟨_, rfl⟩
  have H27 : Hid (∀ X, Sm b y3 X → Calls Tryz.prog 27 #[.agg #[.int .i64 N, .slice a1 L.length c1, .slice a2 T.length c2], .slice AR R.length cR] X (FullU G X)) := Lib.hid fun X hX => by
    rw [← hG]
    exact full27_any ⟨N, L, T⟩ a1 a2 c1 c2 R AR cR X (HRP.out X hX) (HR.out X hX) HOP.out
  replace HG := Lib.hid hG
  have H25 : Hid (∀ X AX cX (Z : List Int), Sm b y3 X → Ints X AX Z → Z.Pairwise (· < ·) → (∀ x ∈ Z, 0 ≤ x ∧ x < N) → Calls Tryz.prog 25 #[.agg #[.int .i64 N, .slice a1 L.length c1, .slice a2 T.length c2], .slice AR R.length cR, .slice AX Z.length cX] X fun e w' => e = .returned (.tuple #[.bool (Court.standB L (refL R) Z), .int .i64 0]) ∧ Aft X w') := Lib.hid fun X AX cX Z hX hi h1 h2 => by
    have := stands25_any ⟨N, L, T⟩ a1 a2 c1 c2 R Z AR AX cR cX X (HRP.out X hX) (HR.out X hX) hi
    have e : standsE ⟨N, L, T⟩ R Z = 0 := by
      unfold standsE
      rw [if_pos HOP.out]
      exact listedE_zero h2 (rises_of h1)
    unfold StandsR at this
    have e3 : standsB (⟨N, L, T⟩ : CaseL).strikes noS (refL R) (refL Z) (⟨N, L, T⟩ : CaseL).claims.toNat = Court.standB L (refL R) Z := by
      show standsB L noS (refL R) (refL Z) (N : Int).toNat = _
      rw [Int.toNat_natCast]
      exact standsB_eq h2
    rw [e, e3] at this
    simpa using this
  clear hG
  obtain ⟨k0, k1, k2⟩ := box25 (HBX.out y3 (Sm.refl _ _))
  have k3 := (HBX.out y3 (Sm.refl _ _)).lt
  go_upto_region 5 with (go_at_call 39; refine (H39.out _ (Sm.refl _ _)).mono ?_; rintro e x4 ⟨v, rfl, ho, ha⟩; obtain ⟨A9, c9, rfl, hi⟩ := IntsS.of_own (b := b) ho (by have := HAWL.out; omega) hS3; replace HAW := Lib.hid hi; replace HSM := Lib.hid (Sm.of_aft (b := b) ha); replace HD2 := Lib.hid (HD2.out.aft ha); rw [HAWL.out]; clear ho hi ha k0 k1 k2 k3)
  have hS4 := Nat.le_trans hS3 HSM.out.size
  obtain ⟨k0, k1, k2⟩ := box25 (HBX.out x4 HSM.out)
  have k3 := (HBX.out x4 HSM.out).lt
  go_upto_region 6 with (go_at_call 27; refine (H27.out _ HSM.out).mono ?_; rintro e x5 ⟨A11, c11, F, FE, rfl, hFl, hFU, ha⟩; have HFL : Hid (LsS b x5 A11 F) := Lib.hid fun X hX => hFl X (hX.mono hS4); replace HFU := Lib.hid hFU; replace HAW := Lib.hid (HAW.out.sm (Sm.of_aft ha)); replace HSM := Lib.hid (HSM.out.trans (Sm.of_aft (b := b) ha)); replace HD2 := Lib.hid (HD2.out.aft ha); clear hFl hFU ha k0 k1 k2 k3 H39 H27)
  have hS5 := Nat.le_trans hS3 HSM.out.size
  obtain ⟨k0, k1, k2⟩ := box25 (HBX.out x5 HSM.out)
  have k3 := (HBX.out x5 HSM.out).lt
  go_cut [80] from 64 to 80 (fun s80 wx => s80 = .bool false ∧ wx = x5)
  case first =>
    rcases HFU.out with ⟨rfl, _⟩ | ⟨rfl, _⟩
    all_goals
      (repeat (first | go_big_skip | go_big_want | go_big_move | go_big_op | go_step | go_upon | go_back))
      go_meet
      exact ⟨rfl, rfl⟩
  obtain ⟨rfl, rfl⟩ := hcut

  go_upto_block 0 with fail
  clear k0 k1 k2 k3
  replace HV0 := Lib.hid (World.ownsRow_nil wc wc.heap.size 3 1)
  refine wp_block ?_
  go_loopw [13, 14, 83] (fun v z i wr => ∃ k : Nat, i = .int .i64 k ∧ k ≤ N ∧ z = .int .i64 (openN f k) ∧ wr.ownsRow wc.heap.size 3 1 v (uphL f k).length ((uphL f k).map (Value.int .i64)) ∧ Aft wc wr) (fun _ _ i _ => N - (intOf i).toNat)
  case atStart => exact ⟨0, rfl, by omega, rfl, HV0.out, Aft.refl _⟩
  case round =>
    obtain ⟨k, rfl, hk, rfl, hown, hax⟩ := hrel
    replace HOW := Lib.hid hown
    replace HAX := Lib.hid hax
    have hul := uphL_len f k
    have hol := openN_le f k
    clear hown hax
    by_cases hkN : k < N
    · have t1 : decide (k < N) = true := by simpa using hkN
      have ik : (0 : Int) ≤ (k : Int) ∧ (k : Int) < (N : Int) := by omega
      obtain ⟨bA, oA, hbA, hltA, hcA⟩ := (HAW.out wr (Sm.of_aft HAX.out)).at (show k < aw.length by rw [HAWL.out]; exact hkN)
      subst hbA
      have x0 := hcA k (by rw [HAWL.out]; exact hkN)
      rw [HAWG.out k hkN] at x0
      clear hcA
      replace HUS := Lib.hid (uphL_succ f k)
      replace HOS := Lib.hid (openN_succ f k)
      have hbase : wc.heap.size ≤ wr.heap.size := HAX.out.size
      generalize f k = fv at *
      by_cases h1 : fv = 1
      · subst h1
        rw [if_pos rfl] at HUS
        rw [if_neg (by decide)] at HOS
        replace HTA := Lib.hid (own_aft HOW.out (Aft.alloc wr (.cells #[.int .i64 k] 3)))
        have hbase2 : wc.heap.size ≤ (wr.alloc (.cells #[.int .i64 k] 3)).heap.size := by simp; omega
        go_wp2_with (at_builtin; refine wpList_push rfl _ _ rfl HTA.out hbase2 rfl rfl (cell_new1 _ _ _) (by omega) ?_; intro v2 w2 h2 hg2; replace H2 := Lib.hid h2; replace HG2 := Lib.hid hg2; clear h2 hg2)
        exact ⟨⟨k + 1, by go_num, by omega, by rw [HOS.out]; rfl, by rw [HUS.out]; exact H2.out, (HAX.out.then_alloc _).grown HG2.out (fun g hg => own_ge HTA.out g hg)⟩, by simp [intOf]; omega⟩
      · have t2 : (((fv : Nat) : Int) == 1) = false := beq_eq_false_iff_ne.2 (by omega)
        rw [if_neg h1] at HUS
        by_cases h0 : fv = 0
        · subst h0
          rw [if_pos rfl] at HOS
          go_wp2_with fail
          exact ⟨⟨k + 1, by go_num, by omega, by rw [HOS.out]; go_num, by rw [HUS.out]; simpa using HOW.out, HAX.out⟩, by simp [intOf]; omega⟩
        · have t3 : (((fv : Nat) : Int) == 0) = false := beq_eq_false_iff_ne.2 (by omega)
          rw [if_neg h0] at HOS
          go_wp2_with fail
          exact ⟨⟨k + 1, by go_num, by omega, by rw [HOS.out]; rfl, by rw [HUS.out]; simpa using HOW.out, HAX.out⟩, by simp [intOf]; omega⟩
    · have t1 : decide (k < N) = false := by simpa using hkN
      obtain rfl : N = k := by omega
      obtain ⟨U, hU⟩ : ∃ U, uphL f N = U := ⟨_, rfl⟩
      obtain ⟨Z, hZ⟩ : ∃ Z, openN f N = Z := ⟨_, rfl⟩
      replace HUE := Lib.hid hU
      replace HZE := Lib.hid hZ
      rw [hU] at HOW hul
      rw [hZ] at hol ⊢
      have HUS : Hid (U.Pairwise (· < ·)) := Lib.hid (by rw [← hU]; exact uphL_sorted f N)
      have HUI : Hid (∀ x ∈ U, 0 ≤ x ∧ x < N) := Lib.hid fun x hx => (uphL_mem.1 (by rw [hU]; exact hx)).1
      have HUT : Hid (Court.standB L (refL R) U = true) := Lib.hid (by
        have h1 := uphL_stand (S := L) (R := R) (N := N) HINS.out
        rw [HF.out, hU] at h1
        rw [← standsB_eq HUI.out]
        exact h1)
      clear hU hZ hkN
      obtain ⟨W1, rfl⟩ : ∃ W1, W1 = wr := ⟨_, rfl⟩
      obtain ⟨A13, c13, rfl, hi⟩ := IntsS.of_own (b := b) HOW.out (by omega) hS5
      replace HU := Lib.hid hi
      replace HFL := Lib.hid (HFL.out.sm (Sm.of_aft HAX.out))
      replace HAW := Lib.hid (HAW.out.sm (Sm.of_aft HAX.out))
      replace HSM := Lib.hid (HSM.out.trans (Sm.of_aft (b := b) HAX.out))
      replace HD2 := Lib.hid (HD2.out.aft HAX.out)
      obtain ⟨k0, k1, k2⟩ := box25 (HBX.out W1 HSM.out)
      have k3 := (HBX.out W1 HSM.out).lt
      have hst := H25.out W1 A13 c13 U HSM.out (HU.out W1 (Sm.refl _ _)) HUS.out HUI.out
      rw [HUT.out] at hst
      replace HST := Lib.hid hst
      clear hst hi HOW HAX HV0
      go_upto_region 19 with (go_at_call 25; refine HST.out.mono ?_; rintro e w6 ⟨rfl, ha⟩; replace HSM := Lib.hid (HSM.out.trans (Sm.of_aft (b := b) ha)); replace HD2 := Lib.hid (HD2.out.aft ha); replace HFL := Lib.hid (HFL.out.sm (Sm.of_aft ha)); replace HAW := Lib.hid (HAW.out.sm (Sm.of_aft ha)); replace HU := Lib.hid (HU.out.sm (Sm.of_aft ha)); clear ha k0 k1 k2 k3)
      obtain ⟨k0, k1, k2⟩ := box25 (HBX.out w6 HSM.out)
      have k3 := (HBX.out w6 HSM.out).lt
      replace H30 := Lib.hid (always30_any ⟨N, L, T⟩ a1 a2 c1 c2 R AR cR w6 (HRP.out w6 HSM.out) (HR.out w6 HSM.out) HOP.out (by show (N : Int) ≤ 14; omega))
      go_upto_region 22 with (go_at_call 30; refine H30.out.mono ?_; rintro e w7 ⟨A19, c19, AL, AE, rfl, hAi, hA14, hAU, ha⟩; replace HAI := Lib.hid hAi; replace HAU := Lib.hid hAU; replace HSM := Lib.hid (HSM.out.trans (Sm.of_aft (b := b) ha)); replace HD2 := Lib.hid (HD2.out.aft ha); replace HFL := Lib.hid (HFL.out.sm (Sm.of_aft ha)); replace HAW := Lib.hid (HAW.out.sm (Sm.of_aft ha)); replace HU := Lib.hid (HU.out.sm (Sm.of_aft ha)); clear ha hAi hAU k0 k1 k2 k3)
      clear HST H30
      rcases HFU.out with ⟨rfl, hp, hs, h50⟩ | ⟨rfl, h50⟩
      rotate_left
      · have hAE : AE = 0 := by
          rcases HAU.out with ⟨h, _⟩ | ⟨_, h⟩
          · exact h
          · rw [HG.out] at h; omega
        subst hAE
        go_wp2_with (go_at_call 12; refine (awake_any _).mono ?_; rintro e x21 ⟨rfl, ha⟩; replace HSM := Lib.hid (HSM.out.trans (Sm.of_aft (b := b) ha)); replace HD2 := Lib.hid (HD2.out.aft ha); clear ha)
        go_ret
        exact ⟨rfl, HD2.out.2.2.1⟩
      have HGE : Hid (G = Court.grow L (refL R) N N 0 []) := Lib.hid (by
        rw [← HG.out]
        unfold fullsL
        show Court.grow L (refL R) (N : Int).toNat (N : Int).toNat 0 [] = _
        rw [Int.toNat_natCast])
      have HFF : Hid (∀ X ∈ F, FullF L R N X) := Lib.hid fun X hX => fullF_of HINS.out (by rw [← HGE.out]; exact hp.mem_iff.1 hX)
      have HCMP : Hid (∀ k, (h : k + 1 < F.length) → decide (0 ≤ cmpZ F[k] F[k + 1]) = false) := Lib.hid fun k h => fulls_rise (by rw [← HGE.out]; exact hp) hs k h
      have HONE : Hid (Z = 0 → F = [U]) := Lib.hid fun hz => by
        have h1 := fulls_only (S := L) (R := R) (N := N) HINS.out (by rw [HF.out, HZE.out, hz])
        rw [HF.out, HUE.out, ← HGE.out] at h1
        rw [h1] at hp
        exact List.perm_singleton.1 hp
      have HAM : Hid (∀ Y : List Int, Y.Pairwise (· < ·) → (∀ x ∈ Y, 0 ≤ x ∧ x < N) → (F.any fun x => eqB x Y) = (Court.standB L (refL R) Y && Court.coverB L (refL R) N Y)) := Lib.hid fun Y h1 h2 => by
        rw [Bool.eq_iff_iff, ← fullF_iff HINS.out h1 h2, ← HGE.out, ← hp.mem_iff, List.any_eq_true]
        constructor
        · rintro ⟨x, hx, e⟩
          have : x = Y := of_decide_eq_true e
          rw [← this]
          exact hx
        · intro h
          exact ⟨Y, h, decide_eq_true rfl⟩
      have hGF : G.length = F.length := hp.length_eq.symm
      replace HFG := Lib.hid hGF
      have HALW : Hid (∀ X ∈ F, ∀ n ∈ AL, hasB X n = true) := Lib.hid fun X hX n hn => by
        rcases HAU.out with ⟨_, _, e⟩ | ⟨_, e⟩
        · rw [e] at hn
          exact always_in (by rw [HG.out]; exact hp.mem_iff.1 hX) n hn
        · rw [HG.out, hGF] at e
          have := List.length_pos_of_mem hX
          omega
      clear hp hs hGF
      go_upto_region 24 with fail
      go_cut [147] from 125 to 147 (fun s147 wx => s147 = .bool false ∧ Aft w7 wx)
      case first =>
        rcases HAU.out with ⟨rfl, hg, -⟩ | ⟨hne, hg⟩
        · rw [HG.out, HFG.out] at hg
          by_cases hZ0 : Z = 0
          · have e := HONE.out hZ0
            subst hZ0
            subst e
            obtain ⟨bF, oF, rfl, hltF, hcF⟩ := (HFL.out w7 (Sm.refl _ _)).at (show 0 < [U].length by simp)
            obtain ⟨AF, cF, x0, hif⟩ := hcF 0 (by simp)
            have x0 : w7.cell? ⟨bF, oF, none⟩ = some (.slice AF U.length cF) := by simpa using x0
            have h17 := kitEqual_int AF A13 U U cF c13 w7 hif (HU.out w7 (Sm.refl _ _))
            rw [show eqB U U = true from decide_eq_true rfl] at h17
            replace H17 := Lib.hid h17
            rw [show [U].length = 1 from rfl]
            clear h17 hcF hif
            (repeat (first | go_big_skip | go_big_want | go_big_move | go_big_op | go_step | go_upon | go_back))
            go_at_call 17
            refine H17.out.mono ?_
            rintro e w8 ⟨rfl, ha⟩
            replace HW8 := Lib.hid ha
            clear ha
            dsimp only
            (repeat (first | go_big_skip | go_big_want | go_big_move | go_big_op | go_step | go_upon | go_back))
            go_meet
            exact ⟨rfl, HW8.out⟩
          · have t1 : decide (0 < F.length) = true := by simpa using hg
            have t2 : (((Z : Nat) : Int) == 0) = false := beq_eq_false_iff_ne.2 (by omega)
            (repeat (first | go_big_skip | go_big_want | go_big_move | go_big_op | go_step | go_upon | go_back))
            go_meet
            exact ⟨rfl, Aft.refl _⟩
        · rw [HG.out, HFG.out] at hg
          have t0 : (AE == 0) = false := beq_eq_false_iff_ne.2 hne
          have t1 : decide (0 < F.length) = false := by rw [hg]; rfl
          have hZ0 : Z ≠ 0 := fun e => by
            have := HONE.out e
            rw [this] at hg
            cases hg
          have t2 : (((Z : Nat) : Int) == 0) = false := beq_eq_false_iff_ne.2 (by omega)
          (repeat (first | go_big_skip | go_big_want | go_big_move | go_big_op | go_step | go_upon | go_back))
          go_meet
          exact ⟨rfl, Aft.refl _⟩
      obtain ⟨rfl, ha⟩ := hcut
      replace HSM := Lib.hid (HSM.out.trans (Sm.of_aft (b := b) ha))
      replace HD2 := Lib.hid (HD2.out.aft ha)
      replace HFL := Lib.hid (HFL.out.sm (Sm.of_aft ha))
      replace HAW := Lib.hid (HAW.out.sm (Sm.of_aft ha))
      replace HAI := Lib.hid (HAI.out.aft ha)
      clear ha HFU HAU HONE HFG HUT HUS HUI HUE
      obtain ⟨W8, rfl⟩ : ∃ W8, W8 = wc := ⟨_, rfl⟩
      go_upto_block 2 with fail
      refine wp_block ?_
      go_loopw [150] (fun i wr => ∃ k : Nat, i = .int .i64 k ∧ k ≤ F.length ∧ Aft W8 wr) (fun i _ => F.length - (intOf i).toNat)
      case atStart => exact ⟨0, rfl, by omega, Aft.refl _⟩
      case round =>
        obtain ⟨k, rfl, hk, hx⟩ := hrel
        replace HX := Lib.hid hx
        clear hx
        by_cases hkF : k < F.length
        · as_aux_lemma =>
            have t1 : decide (k < F.length) = true := by simpa using hkF
            have ik : (0 : Int) ≤ (k : Int) ∧ (k : Int) < (F.length : Int) := by omega
            obtain ⟨bF, oF, hbF, hltF, -⟩ := (HFL.out wr (Sm.of_aft HX.out)).at hkF
            subst hbF
            have HCF : Hid (∀ W, Aft W8 W → ∀ j, (h : j < F.length) → ∃ A c, W.cell? ⟨bF, oF + j, none⟩ = some (.slice A F[j].length c) ∧ Ints W A F[j]) := Lib.hid fun W hW j hj => by
              obtain ⟨b', o', e', _, hc'⟩ := (HFL.out W (Sm.of_aft hW)).at hj
              cases e'
              obtain ⟨A, c, h1, h2⟩ := hc' j hj
              exact ⟨A, c, by simpa using h1, h2⟩
            obtain ⟨AX, cX, x0, hix⟩ := HCF.out wr HX.out k hkF
            have hff := HFF.out _ (List.getElem_mem hkF)
            have hal := HALW.out _ (List.getElem_mem hkF)
            obtain ⟨X, hXe⟩ : ∃ X, F[k] = X := ⟨_, rfl⟩
            rw [hXe] at x0 hix hff hal
            have HIX : Hid (∀ W, Aft wr W → Ints W AX X) := Lib.hid fun W h => hix.aft h
            replace HFX := Lib.hid hff
            replace HAL := Lib.hid hal
            replace HXE := Lib.hid hXe
            obtain ⟨k0, k1, k2⟩ := box25 (HBX.out wr (HSM.out.trans (Sm.of_aft HX.out)))
            have k3 := (HBX.out wr (HSM.out.trans (Sm.of_aft HX.out))).lt
            have hst := H25.out wr AX cX X (HSM.out.trans (Sm.of_aft HX.out)) hix hff.sorted hff.ins
            rw [hff.stand] at hst
            replace HST := Lib.hid hst
            obtain ⟨Wk, rfl⟩ : ∃ Wk, Wk = wr := ⟨_, rfl⟩
            clear hst hix hff hal hXe
            go_upto_region 30 with (go_at_call 25; refine HST.out.mono ?_; rintro e w9 ⟨rfl, ha⟩; replace HX9 := Lib.hid ha; clear ha k0 k1 k2 k3)
            clear HST x0
            go_cut [181] from 162 to 181 (fun s181 wx => s181 = .bool false ∧ wx = w9)
            case first =>
              by_cases hk0 : k = 0
              · subst hk0
                (repeat (first | go_big_skip | go_big_want | go_big_move | go_big_op | go_step | go_upon | go_back))
                go_meet
                exact ⟨rfl, rfl⟩
              · obtain ⟨j, rfl⟩ : ∃ j, k = j + 1 := ⟨k - 1, by omega⟩
                have t2 : decide (0 < j + 1) = true := by simp
                obtain ⟨AP, cP, x1, hip⟩ := HCF.out w9 (HX.out.trans HX9.out) j (by omega)
                have hcm := compare_any w9 F[j] X AP AX cP cX hip (HIX.out w9 HX9.out)
                have hcz := HCMP.out j hkF
                rw [HXE.out] at hcz
                obtain ⟨cz, hce⟩ : ∃ cz, cmpZ F[j] X = cz := ⟨_, rfl⟩
                rw [hce] at hcm hcz
                replace HCM := Lib.hid hcm
                clear hcm hip hce
                have ij : (0 : Int) ≤ (j : Int) ∧ (j : Int) < (F.length : Int) := by omega
                (repeat (first | go_big_skip | go_big_want | go_big_move | go_big_op | go_step | go_upon | go_back))
                go_at_call 49
                refine HCM.out.mono ?_
                rintro e w10 ⟨rfl, rfl⟩
                dsimp only
                (repeat (first | go_big_skip | go_big_want | go_big_move | go_big_op | go_step | go_upon | go_back))
                go_meet
                exact ⟨rfl, rfl⟩
            obtain ⟨rfl, rfl⟩ := hcut
            clear HXE HCF
            obtain ⟨W9, rfl⟩ : ∃ W9, W9 = wc := ⟨_, rfl⟩
            go_upto_block 4 with fail
            refine wp_block ?_
            go_loopw [184] (fun i wr => ∃ n : Nat, i = .int .i64 n ∧ n ≤ N ∧ Aft W9 wr) (fun i _ => N - (intOf i).toNat)
            case atStart => exact ⟨0, rfl, by omega, Aft.refl _⟩
            case round =>
              obtain ⟨n, rfl, hn, hy⟩ := hrel
              replace HY := Lib.hid hy
              clear hy
              by_cases hnN : n < N
              · have t2 : decide (n < N) = true := by simpa using hnN
                have inn : (0 : Int) ≤ (n : Int) ∧ (n : Int) < (N : Int) := by omega
                have HAll := Lib.hid ((HX.out.trans HX9.out).trans HY.out)
                obtain ⟨bA, oA, hbA, hltA, hcA⟩ := (HAW.out wr (Sm.of_aft HAll.out)).at (show n < aw.length by rw [HAWL.out]; exact hnN)
                subst hbA
                have x1 := hcA n (by rw [HAWL.out]; exact hnN)
                rw [HAWG.out n hnN] at x1
                have hup := HFX.out.up n hnN
                have hdn := HFX.out.down n hnN
                have hni := HFX.out.nice n
                rw [HF.out] at hup hdn
                have h38 := contains_any AX X cX n wr (HIX.out wr (HX9.out.trans HY.out))
                have h38r := contains_any AR R cR n wr (HR.out wr ((HSM.out.trans (Sm.of_aft HAll.out))))
                obtain ⟨fv, hfv⟩ : ∃ fv, f n = fv := ⟨_, rfl⟩
                obtain ⟨bx, hbx⟩ : ∃ bx, hasB X n = bx := ⟨_, rfl⟩
                obtain ⟨br, hbr⟩ : ∃ br, hasB R n = br := ⟨_, rfl⟩
                rw [hfv] at x1 hup hdn
                rw [hbx] at hup hdn hni h38
                rw [hbr] at hni h38r
                replace H38 := Lib.hid h38
                replace H38R := Lib.hid h38r
                clear hfv hbx hbr hcA h38 h38r
                go_upto_region 36 with (go_at_call 38; refine H38.out.mono ?_; rintro e w11 ⟨rfl, rfl⟩)
                go_cut [212] from 192 to 212 (fun s212 wx => s212 = .bool false ∧ wx = wr)
                case first =>
                  cases bx
                  · have h1 : fv ≠ 1 := fun e => by have := hup e; cases this
                    have t3 : (((fv : Nat) : Int) == 1) = false := beq_eq_false_iff_ne.2 (by omega)
                    clear hup hdn hni
                    by_cases h2 : fv = 2
                    · subst h2
                      cases br
                      all_goals
                        (repeat (first | go_big_skip | go_big_want | go_big_move | go_big_op | go_step | go_upon | go_back))
                        go_at_call 38
                        refine H38R.out.mono ?_
                        rintro e w12 ⟨rfl, rfl⟩
                        dsimp only
                        (repeat (first | go_big_skip | go_big_want | go_big_move | go_big_op | go_step | go_upon | go_back))
                        go_meet
                        exact ⟨rfl, rfl⟩
                    · have t4 : (((fv : Nat) : Int) == 2) = false := beq_eq_false_iff_ne.2 (by omega)
                      cases br
                      all_goals
                        (repeat (first | go_big_skip | go_big_want | go_big_move | go_big_op | go_step | go_upon | go_back))
                        go_at_call 38
                        refine H38R.out.mono ?_
                        rintro e w12 ⟨rfl, rfl⟩
                        dsimp only
                        (repeat (first | go_big_skip | go_big_want | go_big_move | go_big_op | go_step | go_upon | go_back))
                        go_meet
                        exact ⟨rfl, rfl⟩
                  · have h2 : fv ≠ 2 := fun e => by have := hdn e; cases this
                    have t4 : (((fv : Nat) : Int) == 2) = false := beq_eq_false_iff_ne.2 (by omega)
                    obtain rfl : br = false := by
                      cases br
                      · rfl
                      · have := hni rfl; cases this
                    clear hup hdn hni
                    by_cases h1 : fv = 1
                    · subst h1
                      (repeat (first | go_big_skip | go_big_want | go_big_move | go_big_op | go_step | go_upon | go_back))
                      go_at_call 38
                      refine H38R.out.mono ?_
                      rintro e w12 ⟨rfl, rfl⟩
                      dsimp only
                      (repeat (first | go_big_skip | go_big_want | go_big_move | go_big_op | go_step | go_upon | go_back))
                      go_meet
                      exact ⟨rfl, rfl⟩
                    · have t3 : (((fv : Nat) : Int) == 1) = false := beq_eq_false_iff_ne.2 (by omega)
                      (repeat (first | go_big_skip | go_big_want | go_big_move | go_big_op | go_step | go_upon | go_back))
                      go_at_call 38
                      refine H38R.out.mono ?_
                      rintro e w12 ⟨rfl, rfl⟩
                      dsimp only
                      (repeat (first | go_big_skip | go_big_want | go_big_move | go_big_op | go_step | go_upon | go_back))
                      go_meet
                      exact ⟨rfl, rfl⟩
                obtain ⟨rfl, rfl⟩ := hcut
                go_wp2_with fail
                exact ⟨⟨n + 1, by go_num, by omega, HY.out⟩, by simp [intOf]; omega⟩
              · have t2 : decide (n < N) = false := by simpa using hnN
                obtain rfl : N = n := by omega
                obtain ⟨W10, rfl⟩ : ∃ W10, W10 = wr := ⟨_, rfl⟩
                replace HX10 := Lib.hid (HX9.out.trans HY.out)
                clear HY hnN
                go_upto_block 6 with fail
                refine wp_block ?_
                go_loopw [216] (fun i wr => ∃ q : Nat, i = .int .i64 q ∧ q ≤ AL.length ∧ Aft W10 wr) (fun i _ => AL.length - (intOf i).toNat)
                case atStart => exact ⟨0, rfl, by omega, Aft.refl _⟩
                case round =>
                  obtain ⟨q, rfl, hq, hy⟩ := hrel
                  replace HY := Lib.hid hy
                  clear hy
                  by_cases hqA : q < AL.length
                  · have t3 : decide (q < AL.length) = true := by simpa using hqA
                    have iq : (0 : Int) ≤ (q : Int) ∧ (q : Int) < (AL.length : Int) := by omega
                    replace HXA := Lib.hid (HX10.out.trans HY.out)
                    obtain ⟨bL, oL, hbL, hltL, hcL⟩ := (HAI.out.aft (HX.out.trans HXA.out)).at hqA
                    subst hbL
                    have x1 := hcL q hqA
                    have hin := HAL.out AL[q] (List.getElem_mem hqA)
                    have h38 := contains_any AX X cX AL[q] wr (HIX.out wr HXA.out)
                    rw [hin] at h38
                    generalize AL[q] = yq at *
                    replace H38 := Lib.hid h38
                    clear h38 hcL hin
                    go_wp2_with (go_at_call 38; refine H38.out.mono ?_; rintro e w11 ⟨rfl, rfl⟩)
                    exact ⟨⟨q + 1, by go_num, by omega, HY.out⟩, by simp [intOf]; omega⟩
                  · have t3 : decide (q < AL.length) = false := by simpa using hqA
                    obtain ⟨W11, rfl⟩ : ∃ W11, W11 = wr := ⟨_, rfl⟩
                    replace HX11 := Lib.hid (HX10.out.trans HY.out)
                    have HCV : Hid (∀ n, n < N → seenB L R X n L.length = true) := Lib.hid fun n hn => by
                      have := HFX.out.cover
                      rw [cover_seen] at this
                      exact List.all_eq_true.1 this n (List.mem_range.2 hn)
                    replace HSK := Lib.hid (HSM.out.trans (Sm.of_aft (b := b) HX.out))
                    replace HBO := Lib.hid HX11.out
                    clear HY hqA
                    obtain ⟨k0, k1, k2⟩ := box25 (HBX.out W11 (HSK.out.trans (Sm.of_aft HX11.out)))
                    have k3 := (HBX.out W11 (HSK.out.trans (Sm.of_aft HX11.out))).lt
                    go_upto_block 8 with fail
                    clear k0 k1 k2 k3
                    refine wp_block ?_
                    go_loopw [227] (fun i wr => ∃ n : Nat, i = .int .i64 n ∧ n ≤ N ∧ Aft W11 wr) (fun i _ => N - (intOf i).toNat)
                    case atStart => exact ⟨0, rfl, by omega, Aft.refl _⟩
                    case round =>
                      obtain ⟨n, rfl, hn, hy⟩ := hrel
                      replace HY := Lib.hid hy
                      clear hy
                      by_cases hnN : n < N
                      · as_aux_lemma =>
                          have t4 : decide (n < N) = true := by simpa using hnN
                          have inn : (0 : Int) ≤ (n : Int) ∧ (n : Int) < (N : Int) := by omega
                          have HXA : Hid (Aft Wk wr) := Lib.hid (HBO.out.trans HY.out)
                          have h38 := contains_any AX X cX n wr (HIX.out wr HXA.out)
                          have h38r := contains_any AR R cR n wr (HR.out wr (HSK.out.trans (Sm.of_aft HXA.out)))
                          have hs0 := seenB_zero (L := L) (R := R) (X := X) (i := n)
                          obtain ⟨bx, hbx⟩ : ∃ bx, hasB X n = bx := ⟨_, rfl⟩
                          obtain ⟨br, hbr⟩ : ∃ br, hasB R n = br := ⟨_, rfl⟩
                          rw [hbx] at h38 hs0
                          rw [hbr] at h38r hs0
                          replace H38 := Lib.hid h38
                          replace H38R := Lib.hid h38r
                          replace HS0 := Lib.hid hs0
                          clear hbx hbr h38 h38r hs0
                          obtain ⟨k0, k1, k2⟩ := box25 (HBX.out wr (HSK.out.trans (Sm.of_aft HXA.out)))
                          have k3 := (HBX.out wr (HSK.out.trans (Sm.of_aft HXA.out))).lt
                          go_upto_region 48 with fail
                          go_cut [31] from 230 to 237 (fun sv wx => sv = .bool (seenB L R X n 0) ∧ wx = wr)
                          case first =>
                            cases bx
                            · (repeat (first | go_big_skip | go_big_want | go_big_move | go_big_op | go_step | go_upon | go_back))
                              go_at_call 38
                              refine H38.out.mono ?_
                              rintro e w12 ⟨rfl, rfl⟩
                              dsimp only
                              (repeat (first | go_big_skip | go_big_want | go_big_move | go_big_op | go_step | go_upon | go_back))
                              go_at_call 38
                              refine H38R.out.mono ?_
                              rintro e w12 ⟨rfl, rfl⟩
                              dsimp only
                              (repeat (first | go_big_skip | go_big_want | go_big_move | go_big_op | go_step | go_upon | go_back))
                              go_meet
                              exact ⟨congrArg Value.bool HS0.out.symm, rfl⟩
                            · (repeat (first | go_big_skip | go_big_want | go_big_move | go_big_op | go_step | go_upon | go_back))
                              go_at_call 38
                              refine H38.out.mono ?_
                              rintro e w12 ⟨rfl, rfl⟩
                              dsimp only
                              (repeat (first | go_big_skip | go_big_want | go_big_move | go_big_op | go_step | go_upon | go_back))
                              go_meet
                              exact ⟨congrArg Value.bool HS0.out.symm, rfl⟩
                          obtain ⟨rfl, rfl⟩ := hcut
                          go_upto_block 10 with fail
                          clear k0 k1 k2 k3
                          obtain ⟨Wn, rfl⟩ : ∃ Wn, Wn = wc := ⟨_, rfl⟩
                          clear H38 H38R HS0
                          refine wp_block ?_
                          go_loopw [31, 241] (fun s i wr2 => ∃ j : Nat, i = .int .i64 j ∧ s = .bool (seenB L R X n j) ∧ j ≤ L.length ∧ Aft Wn wr2) (fun _ i _ => L.length - (intOf i).toNat)
                          case atStart => exact ⟨0, rfl, rfl, by omega, Aft.refl _⟩
                          case round =>
                            obtain ⟨j, rfl, rfl, hj, hz⟩ := hrel
                            replace HZ := Lib.hid hz
                            clear hz
                            replace HXA := Lib.hid (HXA.out.trans HZ.out)
                            by_cases hjL : j < L.length
                            · have t7 : decide (j < L.length) = true := by simpa using hjL
                              have ij : (0 : Int) ≤ (j : Int) ∧ (j : Int) < (L.length : Int) := by omega
                              obtain ⟨bs, os, hbs, hlts, hcs⟩ := (HRP.out wr (HSK.out.trans (Sm.of_aft HXA.out))).strikes.at hjL
                              subst hbs
                              obtain ⟨x0, x1⟩ := hcs j hjL
                              have hss := seenB_succ (R := R) (X := X) (i := n) hjL
                              obtain ⟨⟨y0, y1⟩, hy⟩ : ∃ y, L[j] = y := ⟨_, rfl⟩
                              rw [hy] at x0 x1 hss
                              dsimp only at hss
                              obtain ⟨sb, hsb⟩ : ∃ sb, seenB L R X n j = sb := ⟨_, rfl⟩
                              obtain ⟨bz, hbz⟩ : ∃ bz, hasB X y0 = bz := ⟨_, rfl⟩
                              rw [hsb, hbz] at hss
                              rw [hsb]
                              replace HSS := Lib.hid hss
                              replace HBZ := Lib.hid hbz
                              clear hss hsb hcs hy hbz
                              go_upto_region 52 with (refine wpList_store_new rfl 57 (.tmp 33) (.tmp 244) rfl rfl rfl info57' rfl (all_oneCell_toArray (by intro v hv; simp at hv; rcases hv with rfl | rfl <;> rfl)) ?_)
                              try simp only [Act.put]
                              replace HB33 := Lib.hid (Blk.new wr 57 #[.int .i64 y0, .int .i64 y1])
                              replace HA33 := Lib.hid (Aft.alloc wr (.cells #[.int .i64 y0, .int .i64 y1] 57))
                              obtain ⟨b33, hb33⟩ : ∃ b33, wr.heap.size = b33 := ⟨_, rfl⟩
                              rw [hb33] at HB33 ⊢
                              replace HZ := Lib.hid (HZ.out.trans HA33.out)
                              replace HXA := Lib.hid (HXA.out.trans HA33.out)
                              clear hb33 HA33 x0 x1
                              generalize wr.alloc (.cells #[.int .i64 y0, .int .i64 y1] 57) = W13 at *
                              have j0 : W13.cell? ⟨b33, 0, none⟩ = some (.int .i64 y0) := HB33.out.cell 0
                              have j1 : W13.cell? ⟨b33, 1, none⟩ = some (.int .i64 y1) := HB33.out.cell 1
                              have j2 := HB33.out.lt
                              have h38 := contains_any AX X cX y0 W13 (HIX.out W13 HXA.out)
                              rw [HBZ.out] at h38
                              replace H38 := Lib.hid h38
                              clear h38 HBZ
                              cases sb
                              · cases hy1 : (y1 == (n : Int))
                                · rw [hy1] at HSS
                                  go_wp2_with fail
                                  exact ⟨⟨j + 1, by go_num, congrArg Value.bool HSS.out.symm, by omega, HZ.out⟩, by simp [intOf]; omega⟩
                                · rw [hy1] at HSS
                                  go_wp2_with (go_at_call 38; refine H38.out.mono ?_; rintro e w14 ⟨rfl, rfl⟩)
                                  exact ⟨⟨j + 1, by go_num, congrArg Value.bool HSS.out.symm, by omega, HZ.out⟩, by simp [intOf]; omega⟩
                              · go_wp2_with fail
                                exact ⟨⟨j + 1, by go_num, congrArg Value.bool HSS.out.symm, by omega, HZ.out⟩, by simp [intOf]; omega⟩
                            · have t7 : decide (j < L.length) = false := by simpa using hjL
                              obtain rfl : L.length = j := by omega
                              replace HE := Lib.hid (HY.out.trans HZ.out)
                              rw [HCV.out n hnN]
                              go_wp2_with fail
                              exact ⟨⟨n + 1, by go_num, by omega, HE.out⟩, by simp [intOf]; omega⟩
                      · have t4 : decide (n < N) = false := by simpa using hnN
                        go_wp2_with fail
                        exact ⟨⟨k + 1, by go_num, by omega, HX.out.trans (HX11.out.trans HY.out)⟩, by simp [intOf]; omega⟩
        · as_aux_lemma =>
            have t1 : decide (k < F.length) = false := by simpa using hkF
            obtain rfl : F.length = k := by omega
            obtain ⟨W12, rfl⟩ : ∃ W12, W12 = wr := ⟨_, rfl⟩
            replace HSM := Lib.hid (HSM.out.trans (Sm.of_aft (b := b) HX.out))
            replace HD2 := Lib.hid (HD2.out.aft HX.out)
            replace HFL := Lib.hid (HFL.out.sm (Sm.of_aft HX.out))
            clear HX hkF HCMP HALW HFF HAW HAI HAWG HAWL HG HGE HZE HF HU HDN HCASE HINS HOP
            go_upto_block 12 with fail
            clear t1
            refine wp_block ?_
            go_loopw [263] (fun i wr => ∃ t : Nat, i = .int .i64 t ∧ t ≤ 6 ∧ Sm b W12 wr ∧ DeckAt w dt Am tr cm (t * N) wr) (fun i _ => 6 - (intOf i).toNat)
            case atStart => exact ⟨0, rfl, by omega, Sm.refl _ _, by simpa using HD2.out⟩
            case round =>
              obtain ⟨t, rfl, ht, hx, hdk⟩ := hrel
              replace HX := Lib.hid hx
              replace HDK := Lib.hid hdk
              clear hx hdk HD2
              by_cases ht6 : t < 6
              · have t1 : decide (t < 6) = true := by simpa using ht6
                have htN : t * N ≤ 60 := by have := Nat.mul_le_mul (show t ≤ 6 by omega) hN14; omega
                replace HSO := Lib.hid (some_any w dt Am tr cm (t * N) N 2 wr HDK.out (by omega) (by omega) (by omega) (by omega))
                replace HSX := Lib.hid (HSM.out.trans HX.out)
                have hsb : b ≤ wr.heap.size := Nat.le_trans hS3 HSX.out.size
                obtain ⟨k0, k1, k2⟩ := box25 (HBX.out wr HSX.out)
                have k3 := (HBX.out wr HSX.out).lt
                obtain ⟨Wt, rfl⟩ : ∃ Wt, Wt = wr := ⟨_, rfl⟩
                go_upto_region 61 with (go_at_call 41; refine HSO.out.mono ?_; rintro e z1 ⟨v, Y, rfl, ho, hR1, hR2, hR3, hd, hg⟩; obtain ⟨AY, cY, rfl, hri⟩ := IntsS.of_own (b := b) ho (by omega) hsb; replace HYI := Lib.hid hri; replace HYR := Lib.hid hR2; replace HYS := Lib.hid (rises_pair hR3); replace HSZ := Lib.hid (HSX.out.trans (sm_deal hg (show dt < b by omega))); replace HXZ := Lib.hid (HX.out.trans (sm_deal hg (show dt < b by omega))); replace HDK := Lib.hid hd; clear ho hg hd hR2 hR3 hri k0 k1 k2 k3)
                have HDK : Hid (DeckAt w dt Am tr cm ((t + 1) * N) z1) := Lib.hid (by have := HDK.out; rw [Nat.succ_mul]; exact this)
                replace HB34 := Lib.hid (Blk.new z1 33 #[.slice AY Y.length cY])
                replace HA34 := Lib.hid (Aft.alloc z1 (.cells #[.slice AY Y.length cY] 33))
                obtain ⟨b34, hb34⟩ : ∃ b34, z1.heap.size = b34 := ⟨_, rfl⟩
                rw [hb34] at HB34 ⊢
                replace HDK := Lib.hid (HDK.out.aft HA34.out)
                replace HSZ := Lib.hid (HSZ.out.trans (Sm.of_aft HA34.out))
                replace HXZ := Lib.hid (HXZ.out.trans (Sm.of_aft (b := b) HA34.out))
                replace HYI := Lib.hid (HYI.out.sm (Sm.of_aft HA34.out))
                clear hb34 HA34 HSO HSX HX
                generalize z1.alloc (.cells #[.slice AY Y.length cY] 33) = Z1 at *
                have HB34 : Hid (∀ W, Aft Z1 W → Blk W b34 33 #[.slice AY Y.length cY]) := Lib.hid fun W h => HB34.out.aft h
                have HIX : Hid (∀ W, Aft Z1 W → Ints W AY Y) := Lib.hid fun W h => HYI.out W (Sm.of_aft h)
                have hst := H25.out Z1 AY cY Y HSZ.out (HYI.out Z1 (Sm.refl _ _)) HYS.out HYR.out
                have ham := HAM.out Y HYS.out HYR.out
                obtain ⟨sy, hsy2⟩ : ∃ sy, Court.standB L (refL R) Y = sy := ⟨_, rfl⟩
                rw [hsy2] at hst ham
                rw [cover_seen] at ham
                replace HST := Lib.hid hst
                replace HAM := Lib.hid ham
                clear hst ham hsy2 HYI H25
                obtain ⟨k0, k1, k2⟩ := box25 (HBX.out Z1 HSZ.out)
                have k3 := (HBX.out Z1 HSZ.out).lt
                have j3 : Z1.cell? ⟨b34, 0, none⟩ = some (.slice AY Y.length cY) := (HB34.out Z1 (Aft.refl _)).cell 0
                have j4 := (HB34.out Z1 (Aft.refl _)).lt
                go_upto_region 62 with (go_at_call 25; refine HST.out.mono ?_; rintro e z2 ⟨rfl, ha⟩; replace HBO := Lib.hid ha; clear ha k0 k1 k2 k3 j3 j4)
                clear HST
                obtain ⟨k0, k1, k2⟩ := box25 (HBX.out z2 (HSZ.out.trans (Sm.of_aft HBO.out)))
                have k3 := (HBX.out z2 (HSZ.out.trans (Sm.of_aft HBO.out))).lt
                go_upto_block 14 with fail
                clear k0 k1 k2 k3
                refine wp_block ?_
                go_loopw [37, 281] (fun s i wr2 => ∃ n : Nat, i = .int .i64 n ∧ s = .bool (sy && (List.range n).all fun i => seenB L R Y i L.length) ∧ n ≤ N ∧ Aft z2 wr2) (fun _ i _ => N - (intOf i).toNat)
                case atStart => exact ⟨0, rfl, by simp, by omega, Aft.refl _⟩
                case round =>
                  obtain ⟨n, rfl, rfl, hn, hy⟩ := hrel
                  replace HY := Lib.hid hy
                  have hal := all_range_succ sy (fun i => seenB L R Y i L.length) n
                  clear hy
                  by_cases hnN : n < N
                  · as_aux_lemma =>
                      have t4 : decide (n < N) = true := by simpa using hnN
                      have inn : (0 : Int) ≤ (n : Int) ∧ (n : Int) < (N : Int) := by omega
                      obtain ⟨ac, hac⟩ : ∃ ac, (sy && (List.range n).all fun i => seenB L R Y i L.length) = ac := ⟨_, rfl⟩
                      rw [hac] at hal
                      rw [hac]
                      replace HALL := Lib.hid hal
                      clear hal hac
                      have HXA : Hid (Aft Z1 wr) := Lib.hid (HBO.out.trans HY.out)
                      have h38 := contains_any AY Y cY n wr (HIX.out wr HXA.out)
                      have h38r := contains_any AR R cR n wr (HR.out wr (HSZ.out.trans (Sm.of_aft HXA.out)))
                      have hs0 := seenB_zero (L := L) (R := R) (X := Y) (i := n)
                      obtain ⟨bx, hbx⟩ : ∃ bx, hasB Y n = bx := ⟨_, rfl⟩
                      obtain ⟨br, hbr⟩ : ∃ br, hasB R n = br := ⟨_, rfl⟩
                      rw [hbx] at h38 hs0
                      rw [hbr] at h38r hs0
                      replace H38 := Lib.hid h38
                      replace H38R := Lib.hid h38r
                      replace HS0 := Lib.hid hs0
                      clear hbx hbr h38 h38r hs0
                      obtain ⟨k0, k1, k2⟩ := box25 (HBX.out wr (HSZ.out.trans (Sm.of_aft HXA.out)))
                      have k3 := (HBX.out wr (HSZ.out.trans (Sm.of_aft HXA.out))).lt
                      have j3 : wr.cell? ⟨b34, 0, none⟩ = some (.slice AY Y.length cY) := (HB34.out wr HXA.out).cell 0
                      have j4 := (HB34.out wr HXA.out).lt
                      go_upto_region 68 with fail
                      go_cut [39] from 284 to 291 (fun sv wx => sv = .bool (seenB L R Y n 0) ∧ wx = wr)
                      case first =>
                        cases bx
                        · (repeat (first | go_big_skip | go_big_want | go_big_move | go_big_op | go_step | go_upon | go_back))
                          go_at_call 38
                          refine H38.out.mono ?_
                          rintro e w12 ⟨rfl, rfl⟩
                          dsimp only
                          (repeat (first | go_big_skip | go_big_want | go_big_move | go_big_op | go_step | go_upon | go_back))
                          go_at_call 38
                          refine H38R.out.mono ?_
                          rintro e w12 ⟨rfl, rfl⟩
                          dsimp only
                          (repeat (first | go_big_skip | go_big_want | go_big_move | go_big_op | go_step | go_upon | go_back))
                          go_meet
                          exact ⟨congrArg Value.bool HS0.out.symm, rfl⟩
                        · (repeat (first | go_big_skip | go_big_want | go_big_move | go_big_op | go_step | go_upon | go_back))
                          go_at_call 38
                          refine H38.out.mono ?_
                          rintro e w12 ⟨rfl, rfl⟩
                          dsimp only
                          (repeat (first | go_big_skip | go_big_want | go_big_move | go_big_op | go_step | go_upon | go_back))
                          go_meet
                          exact ⟨congrArg Value.bool HS0.out.symm, rfl⟩
                      obtain ⟨rfl, rfl⟩ := hcut
                      go_upto_block 16 with fail
                      clear k0 k1 k2 k3 j3 j4
                      obtain ⟨Wn, rfl⟩ : ∃ Wn, Wn = wc := ⟨_, rfl⟩
                      clear H38 H38R HS0
                      refine wp_block ?_
                      go_loopw [39, 295] (fun s i wr2 => ∃ j : Nat, i = .int .i64 j ∧ s = .bool (seenB L R Y n j) ∧ j ≤ L.length ∧ Aft Wn wr2) (fun _ i _ => L.length - (intOf i).toNat)
                      case atStart => exact ⟨0, rfl, rfl, by omega, Aft.refl _⟩
                      case round =>
                        obtain ⟨j, rfl, rfl, hj, hz⟩ := hrel
                        replace HZ := Lib.hid hz
                        clear hz
                        replace HXA := Lib.hid (HXA.out.trans HZ.out)
                        by_cases hjL : j < L.length
                        · have t7 : decide (j < L.length) = true := by simpa using hjL
                          have ij : (0 : Int) ≤ (j : Int) ∧ (j : Int) < (L.length : Int) := by omega
                          obtain ⟨bs, os, hbs, hlts, hcs⟩ := (HRP.out wr (HSZ.out.trans (Sm.of_aft HXA.out))).strikes.at hjL
                          subst hbs
                          obtain ⟨x0, x1⟩ := hcs j hjL
                          have hss := seenB_succ (R := R) (X := Y) (i := n) hjL
                          obtain ⟨⟨y0, y1⟩, hy⟩ : ∃ y, L[j] = y := ⟨_, rfl⟩
                          rw [hy] at x0 x1 hss
                          dsimp only at hss
                          obtain ⟨sb, hsb⟩ : ∃ sb, seenB L R Y n j = sb := ⟨_, rfl⟩
                          obtain ⟨bz, hbz⟩ : ∃ bz, hasB Y y0 = bz := ⟨_, rfl⟩
                          rw [hsb, hbz] at hss
                          rw [hsb]
                          replace HSS := Lib.hid hss
                          replace HBZ := Lib.hid hbz
                          clear hss hsb hcs hy hbz
                          go_upto_region 72 with (refine wpList_store_new rfl 57 (.tmp 41) (.tmp 298) rfl rfl rfl info57' rfl (all_oneCell_toArray (by intro v hv; simp at hv; rcases hv with rfl | rfl <;> rfl)) ?_)
                          try simp only [Act.put]
                          replace HB33 := Lib.hid (Blk.new wr 57 #[.int .i64 y0, .int .i64 y1])
                          replace HA33 := Lib.hid (Aft.alloc wr (.cells #[.int .i64 y0, .int .i64 y1] 57))
                          obtain ⟨b33, hb33⟩ : ∃ b33, wr.heap.size = b33 := ⟨_, rfl⟩
                          rw [hb33] at HB33 ⊢
                          replace HZ := Lib.hid (HZ.out.trans HA33.out)
                          replace HXA := Lib.hid (HXA.out.trans HA33.out)
                          clear hb33 HA33 x0 x1
                          generalize wr.alloc (.cells #[.int .i64 y0, .int .i64 y1] 57) = W13 at *
                          have j0 : W13.cell? ⟨b33, 0, none⟩ = some (.int .i64 y0) := HB33.out.cell 0
                          have j1 : W13.cell? ⟨b33, 1, none⟩ = some (.int .i64 y1) := HB33.out.cell 1
                          have j2 := HB33.out.lt
                          have j3 : W13.cell? ⟨b34, 0, none⟩ = some (.slice AY Y.length cY) := (HB34.out W13 HXA.out).cell 0
                          have j4 := (HB34.out W13 HXA.out).lt
                          have h38 := contains_any AY Y cY y0 W13 (HIX.out W13 HXA.out)
                          rw [HBZ.out] at h38
                          replace H38 := Lib.hid h38
                          clear h38 HBZ
                          cases sb
                          · cases hy1 : (y1 == (n : Int))
                            · rw [hy1] at HSS
                              go_wp2_with fail
                              exact ⟨⟨j + 1, by go_num, congrArg Value.bool HSS.out.symm, by omega, HZ.out⟩, by simp [intOf]; omega⟩
                            · rw [hy1] at HSS
                              go_wp2_with (go_at_call 38; refine H38.out.mono ?_; rintro e w14 ⟨rfl, rfl⟩)
                              exact ⟨⟨j + 1, by go_num, congrArg Value.bool HSS.out.symm, by omega, HZ.out⟩, by simp [intOf]; omega⟩
                          · go_wp2_with fail
                            exact ⟨⟨j + 1, by go_num, congrArg Value.bool HSS.out.symm, by omega, HZ.out⟩, by simp [intOf]; omega⟩
                        · have t7 : decide (j < L.length) = false := by simpa using hjL
                          obtain rfl : L.length = j := by omega
                          replace HE := Lib.hid (HY.out.trans HZ.out)
                          obtain ⟨sn, hsn⟩ : ∃ sn, seenB L R Y n L.length = sn := ⟨_, rfl⟩
                          rw [hsn] at HALL
                          rw [hsn]
                          clear hsn
                          cases ac
                          · go_wp2_with fail
                            exact ⟨⟨n + 1, by go_num, congrArg Value.bool HALL.out.symm, by omega, HE.out⟩, by simp [intOf]; omega⟩
                          · go_wp2_with fail
                            exact ⟨⟨n + 1, by go_num, congrArg Value.bool HALL.out.symm, by omega, HE.out⟩, by simp [intOf]; omega⟩
                  · have t4 : decide (n < N) = false := by simpa using hnN
                    obtain rfl : N = n := by omega
                    rw [← HAM.out]
                    obtain ⟨bb, hbb⟩ : ∃ bb, (F.any fun x => eqB x Y) = bb := ⟨_, rfl⟩
                    have hyy : Aft Z1 wr := HBO.out.trans HY.out
                    have h50 := among50 F Y A11 AY c11 cY b34 wr (HFL.out wr (HXZ.out.trans (Sm.of_aft hyy))) (HB34.out wr hyy) (HIX.out wr hyy)
                    rw [hbb] at h50
                    rw [hbb]
                    replace H50 := Lib.hid h50
                    replace HYY := Lib.hid hyy
                    clear h50 hbb hyy hal
                    cases bb
                    all_goals
                      go_wp2_with (go_at_call 50; refine H50.out.mono ?_; rintro e z9 ⟨rfl, ha⟩; replace HZ9 := Lib.hid (HYY.out.trans ha); clear ha)
                      exact ⟨⟨t + 1, by go_num, by omega, HXZ.out.trans (Sm.of_aft HZ9.out), HDK.out.aft HZ9.out⟩, by simp [intOf]; omega⟩
              · have t1 : decide (t < 6) = false := by simpa using ht6
                go_wp2_with (go_at_call 12; refine (awake_any _).mono ?_; rintro e x21 ⟨rfl, ha⟩; replace HDK := Lib.hid (HDK.out.aft ha); clear ha)
                go_ret
                exact ⟨rfl, HDK.out.2.2.1⟩
end Go.Proofs
end
