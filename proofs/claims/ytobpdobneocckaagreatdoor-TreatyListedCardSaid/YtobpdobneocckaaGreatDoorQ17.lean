/- Own texts, merged: Lsw. -/
import Derived.Test.YtobpdobneocckaaGreatDoorQ16
import Derived.Deep.CutRange
import Derived.BigGuard
set_option linter.unusedSimpArgs false
set_option linter.unusedVariables false
section
/- Walks: the law TreatyListed (5). -/
namespace Go.Proofs
open Go.RowKit

set_option maxRecDepth 100000 in
set_option maxHeartbeats 8000000 in
theorem listed_any (w : World) (A : Option Addr) (l : List Int) (c n8 : Nat) (h8 : n8 ≤ 255) (hA : Bytes w A l) : Calls Tryz.prog 5 #[.slice A l.length c, .int .u8 n8] w fun e w' => e = .returned (.bool true) ∧ Aft w w' := by
  have HA := Lib.hid hA
  clear hA
  go_enter Tryz.func5, Tryz.ntmps5
  (repeat (first | go_big_skip | go_big_want | go_big_move | go_big_op | go_step | go_upon | go_back))
  go_at_call 21
  refine (of_any A l c w HA.out).mono ?_
  rintro e x ⟨rfl, hdk⟩
  dsimp only
  have HDK := Lib.hid hdk
  clear hdk
  (repeat (first | go_big_skip | go_big_want | go_big_move | go_big_op | go_step | go_upon | go_back))
  go_at_call 20
  refine (made_any w w.heap.size A l c 0 x HDK.out (by omega) 4 (by omega)).mono ?_
  rintro e y ⟨T, a1, a2, a3, a4, c1, c2, c3, c4, rfl, hok, hdk, hgr, htr⟩
  dsimp only
  have HOK := Lib.hid hok
  have ha := Aft.alloc y (.cells #[.int .i64 T.places, .slice a1 T.ways.length c1, .slice a2 T.words.length c2, .slice a3 T.starts.length c3, .slice a4 T.legs.length c4] 27)
  have HDK := Lib.hid (hdk.aft ha)
  have HTR : Hid (TRepF w.heap.size (y.alloc (.cells #[.int .i64 T.places, .slice a1 T.ways.length c1, .slice a2 T.words.length c2, .slice a3 T.starts.length c3, .slice a4 T.legs.length c4] 27)) T a1 a2 a3 a4) := Lib.hid fun w'' h2 => htr w'' ((only_of_aft ha _).trans h2)
  have hb := Blk.new y 27 #[.int .i64 T.places, .slice a1 T.ways.length c1, .slice a2 T.words.length c2, .slice a3 T.starts.length c3, .slice a4 T.legs.length c4]
  have hD : w.heap.size < y.heap.size := hdk.lt
  clear hok hdk hgr htr ha
  go_upto_region 3 with fail
  generalize y.alloc (.cells #[.int .i64 T.places, .slice a1 T.ways.length c1, .slice a2 T.words.length c2, .slice a3 T.starts.length c3, .slice a4 T.legs.length c4] 27) = Y at *
  generalize y.heap.size = D at *
  have hlt := hb.lt
  obtain ⟨k0, k1, k2, k3, k4⟩ := boxR5 hb
  have HBX := Lib.hid hb
  clear hb
  (repeat (first | go_big_skip | go_big_want | go_big_move | go_big_op | go_step | go_upon | go_back))
  go_at_call 30
  have hwl : ∀ x ∈ T.words, 1 ≤ x.length ∧ x.length ≤ 1000 := fun x hx => by have := HOK.out.wlen x hx; omega
  have hnw : T.words.length ≤ 1000 := by have := HOK.out.nwords; omega
  refine (read26_any w w.heap.size A l c 1000 T a1 a2 a3 a4 c1 c2 c3 c4 Y (HDK.out.more (by omega)) HTR.out (by omega) hnw hwl).mono ?_
  rintro e X ⟨vR, R, rfl, hown, hlen, hin, hdk, hgr⟩
  dsimp only
  have hRl : R.length ≤ 17592186043904 := by omega
  obtain ⟨AR, cR, rfl, _, hri⟩ := own_ints hown hRl
  have HR := Lib.hid hri
  have HT : Hid (TRep X T a1 a2 a3 a4) := Lib.hid (HTR.out X hgr)
  have hb := HBX.out.grown hgr (fun e => by injection e with e; omega)
  have HBX := Lib.hid hb
  have HAW : Hid (Aft w X) := Lib.hid hdk.2.2.1
  have hcc := HOK.out.check
  have ok := checkE_ok hcc
  have hre : readE T R = 0 := readE_zero.2 ⟨hcc, hlen, hin⟩
  have hRM : R ∈ readingsL T := (mem_readings ok).2 ⟨hlen, hin⟩
  have hnl := ok.nlegs
  have OK := Lib.hid ok
  have HCC := Lib.hid hcc
  have HRE := Lib.hid hre
  have HRM := Lib.hid hRM
  have HNW := Lib.hid hnw
  have HZ := Lib.hid (Aft.refl X)
  have HC15 := Lib.hid (fun (y : World) (hy : Aft X y) => allZ_any y T a1 a2 a3 a4 c1 c2 c3 c4 (HT.out.aft hy))
  have HC31 := Lib.hid (fun (y : World) (hy : Aft X y) => linesZ_any y T a1 a2 a3 a4 c1 c2 c3 c4 R AR cR (HT.out.aft hy) (HR.out.aft hy) (by omega))
  have HC24 := Lib.hid (fun (y : World) (hy : Aft X y) (m : List Int) (Am : Option Addr) (cm : Nat) (hm : Ints y Am m) (hml : m ∈ linesL T (leadsF T R)) => breaksZ_any y T a1 a2 a3 a4 c1 c2 c3 c4 R AR cR m Am cm (HT.out.aft hy) (HR.out.aft hy) hm hcc hre hml)
  clear hwl hnw hown hlen hin hdk hgr hRl hri hlt k0 k1 k2 k3 k4 HDK HTR hD hb hcc ok hre hRM
  have hw0 := Lib.hid (linesE_two HRE.out)
  obtain ⟨E, hE⟩ : ∃ E, allE T = E := ⟨_, rfl⟩
  obtain ⟨L1, hL1⟩ : ∃ L, allX T = L := ⟨_, rfl⟩
  obtain ⟨F, hF⟩ : ∃ F, linesE T R = F := ⟨_, rfl⟩
  obtain ⟨L2, hL2⟩ : ∃ L, lnsX T R = L := ⟨_, rfl⟩
  have HE2 := Lib.hid (allE_two HCC.out)
  rw [hE] at HE2
  rw [hF] at hw0
  simp only [hE, hL1] at HC15
  simp only [hF, hL2] at HC31
  have HEQ := Lib.hid hE
  have HFQ := Lib.hid hF
  have HL1 := Lib.hid hL1
  have HL2 := Lib.hid hL2
  clear hE hF hL1 hL2
  obtain ⟨k0, k1, k2, k3, k4⟩ := boxR5 HBX.out
  (repeat (first | go_big_skip | go_big_want | go_big_move | go_big_op | go_step | go_upon | go_back))
  go_at_call 15
  refine (HC15.out X HZ.out).mono ?_
  rintro e X1 ⟨A1, e1, rfl, hli, ha⟩
  dsimp only
  have HZ := Lib.hid (HZ.out.trans ha)
  have HI1 := Lib.hid hli
  clear hli ha k0 k1 k2 k3 k4 HC15
  obtain ⟨k0, k1, k2, k3, k4⟩ := boxR5 (HBX.out.aft HZ.out)
  (repeat (first | go_big_skip | go_big_want | go_big_move | go_big_op | go_step | go_upon | go_back))
  go_at_call 31
  refine (HC31.out X1 HZ.out).mono ?_
  rintro e X2 ⟨A2, e2, rfl, hli, ha⟩
  dsimp only
  have HZ := Lib.hid (HZ.out.trans ha)
  have HI1 := Lib.hid (HI1.out.aft ha)
  have HI2 := Lib.hid hli
  clear hli ha k0 k1 k2 k3 k4 HC31
  rcases HE2.out with hE0 | hE0
  · -- no more lines than may be
    obtain ⟨hF0, hl2⟩ := lines_zero OK.out HCC.out HRE.out HRM.out (HEQ.out.trans hE0)
    have hl1 := allX_zero (HEQ.out.trans hE0)
    rw [HFQ.out] at hF0
    rw [HL2.out] at hl2
    rw [HL1.out] at hl1
    have HM2 : Hid (∀ m ∈ L2, m ∈ linesL T (leadsF T R)) := Lib.hid fun m hm => by rw [← hl2]; exact hm
    have HSB : Hid (∀ m ∈ L2, m ∈ L1) := Lib.hid fun m hm => by
      rw [hl1, (allL_spec T).2]
      unfold unionL
      exact List.mem_flatMap.2 ⟨R, HRM.out, by rw [← hl2]; exact hm⟩
    have HSO : Hid (SortedL L2) := Lib.hid (by rw [hl2]; exact linesL_ok OK.out _)
    have HLN : Hid (∀ m ∈ L2, m.length = T.legs.length + 1) := Lib.hid fun m hm => by rw [hl2] at hm; exact linesL_len2 m hm
    have HAG : Hid (∀ m ∈ L1, agrE T m = 0 ∧ ∃ R', agrX T m = R' ∧ readE T R' = 0 ∧ R' ∈ readingsL T ∧ m ∈ linesL T (leadsF T R')) := Lib.hid fun m hm => agrees_all OK.out HCC.out (by rw [← hl1]; exact hm)
    have HLZ : Hid (∀ R', readE T R' = 0 → R' ∈ readingsL T → linesE T R' = 0 ∧ lnsX T R' = linesL T (leadsF T R')) := Lib.hid fun R' h1 h2 => lines_zero OK.out HCC.out h1 h2 (HEQ.out.trans hE0)
    clear hl1 hl2
    subst hE0
    subst hF0
    (repeat (first | go_big_skip | go_big_want | go_big_move | go_big_op | go_step | go_upon | go_back))
    have hn1 := HI1.out.len
    have hn2 := HI2.out.len
    go_loopw [55] (fun i wr => ∃ j : Nat, i = .int .i64 j ∧ j ≤ L2.length ∧ Aft X2 wr) (fun i _ => L2.length - (intOf i).toNat)
    case atStart => exact ⟨0, rfl, by omega, Aft.refl X2⟩
    case round =>
      obtain ⟨j, rfl, hj, ha⟩ := hrel
      have HAR := Lib.hid ha
      clear ha
      by_cases hjl : j < L2.length
      · have hdec : decide (j < L2.length) = true := decide_eq_true hjl
        obtain ⟨bL, oL, rfl, hbL, hcL⟩ := (HI2.out.aft HAR.out).at hjl
        obtain ⟨Am, cm, x0, hi⟩ := hcL j hjl
        have HIM := Lib.hid hi
        have HMS := Lib.hid (List.getElem_mem hjl)
        have HPV : Hid (∀ jp, jp + 1 = j → ∃ Ap lp cp, wr.cell? ⟨bL, oL + jp, none⟩ = some (.slice Ap lp.length cp) ∧ Ints wr Ap lp ∧ lp.length = L2[j].length ∧ cmpB lp L2[j] = -1) := Lib.hid fun jp hjp => by
          obtain ⟨Ap, cp, q0, qi⟩ := hcL jp (by omega)
          have hs := (List.pairwise_iff_getElem.1 HSO.out) jp j (by omega) hjl (by omega)
          exact ⟨Ap, L2[jp], cp, q0, qi, by rw [HLN.out _ (List.getElem_mem _), HLN.out _ (List.getElem_mem _)], cmpB_lt hs⟩
        clear hcL hi
        generalize L2[j] = m at *
        have i1 : (0 : Int) ≤ (j : Int) ∧ (j : Int) < (L2.length : Int) := by omega
        have hn13 := Blk.new wr 24 #[.slice Am m.length cm]
        go_upto_region 13 with fail
        have hv : Aft X2 (wr.alloc (.cells #[.slice Am m.length cm] 24)) := HAR.out.then_alloc _
        have HMV := Lib.hid (HIM.out.aft (Aft.alloc wr (.cells #[.slice Am m.length cm] 24)))
        have HPX : Hid (∀ jp, jp + 1 = j → ∃ Ap lp cp, (wr.alloc (.cells #[.slice Am m.length cm] 24)).cell? ⟨bL, oL + jp, none⟩ = some (.slice Ap lp.length cp) ∧ bL < (wr.alloc (.cells #[.slice Am m.length cm] 24)).heap.size ∧ Ints (wr.alloc (.cells #[.slice Am m.length cm] 24)) Ap lp ∧ lp.length = m.length ∧ cmpB lp m = -1) := Lib.hid fun jp hjp => by
          obtain ⟨Ap, lp, cp, q0, qi, q1, q2⟩ := HPV.out jp hjp
          exact ⟨Ap, lp, cp, (aft_cell' (Aft.alloc wr _) hbL).trans q0, by simp; omega, qi.aft (Aft.alloc _ _), q1, q2⟩
        clear hbL HPV x0 i1
        generalize (wr.alloc (.cells #[.slice Am m.length cm] 24)) = V at *
        generalize wr.heap.size = bn at *
        have HV := Lib.hid hv
        have HN := Lib.hid hn13
        have x13 : V.cell? ⟨bn, 0, none⟩ = some (.slice Am m.length cm) := hn13.cell 0
        obtain ⟨k0, k1, k2, k3, k4⟩ := boxR5 (HBX.out.aft (HZ.out.trans HV.out))
        clear hv hn13
        (repeat (first | go_big_skip | go_big_want | go_big_move | go_big_op | go_step | go_upon | go_back))
        go_at_call 24
        refine (HC24.out V (HZ.out.trans HV.out) m Am cm HMV.out (HM2.out m HMS.out)).mono ?_
        rintro e V2 ⟨⟨A3, e3, rfl⟩, ha⟩
        dsimp only
        have HV2 := Lib.hid ha
        have HN2 := Lib.hid (HN.out.aft ha)
        have hbl2 := HN2.out.lt
        clear ha k0 k1 k2 k3 k4 x13
        have HHAS : Hid (∀ y, Aft V2 y → Calls Tryz.prog 25 #[.slice A1 L1.length e1, .func (.func 32) #[] #[.pointer (some ⟨bn, 0, none⟩)]] y fun e w' => e = .returned (.bool true) ∧ Aft y w') := Lib.hid fun y hy =>
          has32_any bn Am m cm A1 L1 e1 y (HN2.out.aft hy).lt ((HN2.out.aft hy).cell 0) (HMV.out.aft (HV2.out.trans hy)) (HI1.out.aft (HV.out.trans (HV2.out.trans hy))) (HSB.out m HMS.out)
        have hmx : Tryz.prog.follows .mixedOrders = true := by kernel_rfl
        by_cases hj0 : j = 0
        · have hgt : decide ((0 : Int) < (j : Int)) = false := decide_eq_false (by omega)
          (repeat (first | go_big_skip | go_big_want | go_big_move | go_big_op | go_step | go_upon | go_back))
          refine wp_region_valsG hmx 136 rfl (by kernel_rfl) (by kernel_rfl) [.int .i64 0, .bool false, .bool false, .slice A3 0 e3, .int .i64 0, .bool false, .bool false, .bool false, .int .i64 j, .bool false, .bool false, undef, undef, undef, undef, undef, undef, undef, undef, .bool false, .bool false, .bool false, .slice A1 L1.length e1, .func (.func 32) #[] #[.pointer (some ⟨bn, 0, none⟩)], .bool true, .bool false, .bool false] rfl (fun X => Aft V2 X) (Aft.drew _) ?step ?fin
          case step =>
            intro i' o v ho hv
            match i', ho, hv with
            | 0, ho, hv =>
              cases ho; cases hv
              refine .inl ⟨rfl, fun a X hk hX K hK => ?_⟩
              have e_15 : a.eval (.tmp 15) = .int .i64 0 := (hk.same 15 (by decide)).trans rfl
              exact op_val (by simp [go_sem, ev' e_15]) (hK _ hX)
            | 1, ho, hv =>
              cases ho; cases hv
              refine .inl ⟨rfl, fun a X hk hX K hK => ?_⟩
              have e_67 : a.eval (.tmp 67) = .int .i64 0 := hk.at_ 0 _ 67 _ rfl (by decide) _ rfl rfl rfl
              exact op_val (by simp [go_sem, ev' e_67]) (hK _ hX)
            | 2, ho, hv =>
              cases ho; cases hv
              refine .inl ⟨rfl, fun a X hk hX K hK => ?_⟩
              have e_68 : a.eval (.tmp 68) = .bool false := hk.at_ 1 _ 68 _ rfl (by decide) _ rfl rfl rfl
              exact op_val (by simp [go_sem, ev' e_68]) (hK _ hX)
            | 3, ho, hv =>
              cases ho; cases hv
              refine .inl ⟨rfl, fun a X hk hX K hK => ?_⟩
              have e_14 : a.eval (.tmp 14) = .slice A3 0 e3 := (hk.same 14 (by decide)).trans rfl
              exact op_val (by simp [go_sem, ev' e_14]) (hK _ hX)
            | 4, ho, hv =>
              cases ho; cases hv
              refine .inl ⟨rfl, fun a X hk hX K hK => ?_⟩
              have e_70 : a.eval (.tmp 70) = .slice A3 0 e3 := hk.at_ 3 _ 70 _ rfl (by decide) _ rfl rfl rfl
              exact op_val (by simp [go_sem, ev' e_70]) (hK _ hX)
            | 5, ho, hv =>
              cases ho; cases hv
              refine .inl ⟨rfl, fun a X hk hX K hK => ?_⟩
              have e_71 : a.eval (.tmp 71) = .int .i64 0 := hk.at_ 4 _ 71 _ rfl (by decide) _ rfl rfl rfl
              exact op_val (by simp [go_sem, ev' e_71]) (hK _ hX)
            | 6, ho, hv =>
              cases ho; cases hv
              refine .inl ⟨rfl, fun a X hk hX K hK => ?_⟩
              have e_69 : a.eval (.tmp 69) = .bool false := hk.at_ 2 _ 69 _ rfl (by decide) _ rfl rfl rfl
              have e_72 : a.eval (.tmp 72) = .bool false := hk.at_ 5 _ 72 _ rfl (by decide) _ rfl rfl rfl
              exact op_val (by simp [go_sem, ev' e_69, ev' e_72]) (hK _ hX)
            | 7, ho, hv =>
              cases ho; cases hv
              refine .inl ⟨rfl, fun a X hk hX K hK => ?_⟩
              have e_73 : a.eval (.tmp 73) = .bool false := hk.at_ 6 _ 73 _ rfl (by decide) _ rfl rfl rfl
              exact op_val (by simp [go_sem, ev' e_73]) (hK _ hX)
            | 8, ho, hv =>
              cases ho; cases hv
              refine .inl ⟨rfl, fun a X hk hX K hK => ?_⟩
              have e_12 : a.eval (.tmp 12) = .int .i64 j := (hk.same 12 (by decide)).trans rfl
              exact op_val (by simp [go_sem, ev' e_12]) (hK _ hX)
            | 9, ho, hv =>
              cases ho; cases hv
              refine .inl ⟨rfl, fun a X hk hX K hK => ?_⟩
              have e_75 : a.eval (.tmp 75) = .int .i64 j := hk.at_ 8 _ 75 _ rfl (by decide) _ rfl rfl rfl
              exact op_val (by simp [go_sem, ev' e_75, hgt, hj0]) (hK _ hX)
            | 10, ho, hv =>
              cases ho; cases hv
              refine .inl ⟨rfl, fun a X hk hX K hK => ?_⟩
              have e_76 : a.eval (.tmp 76) = .bool false := hk.at_ 9 _ 76 _ rfl (by decide) _ rfl rfl rfl
              exact op_val (by simp [go_sem, ev' e_76]) (hK _ hX)
            | 11, ho, hv =>
              cases ho; cases hv
              exact .inr ⟨rfl, rfl⟩
            | 12, ho, hv =>
              cases ho; cases hv
              exact .inr ⟨rfl, rfl⟩
            | 13, ho, hv =>
              cases ho; cases hv
              exact .inr ⟨rfl, rfl⟩
            | 14, ho, hv =>
              cases ho; cases hv
              exact .inr ⟨rfl, rfl⟩
            | 15, ho, hv =>
              cases ho; cases hv
              exact .inr ⟨rfl, rfl⟩
            | 16, ho, hv =>
              cases ho; cases hv
              exact .inr ⟨rfl, rfl⟩
            | 17, ho, hv =>
              cases ho; cases hv
              exact .inr ⟨rfl, rfl⟩
            | 18, ho, hv =>
              cases ho; cases hv
              exact .inr ⟨rfl, rfl⟩
            | 19, ho, hv =>
              cases ho; cases hv
              refine .inl ⟨rfl, fun a X hk hX K hK => ?_⟩
              have e_77 : a.eval (.tmp 77) = .bool false := hk.at_ 10 _ 77 _ rfl (by decide) _ rfl rfl rfl
              have e_85 : a.eval (.tmp 85) = undef := hk.at_ 18 _ 85 _ rfl (by decide) _ rfl rfl rfl
              exact op_val (by simp [go_sem, ev' e_77, ev' e_85]) (hK _ hX)
            | 20, ho, hv =>
              cases ho; cases hv
              refine .inl ⟨rfl, fun a X hk hX K hK => ?_⟩
              have e_74 : a.eval (.tmp 74) = .bool false := hk.at_ 7 _ 74 _ rfl (by decide) _ rfl rfl rfl
              have e_86 : a.eval (.tmp 86) = .bool false := hk.at_ 19 _ 86 _ rfl (by decide) _ rfl rfl rfl
              exact op_val (by simp [go_sem, ev' e_74, ev' e_86]) (hK _ hX)
            | 21, ho, hv =>
              cases ho; cases hv
              refine .inl ⟨rfl, fun a X hk hX K hK => ?_⟩
              have e_87 : a.eval (.tmp 87) = .bool false := hk.at_ 20 _ 87 _ rfl (by decide) _ rfl rfl rfl
              exact op_val (by simp [go_sem, ev' e_87]) (hK _ hX)
            | 22, ho, hv =>
              cases ho; cases hv
              refine .inl ⟨rfl, fun a X hk hX K hK => ?_⟩
              have e_8 : a.eval (.tmp 8) = .slice A1 L1.length e1 := (hk.same 8 (by decide)).trans rfl
              exact op_val (by simp [go_sem, ev' e_8]) (hK _ hX)
            | 23, ho, hv =>
              cases ho; cases hv
              refine .inl ⟨rfl, fun a X hk hX K hK => ?_⟩
              have e_13 : a.eval (.tmp 13) = .pointer (some ⟨bn, 0, none⟩) := (hk.same 13 (by decide)).trans rfl
              exact op_val (by simp [go_sem, ev' e_13]) (hK _ hX)
            | 24, ho, hv =>
              cases ho; cases hv
              refine .inl ⟨rfl, fun a X hk hX K hK => ?_⟩
              have e_89 : a.eval (.tmp 89) = .slice A1 L1.length e1 := hk.at_ 22 _ 89 _ rfl (by decide) _ rfl rfl rfl
              have e_90 : a.eval (.tmp 90) = .func (.func 32) #[] #[.pointer (some ⟨bn, 0, none⟩)] := hk.at_ 23 _ 90 _ rfl (by decide) _ rfl rfl rfl
              refine op_call2 Tryz.func25 (by kernel_rfl) (by kernel_rfl) _ _ rfl e_89 e_90 (HHAS.out X hX) ?_
              rintro e x6 ⟨rfl, ha⟩
              exact ⟨_, rfl, hK _ (hX.trans ha)⟩
            | 25, ho, hv =>
              cases ho; cases hv
              refine .inl ⟨rfl, fun a X hk hX K hK => ?_⟩
              have e_91 : a.eval (.tmp 91) = .bool true := hk.at_ 24 _ 91 _ rfl (by decide) _ rfl rfl rfl
              exact op_val (by simp [go_sem, ev' e_91]) (hK _ hX)
            | 26, ho, hv =>
              cases ho; cases hv
              refine .inl ⟨rfl, fun a X hk hX K hK => ?_⟩
              have e_88 : a.eval (.tmp 88) = .bool false := hk.at_ 21 _ 88 _ rfl (by decide) _ rfl rfl rfl
              have e_92 : a.eval (.tmp 92) = .bool false := hk.at_ 25 _ 92 _ rfl (by decide) _ rfl rfl rfl
              exact op_val (by simp [go_sem, ev' e_88, ev' e_92]) (hK _ hX)
            | _ + 27, ho, _ => cases ho
          case fin =>
            intro X6 hX6
            simp only [List.zip_cons_cons, List.zip_nil_right, putAll, Act.put, List.setIfInBounds_toArray, List.set_cons_succ, List.set_cons_zero]
            have HX6 := Lib.hid (HV.out.trans (HV2.out.trans hX6))
            clear hX6 hgt
            (repeat (first | go_big_skip | go_big_want | go_big_move | go_big_op | go_step | go_upon | go_back))
            exact ⟨⟨j + 1, by go_num, by omega, HX6.out⟩, by simp [intOf]; omega⟩
        · obtain ⟨jp, rfl⟩ : ∃ jp, j = jp + 1 := ⟨j - 1, by omega⟩
          obtain ⟨Ap, lp, cp, q0, hbV, qi, q1, q2⟩ := HPX.out jp rfl
          have HQ0 : Hid (∀ y, Aft V2 y → y.cell? ⟨bL, oL + jp, none⟩ = some (.slice Ap lp.length cp)) := Lib.hid fun y hy => (aft_cell' (HV2.out.trans hy) hbV).trans q0
          have HCMP : Hid (∀ y, Aft V2 y → Calls Tryz.prog 22 #[.slice Ap lp.length cp, .slice Am m.length cm] y fun e w' => e = .returned (.int .i64 (-1)) ∧ w' = y) := Lib.hid fun y hy => by
            have h := compare22_any y lp m Ap Am cp cm (qi.aft (HV2.out.trans hy)) (HMV.out.aft (HV2.out.trans hy)) q1
            rw [q2] at h
            exact h
          have i2 : (0 : Int) ≤ (jp : Int) ∧ (jp : Int) < (L2.length : Int) := by omega
          have hgt : decide ((0 : Int) < ((jp + 1 : Nat) : Int)) = true := decide_eq_true (by omega)
          have hsub : IntKind.i64.wrap (((jp + 1 : Nat) : Int) - 1) = (jp : Int) := by rw [IntWalk.i64_in _ (by omega)]; omega
          have hwj : IntKind.i64.wrap (jp : Int) = (jp : Int) := IntWalk.i64_in _ (by omega)
          clear q0 qi q1 q2 HPX hj0
          (repeat (first | go_big_skip | go_big_want | go_big_move | go_big_op | go_step | go_upon | go_back))
          refine wp_region_valsG hmx 136 rfl (by kernel_rfl) (by kernel_rfl) [.int .i64 0, .bool false, .bool false, .slice A3 0 e3, .int .i64 0, .bool false, .bool false, .bool false, .int .i64 ((jp + 1 : Nat) : Int), .bool true, .bool true, .slice (some ⟨bL, oL, none⟩) L2.length e2, .int .i64 ((jp + 1 : Nat) : Int), .int .i64 jp, .pointer (some ⟨bL, oL + jp, none⟩), .slice Ap lp.length cp, .slice Am m.length cm, .int .i64 (-1), .bool false, .bool false, .bool false, .bool false, .slice A1 L1.length e1, .func (.func 32) #[] #[.pointer (some ⟨bn, 0, none⟩)], .bool true, .bool false, .bool false] rfl (fun X => Aft V2 X) (Aft.drew _) ?step2 ?fin2
          case step2 =>
            intro i' o v ho hv
            match i', ho, hv with
            | 0, ho, hv =>
              cases ho; cases hv
              refine .inl ⟨rfl, fun a X hk hX K hK => ?_⟩
              have e_15 : a.eval (.tmp 15) = .int .i64 0 := (hk.same 15 (by decide)).trans rfl
              exact op_val (by simp [go_sem, ev' e_15]) (hK _ hX)
            | 1, ho, hv =>
              cases ho; cases hv
              refine .inl ⟨rfl, fun a X hk hX K hK => ?_⟩
              have e_67 : a.eval (.tmp 67) = .int .i64 0 := hk.at_ 0 _ 67 _ rfl (by decide) _ rfl rfl rfl
              exact op_val (by simp [go_sem, ev' e_67]) (hK _ hX)
            | 2, ho, hv =>
              cases ho; cases hv
              refine .inl ⟨rfl, fun a X hk hX K hK => ?_⟩
              have e_68 : a.eval (.tmp 68) = .bool false := hk.at_ 1 _ 68 _ rfl (by decide) _ rfl rfl rfl
              exact op_val (by simp [go_sem, ev' e_68]) (hK _ hX)
            | 3, ho, hv =>
              cases ho; cases hv
              refine .inl ⟨rfl, fun a X hk hX K hK => ?_⟩
              have e_14 : a.eval (.tmp 14) = .slice A3 0 e3 := (hk.same 14 (by decide)).trans rfl
              exact op_val (by simp [go_sem, ev' e_14]) (hK _ hX)
            | 4, ho, hv =>
              cases ho; cases hv
              refine .inl ⟨rfl, fun a X hk hX K hK => ?_⟩
              have e_70 : a.eval (.tmp 70) = .slice A3 0 e3 := hk.at_ 3 _ 70 _ rfl (by decide) _ rfl rfl rfl
              exact op_val (by simp [go_sem, ev' e_70]) (hK _ hX)
            | 5, ho, hv =>
              cases ho; cases hv
              refine .inl ⟨rfl, fun a X hk hX K hK => ?_⟩
              have e_71 : a.eval (.tmp 71) = .int .i64 0 := hk.at_ 4 _ 71 _ rfl (by decide) _ rfl rfl rfl
              exact op_val (by simp [go_sem, ev' e_71]) (hK _ hX)
            | 6, ho, hv =>
              cases ho; cases hv
              refine .inl ⟨rfl, fun a X hk hX K hK => ?_⟩
              have e_69 : a.eval (.tmp 69) = .bool false := hk.at_ 2 _ 69 _ rfl (by decide) _ rfl rfl rfl
              have e_72 : a.eval (.tmp 72) = .bool false := hk.at_ 5 _ 72 _ rfl (by decide) _ rfl rfl rfl
              exact op_val (by simp [go_sem, ev' e_69, ev' e_72]) (hK _ hX)
            | 7, ho, hv =>
              cases ho; cases hv
              refine .inl ⟨rfl, fun a X hk hX K hK => ?_⟩
              have e_73 : a.eval (.tmp 73) = .bool false := hk.at_ 6 _ 73 _ rfl (by decide) _ rfl rfl rfl
              exact op_val (by simp [go_sem, ev' e_73]) (hK _ hX)
            | 8, ho, hv =>
              cases ho; cases hv
              refine .inl ⟨rfl, fun a X hk hX K hK => ?_⟩
              have e_12 : a.eval (.tmp 12) = .int .i64 ((jp + 1 : Nat) : Int) := (hk.same 12 (by decide)).trans rfl
              exact op_val (by simp [go_sem, ev' e_12]) (hK _ hX)
            | 9, ho, hv =>
              cases ho; cases hv
              refine .inl ⟨rfl, fun a X hk hX K hK => ?_⟩
              have e_75 : a.eval (.tmp 75) = .int .i64 ((jp + 1 : Nat) : Int) := hk.at_ 8 _ 75 _ rfl (by decide) _ rfl rfl rfl
              exact op_val (by simp [go_sem, ev' e_75, hgt]) (hK _ hX)
            | 10, ho, hv =>
              cases ho; cases hv
              refine .inl ⟨rfl, fun a X hk hX K hK => ?_⟩
              have e_76 : a.eval (.tmp 76) = .bool true := hk.at_ 9 _ 76 _ rfl (by decide) _ rfl rfl rfl
              exact op_val (by simp [go_sem, ev' e_76]) (hK _ hX)
            | 11, ho, hv =>
              cases ho; cases hv
              refine .inl ⟨rfl, fun a X hk hX K hK => ?_⟩
              have e_10 : a.eval (.tmp 10) = .slice (some ⟨bL, oL, none⟩) L2.length e2 := (hk.same 10 (by decide)).trans rfl
              exact op_val (by simp [go_sem, ev' e_10]) (hK _ hX)
            | 12, ho, hv =>
              cases ho; cases hv
              refine .inl ⟨rfl, fun a X hk hX K hK => ?_⟩
              have e_12 : a.eval (.tmp 12) = .int .i64 ((jp + 1 : Nat) : Int) := (hk.same 12 (by decide)).trans rfl
              exact op_val (by simp [go_sem, ev' e_12]) (hK _ hX)
            | 13, ho, hv =>
              cases ho; cases hv
              refine .inl ⟨rfl, fun a X hk hX K hK => ?_⟩
              have e_79 : a.eval (.tmp 79) = .int .i64 ((jp + 1 : Nat) : Int) := hk.at_ 12 _ 79 _ rfl (by decide) _ rfl rfl rfl
              exact op_val (by simp [go_sem, ev' e_79, hsub, hwj]) (hK _ hX)
            | 14, ho, hv =>
              cases ho; cases hv
              refine .inl ⟨rfl, fun a X hk hX K hK => ?_⟩
              have e_78 : a.eval (.tmp 78) = .slice (some ⟨bL, oL, none⟩) L2.length e2 := hk.at_ 11 _ 78 _ rfl (by decide) _ rfl rfl rfl
              have e_80 : a.eval (.tmp 80) = .int .i64 jp := hk.at_ 13 _ 80 _ rfl (by decide) _ rfl rfl rfl
              exact op_val (by simp [go_sem, ev' e_78, ev' e_80, i2.1, i2.2]) (hK _ hX)
            | 15, ho, hv =>
              cases ho; cases hv
              refine .inl ⟨rfl, fun a X hk hX K hK => ?_⟩
              have e_81 : a.eval (.tmp 81) = .pointer (some ⟨bL, oL + jp, none⟩) := hk.at_ 14 _ 81 _ rfl (by decide) _ rfl rfl rfl
              have x15 := HQ0.out X hX
              exact op_val (by simp [go_sem, ev' e_81, x15]) (hK _ hX)
            | 16, ho, hv =>
              cases ho; cases hv
              refine .inl ⟨rfl, fun a X hk hX K hK => ?_⟩
              have e_13 : a.eval (.tmp 13) = .pointer (some ⟨bn, 0, none⟩) := (hk.same 13 (by decide)).trans rfl
              have x16 : X.cell? ⟨bn, 0, none⟩ = some (.slice Am m.length cm) := (HN2.out.aft hX).cell 0
              exact op_val (by simp [go_sem, ev' e_13, x16]) (hK _ hX)
            | 17, ho, hv =>
              cases ho; cases hv
              refine .inl ⟨rfl, fun a X hk hX K hK => ?_⟩
              have e_82 : a.eval (.tmp 82) = .slice Ap lp.length cp := hk.at_ 15 _ 82 _ rfl (by decide) _ rfl rfl rfl
              have e_83 : a.eval (.tmp 83) = .slice Am m.length cm := hk.at_ 16 _ 83 _ rfl (by decide) _ rfl rfl rfl
              refine op_call2 Tryz.func22 (by kernel_rfl) (by kernel_rfl) _ _ rfl e_82 e_83 (HCMP.out X hX) ?_
              rintro e x6 ⟨rfl, rfl⟩
              exact ⟨_, rfl, hK _ hX⟩
            | 18, ho, hv =>
              cases ho; cases hv
              refine .inl ⟨rfl, fun a X hk hX K hK => ?_⟩
              have e_84 : a.eval (.tmp 84) = .int .i64 (-1) := hk.at_ 17 _ 84 _ rfl (by decide) _ rfl rfl rfl
              exact op_val (by simp [go_sem, ev' e_84]) (hK _ hX)
            | 19, ho, hv =>
              cases ho; cases hv
              refine .inl ⟨rfl, fun a X hk hX K hK => ?_⟩
              have e_77 : a.eval (.tmp 77) = .bool true := hk.at_ 10 _ 77 _ rfl (by decide) _ rfl rfl rfl
              have e_85 : a.eval (.tmp 85) = .bool false := hk.at_ 18 _ 85 _ rfl (by decide) _ rfl rfl rfl
              exact op_val (by simp [go_sem, ev' e_77, ev' e_85]) (hK _ hX)
            | 20, ho, hv =>
              cases ho; cases hv
              refine .inl ⟨rfl, fun a X hk hX K hK => ?_⟩
              have e_74 : a.eval (.tmp 74) = .bool false := hk.at_ 7 _ 74 _ rfl (by decide) _ rfl rfl rfl
              have e_86 : a.eval (.tmp 86) = .bool false := hk.at_ 19 _ 86 _ rfl (by decide) _ rfl rfl rfl
              exact op_val (by simp [go_sem, ev' e_74, ev' e_86]) (hK _ hX)
            | 21, ho, hv =>
              cases ho; cases hv
              refine .inl ⟨rfl, fun a X hk hX K hK => ?_⟩
              have e_87 : a.eval (.tmp 87) = .bool false := hk.at_ 20 _ 87 _ rfl (by decide) _ rfl rfl rfl
              exact op_val (by simp [go_sem, ev' e_87]) (hK _ hX)
            | 22, ho, hv =>
              cases ho; cases hv
              refine .inl ⟨rfl, fun a X hk hX K hK => ?_⟩
              have e_8 : a.eval (.tmp 8) = .slice A1 L1.length e1 := (hk.same 8 (by decide)).trans rfl
              exact op_val (by simp [go_sem, ev' e_8]) (hK _ hX)
            | 23, ho, hv =>
              cases ho; cases hv
              refine .inl ⟨rfl, fun a X hk hX K hK => ?_⟩
              have e_13 : a.eval (.tmp 13) = .pointer (some ⟨bn, 0, none⟩) := (hk.same 13 (by decide)).trans rfl
              exact op_val (by simp [go_sem, ev' e_13]) (hK _ hX)
            | 24, ho, hv =>
              cases ho; cases hv
              refine .inl ⟨rfl, fun a X hk hX K hK => ?_⟩
              have e_89 : a.eval (.tmp 89) = .slice A1 L1.length e1 := hk.at_ 22 _ 89 _ rfl (by decide) _ rfl rfl rfl
              have e_90 : a.eval (.tmp 90) = .func (.func 32) #[] #[.pointer (some ⟨bn, 0, none⟩)] := hk.at_ 23 _ 90 _ rfl (by decide) _ rfl rfl rfl
              refine op_call2 Tryz.func25 (by kernel_rfl) (by kernel_rfl) _ _ rfl e_89 e_90 (HHAS.out X hX) ?_
              rintro e x6 ⟨rfl, ha⟩
              exact ⟨_, rfl, hK _ (hX.trans ha)⟩
            | 25, ho, hv =>
              cases ho; cases hv
              refine .inl ⟨rfl, fun a X hk hX K hK => ?_⟩
              have e_91 : a.eval (.tmp 91) = .bool true := hk.at_ 24 _ 91 _ rfl (by decide) _ rfl rfl rfl
              exact op_val (by simp [go_sem, ev' e_91]) (hK _ hX)
            | 26, ho, hv =>
              cases ho; cases hv
              refine .inl ⟨rfl, fun a X hk hX K hK => ?_⟩
              have e_88 : a.eval (.tmp 88) = .bool false := hk.at_ 21 _ 88 _ rfl (by decide) _ rfl rfl rfl
              have e_92 : a.eval (.tmp 92) = .bool false := hk.at_ 25 _ 92 _ rfl (by decide) _ rfl rfl rfl
              exact op_val (by simp [go_sem, ev' e_88, ev' e_92]) (hK _ hX)
            | _ + 27, ho, _ => cases ho
          case fin2 =>
            intro X6 hX6
            simp only [List.zip_cons_cons, List.zip_nil_right, putAll, Act.put, List.setIfInBounds_toArray, List.set_cons_succ, List.set_cons_zero]
            have HX6 := Lib.hid (HV.out.trans (HV2.out.trans hX6))
            clear hX6 hsub hwj i2 hgt
            (repeat (first | go_big_skip | go_big_want | go_big_move | go_big_op | go_step | go_upon | go_back))
            exact ⟨⟨jp + 1 + 1, by go_num, by omega, HX6.out⟩, by simp [intOf]; omega⟩
      · obtain rfl : j = L2.length := by omega
        have hdec : decide (L2.length < L2.length) = false := decide_eq_false hjl
        have hirr : decide ((L2.length : Int) < (L2.length : Int)) = false := decide_eq_false (by omega)
        by_cases h10 : L1.length = 0
        · have h1 : L1 = [] := List.eq_nil_of_length_eq_zero h10
          have h2 : L2.length = 0 := by
            rcases hL : L2 with _ | ⟨m, r⟩
            · rfl
            · have := HSB.out m (by rw [hL]; simp)
              rw [h1] at this
              simp at this
          have hq1 : ((L1.length : Int) == 0) = true := by simp [h10]
          have hq2 : ((L2.length : Int) == 0) = true := by simp [h2]
          (repeat (first | go_big_skip | go_big_want | go_big_move | go_big_op | go_step | go_upon | go_back))
          go_at_call 9
          refine (awake_any _).mono ?_
          rintro e z ⟨rfl, ha⟩
          dsimp only
          (repeat (first | go_big_skip | go_big_want | go_big_move | go_big_op | go_step | go_upon | go_back))
          go_ret
          exact ⟨rfl, HAW.out.trans (HZ.out.trans (HAR.out.trans ha))⟩
        · have hq1 : ((L1.length : Int) == 0) = false := by rw [beq_eq_false_iff_ne]; omega
          have hne : L1.length ≠ 0 := h10
          obtain ⟨q, hq⟩ : ∃ q, n8 % L1.length = q := ⟨_, rfl⟩
          have hql : q < L1.length := by rw [← hq]; exact Nat.mod_lt _ (by omega)
          have ht2 : (n8 : Int) % (L1.length : Int) = (q : Int) := by rw [← hq]; simp
          have ht : (n8 : Int).tmod (L1.length : Int) = (q : Int) := by rw [Int.tmod_eq_emod_of_nonneg (by omega)]; exact ht2
          obtain ⟨bL, oL, rfl, hbL, hcL⟩ := (HI1.out.aft HAR.out).at hql
          obtain ⟨Am, cm, x0, hi⟩ := hcL q hql
          have HIM := Lib.hid hi
          have HMS := Lib.hid (List.getElem_mem hql)
          clear hcL hi
          generalize L1[q] = m at *
          have i1 : (0 : Int) ≤ (q : Int) ∧ (q : Int) < (L1.length : Int) := by omega
          have hn16 := Blk.new wr 24 #[.slice Am m.length cm]
          go_upto_region 20 with fail
          have HV : Hid (Aft X2 (wr.alloc (.cells #[.slice Am m.length cm] 24))) := Lib.hid (HAR.out.then_alloc _)
          have HMV := Lib.hid (HIM.out.aft (Aft.alloc wr (.cells #[.slice Am m.length cm] 24)))
          clear hbL x0 i1
          generalize (wr.alloc (.cells #[.slice Am m.length cm] 24)) = V at *
          generalize wr.heap.size = bn at *
          obtain ⟨hagr, R1, hR1, hre1, hRM1, hml⟩ := HAG.out m HMS.out
          have HC23 := Lib.hid (agreesZ_any V T a1 a2 a3 a4 c1 c2 c3 c4 m Am cm (HT.out.aft (HZ.out.trans HV.out)) HMV.out HNW.out)
          rw [hagr, hR1] at HC23
          have HN := Lib.hid hn16
          have x16 : V.cell? ⟨bn, 0, none⟩ = some (.slice Am m.length cm) := hn16.cell 0
          obtain ⟨k0, k1, k2, k3, k4⟩ := boxR5 (HBX.out.aft (HZ.out.trans HV.out))
          have HLZ1 := Lib.hid (HLZ.out R1 hre1 hRM1)
          have HML := Lib.hid hml
          clear hn16 hagr hR1 hre1 hRM1 hml
          (repeat (first | go_big_skip | go_big_want | go_big_move | go_big_op | go_step | go_upon | go_back))
          go_at_call 23
          refine HC23.out.mono ?_
          rintro e V2 ⟨A4, e4, rfl, hi4, ha⟩
          dsimp only
          have HV2 := Lib.hid ha
          have HC31 := Lib.hid (linesZ_any V2 T a1 a2 a3 a4 c1 c2 c3 c4 R1 A4 e4 (HT.out.aft (HZ.out.trans (HV.out.trans ha))) hi4 (by omega))
          rw [HLZ1.out.1, HLZ1.out.2] at HC31
          obtain ⟨L5, hL5⟩ : ∃ L, linesL T (leadsF T R1) = L := ⟨_, rfl⟩
          rw [hL5] at HC31 HML
          clear ha hi4 k0 k1 k2 k3 k4 x16 hL5
          obtain ⟨k0, k1, k2, k3, k4⟩ := boxR5 (HBX.out.aft (HZ.out.trans (HV.out.trans HV2.out)))
          (repeat (first | go_big_skip | go_big_want | go_big_move | go_big_op | go_step | go_upon | go_back))
          go_at_call 31
          refine HC31.out.mono ?_
          rintro e V3 ⟨A5, e5, rfl, hli5, ha⟩
          dsimp only
          have HV3 := Lib.hid (HV2.out.trans ha)
          have HN3 := Lib.hid (HN.out.aft HV3.out)
          have HL5 := Lib.hid hli5
          clear ha hli5 k0 k1 k2 k3 k4
          (repeat (first | go_big_skip | go_big_want | go_big_move | go_big_op | go_step | go_upon | go_back))
          go_at_call 25
          refine (has33_any bn Am m cm A5 L5 e5 V3 HN3.out.lt (HN3.out.cell 0) (HMV.out.aft HV3.out) HL5.out HML.out).mono ?_
          rintro e V4 ⟨rfl, ha⟩
          dsimp only
          have HV4 := Lib.hid (HV3.out.trans ha)
          clear ha
          (repeat (first | go_big_skip | go_big_want | go_big_move | go_big_op | go_step | go_upon | go_back))
          go_at_call 9
          refine (awake_any _).mono ?_
          rintro e z ⟨rfl, ha⟩
          dsimp only
          (repeat (first | go_big_skip | go_big_want | go_big_move | go_big_op | go_step | go_upon | go_back))
          go_ret
          exact ⟨rfl, HAW.out.trans (HZ.out.trans (HV.out.trans (HV4.out.trans ha)))⟩
  · -- more than may be
    have hl1 : L1 = [] := by rw [← HL1.out]; unfold allX; rw [if_neg (by rw [HEQ.out, hE0]; decide)]
    subst hE0
    rcases hw0.out with hF0 | hF0
    all_goals
      subst hF0
      (repeat (first | go_big_skip | go_big_want | go_big_move | go_big_op | go_step | go_upon | go_back))
      go_at_call 9
      refine (awake_any _).mono ?_
      rintro e z ⟨rfl, ha⟩
      dsimp only
      (repeat (first | go_big_skip | go_big_want | go_big_move | go_big_op | go_step | go_upon | go_back))
      go_ret
      exact ⟨rfl, HAW.out.trans (HZ.out.trans ha)⟩
end Go.Proofs
end
