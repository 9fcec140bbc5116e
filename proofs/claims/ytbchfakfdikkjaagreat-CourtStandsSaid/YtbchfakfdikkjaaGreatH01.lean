/- Own texts, merged: CtRi CtRf0 CtSv0. -/
import Derived.Test.YtbchfakfdikkjaaGreatD01
import Derived.Test.YtbchfakfdikkjaaGreatF01
import Derived.Test.YtbchfakfdikkjaaGreatP06
import Derived.Test.YtbchfakfdikkjaaGreatP10
import Derived.Test.YtbchfakfdikkjaaGreatP13
import Derived.Test.YtbchfakfdikkjaaGreatP15
import Derived.Test.YtbchfakfdikkjaaGreatP16
import Derived.Test.YtbchfakfdikkjaaGreatW01
set_option linter.unusedSimpArgs false
set_option linter.unusedVariables false
set_option linter.unnecessarySimpa false
section
namespace Go.Proofs
open Go.RowKit
open Court (refL begF noS struckB strikeL standB)
attribute [local go_sem] Oper.semAt_some

set_option maxRecDepth 100000 in
set_option maxHeartbeats 4000000 in
theorem beforeR_any (x y : List Int) (A B : Option Addr) (c d : Nat) (w : World) (hA : Ints w A x) (hB : Ints w B y) :
    Calls Tryz.prog 109 #[.slice A x.length c, .slice B y.length d] w fun e w' => e = .returned (.bool (decide (cmpZ x y < 0))) ∧ Aft w w' := by
  have hl := hA.len
  have hl' := hB.len
  have HA := Lib.hid hA
  have HB := Lib.hid hB
  clear hA hB
  obtain ⟨bv, hbv⟩ : ∃ bv, decide (cmpZ x y < 0) = bv := ⟨_, rfl⟩
  have HBV : Hid (decide (cmpZ (x.drop 0) (y.drop 0) < 0) = bv) := Lib.hid hbv
  rw [hbv]
  clear hbv
  go_enter Tryz.func109, Tryz.ntmps109
  go_upto_block 0 with fail
  refine wp_block ?_
  go_loopw [5] (fun i wr => ∃ k : Nat, i = .int .i64 k ∧ k ≤ x.length ∧ k ≤ y.length ∧ Aft w wr ∧ Hid (decide (cmpZ (x.drop k) (y.drop k) < 0) = bv)) (fun i _ => x.length - (intOf i).toNat)
  case atStart => exact ⟨0, rfl, by omega, by omega, Aft.refl _, HBV⟩
  case round =>
    obtain ⟨k, rfl, hk, hk', hw, HV⟩ := hrel
    have HW := Lib.hid hw
    clear hw HBV
    by_cases hkx : k < x.length
    · have t1 : decide (k < x.length) = true := by simpa using hkx
      by_cases hky : k < y.length
      · have t2 : decide (k < y.length) = true := by simpa using hky
        have ix : (0 : Int) ≤ (k : Int) ∧ (k : Int) < (x.length : Int) := by omega
        have iy : (0 : Int) ≤ (k : Int) ∧ (k : Int) < (y.length : Int) := by omega
        obtain ⟨ba, oa, rfl, hlta, hca⟩ := (HA.out.aft HW.out).at hkx
        obtain ⟨bb, ob, rfl, hltb, hcb⟩ := (HB.out.aft HW.out).at hky
        have x0 := hca k hkx
        have y0 := hcb k hky
        have HST := Lib.hid (cmpZ_step x y hkx hky)
        obtain ⟨p, hp⟩ : ∃ p, x[k] = p := ⟨_, rfl⟩
        obtain ⟨q, hq⟩ : ∃ q, y[k] = q := ⟨_, rfl⟩
        rw [hp] at x0 HST
        rw [hq] at y0 HST
        have HX : Hid (∀ W, Aft wr W → W.cell? ⟨ba, oa + k, none⟩ = some (.int .i64 p)) := Lib.hid fun W h => cellA x0 hlta h
        have HY : Hid (∀ W, Aft wr W → W.cell? ⟨bb, ob + k, none⟩ = some (.int .i64 q)) := Lib.hid fun W h => cellA y0 hltb h
        clear hca hcb hp hq x0 y0
        go_upto_region 4 with fail
        obtain ⟨bn, hbn⟩ : ∃ bn, (p != q) = bn := ⟨_, rfl⟩
        refine wp_region_valsG (by kernel_rfl) 41 rfl (by kernel_rfl) (by kernel_rfl) [.slice (some ⟨ba, oa, none⟩) x.length c, .int .i64 k, .pointer (some ⟨ba, oa + k, none⟩), .int .i64 p, .slice (some ⟨bb, ob, none⟩) y.length d, .int .i64 k, .pointer (some ⟨bb, ob + k, none⟩), .int .i64 q, .bool bn] rfl (fun W => Aft wr W) (Aft.drew _) ?st1 ?fi1
        case st1 =>
          intro i o v ho hv
          match i, ho, hv with
          | 0, ho, hv =>
            cases ho; cases hv
            refine .inl ⟨rfl, fun a W hk hw K hK => ?_⟩
            have e0 := hk.same 0 (by decide)
            exact op_val (by simp [go_sem, ev' e0]) (hK _ hw)
          | 1, ho, hv =>
            cases ho; cases hv
            refine .inl ⟨rfl, fun a W hk hw K hK => ?_⟩
            have e5 := hk.same 5 (by decide)
            exact op_val (by simp [go_sem, ev' e5]) (hK _ hw)
          | 2, ho, hv =>
            cases ho; cases hv
            refine .inl ⟨rfl, fun a W hk hw K hK => ?_⟩
            have e18 := hk.at_ 0 _ 18 _ rfl (by decide) _ rfl rfl rfl
            have e19 := hk.at_ 1 _ 19 _ rfl (by decide) _ rfl rfl rfl
            exact op_val (by simp [go_sem, ev' e18, ev' e19, ix]) (hK _ hw)
          | 3, ho, hv =>
            cases ho; cases hv
            refine .inl ⟨rfl, fun a W hk hw K hK => ?_⟩
            have e20 := hk.at_ 2 _ 20 _ rfl (by decide) _ rfl rfl rfl
            exact op_val (by simp [go_sem, ev' e20, HX.out W hw]) (hK _ hw)
          | 4, ho, hv =>
            cases ho; cases hv
            refine .inl ⟨rfl, fun a W hk hw K hK => ?_⟩
            have e1 := hk.same 1 (by decide)
            exact op_val (by simp [go_sem, ev' e1]) (hK _ hw)
          | 5, ho, hv =>
            cases ho; cases hv
            refine .inl ⟨rfl, fun a W hk hw K hK => ?_⟩
            have e5 := hk.same 5 (by decide)
            exact op_val (by simp [go_sem, ev' e5]) (hK _ hw)
          | 6, ho, hv =>
            cases ho; cases hv
            refine .inl ⟨rfl, fun a W hk hw K hK => ?_⟩
            have e22 := hk.at_ 4 _ 22 _ rfl (by decide) _ rfl rfl rfl
            have e23 := hk.at_ 5 _ 23 _ rfl (by decide) _ rfl rfl rfl
            exact op_val (by simp [go_sem, ev' e22, ev' e23, iy]) (hK _ hw)
          | 7, ho, hv =>
            cases ho; cases hv
            refine .inl ⟨rfl, fun a W hk hw K hK => ?_⟩
            have e24 := hk.at_ 6 _ 24 _ rfl (by decide) _ rfl rfl rfl
            exact op_val (by simp [go_sem, ev' e24, HY.out W hw]) (hK _ hw)
          | 8, ho, hv =>
            cases ho; cases hv
            refine .inl ⟨rfl, fun a W hk hw K hK => ?_⟩
            have e21 := hk.at_ 3 _ 21 _ rfl (by decide) _ rfl rfl rfl
            have e25 := hk.at_ 7 _ 25 _ rfl (by decide) _ rfl rfl rfl
            exact op_val (by simp [go_sem, ev' e21, ev' e25, hbn]) (hK _ hw)
          | _ + 9, _, hv => cases hv
        intro W hw
        simp only [List.drop_succ_cons, List.drop_zero, List.zip_cons_cons, List.zip_nil_right, putAll]
        simp only [Act.put, List.setIfInBounds_toArray, List.set]
        have HW2 := Lib.hid hw
        clear hw
        cases bn
        · have hpq : p = q := by simpa using hbn
          have HV2 : Hid (decide (cmpZ (x.drop (k + 1)) (y.drop (k + 1)) < 0) = bv) := Lib.hid (by
            have := HV.out
            rwa [HST.out, if_pos hpq] at this)
          clear hpq hbn
          go_wp2_with fail
          exact ⟨⟨k + 1, by go_num, by omega, by omega, HW.out.trans HW2.out, HV2⟩, by simp [intOf]; omega⟩
        · have hpq : ¬ p = q := by simpa using hbn
          obtain ⟨bl, hbl⟩ : ∃ bl, decide (p < q) = bl := ⟨_, rfl⟩
          have HV2 : Hid (bl = bv) := Lib.hid (by
            have := HV.out
            rw [HST.out, if_neg hpq] at this
            rw [← this, ← hbl]
            exact decide_eq_decide.2 compareInt_neg.symm)
          clear hpq hbn
          go_upto_region 5 with fail
          obtain ⟨W5, rfl⟩ : ∃ W5, W5 = W := ⟨_, rfl⟩
          refine wp_region_valsT (by kernel_rfl) 9 41 rfl (by kernel_rfl) (by kernel_rfl) (by kernel_rfl) [.slice (some ⟨ba, oa, none⟩) x.length c, .int .i64 k, .pointer (some ⟨ba, oa + k, none⟩), .int .i64 p, .slice (some ⟨bb, ob, none⟩) y.length d, .int .i64 k, .pointer (some ⟨bb, ob + k, none⟩), .int .i64 q, .bool bl] rfl (fun done W => Aft W5 W) (Aft.drew _) ?st2 ?fi2
          case st2 =>
            intro i o v ho hv
            match i, ho, hv with
            | 0, ho, hv =>
              cases ho; cases hv
              refine .inl ⟨rfl, fun done a W hd hp hk hw K hK => ?_⟩
              have e0 := hk.same 0 (by decide)
              exact op_val (by simp [go_sem, ev' e0]) (hK _ hw)
            | 1, ho, hv =>
              cases ho; cases hv
              refine .inl ⟨rfl, fun done a W hd hp hk hw K hK => ?_⟩
              have e5 := hk.same 5 (by decide)
              exact op_val (by simp [go_sem, ev' e5]) (hK _ hw)
            | 2, ho, hv =>
              cases ho; cases hv
              refine .inl ⟨rfl, fun done a W hd hp hk hw K hK => ?_⟩
              have e27 := hk.at_ 0 _ 27 _ rfl (by decide) _ rfl rfl rfl
              have e28 := hk.at_ 1 _ 28 _ rfl (by decide) _ rfl rfl rfl
              exact op_val (by simp [go_sem, ev' e27, ev' e28, ix]) (hK _ hw)
            | 3, ho, hv =>
              cases ho; cases hv
              refine .inl ⟨rfl, fun done a W hd hp hk hw K hK => ?_⟩
              have e29 := hk.at_ 2 _ 29 _ rfl (by decide) _ rfl rfl rfl
              exact op_val (by simp [go_sem, ev' e29, HX.out W (HW2.out.trans hw)]) (hK _ hw)
            | 4, ho, hv =>
              cases ho; cases hv
              refine .inl ⟨rfl, fun done a W hd hp hk hw K hK => ?_⟩
              have e1 := hk.same 1 (by decide)
              exact op_val (by simp [go_sem, ev' e1]) (hK _ hw)
            | 5, ho, hv =>
              cases ho; cases hv
              refine .inl ⟨rfl, fun done a W hd hp hk hw K hK => ?_⟩
              have e5 := hk.same 5 (by decide)
              exact op_val (by simp [go_sem, ev' e5]) (hK _ hw)
            | 6, ho, hv =>
              cases ho; cases hv
              refine .inl ⟨rfl, fun done a W hd hp hk hw K hK => ?_⟩
              have e31 := hk.at_ 4 _ 31 _ rfl (by decide) _ rfl rfl rfl
              have e32 := hk.at_ 5 _ 32 _ rfl (by decide) _ rfl rfl rfl
              exact op_val (by simp [go_sem, ev' e31, ev' e32, iy]) (hK _ hw)
            | 7, ho, hv =>
              cases ho; cases hv
              refine .inl ⟨rfl, fun done a W hd hp hk hw K hK => ?_⟩
              have e33 := hk.at_ 6 _ 33 _ rfl (by decide) _ rfl rfl rfl
              exact op_val (by simp [go_sem, ev' e33, HY.out W (HW2.out.trans hw)]) (hK _ hw)
            | 8, ho, hv =>
              cases ho; cases hv
              refine .inl ⟨rfl, fun done a W hd hp hk hw K hK => ?_⟩
              have e30 := hk.at_ 3 _ 30 _ rfl (by decide) _ rfl rfl rfl
              have e34 := hk.at_ 7 _ 34 _ rfl (by decide) _ rfl rfl rfl
              exact op_val (by simp [go_sem, ev' e30, ev' e34, hbl]) (hK _ hw)
            | _ + 9, _, hv => cases hv
          intro done W hd hw
          simp only [List.drop_succ_cons, List.drop_zero, List.zip_cons_cons, List.zip_nil_right, putAll]
          simp only [Act.put, List.setIfInBounds_toArray, List.set]
          go_wp2_with fail
          go_ret
          exact ⟨ret_bool HV2.out, HW.out.trans (HW2.out.trans hw)⟩
      · have t2 : decide (k < y.length) = false := by simpa using hky
        have HV2 : Hid (decide ((x.length : Int) < (y.length : Int)) = bv) := Lib.hid (by
          rw [← HV.out, cmpZ_long x y hkx (by omega)]
          exact decide_eq_decide.2 (by omega))
        go_wp2_with fail
        go_ret
        exact ⟨ret_bool (by first | exact HV2.out | (rw [← HV2.out]; simp)), HW.out⟩
    · have t1 : decide (k < x.length) = false := by simpa using hkx
      have HV2 : Hid (decide ((x.length : Int) < (y.length : Int)) = bv) := Lib.hid (by
        have := HV.out
        obtain rfl : k = x.length := by omega
        rw [cmpZ_end] at this
        rw [← this]
        split
        · exact decide_eq_decide.2 (by omega)
        · exact decide_eq_decide.2 (by omega))
      go_wp2_with fail
      go_ret
      exact ⟨ret_bool (by first | exact HV2.out | (rw [← HV2.out]; simp)), HW.out⟩

set_option maxRecDepth 100000 in
set_option maxHeartbeats 16000000 in
theorem standsR_any (C : CaseL) (a1 a2 : Option Addr) (c1 c2 : Nat) (R l : List Int) (AR A : Option Addr) (cR c : Nat) (w : World) (hC : CRep w C a1 a2) (hR : Ints w AR R) (hA : Ints w A l) :
    Calls Tryz.prog 73 #[(.agg #[.int .i64 C.claims, .slice a1 C.strikes.length c1, .slice a2 C.surveys.length c2]), .slice AR R.length cR, .slice A l.length c] w fun e w' => e = .returned (.bool (standB C.strikes (refL R) l)) ∧ Aft w w' := by
  have hll := hA.len
  have hl := hC.strikes.len
  have H0 := Lib.hid (Aft.alloc w (.cells #[.int .i64 C.claims, .slice a1 C.strikes.length c1, .slice a2 C.surveys.length c2] 31))
  have HB := Lib.hid (Blk.new w 31 #[.int .i64 C.claims, .slice a1 C.strikes.length c1, .slice a2 C.surveys.length c2])
  have HC := Lib.hid (hC.aft H0.out)
  have HR := Lib.hid (hR.aft H0.out)
  have HA := Lib.hid (hA.aft H0.out)
  clear hC hR hA
  obtain ⟨bC, hbC⟩ : ∃ bC, w.heap.size = bC := ⟨_, rfl⟩
  rw [hbC] at HB
  have HBC := Lib.hid hbC
  clear hbC
  obtain ⟨QS, hQS⟩ : ∃ QS : Int → Int × Int → Bool, QS = fun n s => !decide (s.2 = n) || refL R s.1 || strikeL C.strikes (refL l) s.1 := ⟨_, rfl⟩
  have HQS : Hid (∀ n s, QS n s = (!decide (s.2 = n) || refL R s.1 || strikeL C.strikes (refL l) s.1)) := Lib.hid fun n s => by rw [hQS]
  obtain ⟨PS, hPS⟩ : ∃ PS : Int → Bool, PS = fun n => !refL R n && !strikeL C.strikes (refL l) n && C.strikes.all (QS n) := ⟨_, rfl⟩
  have HPS : Hid (∀ n, PS n = (!refL R n && !strikeL C.strikes (refL l) n && C.strikes.all (QS n))) := Lib.hid fun n => by rw [hPS]
  rw [show standB C.strikes (refL R) l = l.all PS by rw [hPS, hQS]; rfl]
  clear hPS hQS
  go_enter Tryz.func73, Tryz.ntmps73
  go_upto_block 0 with fail
  rw [HBC.out]
  generalize w.alloc (.cells #[.int .i64 C.claims, .slice a1 C.strikes.length c1, .slice a2 C.surveys.length c2] 31) = W0 at *
  refine wp_block ?_
  go_loopw [7] (fun i wr => ∃ k : Nat, i = .int .i64 k ∧ k ≤ l.length ∧ Aft W0 wr ∧ Hid (∀ j, (h : j < l.length) → j < k → PS l[j] = true)) (fun i _ => l.length - (intOf i).toNat)
  case atStart => exact ⟨0, rfl, by omega, Aft.refl _, Lib.hid fun j _ h => by omega⟩
  case round =>
    obtain ⟨k, rfl, hk, hy, HOK⟩ := hrel
    have HY := Lib.hid hy
    clear hy
    by_cases hkl : k < l.length
    · have t1 : decide (k < l.length) = true := by simpa using hkl
      have ik : (0 : Int) ≤ (k : Int) ∧ (k : Int) < (l.length : Int) := by omega
      obtain ⟨bl, ol, hbl, hltl, hcl⟩ := (HA.out.aft HY.out).at hkl
      subst hbl
      have x0 := hcl k hkl
      have HNO : Hid (PS l[k] = false → l.all PS = false) := Lib.hid fun h => all_not hkl h
      obtain ⟨n, hn⟩ : ∃ n, l[k] = n := ⟨_, rfl⟩
      have HLK := Lib.hid hn
      rw [hn] at x0 HNO
      have HXN : Hid (∀ W, Aft wr W → W.cell? ⟨bl, ol + k, none⟩ = some (.int .i64 n)) := Lib.hid fun W h => cellA x0 hltl h
      have HC0 : Hid (∀ W, Aft wr W → W.cell? ⟨bC, 0, none⟩ = some (.int .i64 C.claims) ∧ W.cell? ⟨bC, 1, none⟩ = some (.slice a1 C.strikes.length c1) ∧ W.cell? ⟨bC, 2, none⟩ = some (.slice a2 C.surveys.length c2)) := Lib.hid fun W h => box31 (HB.out.aft (HY.out.trans h))
      have HPN := Lib.hid (HPS.out n)
      obtain ⟨bh, hbh⟩ : ∃ bh, refL R n = bh := ⟨_, rfl⟩
      have hbh' : hasB R n = bh := hbh
      obtain ⟨bs, hbs⟩ : ∃ bs, strikeL C.strikes (refL l) n = bs := ⟨_, rfl⟩
      have H64 : Hid (∀ W, Aft wr W → Calls Tryz.prog 64 #[.slice AR R.length cR, .int .i64 n] W fun e w' => e = .returned (.bool bh) ∧ W = w') := Lib.hid fun W h => by rw [← hbh']; exact hasR_any AR R cR n W (HR.out.aft (HY.out.trans h))
      have H104 : Hid (∀ W, Aft wr W → Calls Tryz.prog 104 #[(.agg #[.int .i64 C.claims, .slice a1 C.strikes.length c1, .slice a2 C.surveys.length c2]), .slice (some ⟨bl, ol, none⟩) l.length c, .int .i64 n] W fun e w' => e = .returned (.bool bs) ∧ Aft W w') := Lib.hid fun W h => by rw [← hbs]; exact strikesR_any C a1 a2 c1 c2 l (some ⟨bl, ol, none⟩) c n W (HC.out.aft (HY.out.trans h)) (HA.out.aft (HY.out.trans h))
      rw [hbh, hbs] at HPN
      clear hcl hn x0 hbh hbh' hbs
      go_upto_region 4 with fail
      cases bh
      · skip
        refine wp_region_valsG (by kernel_rfl) 71 rfl (by kernel_rfl) (by kernel_rfl) [.slice AR R.length cR, .slice (some ⟨bl, ol, none⟩) l.length c, .int .i64 k, .pointer (some ⟨bl, ol + k, none⟩), .int .i64 n, .bool false, .bool false, (.agg #[.int .i64 C.claims, .slice a1 C.strikes.length c1, .slice a2 C.surveys.length c2]), .slice (some ⟨bl, ol, none⟩) l.length c, .slice (some ⟨bl, ol, none⟩) l.length c, .int .i64 k, .pointer (some ⟨bl, ol + k, none⟩), .int .i64 n, .bool bs, .bool bs] rfl (fun W => Aft wr W) (Aft.drew _) ?st3 ?fi3
        case st3 =>
          intro i o v ho hv
          match i, ho, hv with
          | 0, ho, hv =>
            cases ho; cases hv
            refine .inl ⟨rfl, fun a W hk hw K hK => ?_⟩
            have e1 := hk.same 1 (by decide)
            exact op_val (by simp [go_sem, ev' e1]) (hK _ hw)
          | 1, ho, hv =>
            cases ho; cases hv
            refine .inl ⟨rfl, fun a W hk hw K hK => ?_⟩
            have e2 := hk.same 2 (by decide)
            exact op_val (by simp [go_sem, ev' e2]) (hK _ hw)
          | 2, ho, hv =>
            cases ho; cases hv
            refine .inl ⟨rfl, fun a W hk hw K hK => ?_⟩
            have e7 := hk.same 7 (by decide)
            exact op_val (by simp [go_sem, ev' e7]) (hK _ hw)
          | 3, ho, hv =>
            cases ho; cases hv
            refine .inl ⟨rfl, fun a W hk hw K hK => ?_⟩
            have e16 := hk.at_ 1 _ 16 _ rfl (by decide) _ rfl rfl rfl
            have e17 := hk.at_ 2 _ 17 _ rfl (by decide) _ rfl rfl rfl
            exact op_val (by simp [go_sem, ev' e16, ev' e17, ik]) (hK _ hw)
          | 4, ho, hv =>
            cases ho; cases hv
            refine .inl ⟨rfl, fun a W hk hw K hK => ?_⟩
            have e18 := hk.at_ 3 _ 18 _ rfl (by decide) _ rfl rfl rfl
            exact op_val (by simp [go_sem, ev' e18, HXN.out W hw]) (hK _ hw)
          | 5, ho, hv =>
            cases ho; cases hv
            refine .inl ⟨rfl, fun a W hk hw K hK => ?_⟩
            have e15 := hk.at_ 0 _ 15 _ rfl (by decide) _ rfl rfl rfl
            have e19 := hk.at_ 4 _ 19 _ rfl (by decide) _ rfl rfl rfl
            refine op_callN rfl rfl rfl _ rfl (vs := #[.slice AR R.length cR, .int .i64 n]) (by simp [e15, e19]) (H64.out W hw) fun e w' h => ?_
            obtain ⟨rfl, rfl⟩ := h
            exact ⟨_, rfl, hK _ hw⟩
          | 6, ho, hv =>
            cases ho; cases hv
            refine .inl ⟨rfl, fun a W hk hw K hK => ?_⟩
            have e20 := hk.at_ 5 _ 20 _ rfl (by decide) _ rfl rfl rfl
            exact op_val (by simp [go_sem, ev' e20]) (hK _ hw)
          | 7, ho, hv =>
            cases ho; cases hv
            refine .inl ⟨rfl, fun a W hk hw K hK => ?_⟩
            have e3 := hk.same 3 (by decide)
            obtain ⟨j0, j1, j2⟩ := HC0.out W hw
            exact op_val (v := (.agg #[.int .i64 C.claims, .slice a1 C.strikes.length c1, .slice a2 C.surveys.length c2])) (by simp [go_sem, ev' e3, j0, j1, j2]) (hK _ hw)
          | 8, ho, hv =>
            cases ho; cases hv
            refine .inl ⟨rfl, fun a W hk hw K hK => ?_⟩
            have e2 := hk.same 2 (by decide)
            exact op_val (by simp [go_sem, ev' e2]) (hK _ hw)
          | 9, ho, hv =>
            cases ho; cases hv
            refine .inl ⟨rfl, fun a W hk hw K hK => ?_⟩
            have e2 := hk.same 2 (by decide)
            exact op_val (by simp [go_sem, ev' e2]) (hK _ hw)
          | 10, ho, hv =>
            cases ho; cases hv
            refine .inl ⟨rfl, fun a W hk hw K hK => ?_⟩
            have e7 := hk.same 7 (by decide)
            exact op_val (by simp [go_sem, ev' e7]) (hK _ hw)
          | 11, ho, hv =>
            cases ho; cases hv
            refine .inl ⟨rfl, fun a W hk hw K hK => ?_⟩
            have e24 := hk.at_ 9 _ 24 _ rfl (by decide) _ rfl rfl rfl
            have e25 := hk.at_ 10 _ 25 _ rfl (by decide) _ rfl rfl rfl
            exact op_val (by simp [go_sem, ev' e24, ev' e25, ik]) (hK _ hw)
          | 12, ho, hv =>
            cases ho; cases hv
            refine .inl ⟨rfl, fun a W hk hw K hK => ?_⟩
            have e26 := hk.at_ 11 _ 26 _ rfl (by decide) _ rfl rfl rfl
            exact op_val (by simp [go_sem, ev' e26, HXN.out W hw]) (hK _ hw)
          | 13, ho, hv =>
            cases ho; cases hv
            refine .inl ⟨rfl, fun a W hk hw K hK => ?_⟩
            have e22 := hk.at_ 7 _ 22 _ rfl (by decide) _ rfl rfl rfl
            have e23 := hk.at_ 8 _ 23 _ rfl (by decide) _ rfl rfl rfl
            have e27 := hk.at_ 12 _ 27 _ rfl (by decide) _ rfl rfl rfl
            refine op_callN rfl rfl rfl _ rfl (vs := #[(.agg #[.int .i64 C.claims, .slice a1 C.strikes.length c1, .slice a2 C.surveys.length c2]), .slice (some ⟨bl, ol, none⟩) l.length c, .int .i64 n]) (by simp [e22, e23, e27]) (H104.out W hw) fun e w' h => ?_
            obtain ⟨rfl, ha⟩ := h
            exact ⟨_, rfl, hK _ (hw.trans ha)⟩
          | 14, ho, hv =>
            cases ho; cases hv
            refine .inl ⟨rfl, fun a W hk hw K hK => ?_⟩
            have e21 := hk.at_ 6 _ 21 _ rfl (by decide) _ rfl rfl rfl
            have e28 := hk.at_ 13 _ 28 _ rfl (by decide) _ rfl rfl rfl
            exact op_val (by simp [go_sem, ev' e21, ev' e28]) (hK _ hw)
          | _ + 15, _, hv => cases hv
        intro W hw
        simp only [List.drop_succ_cons, List.drop_zero, List.zip_cons_cons, List.zip_nil_right, putAll]
        simp only [Act.put, List.setIfInBounds_toArray, List.set]
        have HW := Lib.hid hw
        clear hw H64 H104
        cases bs
        · have HAQ : Hid (PS n = C.strikes.all (QS n)) := Lib.hid (by rw [HPN.out]; rfl)
          clear HPN
          obtain ⟨W2, rfl⟩ : ∃ W2, W2 = W := ⟨_, rfl⟩
          go_upto_block 2 with fail
          refine wp_block ?_
          go_loopw [8] (fun i wr => ∃ j : Nat, i = .int .i64 j ∧ j ≤ C.strikes.length ∧ Aft W2 wr ∧ Hid (∀ i, (h : i < C.strikes.length) → i < j → QS n C.strikes[i] = true)) (fun i _ => C.strikes.length - (intOf i).toNat)
          case atStart => exact ⟨0, rfl, by omega, Aft.refl _, Lib.hid fun i _ h => by omega⟩
          case round =>
            obtain ⟨j, rfl, hj, hz, HQO⟩ := hrel
            have HZ := Lib.hid (HY.out.trans (HW.out.trans hz))
            have HZ2 := Lib.hid hz
            clear hz
            obtain ⟨k0, k1, k2⟩ := box31 (HB.out.aft HZ.out)
            have k3 := (HB.out.aft HZ.out).lt
            by_cases hjl : j < C.strikes.length
            · have t2 : decide (j < C.strikes.length) = true := by simpa using hjl
              have ij : (0 : Int) ≤ (j : Int) ∧ (j : Int) < (C.strikes.length : Int) := by omega
              obtain ⟨bs, os, hbs, hlts, hcs⟩ := (HC.out.aft HZ.out).strikes.at hjl
              subst hbs
              obtain ⟨x1, x2⟩ := hcs j hjl
              have HQN : Hid (QS n C.strikes[j] = false → C.strikes.all (QS n) = false) := Lib.hid fun h => by
                rw [Bool.eq_false_iff]
                intro h'
                have := List.all_eq_true.1 h' _ (List.getElem_mem hjl)
                rw [h] at this
                cases this
              obtain ⟨⟨y0, y1⟩, hyz⟩ : ∃ s, C.strikes[j] = s := ⟨_, rfl⟩
              have HYZ := Lib.hid hyz
              rw [hyz] at x1 x2 HQN
              dsimp only at x1 x2
              have HQJ := Lib.hid (HQS.out n (y0, y1))
              dsimp only at HQJ
              have HX1 : Hid (∀ W, Aft wr W → W.cell? ⟨bs, os + j * 2, none⟩ = some (.int .i64 y0)) := Lib.hid fun W h => cellA x1 hlts h
              have HX2 : Hid (∀ W, Aft wr W → W.cell? ⟨bs, os + j * 2 + 1, none⟩ = some (.int .i64 y1)) := Lib.hid fun W h => cellA x2 hlts h
              have HC0 : Hid (∀ W, Aft wr W → W.cell? ⟨bC, 0, none⟩ = some (.int .i64 C.claims) ∧ W.cell? ⟨bC, 1, none⟩ = some (.slice (some ⟨bs, os, none⟩) C.strikes.length c1) ∧ W.cell? ⟨bC, 2, none⟩ = some (.slice a2 C.surveys.length c2)) := Lib.hid fun W h => box31 (HB.out.aft (HZ.out.trans h))
              have HXN : Hid (∀ W, Aft wr W → W.cell? ⟨bl, ol + k, none⟩ = some (.int .i64 n)) := Lib.hid fun W h => HXN.out W (HW.out.trans (HZ2.out.trans h))
              clear hcs hyz x1 x2
              go_upto_region 9 with fail
              clear k0 k1 k2 k3
              cases hb1 : (y1 == n)
              · have HQT : Hid (QS n (y0, y1) = true) := Lib.hid (by
                  rw [HQJ.out, decide_eq_false (show ¬ y1 = n by simpa using hb1)]
                  rfl)
                refine wp_region_valsG (by kernel_rfl) 71 rfl (by kernel_rfl) (by kernel_rfl) [.pointer (some ⟨bC, 1, none⟩), .slice (some ⟨bs, os, none⟩) C.strikes.length c1, .int .i64 j, .pointer (some ⟨bs, os + j * 2, none⟩), .pointer (some ⟨bs, os + j * 2 + 1, none⟩), .int .i64 y1, .slice (some ⟨bl, ol, none⟩) l.length c, .int .i64 k, .pointer (some ⟨bl, ol + k, none⟩), .int .i64 n, .bool false, .bool false, undef, undef, undef, undef, undef, undef, undef, undef, undef, .bool false, .bool false, undef, undef, undef, undef, undef, undef, undef, undef, undef, undef, .bool false] rfl (fun W => Aft wr W) (Aft.drew _) ?st4 ?fi4
                case st4 =>
                  intro i o v ho hv
                  match i, ho, hv with
                  | 0, ho, hv =>
                    cases ho; cases hv
                    refine .inl ⟨rfl, fun a W hk hw K hK => ?_⟩
                    have e3 := hk.same 3 (by decide)
                    exact op_val (by simp [go_sem, ev' e3]) (hK _ hw)
                  | 1, ho, hv =>
                    cases ho; cases hv
                    refine .inl ⟨rfl, fun a W hk hw K hK => ?_⟩
                    have e37 := hk.at_ 0 _ 37 _ rfl (by decide) _ rfl rfl rfl
                    exact op_val (by simp [go_sem, ev' e37, (HC0.out W hw).2.1]) (hK _ hw)
                  | 2, ho, hv =>
                    cases ho; cases hv
                    refine .inl ⟨rfl, fun a W hk hw K hK => ?_⟩
                    have e8 := hk.same 8 (by decide)
                    exact op_val (by simp [go_sem, ev' e8]) (hK _ hw)
                  | 3, ho, hv =>
                    cases ho; cases hv
                    refine .inl ⟨rfl, fun a W hk hw K hK => ?_⟩
                    have e38 := hk.at_ 1 _ 38 _ rfl (by decide) _ rfl rfl rfl
                    have e39 := hk.at_ 2 _ 39 _ rfl (by decide) _ rfl rfl rfl
                    exact op_val (by simp [go_sem, ev' e38, ev' e39, ij]) (hK _ hw)
                  | 4, ho, hv =>
                    cases ho; cases hv
                    refine .inl ⟨rfl, fun a W hk hw K hK => ?_⟩
                    have e40 := hk.at_ 3 _ 40 _ rfl (by decide) _ rfl rfl rfl
                    exact op_val (by simp [go_sem, ev' e40]) (hK _ hw)
                  | 5, ho, hv =>
                    cases ho; cases hv
                    refine .inl ⟨rfl, fun a W hk hw K hK => ?_⟩
                    have e41 := hk.at_ 4 _ 41 _ rfl (by decide) _ rfl rfl rfl
                    exact op_val (by simp [go_sem, ev' e41, HX2.out W hw]) (hK _ hw)
                  | 6, ho, hv =>
                    cases ho; cases hv
                    refine .inl ⟨rfl, fun a W hk hw K hK => ?_⟩
                    have e2 := hk.same 2 (by decide)
                    exact op_val (by simp [go_sem, ev' e2]) (hK _ hw)
                  | 7, ho, hv =>
                    cases ho; cases hv
                    refine .inl ⟨rfl, fun a W hk hw K hK => ?_⟩
                    have e7 := hk.same 7 (by decide)
                    exact op_val (by simp [go_sem, ev' e7]) (hK _ hw)
                  | 8, ho, hv =>
                    cases ho; cases hv
                    refine .inl ⟨rfl, fun a W hk hw K hK => ?_⟩
                    have e43 := hk.at_ 6 _ 43 _ rfl (by decide) _ rfl rfl rfl
                    have e44 := hk.at_ 7 _ 44 _ rfl (by decide) _ rfl rfl rfl
                    exact op_val (by simp [go_sem, ev' e43, ev' e44, ik]) (hK _ hw)
                  | 9, ho, hv =>
                    cases ho; cases hv
                    refine .inl ⟨rfl, fun a W hk hw K hK => ?_⟩
                    have e45 := hk.at_ 8 _ 45 _ rfl (by decide) _ rfl rfl rfl
                    exact op_val (by simp [go_sem, ev' e45, HXN.out W hw]) (hK _ hw)
                  | 10, ho, hv =>
                    cases ho; cases hv
                    refine .inl ⟨rfl, fun a W hk hw K hK => ?_⟩
                    have e42 := hk.at_ 5 _ 42 _ rfl (by decide) _ rfl rfl rfl
                    have e46 := hk.at_ 9 _ 46 _ rfl (by decide) _ rfl rfl rfl
                    exact op_val (by simp [go_sem, ev' e42, ev' e46, hb1]) (hK _ hw)
                  | 11, ho, hv =>
                    cases ho; cases hv
                    refine .inl ⟨rfl, fun a W hk hw K hK => ?_⟩
                    have e47 := hk.at_ 10 _ 47 _ rfl (by decide) _ rfl rfl rfl
                    exact op_val (by simp [go_sem, ev' e47]) (hK _ hw)
                  | 12, ho, hv => cases ho; cases hv; exact .inr ⟨rfl, rfl⟩
                  | 13, ho, hv => cases ho; cases hv; exact .inr ⟨rfl, rfl⟩
                  | 14, ho, hv => cases ho; cases hv; exact .inr ⟨rfl, rfl⟩
                  | 15, ho, hv => cases ho; cases hv; exact .inr ⟨rfl, rfl⟩
                  | 16, ho, hv => cases ho; cases hv; exact .inr ⟨rfl, rfl⟩
                  | 17, ho, hv => cases ho; cases hv; exact .inr ⟨rfl, rfl⟩
                  | 18, ho, hv => cases ho; cases hv; exact .inr ⟨rfl, rfl⟩
                  | 19, ho, hv => cases ho; cases hv; exact .inr ⟨rfl, rfl⟩
                  | 20, ho, hv => cases ho; cases hv; exact .inr ⟨rfl, rfl⟩
                  | 21, ho, hv =>
                    cases ho; cases hv
                    refine .inl ⟨rfl, fun a W hk hw K hK => ?_⟩
                    have e48 := hk.at_ 11 _ 48 _ rfl (by decide) _ rfl rfl rfl
                    have e57 := hk.at_ 20 _ 57 _ rfl (by decide) _ rfl rfl rfl
                    exact op_val (by simp [go_sem, ev' e48, ev' e57]) (hK _ hw)
                  | 22, ho, hv =>
                    cases ho; cases hv
                    refine .inl ⟨rfl, fun a W hk hw K hK => ?_⟩
                    have e58 := hk.at_ 21 _ 58 _ rfl (by decide) _ rfl rfl rfl
                    exact op_val (by simp [go_sem, ev' e58]) (hK _ hw)
                  | 23, ho, hv => cases ho; cases hv; exact .inr ⟨rfl, rfl⟩
                  | 24, ho, hv => cases ho; cases hv; exact .inr ⟨rfl, rfl⟩
                  | 25, ho, hv => cases ho; cases hv; exact .inr ⟨rfl, rfl⟩
                  | 26, ho, hv => cases ho; cases hv; exact .inr ⟨rfl, rfl⟩
                  | 27, ho, hv => cases ho; cases hv; exact .inr ⟨rfl, rfl⟩
                  | 28, ho, hv => cases ho; cases hv; exact .inr ⟨rfl, rfl⟩
                  | 29, ho, hv => cases ho; cases hv; exact .inr ⟨rfl, rfl⟩
                  | 30, ho, hv => cases ho; cases hv; exact .inr ⟨rfl, rfl⟩
                  | 31, ho, hv => cases ho; cases hv; exact .inr ⟨rfl, rfl⟩
                  | 32, ho, hv => cases ho; cases hv; exact .inr ⟨rfl, rfl⟩
                  | 33, ho, hv =>
                    cases ho; cases hv
                    refine .inl ⟨rfl, fun a W hk hw K hK => ?_⟩
                    have e59 := hk.at_ 22 _ 59 _ rfl (by decide) _ rfl rfl rfl
                    have e69 := hk.at_ 32 _ 69 _ rfl (by decide) _ rfl rfl rfl
                    exact op_val (by simp [go_sem, ev' e59, ev' e69]) (hK _ hw)
                  | _ + 34, _, hv => cases hv
                intro W hw
                simp only [List.drop_succ_cons, List.drop_zero, List.zip_cons_cons, List.zip_nil_right, putAll]
                simp only [Act.put, List.setIfInBounds_toArray, List.set]
                have HQO2 : Hid (∀ i, (h : i < C.strikes.length) → i < j + 1 → QS n C.strikes[i] = true) := Lib.hid fun i h h' => by
                  by_cases e : i = j
                  · subst e
                    rw [HYZ.out]
                    exact HQT.out
                  · exact HQO.out i h (by omega)
                go_wp2_with fail
                exact ⟨⟨j + 1, by go_num, by omega, HZ2.out.trans hw, HQO2⟩, by simp [intOf]; omega⟩
              · obtain ⟨br, hbr⟩ : ∃ br, refL R y0 = br := ⟨_, rfl⟩
                have hbr' : hasB R y0 = br := hbr
                have H64 : Hid (∀ W, Aft wr W → Calls Tryz.prog 64 #[.slice AR R.length cR, .int .i64 y0] W fun e w' => e = .returned (.bool br) ∧ W = w') := Lib.hid fun W h => by rw [← hbr']; exact hasR_any AR R cR y0 W (HR.out.aft (HZ.out.trans h))
                rw [decide_eq_true (show y1 = n by simpa using hb1), hbr] at HQJ
                clear hbr hbr'
                cases br
                · obtain ⟨bq, hbq⟩ : ∃ bq, strikeL C.strikes (refL l) y0 = bq := ⟨_, rfl⟩
                  have H104 : Hid (∀ W, Aft wr W → Calls Tryz.prog 104 #[.agg #[.int .i64 C.claims, .slice (some ⟨bs, os, none⟩) C.strikes.length c1, .slice a2 C.surveys.length c2], .slice (some ⟨bl, ol, none⟩) l.length c, .int .i64 y0] W fun e w' => e = .returned (.bool bq) ∧ Aft W w') := Lib.hid fun W h => by rw [← hbq]; exact strikesR_any C (some ⟨bs, os, none⟩) a2 c1 c2 l (some ⟨bl, ol, none⟩) c y0 W (HC.out.aft (HZ.out.trans h)) (HA.out.aft (HZ.out.trans h))
                  rw [hbq] at HQJ
                  clear hbq
                  refine wp_region_valsG (by kernel_rfl) 71 rfl (by kernel_rfl) (by kernel_rfl) [.pointer (some ⟨bC, 1, none⟩), .slice (some ⟨bs, os, none⟩) C.strikes.length c1, .int .i64 j, .pointer (some ⟨bs, os + j * 2, none⟩), .pointer (some ⟨bs, os + j * 2 + 1, none⟩), .int .i64 y1, .slice (some ⟨bl, ol, none⟩) l.length c, .int .i64 k, .pointer (some ⟨bl, ol + k, none⟩), .int .i64 n, .bool true, .bool true, .slice AR R.length cR, .pointer (some ⟨bC, 1, none⟩), .slice (some ⟨bs, os, none⟩) C.strikes.length c1, .int .i64 j, .pointer (some ⟨bs, os + j * 2, none⟩), .pointer (some ⟨bs, os + j * 2, none⟩), .int .i64 y0, .bool false, .bool true, .bool true, .bool true, (.agg #[.int .i64 C.claims, .slice (some ⟨bs, os, none⟩) C.strikes.length c1, .slice a2 C.surveys.length c2]), .slice (some ⟨bl, ol, none⟩) l.length c, .pointer (some ⟨bC, 1, none⟩), .slice (some ⟨bs, os, none⟩) C.strikes.length c1, .int .i64 j, .pointer (some ⟨bs, os + j * 2, none⟩), .pointer (some ⟨bs, os + j * 2, none⟩), .int .i64 y0, .bool bq, .bool (!bq), .bool (!bq)] rfl (fun W => Aft wr W) (Aft.drew _) ?st5 ?fi5
                  case st5 =>
                    intro i o v ho hv
                    match i, ho, hv with
                    | 0, ho, hv =>
                      cases ho; cases hv
                      refine .inl ⟨rfl, fun a W hk hw K hK => ?_⟩
                      have e3 := hk.same 3 (by decide)
                      exact op_val (by simp [go_sem, ev' e3]) (hK _ hw)
                    | 1, ho, hv =>
                      cases ho; cases hv
                      refine .inl ⟨rfl, fun a W hk hw K hK => ?_⟩
                      have e37 := hk.at_ 0 _ 37 _ rfl (by decide) _ rfl rfl rfl
                      exact op_val (by simp [go_sem, ev' e37, (HC0.out W hw).2.1]) (hK _ hw)
                    | 2, ho, hv =>
                      cases ho; cases hv
                      refine .inl ⟨rfl, fun a W hk hw K hK => ?_⟩
                      have e8 := hk.same 8 (by decide)
                      exact op_val (by simp [go_sem, ev' e8]) (hK _ hw)
                    | 3, ho, hv =>
                      cases ho; cases hv
                      refine .inl ⟨rfl, fun a W hk hw K hK => ?_⟩
                      have e38 := hk.at_ 1 _ 38 _ rfl (by decide) _ rfl rfl rfl
                      have e39 := hk.at_ 2 _ 39 _ rfl (by decide) _ rfl rfl rfl
                      exact op_val (by simp [go_sem, ev' e38, ev' e39, ij]) (hK _ hw)
                    | 4, ho, hv =>
                      cases ho; cases hv
                      refine .inl ⟨rfl, fun a W hk hw K hK => ?_⟩
                      have e40 := hk.at_ 3 _ 40 _ rfl (by decide) _ rfl rfl rfl
                      exact op_val (by simp [go_sem, ev' e40]) (hK _ hw)
                    | 5, ho, hv =>
                      cases ho; cases hv
                      refine .inl ⟨rfl, fun a W hk hw K hK => ?_⟩
                      have e41 := hk.at_ 4 _ 41 _ rfl (by decide) _ rfl rfl rfl
                      exact op_val (by simp [go_sem, ev' e41, HX2.out W hw]) (hK _ hw)
                    | 6, ho, hv =>
                      cases ho; cases hv
                      refine .inl ⟨rfl, fun a W hk hw K hK => ?_⟩
                      have e2 := hk.same 2 (by decide)
                      exact op_val (by simp [go_sem, ev' e2]) (hK _ hw)
                    | 7, ho, hv =>
                      cases ho; cases hv
                      refine .inl ⟨rfl, fun a W hk hw K hK => ?_⟩
                      have e7 := hk.same 7 (by decide)
                      exact op_val (by simp [go_sem, ev' e7]) (hK _ hw)
                    | 8, ho, hv =>
                      cases ho; cases hv
                      refine .inl ⟨rfl, fun a W hk hw K hK => ?_⟩
                      have e43 := hk.at_ 6 _ 43 _ rfl (by decide) _ rfl rfl rfl
                      have e44 := hk.at_ 7 _ 44 _ rfl (by decide) _ rfl rfl rfl
                      exact op_val (by simp [go_sem, ev' e43, ev' e44, ik]) (hK _ hw)
                    | 9, ho, hv =>
                      cases ho; cases hv
                      refine .inl ⟨rfl, fun a W hk hw K hK => ?_⟩
                      have e45 := hk.at_ 8 _ 45 _ rfl (by decide) _ rfl rfl rfl
                      exact op_val (by simp [go_sem, ev' e45, HXN.out W hw]) (hK _ hw)
                    | 10, ho, hv =>
                      cases ho; cases hv
                      refine .inl ⟨rfl, fun a W hk hw K hK => ?_⟩
                      have e42 := hk.at_ 5 _ 42 _ rfl (by decide) _ rfl rfl rfl
                      have e46 := hk.at_ 9 _ 46 _ rfl (by decide) _ rfl rfl rfl
                      exact op_val (by simp [go_sem, ev' e42, ev' e46, hb1]) (hK _ hw)
                    | 11, ho, hv =>
                      cases ho; cases hv
                      refine .inl ⟨rfl, fun a W hk hw K hK => ?_⟩
                      have e47 := hk.at_ 10 _ 47 _ rfl (by decide) _ rfl rfl rfl
                      exact op_val (by simp [go_sem, ev' e47]) (hK _ hw)
                    | 12, ho, hv =>
                      cases ho; cases hv
                      refine .inl ⟨rfl, fun a W hk hw K hK => ?_⟩
                      have e1 := hk.same 1 (by decide)
                      exact op_val (by simp [go_sem, ev' e1]) (hK _ hw)
                    | 13, ho, hv =>
                      cases ho; cases hv
                      refine .inl ⟨rfl, fun a W hk hw K hK => ?_⟩
                      have e3 := hk.same 3 (by decide)
                      exact op_val (by simp [go_sem, ev' e3]) (hK _ hw)
                    | 14, ho, hv =>
                      cases ho; cases hv
                      refine .inl ⟨rfl, fun a W hk hw K hK => ?_⟩
                      have e50 := hk.at_ 13 _ 50 _ rfl (by decide) _ rfl rfl rfl
                      exact op_val (by simp [go_sem, ev' e50, (HC0.out W hw).2.1]) (hK _ hw)
                    | 15, ho, hv =>
                      cases ho; cases hv
                      refine .inl ⟨rfl, fun a W hk hw K hK => ?_⟩
                      have e8 := hk.same 8 (by decide)
                      exact op_val (by simp [go_sem, ev' e8]) (hK _ hw)
                    | 16, ho, hv =>
                      cases ho; cases hv
                      refine .inl ⟨rfl, fun a W hk hw K hK => ?_⟩
                      have e51 := hk.at_ 14 _ 51 _ rfl (by decide) _ rfl rfl rfl
                      have e52 := hk.at_ 15 _ 52 _ rfl (by decide) _ rfl rfl rfl
                      exact op_val (by simp [go_sem, ev' e51, ev' e52, ij]) (hK _ hw)
                    | 17, ho, hv =>
                      cases ho; cases hv
                      refine .inl ⟨rfl, fun a W hk hw K hK => ?_⟩
                      have e53 := hk.at_ 16 _ 53 _ rfl (by decide) _ rfl rfl rfl
                      exact op_val (by simp [go_sem, ev' e53]) (hK _ hw)
                    | 18, ho, hv =>
                      cases ho; cases hv
                      refine .inl ⟨rfl, fun a W hk hw K hK => ?_⟩
                      have e54 := hk.at_ 17 _ 54 _ rfl (by decide) _ rfl rfl rfl
                      exact op_val (by simp [go_sem, ev' e54, HX1.out W hw]) (hK _ hw)
                    | 19, ho, hv =>
                      cases ho; cases hv
                      refine .inl ⟨rfl, fun a W hk hw K hK => ?_⟩
                      have e49 := hk.at_ 12 _ 49 _ rfl (by decide) _ rfl rfl rfl
                      have e55 := hk.at_ 18 _ 55 _ rfl (by decide) _ rfl rfl rfl
                      refine op_callN rfl rfl rfl _ rfl (vs := #[.slice AR R.length cR, .int .i64 y0]) (by simp [e49, e55]) (H64.out W hw) fun e w' h => ?_
                      obtain ⟨rfl, rfl⟩ := h
                      exact ⟨_, rfl, hK _ hw⟩
                    | 20, ho, hv =>
                      cases ho; cases hv
                      refine .inl ⟨rfl, fun a W hk hw K hK => ?_⟩
                      have e56 := hk.at_ 19 _ 56 _ rfl (by decide) _ rfl rfl rfl
                      exact op_val (by simp [go_sem, ev' e56]) (hK _ hw)
                    | 21, ho, hv =>
                      cases ho; cases hv
                      refine .inl ⟨rfl, fun a W hk hw K hK => ?_⟩
                      have e48 := hk.at_ 11 _ 48 _ rfl (by decide) _ rfl rfl rfl
                      have e57 := hk.at_ 20 _ 57 _ rfl (by decide) _ rfl rfl rfl
                      exact op_val (by simp [go_sem, ev' e48, ev' e57]) (hK _ hw)
                    | 22, ho, hv =>
                      cases ho; cases hv
                      refine .inl ⟨rfl, fun a W hk hw K hK => ?_⟩
                      have e58 := hk.at_ 21 _ 58 _ rfl (by decide) _ rfl rfl rfl
                      exact op_val (by simp [go_sem, ev' e58]) (hK _ hw)
                    | 23, ho, hv =>
                      cases ho; cases hv
                      refine .inl ⟨rfl, fun a W hk hw K hK => ?_⟩
                      have e3 := hk.same 3 (by decide)
                      obtain ⟨j0, j1, j2⟩ := HC0.out W hw
                      exact op_val (v := (.agg #[.int .i64 C.claims, .slice (some ⟨bs, os, none⟩) C.strikes.length c1, .slice a2 C.surveys.length c2])) (by simp [go_sem, ev' e3, j0, j1, j2]) (hK _ hw)
                    | 24, ho, hv =>
                      cases ho; cases hv
                      refine .inl ⟨rfl, fun a W hk hw K hK => ?_⟩
                      have e2 := hk.same 2 (by decide)
                      exact op_val (by simp [go_sem, ev' e2]) (hK _ hw)
                    | 25, ho, hv =>
                      cases ho; cases hv
                      refine .inl ⟨rfl, fun a W hk hw K hK => ?_⟩
                      have e3 := hk.same 3 (by decide)
                      exact op_val (by simp [go_sem, ev' e3]) (hK _ hw)
                    | 26, ho, hv =>
                      cases ho; cases hv
                      refine .inl ⟨rfl, fun a W hk hw K hK => ?_⟩
                      have e62 := hk.at_ 25 _ 62 _ rfl (by decide) _ rfl rfl rfl
                      exact op_val (by simp [go_sem, ev' e62, (HC0.out W hw).2.1]) (hK _ hw)
                    | 27, ho, hv =>
                      cases ho; cases hv
                      refine .inl ⟨rfl, fun a W hk hw K hK => ?_⟩
                      have e8 := hk.same 8 (by decide)
                      exact op_val (by simp [go_sem, ev' e8]) (hK _ hw)
                    | 28, ho, hv =>
                      cases ho; cases hv
                      refine .inl ⟨rfl, fun a W hk hw K hK => ?_⟩
                      have e63 := hk.at_ 26 _ 63 _ rfl (by decide) _ rfl rfl rfl
                      have e64 := hk.at_ 27 _ 64 _ rfl (by decide) _ rfl rfl rfl
                      exact op_val (by simp [go_sem, ev' e63, ev' e64, ij]) (hK _ hw)
                    | 29, ho, hv =>
                      cases ho; cases hv
                      refine .inl ⟨rfl, fun a W hk hw K hK => ?_⟩
                      have e65 := hk.at_ 28 _ 65 _ rfl (by decide) _ rfl rfl rfl
                      exact op_val (by simp [go_sem, ev' e65]) (hK _ hw)
                    | 30, ho, hv =>
                      cases ho; cases hv
                      refine .inl ⟨rfl, fun a W hk hw K hK => ?_⟩
                      have e66 := hk.at_ 29 _ 66 _ rfl (by decide) _ rfl rfl rfl
                      exact op_val (by simp [go_sem, ev' e66, HX1.out W hw]) (hK _ hw)
                    | 31, ho, hv =>
                      cases ho; cases hv
                      refine .inl ⟨rfl, fun a W hk hw K hK => ?_⟩
                      have e60 := hk.at_ 23 _ 60 _ rfl (by decide) _ rfl rfl rfl
                      have e61 := hk.at_ 24 _ 61 _ rfl (by decide) _ rfl rfl rfl
                      have e67 := hk.at_ 30 _ 67 _ rfl (by decide) _ rfl rfl rfl
                      refine op_callN rfl rfl rfl _ rfl (vs := #[(.agg #[.int .i64 C.claims, .slice (some ⟨bs, os, none⟩) C.strikes.length c1, .slice a2 C.surveys.length c2]), .slice (some ⟨bl, ol, none⟩) l.length c, .int .i64 y0]) (by simp [e60, e61, e67]) (H104.out W hw) fun e w' h => ?_
                      obtain ⟨rfl, ha⟩ := h
                      exact ⟨_, rfl, hK _ (hw.trans ha)⟩
                    | 32, ho, hv =>
                      cases ho; cases hv
                      refine .inl ⟨rfl, fun a W hk hw K hK => ?_⟩
                      have e68 := hk.at_ 31 _ 68 _ rfl (by decide) _ rfl rfl rfl
                      exact op_val (by simp [go_sem, ev' e68]) (hK _ hw)
                    | 33, ho, hv =>
                      cases ho; cases hv
                      refine .inl ⟨rfl, fun a W hk hw K hK => ?_⟩
                      have e59 := hk.at_ 22 _ 59 _ rfl (by decide) _ rfl rfl rfl
                      have e69 := hk.at_ 32 _ 69 _ rfl (by decide) _ rfl rfl rfl
                      exact op_val (by simp [go_sem, ev' e59, ev' e69]) (hK _ hw)
                    | _ + 34, _, hv => cases hv
                  intro W hw
                  simp only [List.drop_succ_cons, List.drop_zero, List.zip_cons_cons, List.zip_nil_right, putAll]
                  simp only [Act.put, List.setIfInBounds_toArray, List.set]
                  cases bq
                  · have HF : Hid (l.all PS = false) := Lib.hid (HNO.out (by rw [HAQ.out]; exact HQN.out (by rw [HQJ.out]; rfl)))
                    go_wp2_with fail
                    go_ret
                    exact ⟨ret_bool HF.out.symm, H0.out.trans (HZ.out.trans hw)⟩
                  · have HQO2 : Hid (∀ i, (h : i < C.strikes.length) → i < j + 1 → QS n C.strikes[i] = true) := Lib.hid fun i h h' => by
                      by_cases e : i = j
                      · subst e
                        rw [HYZ.out, HQJ.out]
                        rfl
                      · exact HQO.out i h (by omega)
                    go_wp2_with fail
                    exact ⟨⟨j + 1, by go_num, by omega, HZ2.out.trans hw, HQO2⟩, by simp [intOf]; omega⟩
                · skip
                  refine wp_region_valsG (by kernel_rfl) 71 rfl (by kernel_rfl) (by kernel_rfl) [.pointer (some ⟨bC, 1, none⟩), .slice (some ⟨bs, os, none⟩) C.strikes.length c1, .int .i64 j, .pointer (some ⟨bs, os + j * 2, none⟩), .pointer (some ⟨bs, os + j * 2 + 1, none⟩), .int .i64 y1, .slice (some ⟨bl, ol, none⟩) l.length c, .int .i64 k, .pointer (some ⟨bl, ol + k, none⟩), .int .i64 n, .bool true, .bool true, .slice AR R.length cR, .pointer (some ⟨bC, 1, none⟩), .slice (some ⟨bs, os, none⟩) C.strikes.length c1, .int .i64 j, .pointer (some ⟨bs, os + j * 2, none⟩), .pointer (some ⟨bs, os + j * 2, none⟩), .int .i64 y0, .bool true, .bool false, .bool false, .bool false, undef, undef, undef, undef, undef, undef, undef, undef, undef, undef, .bool false] rfl (fun W => Aft wr W) (Aft.drew _) ?st6 ?fi6
                  case st6 =>
                    intro i o v ho hv
                    match i, ho, hv with
                    | 0, ho, hv =>
                      cases ho; cases hv
                      refine .inl ⟨rfl, fun a W hk hw K hK => ?_⟩
                      have e3 := hk.same 3 (by decide)
                      exact op_val (by simp [go_sem, ev' e3]) (hK _ hw)
                    | 1, ho, hv =>
                      cases ho; cases hv
                      refine .inl ⟨rfl, fun a W hk hw K hK => ?_⟩
                      have e37 := hk.at_ 0 _ 37 _ rfl (by decide) _ rfl rfl rfl
                      exact op_val (by simp [go_sem, ev' e37, (HC0.out W hw).2.1]) (hK _ hw)
                    | 2, ho, hv =>
                      cases ho; cases hv
                      refine .inl ⟨rfl, fun a W hk hw K hK => ?_⟩
                      have e8 := hk.same 8 (by decide)
                      exact op_val (by simp [go_sem, ev' e8]) (hK _ hw)
                    | 3, ho, hv =>
                      cases ho; cases hv
                      refine .inl ⟨rfl, fun a W hk hw K hK => ?_⟩
                      have e38 := hk.at_ 1 _ 38 _ rfl (by decide) _ rfl rfl rfl
                      have e39 := hk.at_ 2 _ 39 _ rfl (by decide) _ rfl rfl rfl
                      exact op_val (by simp [go_sem, ev' e38, ev' e39, ij]) (hK _ hw)
                    | 4, ho, hv =>
                      cases ho; cases hv
                      refine .inl ⟨rfl, fun a W hk hw K hK => ?_⟩
                      have e40 := hk.at_ 3 _ 40 _ rfl (by decide) _ rfl rfl rfl
                      exact op_val (by simp [go_sem, ev' e40]) (hK _ hw)
                    | 5, ho, hv =>
                      cases ho; cases hv
                      refine .inl ⟨rfl, fun a W hk hw K hK => ?_⟩
                      have e41 := hk.at_ 4 _ 41 _ rfl (by decide) _ rfl rfl rfl
                      exact op_val (by simp [go_sem, ev' e41, HX2.out W hw]) (hK _ hw)
                    | 6, ho, hv =>
                      cases ho; cases hv
                      refine .inl ⟨rfl, fun a W hk hw K hK => ?_⟩
                      have e2 := hk.same 2 (by decide)
                      exact op_val (by simp [go_sem, ev' e2]) (hK _ hw)
                    | 7, ho, hv =>
                      cases ho; cases hv
                      refine .inl ⟨rfl, fun a W hk hw K hK => ?_⟩
                      have e7 := hk.same 7 (by decide)
                      exact op_val (by simp [go_sem, ev' e7]) (hK _ hw)
                    | 8, ho, hv =>
                      cases ho; cases hv
                      refine .inl ⟨rfl, fun a W hk hw K hK => ?_⟩
                      have e43 := hk.at_ 6 _ 43 _ rfl (by decide) _ rfl rfl rfl
                      have e44 := hk.at_ 7 _ 44 _ rfl (by decide) _ rfl rfl rfl
                      exact op_val (by simp [go_sem, ev' e43, ev' e44, ik]) (hK _ hw)
                    | 9, ho, hv =>
                      cases ho; cases hv
                      refine .inl ⟨rfl, fun a W hk hw K hK => ?_⟩
                      have e45 := hk.at_ 8 _ 45 _ rfl (by decide) _ rfl rfl rfl
                      exact op_val (by simp [go_sem, ev' e45, HXN.out W hw]) (hK _ hw)
                    | 10, ho, hv =>
                      cases ho; cases hv
                      refine .inl ⟨rfl, fun a W hk hw K hK => ?_⟩
                      have e42 := hk.at_ 5 _ 42 _ rfl (by decide) _ rfl rfl rfl
                      have e46 := hk.at_ 9 _ 46 _ rfl (by decide) _ rfl rfl rfl
                      exact op_val (by simp [go_sem, ev' e42, ev' e46, hb1]) (hK _ hw)
                    | 11, ho, hv =>
                      cases ho; cases hv
                      refine .inl ⟨rfl, fun a W hk hw K hK => ?_⟩
                      have e47 := hk.at_ 10 _ 47 _ rfl (by decide) _ rfl rfl rfl
                      exact op_val (by simp [go_sem, ev' e47]) (hK _ hw)
                    | 12, ho, hv =>
                      cases ho; cases hv
                      refine .inl ⟨rfl, fun a W hk hw K hK => ?_⟩
                      have e1 := hk.same 1 (by decide)
                      exact op_val (by simp [go_sem, ev' e1]) (hK _ hw)
                    | 13, ho, hv =>
                      cases ho; cases hv
                      refine .inl ⟨rfl, fun a W hk hw K hK => ?_⟩
                      have e3 := hk.same 3 (by decide)
                      exact op_val (by simp [go_sem, ev' e3]) (hK _ hw)
                    | 14, ho, hv =>
                      cases ho; cases hv
                      refine .inl ⟨rfl, fun a W hk hw K hK => ?_⟩
                      have e50 := hk.at_ 13 _ 50 _ rfl (by decide) _ rfl rfl rfl
                      exact op_val (by simp [go_sem, ev' e50, (HC0.out W hw).2.1]) (hK _ hw)
                    | 15, ho, hv =>
                      cases ho; cases hv
                      refine .inl ⟨rfl, fun a W hk hw K hK => ?_⟩
                      have e8 := hk.same 8 (by decide)
                      exact op_val (by simp [go_sem, ev' e8]) (hK _ hw)
                    | 16, ho, hv =>
                      cases ho; cases hv
                      refine .inl ⟨rfl, fun a W hk hw K hK => ?_⟩
                      have e51 := hk.at_ 14 _ 51 _ rfl (by decide) _ rfl rfl rfl
                      have e52 := hk.at_ 15 _ 52 _ rfl (by decide) _ rfl rfl rfl
                      exact op_val (by simp [go_sem, ev' e51, ev' e52, ij]) (hK _ hw)
                    | 17, ho, hv =>
                      cases ho; cases hv
                      refine .inl ⟨rfl, fun a W hk hw K hK => ?_⟩
                      have e53 := hk.at_ 16 _ 53 _ rfl (by decide) _ rfl rfl rfl
                      exact op_val (by simp [go_sem, ev' e53]) (hK _ hw)
                    | 18, ho, hv =>
                      cases ho; cases hv
                      refine .inl ⟨rfl, fun a W hk hw K hK => ?_⟩
                      have e54 := hk.at_ 17 _ 54 _ rfl (by decide) _ rfl rfl rfl
                      exact op_val (by simp [go_sem, ev' e54, HX1.out W hw]) (hK _ hw)
                    | 19, ho, hv =>
                      cases ho; cases hv
                      refine .inl ⟨rfl, fun a W hk hw K hK => ?_⟩
                      have e49 := hk.at_ 12 _ 49 _ rfl (by decide) _ rfl rfl rfl
                      have e55 := hk.at_ 18 _ 55 _ rfl (by decide) _ rfl rfl rfl
                      refine op_callN rfl rfl rfl _ rfl (vs := #[.slice AR R.length cR, .int .i64 y0]) (by simp [e49, e55]) (H64.out W hw) fun e w' h => ?_
                      obtain ⟨rfl, rfl⟩ := h
                      exact ⟨_, rfl, hK _ hw⟩
                    | 20, ho, hv =>
                      cases ho; cases hv
                      refine .inl ⟨rfl, fun a W hk hw K hK => ?_⟩
                      have e56 := hk.at_ 19 _ 56 _ rfl (by decide) _ rfl rfl rfl
                      exact op_val (by simp [go_sem, ev' e56]) (hK _ hw)
                    | 21, ho, hv =>
                      cases ho; cases hv
                      refine .inl ⟨rfl, fun a W hk hw K hK => ?_⟩
                      have e48 := hk.at_ 11 _ 48 _ rfl (by decide) _ rfl rfl rfl
                      have e57 := hk.at_ 20 _ 57 _ rfl (by decide) _ rfl rfl rfl
                      exact op_val (by simp [go_sem, ev' e48, ev' e57]) (hK _ hw)
                    | 22, ho, hv =>
                      cases ho; cases hv
                      refine .inl ⟨rfl, fun a W hk hw K hK => ?_⟩
                      have e58 := hk.at_ 21 _ 58 _ rfl (by decide) _ rfl rfl rfl
                      exact op_val (by simp [go_sem, ev' e58]) (hK _ hw)
                    | 23, ho, hv => cases ho; cases hv; exact .inr ⟨rfl, rfl⟩
                    | 24, ho, hv => cases ho; cases hv; exact .inr ⟨rfl, rfl⟩
                    | 25, ho, hv => cases ho; cases hv; exact .inr ⟨rfl, rfl⟩
                    | 26, ho, hv => cases ho; cases hv; exact .inr ⟨rfl, rfl⟩
                    | 27, ho, hv => cases ho; cases hv; exact .inr ⟨rfl, rfl⟩
                    | 28, ho, hv => cases ho; cases hv; exact .inr ⟨rfl, rfl⟩
                    | 29, ho, hv => cases ho; cases hv; exact .inr ⟨rfl, rfl⟩
                    | 30, ho, hv => cases ho; cases hv; exact .inr ⟨rfl, rfl⟩
                    | 31, ho, hv => cases ho; cases hv; exact .inr ⟨rfl, rfl⟩
                    | 32, ho, hv => cases ho; cases hv; exact .inr ⟨rfl, rfl⟩
                    | 33, ho, hv =>
                      cases ho; cases hv
                      refine .inl ⟨rfl, fun a W hk hw K hK => ?_⟩
                      have e59 := hk.at_ 22 _ 59 _ rfl (by decide) _ rfl rfl rfl
                      have e69 := hk.at_ 32 _ 69 _ rfl (by decide) _ rfl rfl rfl
                      exact op_val (by simp [go_sem, ev' e59, ev' e69]) (hK _ hw)
                    | _ + 34, _, hv => cases hv
                  intro W hw
                  simp only [List.drop_succ_cons, List.drop_zero, List.zip_cons_cons, List.zip_nil_right, putAll]
                  simp only [Act.put, List.setIfInBounds_toArray, List.set]
                  have HQO2 : Hid (∀ i, (h : i < C.strikes.length) → i < j + 1 → QS n C.strikes[i] = true) := Lib.hid fun i h h' => by
                    by_cases e : i = j
                    · subst e
                      rw [HYZ.out, HQJ.out]
                      simp
                    · exact HQO.out i h (by omega)
                  go_wp2_with fail
                  exact ⟨⟨j + 1, by go_num, by omega, HZ2.out.trans hw, HQO2⟩, by simp [intOf]; omega⟩
            · have t2 : decide (j < C.strikes.length) = false := by simpa using hjl
              have HOK2 : Hid (∀ i, (h : i < l.length) → i < k + 1 → PS l[i] = true) := Lib.hid fun i h h' => by
                by_cases e : i = k
                · subst e
                  rw [HLK.out, HAQ.out, List.all_eq_true]
                  intro s hs
                  obtain ⟨i', hi', rfl⟩ := List.mem_iff_getElem.1 hs
                  exact HQO.out i' hi' (by omega)
                · exact HOK.out i h (by omega)
              clear HQO
              go_wp2_with fail
              exact ⟨⟨k + 1, by go_num, by omega, HZ.out, HOK2⟩, by simp [intOf]; omega⟩
        · have HF : Hid (l.all PS = false) := Lib.hid (HNO.out (by rw [HPN.out]; rfl))
          go_wp2_with fail
          go_ret
          exact ⟨ret_bool HF.out.symm, H0.out.trans (HY.out.trans HW.out)⟩
      · have HF : Hid (l.all PS = false) := Lib.hid (HNO.out (by rw [HPN.out]; rfl))
        refine wp_region_valsG (by kernel_rfl) 71 rfl (by kernel_rfl) (by kernel_rfl) [.slice AR R.length cR, .slice (some ⟨bl, ol, none⟩) l.length c, .int .i64 k, .pointer (some ⟨bl, ol + k, none⟩), .int .i64 n, .bool true, .bool true, undef, undef, undef, undef, undef, undef, undef, .bool true] rfl (fun W => Aft wr W) (Aft.drew _) ?st7 ?fi7
        case st7 =>
          intro i o v ho hv
          match i, ho, hv with
          | 0, ho, hv =>
            cases ho; cases hv
            refine .inl ⟨rfl, fun a W hk hw K hK => ?_⟩
            have e1 := hk.same 1 (by decide)
            exact op_val (by simp [go_sem, ev' e1]) (hK _ hw)
          | 1, ho, hv =>
            cases ho; cases hv
            refine .inl ⟨rfl, fun a W hk hw K hK => ?_⟩
            have e2 := hk.same 2 (by decide)
            exact op_val (by simp [go_sem, ev' e2]) (hK _ hw)
          | 2, ho, hv =>
            cases ho; cases hv
            refine .inl ⟨rfl, fun a W hk hw K hK => ?_⟩
            have e7 := hk.same 7 (by decide)
            exact op_val (by simp [go_sem, ev' e7]) (hK _ hw)
          | 3, ho, hv =>
            cases ho; cases hv
            refine .inl ⟨rfl, fun a W hk hw K hK => ?_⟩
            have e16 := hk.at_ 1 _ 16 _ rfl (by decide) _ rfl rfl rfl
            have e17 := hk.at_ 2 _ 17 _ rfl (by decide) _ rfl rfl rfl
            exact op_val (by simp [go_sem, ev' e16, ev' e17, ik]) (hK _ hw)
          | 4, ho, hv =>
            cases ho; cases hv
            refine .inl ⟨rfl, fun a W hk hw K hK => ?_⟩
            have e18 := hk.at_ 3 _ 18 _ rfl (by decide) _ rfl rfl rfl
            exact op_val (by simp [go_sem, ev' e18, HXN.out W hw]) (hK _ hw)
          | 5, ho, hv =>
            cases ho; cases hv
            refine .inl ⟨rfl, fun a W hk hw K hK => ?_⟩
            have e15 := hk.at_ 0 _ 15 _ rfl (by decide) _ rfl rfl rfl
            have e19 := hk.at_ 4 _ 19 _ rfl (by decide) _ rfl rfl rfl
            refine op_callN rfl rfl rfl _ rfl (vs := #[.slice AR R.length cR, .int .i64 n]) (by simp [e15, e19]) (H64.out W hw) fun e w' h => ?_
            obtain ⟨rfl, rfl⟩ := h
            exact ⟨_, rfl, hK _ hw⟩
          | 6, ho, hv =>
            cases ho; cases hv
            refine .inl ⟨rfl, fun a W hk hw K hK => ?_⟩
            have e20 := hk.at_ 5 _ 20 _ rfl (by decide) _ rfl rfl rfl
            exact op_val (by simp [go_sem, ev' e20]) (hK _ hw)
          | 7, ho, hv => cases ho; cases hv; exact .inr ⟨rfl, rfl⟩
          | 8, ho, hv => cases ho; cases hv; exact .inr ⟨rfl, rfl⟩
          | 9, ho, hv => cases ho; cases hv; exact .inr ⟨rfl, rfl⟩
          | 10, ho, hv => cases ho; cases hv; exact .inr ⟨rfl, rfl⟩
          | 11, ho, hv => cases ho; cases hv; exact .inr ⟨rfl, rfl⟩
          | 12, ho, hv => cases ho; cases hv; exact .inr ⟨rfl, rfl⟩
          | 13, ho, hv => cases ho; cases hv; exact .inr ⟨rfl, rfl⟩
          | 14, ho, hv =>
            cases ho; cases hv
            refine .inl ⟨rfl, fun a W hk hw K hK => ?_⟩
            have e21 := hk.at_ 6 _ 21 _ rfl (by decide) _ rfl rfl rfl
            have e28 := hk.at_ 13 _ 28 _ rfl (by decide) _ rfl rfl rfl
            exact op_val (by simp [go_sem, ev' e21, ev' e28]) (hK _ hw)
          | _ + 15, _, hv => cases hv
        intro W hw
        simp only [List.drop_succ_cons, List.drop_zero, List.zip_cons_cons, List.zip_nil_right, putAll]
        simp only [Act.put, List.setIfInBounds_toArray, List.set]
        go_wp2_with fail
        go_ret
        exact ⟨ret_bool HF.out.symm, H0.out.trans (HY.out.trans hw)⟩
    · have t1 : decide (k < l.length) = false := by simpa using hkl
      have HF : Hid (l.all PS = true) := Lib.hid (all_upto fun j h h' => HOK.out j h (by omega))
      clear HOK
      go_wp2_with fail
      go_ret
      exact ⟨ret_bool HF.out.symm, H0.out.trans HY.out⟩

set_option maxRecDepth 100000 in
set_option maxHeartbeats 4000000 in
theorem standsTop_any (C : CaseL) (a1 a2 : Option Addr) (c1 c2 : Nat) (R l : List Int) (AR A : Option Addr) (cR c : Nat) (w : World) (hC : CRep w C a1 a2) (hR : Ints w AR R) (hA : Ints w A l) :
    Calls Tryz.prog 26 #[(.agg #[.int .i64 C.claims, .slice a1 C.strikes.length c1, .slice a2 C.surveys.length c2]), .slice AR R.length cR, .slice A l.length c] w (StandsR C R l w) := by
  have H0 := Lib.hid (Aft.alloc w (.cells #[.int .i64 C.claims, .slice a1 C.strikes.length c1, .slice a2 C.surveys.length c2] 31))
  have HB := Lib.hid (Blk.new w 31 #[.int .i64 C.claims, .slice a1 C.strikes.length c1, .slice a2 C.surveys.length c2])
  unfold StandsR standsE
  by_cases h1 : openE C R = 0
  · rw [if_pos h1]
    have hok := (openE_facts h1).1
    have H1 : Hid (∀ W, Aft w W → Calls Tryz.prog 66 #[(.agg #[.int .i64 C.claims, .slice a1 C.strikes.length c1, .slice a2 C.surveys.length c2]), .slice AR R.length cR] W fun e w' => e = .returned (.int .i64 0) ∧ Aft W w') := Lib.hid fun W h => by rw [← h1]; exact refutedR_any C a1 a2 c1 c2 R AR cR W (hC.aft h) (hR.aft h)
    have H2 : Hid (∀ W, Aft w W → Calls Tryz.prog 72 #[(.agg #[.int .i64 C.claims, .slice a1 C.strikes.length c1, .slice a2 C.surveys.length c2]), .slice A l.length c] W fun e w' => e = .returned (.int .i64 (listedE C.claims l)) ∧ Aft W w') := Lib.hid fun W h => listedR_any C.claims a1 a2 _ _ c1 c2 A l c W ⟨hok.n1, hok.n2⟩ (hA.aft h)
    have H3 : Hid (∀ W, Aft w W → Calls Tryz.prog 73 #[(.agg #[.int .i64 C.claims, .slice a1 C.strikes.length c1, .slice a2 C.surveys.length c2]), .slice AR R.length cR, .slice A l.length c] W fun e w' => e = .returned (.bool (standB C.strikes (refL R) l)) ∧ Aft W w') := Lib.hid fun W h => standsR_any C a1 a2 c1 c2 R l AR A cR c W (hC.aft h) (hR.aft h) (hA.aft h)
    obtain ⟨k0, k1, k2⟩ := box31 HB.out
    have hlt := HB.out.lt
    by_cases h2 : listedE C.claims l = 0
    · have hr := (listedE_ok h2).1
      obtain ⟨N, hN⟩ : ∃ N : Nat, C.claims = N := ⟨C.claims.toNat, by have := hok.n1; omega⟩
      have hNt : C.claims.toNat = N := by omega
      have hst : standsB C.strikes noS (refL R) (refL l) N = standB C.strikes (refL R) l := standsB_eq fun x hx => by have := hr x hx; omega
      rw [hNt, h2, hst]
      rw [h2] at H2
      simp only [decide_true, Bool.true_and]
      clear hC hR hA hok hr hN hNt h1 h2 hst
      generalize standB C.strikes (refL R) l = X at *
      go_enter Tryz.func26, Tryz.ntmps26
      go_wp2_with (first | (go_at_call 66; refine (H1.out _ H0.out).mono ?_; rintro e w1 ⟨rfl, ha1⟩; have HA1 := Lib.hid (H0.out.trans ha1); obtain ⟨j0, j1, j2⟩ := box31 (HB.out.aft ha1); have hlt1 := (HB.out.aft ha1).lt; have HB1 := Lib.hid (HB.out.aft ha1); clear ha1) | (go_at_call 72; refine (H2.out _ HA1.out).mono ?_; rintro e w2 ⟨rfl, ha2⟩; have HA2 := Lib.hid (HA1.out.trans ha2); obtain ⟨q0, q1, q2⟩ := box31 (HB1.out.aft ha2); have hlt2 := (HB1.out.aft ha2).lt; clear ha2) | (go_at_call 73; refine (H3.out _ HA2.out).mono ?_; rintro e w3 ⟨rfl, ha3⟩; have HA3 := Lib.hid (HA2.out.trans ha3); clear ha3))
      go_ret2
      exact ⟨rfl, HA3.out⟩
    · rw [decide_eq_false h2, Bool.false_and]
      have t1 : (listedE C.claims l != 0) = true := by simpa using h2
      clear hC hR hA hok h1 h2
      generalize listedE C.claims l = E at *
      go_enter Tryz.func26, Tryz.ntmps26
      go_wp2_with (first | (go_at_call 66; refine (H1.out _ H0.out).mono ?_; rintro e w1 ⟨rfl, ha1⟩; have HA1 := Lib.hid (H0.out.trans ha1); obtain ⟨j0, j1, j2⟩ := box31 (HB.out.aft ha1); have hlt1 := (HB.out.aft ha1).lt; clear ha1) | (go_at_call 72; refine (H2.out _ HA1.out).mono ?_; rintro e w2 ⟨rfl, ha2⟩; have HA2 := Lib.hid (HA1.out.trans ha2); clear ha2))
      go_ret2
      exact ⟨rfl, HA2.out⟩
  · rw [if_neg h1, decide_eq_false h1, Bool.false_and]
    have H1 := Lib.hid (refutedR_any C a1 a2 c1 c2 R AR cR _ (hC.aft H0.out) (hR.aft H0.out))
    have t1 : (openE C R != 0) = true := by simpa using h1
    obtain ⟨k0, k1, k2⟩ := box31 HB.out
    have hlt := HB.out.lt
    clear hC hR hA h1
    generalize openE C R = E at *
    go_enter Tryz.func26, Tryz.ntmps26
    go_wp2_with (go_at_call 66; refine H1.out.mono ?_; rintro e w1 ⟨rfl, ha1⟩; have HA1 := Lib.hid ha1; clear ha1)
    go_ret2
    exact ⟨rfl, H0.out.trans HA1.out⟩
end Go.Proofs
end

section
namespace Go.Proofs
open Go.RowKit
open Court (refL begF noS award winB FewIs fullB grow mem_full sorted_ext)

def setL (N m : Nat) : List Int := idxL (fun i => m.testBit i) N
theorem mem_idxL {p : Nat → Bool} {k : Nat} {x : Int} : x ∈ idxL p k ↔ (0 ≤ x ∧ x < k) ∧ p x.toNat = true := by
  unfold idxL
  rw [List.mem_map]
  constructor
  · rintro ⟨i, hi, rfl⟩
    rw [List.mem_filter, List.mem_range] at hi
    exact ⟨⟨by omega, by omega⟩, by simpa using hi.2⟩
  · rintro ⟨⟨h0, h1⟩, h2⟩
    exact ⟨x.toNat, List.mem_filter.2 ⟨List.mem_range.2 (by omega), h2⟩, by omega⟩
theorem idxL_sorted (p : Nat → Bool) (k : Nat) : (idxL p k).Pairwise (· < ·) := by
  unfold idxL
  rw [List.pairwise_map]
  exact (List.pairwise_lt_range.filter _).imp fun h => by omega
theorem bits_make (p : Nat → Bool) : ∀ N : Nat, ∃ m, m < 2 ^ N ∧ ∀ i, i < N → m.testBit i = p i
  | 0 => ⟨0, by simp, fun i h => by omega⟩
  | N + 1 => by
    obtain ⟨m, h1, h2⟩ := bits_make p N
    cases hp : p N
    · refine ⟨m, by rw [Nat.pow_succ]; omega, fun i hi => ?_⟩
      by_cases e : i = N
      · subst e
        rw [hp]
        exact Nat.testBit_lt_two_pow h1
      · exact h2 i (by omega)
    · refine ⟨2 ^ N + m, by rw [Nat.pow_succ]; omega, fun i hi => ?_⟩
      by_cases e : i = N
      · subst e
        rw [hp, Nat.testBit_two_pow_add_eq, Nat.testBit_lt_two_pow h1]
        rfl
      · rw [Nat.testBit_two_pow_add_gt (by omega)]
        exact h2 i (by omega)
theorem setL_onto {N : Nat} {l : List Int} (hs : l.Pairwise (· < ·)) (hr : ∀ x ∈ l, 0 ≤ x ∧ x < N) : ∃ m, m < 2 ^ N ∧ setL N m = l := by
  obtain ⟨m, h1, h2⟩ := bits_make (fun i => l.contains (i : Int)) N
  refine ⟨m, h1, sorted_ext (idxL_sorted _ _) hs fun x => ?_⟩
  unfold setL
  rw [mem_idxL]
  constructor
  · rintro ⟨⟨h0, h3⟩, h4⟩
    rw [h2 _ (by omega), Int.toNat_of_nonneg h0] at h4
    simpa using h4
  · intro hx
    have := hr x hx
    refine ⟨this, ?_⟩
    rw [h2 _ (by omega), Int.toNat_of_nonneg this.1]
    simpa using hx
theorem setL_inj {N m m' : Nat} (h : m < 2 ^ N) (h' : m' < 2 ^ N) (he : setL N m = setL N m') : m = m' := by
  apply Nat.eq_of_testBit_eq
  intro i
  by_cases hi : i < N
  · have h1 : ((i : Int) ∈ setL N m) ↔ ((i : Int) ∈ setL N m') := by rw [he]
    unfold setL at h1
    rw [mem_idxL, mem_idxL, Int.toNat_natCast] at h1
    have h2 : (0 : Int) ≤ (i : Int) ∧ (i : Int) < (N : Int) := by omega
    simp only [h2, true_and] at h1
    exact Bool.eq_iff_iff.2 h1
  · rw [Nat.testBit_lt_two_pow (Nat.lt_of_lt_of_le h (Nat.pow_le_pow_right (by omega) (by omega))), Nat.testBit_lt_two_pow (Nat.lt_of_lt_of_le h' (Nat.pow_le_pow_right (by omega) (by omega)))]
theorem setL_mem {N m : Nat} {x : Int} (h : x ∈ setL N m) : 0 ≤ x ∧ x < N := (mem_idxL.1 h).1

def manyF (S : List (Int × Int)) (N : Nat) (c : Int) (b m : Nat) : Nat := if (setL N m).length < b ∧ (setL N m).contains c = false ∧ winB S N c (setL N m) = true then (setL N m).length else b
def manyTo (S : List (Int × Int)) (N : Nat) (c : Int) (M : Nat) : Nat := (List.range M).foldl (manyF S N c) N
theorem manyTo_zero (S : List (Int × Int)) (N : Nat) (c : Int) : manyTo S N c 0 = N := rfl
theorem manyTo_succ (S : List (Int × Int)) (N : Nat) (c : Int) (M : Nat) : manyTo S N c (M + 1) = manyF S N c (manyTo S N c M) M := by
  unfold manyTo
  rw [List.range_succ, List.foldl_append]
  rfl
theorem manyTo_least (S : List (Int × Int)) (N : Nat) (c : Int) : ∀ M, manyTo S N c M ≤ N ∧ (∀ m, m < M → (setL N m).contains c = false → winB S N c (setL N m) = true → manyTo S N c M ≤ (setL N m).length) ∧ (manyTo S N c M = N ∨ ∃ m, m < M ∧ (setL N m).contains c = false ∧ winB S N c (setL N m) = true ∧ (setL N m).length = manyTo S N c M)
  | 0 => ⟨Nat.le_refl _, fun m h => by omega, .inl rfl⟩
  | M + 1 => by
    obtain ⟨h1, h2, h3⟩ := manyTo_least S N c M
    rw [manyTo_succ]
    unfold manyF
    by_cases h : (setL N M).length < manyTo S N c M ∧ (setL N M).contains c = false ∧ winB S N c (setL N M) = true
    · rw [if_pos h]
      refine ⟨by omega, fun m hm hc hw => ?_, .inr ⟨M, by omega, h.2.1, h.2.2, rfl⟩⟩
      by_cases e : m = M
      · subst e; exact Nat.le_refl _
      · have := h2 m (by omega) hc hw; omega
    · rw [if_neg h]
      refine ⟨h1, fun m hm hc hw => ?_, ?_⟩
      · by_cases e : m = M
        · subst e
          by_cases e2 : (setL N m).length < manyTo S N c m
          · exact absurd ⟨e2, hc, hw⟩ h
          · omega
        · exact h2 m (by omega) hc hw
      · rcases h3 with h3 | ⟨m, hm, h4⟩
        · exact .inl h3
        · exact .inr ⟨m, by omega, h4⟩
theorem many_few {S : List (Int × Int)} {N : Nat} {c : Int} {L : List Int} (hc : 0 ≤ c ∧ c < N) (h : FewIs S N c L) (hl : L.length < N) : manyTo S N c (2 ^ N) = L.length := by
  obtain ⟨⟨hs, hr⟩, hw, hmin⟩ := h.facts
  obtain ⟨h1, h2, h3⟩ := manyTo_least S N c (2 ^ N)
  obtain ⟨m, hm, he⟩ := setL_onto hs (fun x hx => ⟨(hr x hx).1, (hr x hx).2.1⟩)
  have h4 := h2 m hm (by rw [he]; simpa using fun hx => (hr c hx).2.2 rfl) (by rw [he]; exact hw)
  rw [he] at h4
  rcases h3 with h3 | ⟨m', hm', hc', hw', hl'⟩
  · omega
  · have := hmin (setL N m') (idxL_sorted _ _) (fun x hx => ⟨(setL_mem hx).1, (setL_mem hx).2, fun e => by
      subst e
      have : (setL N m').contains x = true := by simpa using hx
      rw [this] at hc'
      cases hc'⟩) hw'
    omega

def insZ (l : List Int) (out : List (List Int)) : List (List Int) := out.takeWhile (fun x => decide (cmpZ x l < 0)) ++ l :: out.dropWhile (fun x => decide (cmpZ x l < 0))
def fullTo (p : List Int → Bool) (N M : Nat) : List (List Int) := (List.range M).foldl (fun out m => if p (setL N m) then insZ (setL N m) out else out) []
theorem fullTo_zero (p : List Int → Bool) (N : Nat) : fullTo p N 0 = [] := rfl
theorem fullTo_succ (p : List Int → Bool) (N M : Nat) : fullTo p N (M + 1) = if p (setL N M) then insZ (setL N M) (fullTo p N M) else fullTo p N M := by
  unfold fullTo
  rw [List.range_succ, List.foldl_append]
  rfl
theorem insZ_perm (l : List Int) (out : List (List Int)) : (insZ l out).Perm (l :: out) := by
  unfold insZ
  refine List.perm_middle.trans (List.Perm.cons _ ?_)
  rw [List.takeWhile_append_dropWhile]
theorem fullTo_perm (p : List Int → Bool) (N : Nat) : ∀ M, (fullTo p N M).Perm (((List.range M).map (setL N)).filter p)
  | 0 => List.Perm.refl _
  | M + 1 => by
    rw [fullTo_succ, List.range_succ, List.map_append, List.filter_append]
    have ih := fullTo_perm p N M
    cases h : p (setL N M)
    · simp [h]
      simpa using ih
    · simp only [List.map_cons, List.map_nil, List.filter_cons_of_pos h, List.filter_nil, if_true]
      exact (insZ_perm _ _).trans ((List.Perm.cons _ ih).trans (List.perm_append_singleton _ _).symm)
theorem cmpZ_asym {x y : List Int} (h : cmpZ x y < 0) : ¬ cmpZ y x < 0 := fun h' => by
  have := cmpZ_trans h h'
  rw [cmpZ_same] at this
  omega
theorem drop_ge {l : List Int} : ∀ {out : List (List Int)}, SortedZ out → ∀ b ∈ out.dropWhile (fun x => decide (cmpZ x l < 0)), ¬ cmpZ b l < 0
  | [], _, b, hb => by cases hb
  | x :: xs, hs, b, hb => by
    unfold SortedZ at hs
    rw [List.pairwise_cons] at hs
    rw [List.dropWhile_cons] at hb
    by_cases h : cmpZ x l < 0
    · rw [if_pos (by simpa using h)] at hb
      exact drop_ge hs.2 b hb
    · rw [if_neg (by simpa using h)] at hb
      rcases List.mem_cons.1 hb with e | hb
      · rw [e]; exact h
      · exact cmpZ_ge (hs.1 b hb) h
theorem insZ_sorted {l : List Int} {out : List (List Int)} (hs : SortedZ out) : SortedZ (insZ l out) := by
  have h0 : SortedZ (out.takeWhile (fun x => decide (cmpZ x l < 0)) ++ out.dropWhile (fun x => decide (cmpZ x l < 0))) := by rw [List.takeWhile_append_dropWhile]; exact hs
  unfold SortedZ insZ at *
  rw [List.pairwise_append] at h0 ⊢
  obtain ⟨h1, h2, h3⟩ := h0
  refine ⟨h1, List.pairwise_cons.2 ⟨fun b hb => drop_ge hs b hb, h2⟩, fun a ha b hb => ?_⟩
  have hal : cmpZ a l < 0 := by
    have := List.all_takeWhile (l := out) (p := fun x => decide (cmpZ x l < 0))
    exact of_decide_eq_true (List.all_eq_true.1 this a ha)
  rcases List.mem_cons.1 hb with e | hb
  · rw [e]; exact cmpZ_asym hal
  · exact h3 a ha b hb
theorem fullTo_sorted (p : List Int → Bool) (N : Nat) : ∀ M, SortedZ (fullTo p N M)
  | 0 => List.Pairwise.nil
  | M + 1 => by
    rw [fullTo_succ]
    split
    · exact insZ_sorted (fullTo_sorted p N M)
    · exact fullTo_sorted p N M
theorem fullTo_full (S : List (Int × Int)) (ref : Int → Bool) (N : Nat) : (fullTo (fullB S ref N) N (2 ^ N)).Perm (grow S ref N N 0 []) := by
  refine (fullTo_perm _ N (2 ^ N)).trans ((List.perm_ext_iff_of_nodup ?_ (Court.nodup_grow N 0 [] (by simp [Court.niceB]))).2 fun l => ?_)
  · exact (Court.map_nodup List.nodup_range fun x hx y hy e => setL_inj (List.mem_range.1 hx) (List.mem_range.1 hy) e).filter _
  · rw [mem_full, List.mem_filter, List.mem_map]
    constructor
    · rintro ⟨⟨m, _, rfl⟩, h⟩
      exact ⟨idxL_sorted _ _, fun x hx => setL_mem hx, h⟩
    · rintro ⟨h1, h2, h3⟩
      obtain ⟨m, hm, he⟩ := setL_onto h1 h2
      exact ⟨⟨m, List.mem_range.2 hm, he⟩, h3⟩
theorem fullTo_eq (S : List (Int × Int)) (ref : Int → Bool) (N : Nat) {L : List (List Int)} (hp : L.Perm (grow S ref N N 0 [])) (hs : SortedZ L) : L = fullTo (fullB S ref N) N (2 ^ N) :=
  sortedZ_eq (hp.trans (fullTo_full S ref N).symm) hs (fullTo_sorted _ _ _)
theorem fullTo_len (S : List (Int × Int)) (ref : Int → Bool) (N : Nat) : (fullTo (fullB S ref N) N (2 ^ N)).length = (grow S ref N N 0 []).length := (fullTo_full S ref N).length_eq
theorem decT_filter (C : CaseL) (l : List Int) (N M : Nat) {n : Int} (hn : 0 ≤ n ∧ n < N) : decT C l N M n = (List.range M).all fun m => decide (award (C.strikes.filter fun s => !refL (onTo m l l.length) s.2) noS N (begF (refL (offTo m l l.length))) n ≠ 0) := by
  unfold decT foundM
  rw [decide_eq_true hn, Bool.true_and]
  congr 1
  funext m
  rw [Court.award_filter]
def everyL (F : List (List Int)) (N : Nat) : List Int := idxL (fun (n : Nat) => F.all fun l => hasB l (n : Int)) N
theorem every_always (C : CaseL) (R : List Int) {F : List (List Int)} {N : Nat} (hN : C.claims = N) (hp : F.Perm (fullsA C R)) (hne : fullsA C R ≠ []) : everyL F N = alwaysL C R := by
  have hm : ∀ l ∈ fullsA C R, l.Pairwise (· < ·) ∧ ∀ x ∈ l, 0 ≤ x ∧ x < N := fun l hl => by
    have h0 : C.claims.toNat = N := by omega
    unfold fullsA at hl
    rw [h0] at hl
    exact ⟨(mem_full.1 hl).1, (mem_full.1 hl).2.1⟩
  have hh : (fullsA C R).headD [] ∈ fullsA C R := by
    match h : fullsA C R, hne with
    | x :: xs, _ => simp
  refine sorted_ext (idxL_sorted _ _) ?_ fun x => ?_
  · unfold alwaysL
    exact (hm _ hh).1.filter _
  · unfold everyL alwaysL
    rw [mem_idxL, List.mem_filter, List.all_eq_true]
    constructor
    · rintro ⟨⟨h0, h1⟩, h2⟩
      rw [Int.toNat_of_nonneg h0] at h2
      refine ⟨hasB_iff.1 (h2 _ (hp.mem_iff.2 hh)), ?_⟩
      rw [Bool.not_eq_true', List.any_eq_false]
      intro l hl
      rw [h2 l (hp.mem_iff.2 hl)]
      simp
    · rintro ⟨h1, h2⟩
      rw [Bool.not_eq_true', List.any_eq_false] at h2
      have h0 := (hm _ hh).2 x h1
      refine ⟨h0, fun l hl => ?_⟩
      rw [Int.toNat_of_nonneg h0.1]
      have := h2 l (hp.mem_iff.1 hl)
      simpa using this
end Go.Proofs
end

section
namespace Go.Proofs
open Go.RowKit
open Court (refL begF noS award)
theorem on_off {m : Nat} {l : List Int} (hl : l.Nodup) {x : Int} : x ∈ onTo m l l.length ↔ x ∈ l ∧ x ∉ offTo m l l.length := by
  constructor
  · intro h
    refine ⟨onTo_mem h, fun h2 => ?_⟩
    unfold onTo at h
    unfold offTo at h2
    obtain ⟨i, hi, e1⟩ := List.mem_map.1 h
    obtain ⟨j, hj, e2⟩ := List.mem_map.1 h2
    obtain ⟨hi1, hi2⟩ := List.mem_filter.1 hi
    obtain ⟨hj1, hj2⟩ := List.mem_filter.1 hj
    have hi1 := List.mem_range.1 hi1
    have hj1 := List.mem_range.1 hj1
    have e : l[i] = l[j] := by
      have a1 : l.getD i 0 = l[i] := by rw [List.getD_eq_getElem?_getD, List.getElem?_eq_getElem hi1]; rfl
      have a2 : l.getD j 0 = l[j] := by rw [List.getD_eq_getElem?_getD, List.getElem?_eq_getElem hj1]; rfl
      rw [← a1, ← a2, e1, e2]
    have hij : i = j := by
      have hp := List.pairwise_iff_getElem.1 hl
      rcases Nat.lt_trichotomy i j with h | h | h
      · exact absurd e (hp i j hi1 hj1 h)
      · exact h
      · exact absurd e.symm (hp j i hj1 hi1 h)
    subst hij
    rw [hi2] at hj2
    cases hj2
  · rintro ⟨h1, h2⟩
    obtain ⟨i, hi, e⟩ := List.getElem_of_mem h1
    have a1 : l.getD i 0 = x := by rw [List.getD_eq_getElem?_getD, List.getElem?_eq_getElem hi]; exact e
    cases hb : m.testBit i
    · exact absurd (show x ∈ offTo m l l.length from List.mem_map.2 ⟨i, List.mem_filter.2 ⟨List.mem_range.2 hi, by simp [hb]⟩, a1⟩) h2
    · exact List.mem_map.2 ⟨i, List.mem_filter.2 ⟨List.mem_range.2 hi, by simp [hb]⟩, a1⟩
theorem off_sorted {m : Nat} {l : List Int} (hl : l.Pairwise (· < ·)) : (offTo m l l.length).Pairwise (· < ·) := by
  unfold offTo
  rw [List.pairwise_map]
  have hr : ((List.range l.length).filter fun i => !m.testBit i).Pairwise (· < ·) := List.pairwise_lt_range.filter _
  refine hr.imp_of_mem fun {i j} hi hj hij => ?_
  have hi1 := List.mem_range.1 (List.mem_filter.1 hi).1
  have hj1 := List.mem_range.1 (List.mem_filter.1 hj).1
  rw [List.getD_eq_getElem?_getD, List.getD_eq_getElem?_getD, List.getElem?_eq_getElem hi1, List.getElem?_eq_getElem hj1]
  exact List.pairwise_iff_getElem.1 hl i j hi1 hj1 hij
def keptB (l no : List Int) (s : Int × Int) : Bool := !hasB l s.2 || hasB no s.2
theorem kept_eq (S : List (Int × Int)) {m : Nat} {l : List Int} (hl : l.Nodup) : S.filter (keptB l (offTo m l l.length)) = S.filter fun s => !refL (onTo m l l.length) s.2 := by
  congr 1
  funext s
  unfold keptB refL
  have h := on_off (m := m) hl (x := s.2)
  by_cases h1 : s.2 ∈ onTo m l l.length
  · have h2 := h.1 h1
    have e1 : hasB l s.2 = true := hasB_iff.2 h2.1
    have e2 : hasB (offTo m l l.length) s.2 = false := by
      rw [Bool.eq_false_iff]; exact fun e => h2.2 (hasB_iff.1 e)
    rw [e1, e2]
    simp [h1]
  · have e0 : (onTo m l l.length).contains s.2 = false := by simpa using h1
    rw [e0]
    by_cases h2 : s.2 ∈ l
    · have h3 : s.2 ∈ offTo m l l.length := Classical.byContradiction fun h3 => h1 (h.2 ⟨h2, h3⟩)
      rw [hasB_iff.2 h3]; simp
    · have e1 : hasB l s.2 = false := by rw [Bool.eq_false_iff]; exact fun e => h2 (hasB_iff.1 e)
      rw [e1]; simp
theorem told_award (C : CaseL) {m N : Nat} {l : List Int} (hl : l.Nodup) : award (C.strikes.filter (keptB l (offTo m l l.length))) noS N (begF (refL (offTo m l l.length))) = foundM C l N m := by
  unfold foundM
  rw [kept_eq _ hl, Court.award_filter]
theorem own_decided (C : CaseL) {N M : Nat} {l : List Int} (hl : l.Nodup) {n : Int} (hn : n ∈ l) (hr : 0 ≤ n ∧ n < N) : decT C l N M n = true := by
  unfold decT
  rw [decide_eq_true hr, Bool.true_and, List.all_eq_true]
  intro m _
  refine decide_eq_true fun h0 => ?_
  unfold foundM at h0
  have hd := Court.award_done C.strikes (refL (onTo m l l.length)) N (begF (refL (offTo m l l.length))) n hr.1 hr.2 h0
  have hhas := (Court.award_reach C.strikes (refL (onTo m l l.length)) N (begF (refL (offTo m l l.length)))).has
  by_cases h : n ∈ offTo m l l.length
  · have hb : begF (refL (offTo m l l.length)) n = 2 := by unfold begF refL; simp [h]
    have := hhas n (by rw [hb]; decide)
    rw [h0, hb] at this
    cases this
  · have h1 : n ∈ onTo m l l.length := (on_off hl).2 ⟨hn, h⟩
    have hs : refL (onTo m l l.length) n = true := by unfold refL; simp [h1]
    have := (Court.rule_zero.1 hd).2
    obtain ⟨hf, -⟩ := Court.struck_iff.1 this
    rw [hs] at hf
    cases hf
def blR (N : Nat) (f : Nat → Bool) : Array Value := ((List.range N).map fun i => Value.bool (f i)).toArray
theorem blR_get {N : Nat} (f : Nat → Bool) {i : Nat} (h : i < N) : (blR N f)[i]? = some (.bool (f i)) := by unfold blR; simp [h]
theorem blR_set {N : Nat} (f : Nat → Bool) {i : Nat} (v : Bool) : (blR N f).setIfInBounds i (.bool v) = blR N (fun k => if k = i then v else f k) := by
  unfold blR
  rw [List.setIfInBounds_toArray]
  congr 1
  apply List.ext_getElem?
  intro k
  rw [List.getElem?_set, List.getElem?_map, List.getElem?_map]
  by_cases hk : k < N
  · rw [List.getElem?_range hk]
    by_cases e : i = k
    · subst e; simp [hk]
    · rw [if_neg e]; simp [Ne.symm e]
  · rw [List.getElem?_eq_none (by simp; omega)]
    by_cases e : i = k
    · subst e; rw [if_pos rfl, if_neg (by simp; omega)]; simp
    · rw [if_neg e]; rfl
theorem blR_no (N : Nat) : (Go.madeCells #[.bool false] N) = blR N (fun _ => false) := by
  apply Array.ext_getElem?
  intro i
  by_cases h : i < N
  · rw [blR_get _ h]
    simp [Go.madeCells, h, Nat.mod_one]
  · rw [Array.getElem?_eq_none (by simp [Go.madeCells]; omega), Array.getElem?_eq_none (by unfold blR; simp; omega)]
theorem bits_zero : ∀ x : Fin 64, (bits .and .i64 ((x.val : Nat) : Int) 1 == 0) = !x.val.testBit 0 := by decide
theorem bits_at0 {m k : Nat} (hm : m < 64) : (bits .and .i64 ((m : Int) / 2 ^ k) 1 == 0) = !m.testBit k := by
  have h := bits_zero ⟨m / 2 ^ k, Nat.lt_of_le_of_lt (Nat.div_le_self _ _) hm⟩
  have e : ((m : Int) / 2 ^ k) = ((m / 2 ^ k : Nat) : Int) := by push_cast; rfl
  rw [e]
  rw [Nat.testBit_div_two_pow, Nat.zero_add] at h
  exact h
theorem hasB_idx {p : Nat → Bool} {k n : Nat} (h : n < k) : hasB (idxL p k) n = p n := by
  unfold idxL
  cases e : p n
  · rw [hasB_false]
    intro hm
    obtain ⟨i, hi, e2⟩ := List.mem_map.1 hm
    have : i = n := Int.ofNat.inj e2
    subst this
    rw [(List.mem_filter.1 hi).2] at e
    cases e
  · rw [hasB_iff]
    exact List.mem_map.2 ⟨n, List.mem_filter.2 ⟨List.mem_range.2 h, e⟩, rfl⟩
theorem Ex.of_aft {d : Nat} {w W : World} (h : Aft w W) : Ex d w W := (Ex.refl d w).aft h
end Go.Proofs
end
