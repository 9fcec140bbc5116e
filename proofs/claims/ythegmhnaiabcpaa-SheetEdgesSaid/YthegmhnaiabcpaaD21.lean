/- Own texts, merged: Yd. -/
import Derived.Test.YthegmhnaiabcpaaD20
set_option linter.unusedSimpArgs false
set_option linter.unusedVariables false
set_option linter.unnecessarySimpa false
section
/- Walks: the reference's Matches 21. -/
namespace Go.Proofs
open Go.RowKit
attribute [local go_sem] Oper.semAt_some

/-- The pair ahead of the k-th one. -/
def befP (l : List (Int × Int)) (k : Nat) : Int × Int := if k = 0 then (-1, -1) else l.getD (k - 1) (0, 0)
theorem befP_succ {l : List (Int × Int)} {k : Nat} (h : k < l.length) : befP l (k + 1) = l[k] := by
  unfold befP
  rw [if_neg (by omega), Nat.add_sub_cancel, List.getD_eq_getElem?_getD, List.getElem?_eq_getElem h]
  rfl

set_option maxRecDepth 100000 in
set_option maxHeartbeats 8000000 in
theorem refMatches_any (la lb : List (Int × Int)) (play : Int) (l : List (Int × Int)) (A B Al : Option Addr) (ca cb cl : Nat) (w : World) (hA : Prs w A la) (hB : Prs w B lb) (hL : Prs w Al l) :
    Calls Try.prog 21 #[.slice A la.length ca, .slice B lb.length cb, .int .i64 play, .slice Al l.length cl] w fun e w' => e = .returned (.tuple #[.bool (matchV la lb play l), .int .i64 (matchE la lb play l)]) ∧ Aft w w' := by
  have HRE := Lib.hid (refEdges_any la lb play A B ca cb w hA hB)
  have HA := Lib.hid hA
  have HB := Lib.hid hB
  have HL := Lib.hid hL
  have hll := hL.len
  clear hA hB hL
  by_cases he : edgesE la lb play = 0
  case neg =>
    have e1 : matchE la lb play l = edgesE la lb play := by unfold matchE; rw [if_pos he]
    have e2 : matchV la lb play l = false := by unfold matchV; rw [e1, decide_eq_false he]; rfl
    rw [e1, e2]
    obtain ⟨ee, hee⟩ : ∃ z, edgesE la lb play = z := ⟨_, rfl⟩
    rw [hee] at HRE he ⊢
    have t1 : (ee != 0) = true := by simpa using he
    clear e1 e2 hee
    go_enter Try.func21, Try.ntmps21
    go_wp2_with (go_at_call 60; refine HRE.out.mono ?_; rintro e w1 ⟨rfl, u, rfl⟩)
    exact bodyPost_ret (v := .tuple #[.bool false, .int .i64 ee]) (by simp [results, Try.results21, go_sem]) rfl ⟨rfl, Aft.lat _ u⟩
  obtain ⟨hla, hlb, hma, hmb, -, -, -⟩ := edgesE_ok he
  have HMA := Lib.hid hma
  have HMB := Lib.hid hmb
  rw [he] at HRE
  obtain ⟨mv, hmv⟩ : ∃ z, matchV la lb play l = z := ⟨_, rfl⟩
  obtain ⟨me, hme⟩ : ∃ z, matchE la lb play l = z := ⟨_, rfl⟩
  have HARG : Hid (l.all (inP la.length lb.length) = false → mv = false ∧ me = 2) := Lib.hid fun h => by
    have e1 : matchE la lb play l = 2 := by unfold matchE; rw [if_neg (by rw [he]; decide), if_pos h]
    refine ⟨?_, hme.symm.trans e1⟩
    rw [← hmv]
    unfold matchV
    rw [e1]
    rfl
  have HALR : Hid (l.all (inP la.length lb.length) = true → me = 0 ∧ walkB play la lb (-1, -1) l = mv) := Lib.hid fun h => by
    have e1 : matchE la lb play l = 0 := by unfold matchE; rw [if_neg (by rw [he]; decide), if_neg (by rw [h]; decide)]
    refine ⟨hme.symm.trans e1, ?_⟩
    rw [← hmv]
    unfold matchV
    rw [e1]
    rfl
  rw [hmv, hme]
  clear hma hmb he hmv hme
  go_enter Try.func21, Try.ntmps21
  go_upto_block 0 with (go_at_call 60; refine HRE.out.mono ?_; rintro e W1 ⟨rfl, ha1⟩)
  have H1 := Lib.hid ha1
  clear ha1 HRE
  refine wp_block ?_
  go_loopw [11] (fun i wr => ∃ k : Nat, i = .int .i64 (k : Nat) ∧ k ≤ l.length ∧ Hid ((l.take k).all (inP la.length lb.length) = true) ∧ Aft w wr) (fun i _ => l.length - (intOf i).toNat)
  case atStart => exact ⟨0, rfl, by omega, Lib.hid (by simp), H1.out⟩
  case round =>
    obtain ⟨k, rfl, hk, HT, hw1⟩ := hrel
    have H2 := Lib.hid hw1
    clear H1 hw1
    by_cases hkl : k < l.length
    · have t1 : decide (k < l.length) = true := by simpa using hkl
      obtain ⟨bl, ol, rfl, hbl, hcl⟩ := (HL.out.aft H2.out).at hkl
      obtain ⟨x0, x1⟩ := hcl k hkl
      have HTS : Hid (l.take (k + 1) = l.take k ++ [l[k]]) := Lib.hid (List.take_succ_eq_append_getElem hkl)
      have HBAD : Hid (inP la.length lb.length l[k] = false → mv = false ∧ me = 2) := Lib.hid fun h => HARG.out (by
        cases e : l.all (inP la.length lb.length)
        · rfl
        · rw [List.all_eq_true.1 e _ (List.getElem_mem hkl)] at h
          cases h)
      obtain ⟨⟨px, py⟩, hp⟩ : ∃ p, l[k] = p := ⟨_, rfl⟩
      rw [hp] at x0 x1 HTS HBAD
      dsimp only at x0 x1
      clear hcl hp
      have HIN : Hid (inP la.length lb.length (px, py) = (fromB px 0 ((la.length : Int) - 1) && fromB py 0 ((lb.length : Int) - 1))) := Lib.hid rfl
      cases e1 : fromB px 0 ((la.length : Int) - 1)
      · have F1 := Lib.hid e1
        rw [e1] at HIN
        have HR := Lib.hid (HBAD.out HIN.out)
        clear e1 HBAD
        go_wp2_with (go_at_call 61; refine (outside_any _ _ _ _).mono ?_; rintro e w9 ⟨rfl, rfl⟩; rw [F1.out])
        obtain ⟨rfl, rfl⟩ := HR.out
        exact bodyPost_ret (v := .tuple #[.bool false, .int .i64 2]) (by simp [results, Try.results21, go_sem]) rfl ⟨rfl, H2.out⟩
      · have F1 := Lib.hid e1
        rw [e1] at HIN
        clear e1
        cases e2 : fromB py 0 ((lb.length : Int) - 1)
        · have F2 := Lib.hid e2
          rw [e2] at HIN
          have HR := Lib.hid (HBAD.out HIN.out)
          clear e2 HBAD
          go_wp2_with (go_at_call 61; refine (outside_any _ _ _ _).mono ?_; rintro e w9 ⟨rfl, rfl⟩; first | rw [F1.out] | rw [F2.out])
          obtain ⟨rfl, rfl⟩ := HR.out
          exact bodyPost_ret (v := .tuple #[.bool false, .int .i64 2]) (by simp [results, Try.results21, go_sem]) rfl ⟨rfl, H2.out⟩
        · have F2 := Lib.hid e2
          rw [e2] at HIN
          clear e2 HBAD
          have HN : Hid ((l.take (k + 1)).all (inP la.length lb.length) = true) := Lib.hid (by rw [HTS.out, List.all_append, HT.out]; simp [HIN.out])
          go_wp2_with (go_at_call 61; refine (outside_any _ _ _ _).mono ?_; rintro e w9 ⟨rfl, rfl⟩; first | rw [F1.out] | rw [F2.out])
          exact ⟨⟨k + 1, by go_num, by omega, HN, H2.out⟩, by simp [intOf]; omega⟩
    · have t1 : decide (k < l.length) = false := by simpa using hkl
      have et : l.take k = l := List.take_of_length_le (by omega)
      have ht := HT.out
      rw [et] at ht
      obtain ⟨rfl, hrb⟩ := HALR.out ht
      have HALL := Lib.hid ht
      have HBB : Hid (walkB play la lb (befP l 0) (l.drop 0) = mv) := Lib.hid (by rw [List.drop_zero]; exact hrb)
      clear et ht HARG HALR HT hrb
      go_upto_block 2 with fail
      refine wp_block ?_
      go_loopw [12] (fun i wr => ∃ k : Nat, i = .int .i64 (k : Nat) ∧ k ≤ l.length ∧ Hid (walkB play la lb (befP l k) (l.drop k) = mv) ∧ Aft w wr) (fun i _ => l.length - (intOf i).toNat)
      case atStart => exact ⟨0, rfl, by omega, HBB, H2.out⟩
      case round =>
        clear t1 hkl hk HBB
        obtain ⟨k, rfl, hk, HX, hw3⟩ := hrel
        have H3 := Lib.hid hw3
        clear H2 hw3
        by_cases hkl : k < l.length
        · have t1 : decide (k < l.length) = true := by simpa using hkl
          have HBS : Hid (befP l (k + 1) = l[k]) := Lib.hid (befP_succ hkl)
          obtain ⟨bl, ol, rfl, hbl, hcl⟩ := (HL.out.aft H3.out).at hkl
          obtain ⟨x0, x1⟩ := hcl k hkl
          have hin := List.all_eq_true.1 HALL.out _ (List.getElem_mem hkl)
          have hx := HX.out
          rw [List.drop_eq_getElem_cons hkl] at hx
          obtain ⟨⟨px, py⟩, hp⟩ : ∃ y, l[k] = y := ⟨_, rfl⟩
          rw [hp] at x0 x1 hin hx HBS
          unfold inP at hin
          rw [Bool.and_eq_true, fromB_iff, fromB_iff] at hin
          dsimp only at x0 x1 hin
          obtain ⟨ix, rfl⟩ : ∃ ix : Nat, px = ix := ⟨px.toNat, by omega⟩
          obtain ⟨jx, rfl⟩ : ∃ jx : Nat, py = jx := ⟨py.toNat, by omega⟩
          have hix : ix < la.length := by omega
          have hjx : jx < lb.length := by omega
          have hx : (stepB play la lb (befP l k) ((ix : Int), (jx : Int)) && walkB play la lb ((ix : Int), (jx : Int)) (l.drop (k + 1))) = mv := hx
          have HX2 : Hid ((stepB play la lb (befP l k) ((ix : Int), (jx : Int)) && walkB play la lb (befP l (k + 1)) (l.drop (k + 1))) = mv) := Lib.hid (by rw [HBS.out]; exact hx)
          obtain ⟨ba, oa, rfl, hba, hca⟩ := (HA.out.aft H3.out).at hix
          obtain ⟨bb, ob, rfl, hbb, hcb⟩ := (HB.out.aft H3.out).at hjx
          obtain ⟨y0, y1⟩ := hca ix hix
          obtain ⟨z0, z1⟩ := hcb jx hjx
          have HSA := Lib.hid fun W => sameR_any la[ix] lb[jx] play W (List.all_eq_true.1 HMA.out _ (List.getElem_mem hix)) (List.all_eq_true.1 HMB.out _ (List.getElem_mem hjx))
          have HGA : Hid (la.getD ix (0, 0) = la[ix] ∧ lb.getD jx (0, 0) = lb[jx]) := Lib.hid ⟨by rw [List.getD_eq_getElem?_getD, List.getElem?_eq_getElem hix]; rfl, by rw [List.getD_eq_getElem?_getD, List.getElem?_eq_getElem hjx]; rfl⟩
          obtain ⟨⟨a1, a2⟩, hla2⟩ : ∃ y, la[ix] = y := ⟨_, rfl⟩
          obtain ⟨⟨b1, b2⟩, hlb2⟩ : ∃ y, lb[jx] = y := ⟨_, rfl⟩
          rw [hla2] at y0 y1 HSA HGA
          rw [hlb2] at z0 z1 HSA HGA
          dsimp only at y0 y1 z0 z1 HSA
          have HX0 : Hid (∀ W, Aft wr W → W.cell? ⟨bl, ol + k * 2, none⟩ = some (.int .i64 (ix : Nat))) := Lib.hid fun W h => cellA x0 hbl h
          have HX1 : Hid (∀ W, Aft wr W → W.cell? ⟨bl, ol + k * 2 + 1, none⟩ = some (.int .i64 (jx : Nat))) := Lib.hid fun W h => cellA x1 hbl h
          have HA1 : Hid (∀ W, Aft wr W → W.cell? ⟨ba, oa + ix * 2, none⟩ = some (.int .i64 a1)) := Lib.hid fun W h => cellA y0 hba h
          have HA2 : Hid (∀ W, Aft wr W → W.cell? ⟨ba, oa + ix * 2 + 1, none⟩ = some (.int .i64 a2)) := Lib.hid fun W h => cellA y1 hba h
          have HB1 : Hid (∀ W, Aft wr W → W.cell? ⟨bb, ob + jx * 2, none⟩ = some (.int .i64 b1)) := Lib.hid fun W h => cellA z0 hbb h
          have HB2 : Hid (∀ W, Aft wr W → W.cell? ⟨bb, ob + jx * 2 + 1, none⟩ = some (.int .i64 b2)) := Lib.hid fun W h => cellA z1 hbb h
          have ikl : (0 : Int) ≤ (k : Int) ∧ (k : Int) < (l.length : Int) := by omega
          have iix : (0 : Int) ≤ (ix : Int) ∧ (ix : Int) < (la.length : Int) := by omega
          have ijx : (0 : Int) ≤ (jx : Int) ∧ (jx : Int) < (lb.length : Int) := by omega
          clear hcl hp hx hin hca hcb hla2 hlb2 y0 y1 z0 z1 HX x0 x1
          go_upto_region 12 with fail
          clear t1
          cases sm : sameM play (a1, a2) (b1, b2)
          · rw [sm] at HSA
            have HMV : Hid (mv = false) := Lib.hid (by
              rw [← HX2.out]
              unfold stepB
              dsimp only
              rw [Int.toNat_natCast, Int.toNat_natCast, HGA.out.1, HGA.out.2, sm]
              simp)
            clear sm HX2
            refine wp_region_valsG (by kernel_rfl) 103 rfl (by kernel_rfl) (by kernel_rfl) [.slice (some ⟨ba, oa, none⟩) la.length ca, .slice (some ⟨bl, ol, none⟩) l.length cl, .int .i64 (k : Nat), .pointer (some ⟨bl, ol + k * 2, none⟩), .pointer (some ⟨bl, ol + k * 2, none⟩), .int .i64 (ix : Nat), .pointer (some ⟨ba, oa + ix * 2, none⟩), .agg #[.int .i64 a1, .int .i64 a2], .slice (some ⟨bb, ob, none⟩) lb.length cb, .slice (some ⟨bl, ol, none⟩) l.length cl, .int .i64 (k : Nat), .pointer (some ⟨bl, ol + k * 2, none⟩), .pointer (some ⟨bl, ol + k * 2 + 1, none⟩), .int .i64 (jx : Nat), .pointer (some ⟨bb, ob + jx * 2, none⟩), .agg #[.int .i64 b1, .int .i64 b2], .int .i64 play, .bool false, .bool true, .bool true, undef, undef, undef, undef, undef, undef, undef, undef, undef, undef, undef, undef, undef, undef, undef, undef, undef, undef, undef, undef, undef, undef, undef, undef, undef, undef, undef, undef, undef, undef, .bool true] rfl (fun W => Aft wr W) (Aft.drew _) ?st1 ?fi1
            case st1 =>
              intro i o v ho hv
              match i, ho, hv with
              | 0, ho, hv =>
                cases ho; cases hv
                refine .inl ⟨rfl, fun a W hk hw K hK => ?_⟩
                have e0 := hk.same 0 (by decide)
                exact op_val (by simp [go_sem, ev' e0]) (hK _ hw)
              | 1, ho, hv =>
                cases ho; cases hv
                refine .inl ⟨rfl, fun a W hk hw K hK => ?_⟩
                have e3 := hk.same 3 (by decide)
                exact op_val (by simp [go_sem, ev' e3]) (hK _ hw)
              | 2, ho, hv =>
                cases ho; cases hv
                refine .inl ⟨rfl, fun a W hk hw K hK => ?_⟩
                have e12 := hk.same 12 (by decide)
                exact op_val (by simp [go_sem, ev' e12]) (hK _ hw)
              | 3, ho, hv =>
                cases ho; cases hv
                refine .inl ⟨rfl, fun a W hk hw K hK => ?_⟩
                have e53 := hk.at_ 1 _ 53 _ rfl (by decide) _ rfl rfl rfl
                have e54 := hk.at_ 2 _ 54 _ rfl (by decide) _ rfl rfl rfl
                exact op_val (by simp [go_sem, ev' e53, ev' e54, ikl]) (hK _ hw)
              | 4, ho, hv =>
                cases ho; cases hv
                refine .inl ⟨rfl, fun a W hk hw K hK => ?_⟩
                have e55 := hk.at_ 3 _ 55 _ rfl (by decide) _ rfl rfl rfl
                exact op_val (by simp [go_sem, ev' e55]) (hK _ hw)
              | 5, ho, hv =>
                cases ho; cases hv
                refine .inl ⟨rfl, fun a W hk hw K hK => ?_⟩
                have e56 := hk.at_ 4 _ 56 _ rfl (by decide) _ rfl rfl rfl
                exact op_val (by simp [go_sem, ev' e56, HX0.out W hw]) (hK _ hw)
              | 6, ho, hv =>
                cases ho; cases hv
                refine .inl ⟨rfl, fun a W hk hw K hK => ?_⟩
                have e52 := hk.at_ 0 _ 52 _ rfl (by decide) _ rfl rfl rfl
                have e57 := hk.at_ 5 _ 57 _ rfl (by decide) _ rfl rfl rfl
                exact op_val (by simp [go_sem, ev' e52, ev' e57, iix]) (hK _ hw)
              | 7, ho, hv =>
                cases ho; cases hv
                refine .inl ⟨rfl, fun a W hk hw K hK => ?_⟩
                have e58 := hk.at_ 6 _ 58 _ rfl (by decide) _ rfl rfl rfl
                exact op_val (by simp [go_sem, ev' e58, HA1.out W hw, HA2.out W hw]) (hK _ hw)
              | 8, ho, hv =>
                cases ho; cases hv
                refine .inl ⟨rfl, fun a W hk hw K hK => ?_⟩
                have e1 := hk.same 1 (by decide)
                exact op_val (by simp [go_sem, ev' e1]) (hK _ hw)
              | 9, ho, hv =>
                cases ho; cases hv
                refine .inl ⟨rfl, fun a W hk hw K hK => ?_⟩
                have e3 := hk.same 3 (by decide)
                exact op_val (by simp [go_sem, ev' e3]) (hK _ hw)
              | 10, ho, hv =>
                cases ho; cases hv
                refine .inl ⟨rfl, fun a W hk hw K hK => ?_⟩
                have e12 := hk.same 12 (by decide)
                exact op_val (by simp [go_sem, ev' e12]) (hK _ hw)
              | 11, ho, hv =>
                cases ho; cases hv
                refine .inl ⟨rfl, fun a W hk hw K hK => ?_⟩
                have e61 := hk.at_ 9 _ 61 _ rfl (by decide) _ rfl rfl rfl
                have e62 := hk.at_ 10 _ 62 _ rfl (by decide) _ rfl rfl rfl
                exact op_val (by simp [go_sem, ev' e61, ev' e62, ikl]) (hK _ hw)
              | 12, ho, hv =>
                cases ho; cases hv
                refine .inl ⟨rfl, fun a W hk hw K hK => ?_⟩
                have e63 := hk.at_ 11 _ 63 _ rfl (by decide) _ rfl rfl rfl
                exact op_val (by simp [go_sem, ev' e63]) (hK _ hw)
              | 13, ho, hv =>
                cases ho; cases hv
                refine .inl ⟨rfl, fun a W hk hw K hK => ?_⟩
                have e64 := hk.at_ 12 _ 64 _ rfl (by decide) _ rfl rfl rfl
                exact op_val (by simp [go_sem, ev' e64, HX1.out W hw]) (hK _ hw)
              | 14, ho, hv =>
                cases ho; cases hv
                refine .inl ⟨rfl, fun a W hk hw K hK => ?_⟩
                have e60 := hk.at_ 8 _ 60 _ rfl (by decide) _ rfl rfl rfl
                have e65 := hk.at_ 13 _ 65 _ rfl (by decide) _ rfl rfl rfl
                exact op_val (by simp [go_sem, ev' e60, ev' e65, ijx]) (hK _ hw)
              | 15, ho, hv =>
                cases ho; cases hv
                refine .inl ⟨rfl, fun a W hk hw K hK => ?_⟩
                have e66 := hk.at_ 14 _ 66 _ rfl (by decide) _ rfl rfl rfl
                exact op_val (by simp [go_sem, ev' e66, HB1.out W hw, HB2.out W hw]) (hK _ hw)
              | 16, ho, hv =>
                cases ho; cases hv
                refine .inl ⟨rfl, fun a W hk hw K hK => ?_⟩
                have e2 := hk.same 2 (by decide)
                exact op_val (by simp [go_sem, ev' e2]) (hK _ hw)
              | 17, ho, hv =>
                cases ho; cases hv
                refine .inl ⟨rfl, fun a W hk hw K hK => ?_⟩
                have e59 := hk.at_ 7 _ 59 _ rfl (by decide) _ rfl rfl rfl
                have e67 := hk.at_ 15 _ 67 _ rfl (by decide) _ rfl rfl rfl
                have e68 := hk.at_ 16 _ 68 _ rfl (by decide) _ rfl rfl rfl
                refine op_callN rfl rfl rfl _ rfl (vs := #[.agg #[.int .i64 a1, .int .i64 a2], .agg #[.int .i64 b1, .int .i64 b2], .int .i64 play]) (by simp [e59, e67, e68]) (HSA.out W) ?_
                rintro e w7 ⟨rfl, hw7⟩
                exact ⟨_, rfl, hK _ (hw.trans hw7)⟩
              | 18, ho, hv =>
                cases ho; cases hv
                refine .inl ⟨rfl, fun a W hk hw K hK => ?_⟩
                have e69 := hk.at_ 17 _ 69 _ rfl (by decide) _ rfl rfl rfl
                exact op_val (by simp [go_sem, ev' e69]) (hK _ hw)
              | 19, ho, hv =>
                cases ho; cases hv
                refine .inl ⟨rfl, fun a W hk hw K hK => ?_⟩
                have e70 := hk.at_ 18 _ 70 _ rfl (by decide) _ rfl rfl rfl
                exact op_val (by simp [go_sem, ev' e70]) (hK _ hw)
              | 20, ho, hv => cases ho; cases hv; exact .inr ⟨rfl, rfl⟩
              | 21, ho, hv => cases ho; cases hv; exact .inr ⟨rfl, rfl⟩
              | 22, ho, hv => cases ho; cases hv; exact .inr ⟨rfl, rfl⟩
              | 23, ho, hv => cases ho; cases hv; exact .inr ⟨rfl, rfl⟩
              | 24, ho, hv => cases ho; cases hv; exact .inr ⟨rfl, rfl⟩
              | 25, ho, hv => cases ho; cases hv; exact .inr ⟨rfl, rfl⟩
              | 26, ho, hv => cases ho; cases hv; exact .inr ⟨rfl, rfl⟩
              | 27, ho, hv => cases ho; cases hv; exact .inr ⟨rfl, rfl⟩
              | 28, ho, hv => cases ho; cases hv; exact .inr ⟨rfl, rfl⟩
              | 29, ho, hv => cases ho; cases hv; exact .inr ⟨rfl, rfl⟩
              | 30, ho, hv => cases ho; cases hv; exact .inr ⟨rfl, rfl⟩
              | 31, ho, hv => cases ho; cases hv; exact .inr ⟨rfl, rfl⟩
              | 32, ho, hv => cases ho; cases hv; exact .inr ⟨rfl, rfl⟩
              | 33, ho, hv => cases ho; cases hv; exact .inr ⟨rfl, rfl⟩
              | 34, ho, hv => cases ho; cases hv; exact .inr ⟨rfl, rfl⟩
              | 35, ho, hv => cases ho; cases hv; exact .inr ⟨rfl, rfl⟩
              | 36, ho, hv => cases ho; cases hv; exact .inr ⟨rfl, rfl⟩
              | 37, ho, hv => cases ho; cases hv; exact .inr ⟨rfl, rfl⟩
              | 38, ho, hv => cases ho; cases hv; exact .inr ⟨rfl, rfl⟩
              | 39, ho, hv => cases ho; cases hv; exact .inr ⟨rfl, rfl⟩
              | 40, ho, hv => cases ho; cases hv; exact .inr ⟨rfl, rfl⟩
              | 41, ho, hv => cases ho; cases hv; exact .inr ⟨rfl, rfl⟩
              | 42, ho, hv => cases ho; cases hv; exact .inr ⟨rfl, rfl⟩
              | 43, ho, hv => cases ho; cases hv; exact .inr ⟨rfl, rfl⟩
              | 44, ho, hv => cases ho; cases hv; exact .inr ⟨rfl, rfl⟩
              | 45, ho, hv => cases ho; cases hv; exact .inr ⟨rfl, rfl⟩
              | 46, ho, hv => cases ho; cases hv; exact .inr ⟨rfl, rfl⟩
              | 47, ho, hv => cases ho; cases hv; exact .inr ⟨rfl, rfl⟩
              | 48, ho, hv => cases ho; cases hv; exact .inr ⟨rfl, rfl⟩
              | 49, ho, hv => cases ho; cases hv; exact .inr ⟨rfl, rfl⟩
              | 50, ho, hv =>
                cases ho; cases hv
                refine .inl ⟨rfl, fun a W hk hw K hK => ?_⟩
                have e71 := hk.at_ 19 _ 71 _ rfl (by decide) _ rfl rfl rfl
                have e101 := hk.at_ 49 _ 101 _ rfl (by decide) _ rfl rfl rfl
                exact op_val (by simp [go_sem, ev' e71, ev' e101]) (hK _ hw)
              | _ + 51, _, hv => cases hv
            intro W hw
            simp only [List.drop_succ_cons, List.drop_zero, List.zip_cons_cons, List.zip_nil_right, putAll]
            simp only [Act.put, List.setIfInBounds_toArray, List.set]
            obtain rfl := HMV.out
            go_wp2_with fail
            exact bodyPost_ret (v := .tuple #[.bool false, .int .i64 0]) (by simp [results, Try.results21, go_sem]) rfl ⟨rfl, H3.out.trans hw⟩
          · rw [sm] at HSA
            have HMV : Hid (stepB play la lb (befP l k) ((ix : Int), (jx : Int)) = (decide ((befP l k).1 < (ix : Int)) && decide ((befP l k).2 < (jx : Int)))) := Lib.hid (by
              unfold stepB
              dsimp only
              rw [Int.toNat_natCast, Int.toNat_natCast, HGA.out.1, HGA.out.2, sm, Bool.and_true])
            clear sm
            by_cases hk0z : k = 0
            · have hk0 : decide ((0 : Int) < (k : Int)) = false := by rw [decide_eq_false_iff_not]; omega
              have hk0N : decide (0 < k) = false := by rw [decide_eq_false_iff_not]; omega
              have HN : Hid (walkB play la lb (befP l (k + 1)) (l.drop (k + 1)) = mv) := Lib.hid (by
                have h1 := HX2.out
                have h2 := HMV.out
                rw [show befP l k = (-1, -1) by rw [hk0z]; rfl] at h1 h2
                rw [h2] at h1
                dsimp only at h1
                rwa [decide_eq_true (by omega), decide_eq_true (by omega), Bool.true_and, Bool.true_and] at h1)
              clear HX2 HMV
              refine wp_region_valsG (by kernel_rfl) 103 rfl (by kernel_rfl) (by kernel_rfl) [.slice (some ⟨ba, oa, none⟩) la.length ca, .slice (some ⟨bl, ol, none⟩) l.length cl, .int .i64 (k : Nat), .pointer (some ⟨bl, ol + k * 2, none⟩), .pointer (some ⟨bl, ol + k * 2, none⟩), .int .i64 (ix : Nat), .pointer (some ⟨ba, oa + ix * 2, none⟩), .agg #[.int .i64 a1, .int .i64 a2], .slice (some ⟨bb, ob, none⟩) lb.length cb, .slice (some ⟨bl, ol, none⟩) l.length cl, .int .i64 (k : Nat), .pointer (some ⟨bl, ol + k * 2, none⟩), .pointer (some ⟨bl, ol + k * 2 + 1, none⟩), .int .i64 (jx : Nat), .pointer (some ⟨bb, ob + jx * 2, none⟩), .agg #[.int .i64 b1, .int .i64 b2], .int .i64 play, .bool true, .bool false, .bool false, .int .i64 (k : Nat), .bool false, .bool false, undef, undef, undef, undef, undef, undef, undef, undef, undef, undef, undef, undef, undef, undef, undef, undef, undef, undef, undef, undef, undef, undef, undef, undef, undef, undef, .bool false, .bool false] rfl (fun W => Aft wr W) (Aft.drew _) ?st2 ?fi2
              case st2 =>
                intro i o v ho hv
                match i, ho, hv with
                | 0, ho, hv =>
                  cases ho; cases hv
                  refine .inl ⟨rfl, fun a W hk hw K hK => ?_⟩
                  have e0 := hk.same 0 (by decide)
                  exact op_val (by simp [go_sem, ev' e0]) (hK _ hw)
                | 1, ho, hv =>
                  cases ho; cases hv
                  refine .inl ⟨rfl, fun a W hk hw K hK => ?_⟩
                  have e3 := hk.same 3 (by decide)
                  exact op_val (by simp [go_sem, ev' e3]) (hK _ hw)
                | 2, ho, hv =>
                  cases ho; cases hv
                  refine .inl ⟨rfl, fun a W hk hw K hK => ?_⟩
                  have e12 := hk.same 12 (by decide)
                  exact op_val (by simp [go_sem, ev' e12]) (hK _ hw)
                | 3, ho, hv =>
                  cases ho; cases hv
                  refine .inl ⟨rfl, fun a W hk hw K hK => ?_⟩
                  have e53 := hk.at_ 1 _ 53 _ rfl (by decide) _ rfl rfl rfl
                  have e54 := hk.at_ 2 _ 54 _ rfl (by decide) _ rfl rfl rfl
                  exact op_val (by simp [go_sem, ev' e53, ev' e54, ikl]) (hK _ hw)
                | 4, ho, hv =>
                  cases ho; cases hv
                  refine .inl ⟨rfl, fun a W hk hw K hK => ?_⟩
                  have e55 := hk.at_ 3 _ 55 _ rfl (by decide) _ rfl rfl rfl
                  exact op_val (by simp [go_sem, ev' e55]) (hK _ hw)
                | 5, ho, hv =>
                  cases ho; cases hv
                  refine .inl ⟨rfl, fun a W hk hw K hK => ?_⟩
                  have e56 := hk.at_ 4 _ 56 _ rfl (by decide) _ rfl rfl rfl
                  exact op_val (by simp [go_sem, ev' e56, HX0.out W hw]) (hK _ hw)
                | 6, ho, hv =>
                  cases ho; cases hv
                  refine .inl ⟨rfl, fun a W hk hw K hK => ?_⟩
                  have e52 := hk.at_ 0 _ 52 _ rfl (by decide) _ rfl rfl rfl
                  have e57 := hk.at_ 5 _ 57 _ rfl (by decide) _ rfl rfl rfl
                  exact op_val (by simp [go_sem, ev' e52, ev' e57, iix]) (hK _ hw)
                | 7, ho, hv =>
                  cases ho; cases hv
                  refine .inl ⟨rfl, fun a W hk hw K hK => ?_⟩
                  have e58 := hk.at_ 6 _ 58 _ rfl (by decide) _ rfl rfl rfl
                  exact op_val (by simp [go_sem, ev' e58, HA1.out W hw, HA2.out W hw]) (hK _ hw)
                | 8, ho, hv =>
                  cases ho; cases hv
                  refine .inl ⟨rfl, fun a W hk hw K hK => ?_⟩
                  have e1 := hk.same 1 (by decide)
                  exact op_val (by simp [go_sem, ev' e1]) (hK _ hw)
                | 9, ho, hv =>
                  cases ho; cases hv
                  refine .inl ⟨rfl, fun a W hk hw K hK => ?_⟩
                  have e3 := hk.same 3 (by decide)
                  exact op_val (by simp [go_sem, ev' e3]) (hK _ hw)
                | 10, ho, hv =>
                  cases ho; cases hv
                  refine .inl ⟨rfl, fun a W hk hw K hK => ?_⟩
                  have e12 := hk.same 12 (by decide)
                  exact op_val (by simp [go_sem, ev' e12]) (hK _ hw)
                | 11, ho, hv =>
                  cases ho; cases hv
                  refine .inl ⟨rfl, fun a W hk hw K hK => ?_⟩
                  have e61 := hk.at_ 9 _ 61 _ rfl (by decide) _ rfl rfl rfl
                  have e62 := hk.at_ 10 _ 62 _ rfl (by decide) _ rfl rfl rfl
                  exact op_val (by simp [go_sem, ev' e61, ev' e62, ikl]) (hK _ hw)
                | 12, ho, hv =>
                  cases ho; cases hv
                  refine .inl ⟨rfl, fun a W hk hw K hK => ?_⟩
                  have e63 := hk.at_ 11 _ 63 _ rfl (by decide) _ rfl rfl rfl
                  exact op_val (by simp [go_sem, ev' e63]) (hK _ hw)
                | 13, ho, hv =>
                  cases ho; cases hv
                  refine .inl ⟨rfl, fun a W hk hw K hK => ?_⟩
                  have e64 := hk.at_ 12 _ 64 _ rfl (by decide) _ rfl rfl rfl
                  exact op_val (by simp [go_sem, ev' e64, HX1.out W hw]) (hK _ hw)
                | 14, ho, hv =>
                  cases ho; cases hv
                  refine .inl ⟨rfl, fun a W hk hw K hK => ?_⟩
                  have e60 := hk.at_ 8 _ 60 _ rfl (by decide) _ rfl rfl rfl
                  have e65 := hk.at_ 13 _ 65 _ rfl (by decide) _ rfl rfl rfl
                  exact op_val (by simp [go_sem, ev' e60, ev' e65, ijx]) (hK _ hw)
                | 15, ho, hv =>
                  cases ho; cases hv
                  refine .inl ⟨rfl, fun a W hk hw K hK => ?_⟩
                  have e66 := hk.at_ 14 _ 66 _ rfl (by decide) _ rfl rfl rfl
                  exact op_val (by simp [go_sem, ev' e66, HB1.out W hw, HB2.out W hw]) (hK _ hw)
                | 16, ho, hv =>
                  cases ho; cases hv
                  refine .inl ⟨rfl, fun a W hk hw K hK => ?_⟩
                  have e2 := hk.same 2 (by decide)
                  exact op_val (by simp [go_sem, ev' e2]) (hK _ hw)
                | 17, ho, hv =>
                  cases ho; cases hv
                  refine .inl ⟨rfl, fun a W hk hw K hK => ?_⟩
                  have e59 := hk.at_ 7 _ 59 _ rfl (by decide) _ rfl rfl rfl
                  have e67 := hk.at_ 15 _ 67 _ rfl (by decide) _ rfl rfl rfl
                  have e68 := hk.at_ 16 _ 68 _ rfl (by decide) _ rfl rfl rfl
                  refine op_callN rfl rfl rfl _ rfl (vs := #[.agg #[.int .i64 a1, .int .i64 a2], .agg #[.int .i64 b1, .int .i64 b2], .int .i64 play]) (by simp [e59, e67, e68]) (HSA.out W) ?_
                  rintro e w7 ⟨rfl, hw7⟩
                  exact ⟨_, rfl, hK _ (hw.trans hw7)⟩
                | 18, ho, hv =>
                  cases ho; cases hv
                  refine .inl ⟨rfl, fun a W hk hw K hK => ?_⟩
                  have e69 := hk.at_ 17 _ 69 _ rfl (by decide) _ rfl rfl rfl
                  exact op_val (by simp [go_sem, ev' e69]) (hK _ hw)
                | 19, ho, hv =>
                  cases ho; cases hv
                  refine .inl ⟨rfl, fun a W hk hw K hK => ?_⟩
                  have e70 := hk.at_ 18 _ 70 _ rfl (by decide) _ rfl rfl rfl
                  exact op_val (by simp [go_sem, ev' e70]) (hK _ hw)
                | 20, ho, hv =>
                  cases ho; cases hv
                  refine .inl ⟨rfl, fun a W hk hw K hK => ?_⟩
                  have e12 := hk.same 12 (by decide)
                  exact op_val (by simp [go_sem, ev' e12]) (hK _ hw)
                | 21, ho, hv =>
                  cases ho; cases hv
                  refine .inl ⟨rfl, fun a W hk hw K hK => ?_⟩
                  have e72 := hk.at_ 20 _ 72 _ rfl (by decide) _ rfl rfl rfl
                  exact op_val (by simp [go_sem, ev' e72, hk0, hk0N]) (hK _ hw)
                | 22, ho, hv =>
                  cases ho; cases hv
                  refine .inl ⟨rfl, fun a W hk hw K hK => ?_⟩
                  have e73 := hk.at_ 21 _ 73 _ rfl (by decide) _ rfl rfl rfl
                  exact op_val (by simp [go_sem, ev' e73]) (hK _ hw)
                | 23, ho, hv => cases ho; cases hv; exact .inr ⟨rfl, rfl⟩
                | 24, ho, hv => cases ho; cases hv; exact .inr ⟨rfl, rfl⟩
                | 25, ho, hv => cases ho; cases hv; exact .inr ⟨rfl, rfl⟩
                | 26, ho, hv => cases ho; cases hv; exact .inr ⟨rfl, rfl⟩
                | 27, ho, hv => cases ho; cases hv; exact .inr ⟨rfl, rfl⟩
                | 28, ho, hv => cases ho; cases hv; exact .inr ⟨rfl, rfl⟩
                | 29, ho, hv => cases ho; cases hv; exact .inr ⟨rfl, rfl⟩
                | 30, ho, hv => cases ho; cases hv; exact .inr ⟨rfl, rfl⟩
                | 31, ho, hv => cases ho; cases hv; exact .inr ⟨rfl, rfl⟩
                | 32, ho, hv => cases ho; cases hv; exact .inr ⟨rfl, rfl⟩
                | 33, ho, hv => cases ho; cases hv; exact .inr ⟨rfl, rfl⟩
                | 34, ho, hv => cases ho; cases hv; exact .inr ⟨rfl, rfl⟩
                | 35, ho, hv => cases ho; cases hv; exact .inr ⟨rfl, rfl⟩
                | 36, ho, hv => cases ho; cases hv; exact .inr ⟨rfl, rfl⟩
                | 37, ho, hv => cases ho; cases hv; exact .inr ⟨rfl, rfl⟩
                | 38, ho, hv => cases ho; cases hv; exact .inr ⟨rfl, rfl⟩
                | 39, ho, hv => cases ho; cases hv; exact .inr ⟨rfl, rfl⟩
                | 40, ho, hv => cases ho; cases hv; exact .inr ⟨rfl, rfl⟩
                | 41, ho, hv => cases ho; cases hv; exact .inr ⟨rfl, rfl⟩
                | 42, ho, hv => cases ho; cases hv; exact .inr ⟨rfl, rfl⟩
                | 43, ho, hv => cases ho; cases hv; exact .inr ⟨rfl, rfl⟩
                | 44, ho, hv => cases ho; cases hv; exact .inr ⟨rfl, rfl⟩
                | 45, ho, hv => cases ho; cases hv; exact .inr ⟨rfl, rfl⟩
                | 46, ho, hv => cases ho; cases hv; exact .inr ⟨rfl, rfl⟩
                | 47, ho, hv => cases ho; cases hv; exact .inr ⟨rfl, rfl⟩
                | 48, ho, hv => cases ho; cases hv; exact .inr ⟨rfl, rfl⟩
                | 49, ho, hv =>
                  cases ho; cases hv
                  refine .inl ⟨rfl, fun a W hk hw K hK => ?_⟩
                  have e74 := hk.at_ 22 _ 74 _ rfl (by decide) _ rfl rfl rfl
                  have e100 := hk.at_ 48 _ 100 _ rfl (by decide) _ rfl rfl rfl
                  exact op_val (by simp [go_sem, ev' e74, ev' e100]) (hK _ hw)
                | 50, ho, hv =>
                  cases ho; cases hv
                  refine .inl ⟨rfl, fun a W hk hw K hK => ?_⟩
                  have e71 := hk.at_ 19 _ 71 _ rfl (by decide) _ rfl rfl rfl
                  have e101 := hk.at_ 49 _ 101 _ rfl (by decide) _ rfl rfl rfl
                  exact op_val (by simp [go_sem, ev' e71, ev' e101]) (hK _ hw)
                | _ + 51, _, hv => cases hv
              intro W hw
              simp only [List.drop_succ_cons, List.drop_zero, List.zip_cons_cons, List.zip_nil_right, putAll]
              simp only [Act.put, List.setIfInBounds_toArray, List.set]
              go_wp2_with fail
              exact ⟨⟨k + 1, by go_num, by omega, HN, H3.out.trans hw⟩, by simp [intOf]; omega⟩
            · have hk0 : decide ((0 : Int) < (k : Int)) = true := by rw [decide_eq_true_eq]; omega
              have hk0N : decide (0 < k) = true := by rw [decide_eq_true_eq]; omega
              obtain ⟨q, hq⟩ : ∃ q, k = q + 1 := ⟨k - 1, by omega⟩
              have hql : q < l.length := by omega
              have hbq : befP l k = l[q] := by rw [hq]; exact befP_succ hql
              have hinq := List.all_eq_true.1 HALL.out _ (List.getElem_mem hql)
              obtain ⟨bl', ol', el', hbl', hcl'⟩ := (HL.out.aft H3.out).at hql
              cases el'
              obtain ⟨x0, x1⟩ := hcl' q hql
              obtain ⟨⟨px, py⟩, hp⟩ : ∃ y, l[q] = y := ⟨_, rfl⟩
              rw [hp] at x0 x1 hbq hinq
              unfold inP at hinq
              rw [Bool.and_eq_true, fromB_iff, fromB_iff] at hinq
              dsimp only at x0 x1 hinq
              obtain ⟨ux, rfl⟩ : ∃ ux : Nat, px = ux := ⟨px.toNat, by omega⟩
              obtain ⟨uy, rfl⟩ : ∃ uy : Nat, py = uy := ⟨py.toNat, by omega⟩
              have h1 := HX2.out
              rw [HMV.out, hbq] at h1
              dsimp only at h1
              have HX3 := Lib.hid h1
              have HY0 : Hid (∀ W, Aft wr W → W.cell? ⟨bl, ol + q * 2, none⟩ = some (.int .i64 (ux : Nat))) := Lib.hid fun W h => cellA x0 hbl h
              have HY1 : Hid (∀ W, Aft wr W → W.cell? ⟨bl, ol + q * 2 + 1, none⟩ = some (.int .i64 (uy : Nat))) := Lib.hid fun W h => cellA x1 hbl h
              have iql : (0 : Int) ≤ (q : Int) ∧ (q : Int) < (l.length : Int) := by omega
              have hkq : IntKind.i64.wrap ((k : Int) - 1) = (q : Int) := by rw [show (k : Int) - 1 = (q : Int) by omega]; exact IntWalk.i64_in _ (by omega)
              clear hcl' hp hbq hinq x0 x1 h1 HX2 HMV hbl'
              by_cases hd1 : ux < ix
              · have d1 : decide ((ix : Int) ≤ (ux : Int)) = false := by rw [decide_eq_false_iff_not]; omega
                have d1N : decide (ix ≤ ux) = false := by rw [decide_eq_false_iff_not]; omega
                by_cases hd2 : uy < jx
                · have d2 : decide ((jx : Int) ≤ (uy : Int)) = false := by rw [decide_eq_false_iff_not]; omega
                  have d2N : decide (jx ≤ uy) = false := by rw [decide_eq_false_iff_not]; omega
                  have HN : Hid (walkB play la lb (befP l (k + 1)) (l.drop (k + 1)) = mv) := Lib.hid (by
                    have h1 := HX3.out
                    rwa [decide_eq_true (by omega), decide_eq_true (by omega), Bool.true_and, Bool.true_and] at h1)
                  clear HX3 hd1 hd2
                  refine wp_region_valsG (by kernel_rfl) 103 rfl (by kernel_rfl) (by kernel_rfl) [.slice (some ⟨ba, oa, none⟩) la.length ca, .slice (some ⟨bl, ol, none⟩) l.length cl, .int .i64 (k : Nat), .pointer (some ⟨bl, ol + k * 2, none⟩), .pointer (some ⟨bl, ol + k * 2, none⟩), .int .i64 (ix : Nat), .pointer (some ⟨ba, oa + ix * 2, none⟩), .agg #[.int .i64 a1, .int .i64 a2], .slice (some ⟨bb, ob, none⟩) lb.length cb, .slice (some ⟨bl, ol, none⟩) l.length cl, .int .i64 (k : Nat), .pointer (some ⟨bl, ol + k * 2, none⟩), .pointer (some ⟨bl, ol + k * 2 + 1, none⟩), .int .i64 (jx : Nat), .pointer (some ⟨bb, ob + jx * 2, none⟩), .agg #[.int .i64 b1, .int .i64 b2], .int .i64 play, .bool true, .bool false, .bool false, .int .i64 (k : Nat), .bool true, .bool true, .slice (some ⟨bl, ol, none⟩) l.length cl, .int .i64 (k : Nat), .pointer (some ⟨bl, ol + k * 2, none⟩), .pointer (some ⟨bl, ol + k * 2, none⟩), .int .i64 (ix : Nat), .slice (some ⟨bl, ol, none⟩) l.length cl, .int .i64 (k : Nat), .int .i64 (q : Nat), .pointer (some ⟨bl, ol + q * 2, none⟩), .pointer (some ⟨bl, ol + q * 2, none⟩), .int .i64 (ux : Nat), .bool false, .bool false, .slice (some ⟨bl, ol, none⟩) l.length cl, .int .i64 (k : Nat), .pointer (some ⟨bl, ol + k * 2, none⟩), .pointer (some ⟨bl, ol + k * 2 + 1, none⟩), .int .i64 (jx : Nat), .slice (some ⟨bl, ol, none⟩) l.length cl, .int .i64 (k : Nat), .int .i64 (q : Nat), .pointer (some ⟨bl, ol + q * 2, none⟩), .pointer (some ⟨bl, ol + q * 2 + 1, none⟩), .int .i64 (uy : Nat), .bool false, .bool false, .bool false, .bool false] rfl (fun W => Aft wr W) (Aft.drew _) ?st3 ?fi3
                  case st3 =>
                    intro i o v ho hv
                    match i, ho, hv with
                    | 0, ho, hv =>
                      cases ho; cases hv
                      refine .inl ⟨rfl, fun a W hk hw K hK => ?_⟩
                      have e0 := hk.same 0 (by decide)
                      exact op_val (by simp [go_sem, ev' e0]) (hK _ hw)
                    | 1, ho, hv =>
                      cases ho; cases hv
                      refine .inl ⟨rfl, fun a W hk hw K hK => ?_⟩
                      have e3 := hk.same 3 (by decide)
                      exact op_val (by simp [go_sem, ev' e3]) (hK _ hw)
                    | 2, ho, hv =>
                      cases ho; cases hv
                      refine .inl ⟨rfl, fun a W hk hw K hK => ?_⟩
                      have e12 := hk.same 12 (by decide)
                      exact op_val (by simp [go_sem, ev' e12]) (hK _ hw)
                    | 3, ho, hv =>
                      cases ho; cases hv
                      refine .inl ⟨rfl, fun a W hk hw K hK => ?_⟩
                      have e53 := hk.at_ 1 _ 53 _ rfl (by decide) _ rfl rfl rfl
                      have e54 := hk.at_ 2 _ 54 _ rfl (by decide) _ rfl rfl rfl
                      exact op_val (by simp [go_sem, ev' e53, ev' e54, ikl]) (hK _ hw)
                    | 4, ho, hv =>
                      cases ho; cases hv
                      refine .inl ⟨rfl, fun a W hk hw K hK => ?_⟩
                      have e55 := hk.at_ 3 _ 55 _ rfl (by decide) _ rfl rfl rfl
                      exact op_val (by simp [go_sem, ev' e55]) (hK _ hw)
                    | 5, ho, hv =>
                      cases ho; cases hv
                      refine .inl ⟨rfl, fun a W hk hw K hK => ?_⟩
                      have e56 := hk.at_ 4 _ 56 _ rfl (by decide) _ rfl rfl rfl
                      exact op_val (by simp [go_sem, ev' e56, HX0.out W hw]) (hK _ hw)
                    | 6, ho, hv =>
                      cases ho; cases hv
                      refine .inl ⟨rfl, fun a W hk hw K hK => ?_⟩
                      have e52 := hk.at_ 0 _ 52 _ rfl (by decide) _ rfl rfl rfl
                      have e57 := hk.at_ 5 _ 57 _ rfl (by decide) _ rfl rfl rfl
                      exact op_val (by simp [go_sem, ev' e52, ev' e57, iix]) (hK _ hw)
                    | 7, ho, hv =>
                      cases ho; cases hv
                      refine .inl ⟨rfl, fun a W hk hw K hK => ?_⟩
                      have e58 := hk.at_ 6 _ 58 _ rfl (by decide) _ rfl rfl rfl
                      exact op_val (by simp [go_sem, ev' e58, HA1.out W hw, HA2.out W hw]) (hK _ hw)
                    | 8, ho, hv =>
                      cases ho; cases hv
                      refine .inl ⟨rfl, fun a W hk hw K hK => ?_⟩
                      have e1 := hk.same 1 (by decide)
                      exact op_val (by simp [go_sem, ev' e1]) (hK _ hw)
                    | 9, ho, hv =>
                      cases ho; cases hv
                      refine .inl ⟨rfl, fun a W hk hw K hK => ?_⟩
                      have e3 := hk.same 3 (by decide)
                      exact op_val (by simp [go_sem, ev' e3]) (hK _ hw)
                    | 10, ho, hv =>
                      cases ho; cases hv
                      refine .inl ⟨rfl, fun a W hk hw K hK => ?_⟩
                      have e12 := hk.same 12 (by decide)
                      exact op_val (by simp [go_sem, ev' e12]) (hK _ hw)
                    | 11, ho, hv =>
                      cases ho; cases hv
                      refine .inl ⟨rfl, fun a W hk hw K hK => ?_⟩
                      have e61 := hk.at_ 9 _ 61 _ rfl (by decide) _ rfl rfl rfl
                      have e62 := hk.at_ 10 _ 62 _ rfl (by decide) _ rfl rfl rfl
                      exact op_val (by simp [go_sem, ev' e61, ev' e62, ikl]) (hK _ hw)
                    | 12, ho, hv =>
                      cases ho; cases hv
                      refine .inl ⟨rfl, fun a W hk hw K hK => ?_⟩
                      have e63 := hk.at_ 11 _ 63 _ rfl (by decide) _ rfl rfl rfl
                      exact op_val (by simp [go_sem, ev' e63]) (hK _ hw)
                    | 13, ho, hv =>
                      cases ho; cases hv
                      refine .inl ⟨rfl, fun a W hk hw K hK => ?_⟩
                      have e64 := hk.at_ 12 _ 64 _ rfl (by decide) _ rfl rfl rfl
                      exact op_val (by simp [go_sem, ev' e64, HX1.out W hw]) (hK _ hw)
                    | 14, ho, hv =>
                      cases ho; cases hv
                      refine .inl ⟨rfl, fun a W hk hw K hK => ?_⟩
                      have e60 := hk.at_ 8 _ 60 _ rfl (by decide) _ rfl rfl rfl
                      have e65 := hk.at_ 13 _ 65 _ rfl (by decide) _ rfl rfl rfl
                      exact op_val (by simp [go_sem, ev' e60, ev' e65, ijx]) (hK _ hw)
                    | 15, ho, hv =>
                      cases ho; cases hv
                      refine .inl ⟨rfl, fun a W hk hw K hK => ?_⟩
                      have e66 := hk.at_ 14 _ 66 _ rfl (by decide) _ rfl rfl rfl
                      exact op_val (by simp [go_sem, ev' e66, HB1.out W hw, HB2.out W hw]) (hK _ hw)
                    | 16, ho, hv =>
                      cases ho; cases hv
                      refine .inl ⟨rfl, fun a W hk hw K hK => ?_⟩
                      have e2 := hk.same 2 (by decide)
                      exact op_val (by simp [go_sem, ev' e2]) (hK _ hw)
                    | 17, ho, hv =>
                      cases ho; cases hv
                      refine .inl ⟨rfl, fun a W hk hw K hK => ?_⟩
                      have e59 := hk.at_ 7 _ 59 _ rfl (by decide) _ rfl rfl rfl
                      have e67 := hk.at_ 15 _ 67 _ rfl (by decide) _ rfl rfl rfl
                      have e68 := hk.at_ 16 _ 68 _ rfl (by decide) _ rfl rfl rfl
                      refine op_callN rfl rfl rfl _ rfl (vs := #[.agg #[.int .i64 a1, .int .i64 a2], .agg #[.int .i64 b1, .int .i64 b2], .int .i64 play]) (by simp [e59, e67, e68]) (HSA.out W) ?_
                      rintro e w7 ⟨rfl, hw7⟩
                      exact ⟨_, rfl, hK _ (hw.trans hw7)⟩
                    | 18, ho, hv =>
                      cases ho; cases hv
                      refine .inl ⟨rfl, fun a W hk hw K hK => ?_⟩
                      have e69 := hk.at_ 17 _ 69 _ rfl (by decide) _ rfl rfl rfl
                      exact op_val (by simp [go_sem, ev' e69]) (hK _ hw)
                    | 19, ho, hv =>
                      cases ho; cases hv
                      refine .inl ⟨rfl, fun a W hk hw K hK => ?_⟩
                      have e70 := hk.at_ 18 _ 70 _ rfl (by decide) _ rfl rfl rfl
                      exact op_val (by simp [go_sem, ev' e70]) (hK _ hw)
                    | 20, ho, hv =>
                      cases ho; cases hv
                      refine .inl ⟨rfl, fun a W hk hw K hK => ?_⟩
                      have e12 := hk.same 12 (by decide)
                      exact op_val (by simp [go_sem, ev' e12]) (hK _ hw)
                    | 21, ho, hv =>
                      cases ho; cases hv
                      refine .inl ⟨rfl, fun a W hk hw K hK => ?_⟩
                      have e72 := hk.at_ 20 _ 72 _ rfl (by decide) _ rfl rfl rfl
                      exact op_val (by simp [go_sem, ev' e72, hk0, hk0N]) (hK _ hw)
                    | 22, ho, hv =>
                      cases ho; cases hv
                      refine .inl ⟨rfl, fun a W hk hw K hK => ?_⟩
                      have e73 := hk.at_ 21 _ 73 _ rfl (by decide) _ rfl rfl rfl
                      exact op_val (by simp [go_sem, ev' e73]) (hK _ hw)
                    | 23, ho, hv =>
                      cases ho; cases hv
                      refine .inl ⟨rfl, fun a W hk hw K hK => ?_⟩
                      have e3 := hk.same 3 (by decide)
                      exact op_val (by simp [go_sem, ev' e3]) (hK _ hw)
                    | 24, ho, hv =>
                      cases ho; cases hv
                      refine .inl ⟨rfl, fun a W hk hw K hK => ?_⟩
                      have e12 := hk.same 12 (by decide)
                      exact op_val (by simp [go_sem, ev' e12]) (hK _ hw)
                    | 25, ho, hv =>
                      cases ho; cases hv
                      refine .inl ⟨rfl, fun a W hk hw K hK => ?_⟩
                      have e75 := hk.at_ 23 _ 75 _ rfl (by decide) _ rfl rfl rfl
                      have e76 := hk.at_ 24 _ 76 _ rfl (by decide) _ rfl rfl rfl
                      exact op_val (by simp [go_sem, ev' e75, ev' e76, ikl]) (hK _ hw)
                    | 26, ho, hv =>
                      cases ho; cases hv
                      refine .inl ⟨rfl, fun a W hk hw K hK => ?_⟩
                      have e77 := hk.at_ 25 _ 77 _ rfl (by decide) _ rfl rfl rfl
                      exact op_val (by simp [go_sem, ev' e77]) (hK _ hw)
                    | 27, ho, hv =>
                      cases ho; cases hv
                      refine .inl ⟨rfl, fun a W hk hw K hK => ?_⟩
                      have e78 := hk.at_ 26 _ 78 _ rfl (by decide) _ rfl rfl rfl
                      exact op_val (by simp [go_sem, ev' e78, HX0.out W hw]) (hK _ hw)
                    | 28, ho, hv =>
                      cases ho; cases hv
                      refine .inl ⟨rfl, fun a W hk hw K hK => ?_⟩
                      have e3 := hk.same 3 (by decide)
                      exact op_val (by simp [go_sem, ev' e3]) (hK _ hw)
                    | 29, ho, hv =>
                      cases ho; cases hv
                      refine .inl ⟨rfl, fun a W hk hw K hK => ?_⟩
                      have e12 := hk.same 12 (by decide)
                      exact op_val (by simp [go_sem, ev' e12]) (hK _ hw)
                    | 30, ho, hv =>
                      cases ho; cases hv
                      refine .inl ⟨rfl, fun a W hk hw K hK => ?_⟩
                      have e81 := hk.at_ 29 _ 81 _ rfl (by decide) _ rfl rfl rfl
                      exact op_val (by simp [go_sem, ev' e81, hkq]) (hK _ hw)
                    | 31, ho, hv =>
                      cases ho; cases hv
                      refine .inl ⟨rfl, fun a W hk hw K hK => ?_⟩
                      have e80 := hk.at_ 28 _ 80 _ rfl (by decide) _ rfl rfl rfl
                      have e82 := hk.at_ 30 _ 82 _ rfl (by decide) _ rfl rfl rfl
                      exact op_val (by simp [go_sem, ev' e80, ev' e82, iql]) (hK _ hw)
                    | 32, ho, hv =>
                      cases ho; cases hv
                      refine .inl ⟨rfl, fun a W hk hw K hK => ?_⟩
                      have e83 := hk.at_ 31 _ 83 _ rfl (by decide) _ rfl rfl rfl
                      exact op_val (by simp [go_sem, ev' e83]) (hK _ hw)
                    | 33, ho, hv =>
                      cases ho; cases hv
                      refine .inl ⟨rfl, fun a W hk hw K hK => ?_⟩
                      have e84 := hk.at_ 32 _ 84 _ rfl (by decide) _ rfl rfl rfl
                      exact op_val (by simp [go_sem, ev' e84, HY0.out W hw]) (hK _ hw)
                    | 34, ho, hv =>
                      cases ho; cases hv
                      refine .inl ⟨rfl, fun a W hk hw K hK => ?_⟩
                      have e79 := hk.at_ 27 _ 79 _ rfl (by decide) _ rfl rfl rfl
                      have e85 := hk.at_ 33 _ 85 _ rfl (by decide) _ rfl rfl rfl
                      exact op_val (by simp [go_sem, ev' e79, ev' e85, d1, d1N]) (hK _ hw)
                    | 35, ho, hv =>
                      cases ho; cases hv
                      refine .inl ⟨rfl, fun a W hk hw K hK => ?_⟩
                      have e86 := hk.at_ 34 _ 86 _ rfl (by decide) _ rfl rfl rfl
                      exact op_val (by simp [go_sem, ev' e86]) (hK _ hw)
                    | 36, ho, hv =>
                      cases ho; cases hv
                      refine .inl ⟨rfl, fun a W hk hw K hK => ?_⟩
                      have e3 := hk.same 3 (by decide)
                      exact op_val (by simp [go_sem, ev' e3]) (hK _ hw)
                    | 37, ho, hv =>
                      cases ho; cases hv
                      refine .inl ⟨rfl, fun a W hk hw K hK => ?_⟩
                      have e12 := hk.same 12 (by decide)
                      exact op_val (by simp [go_sem, ev' e12]) (hK _ hw)
                    | 38, ho, hv =>
                      cases ho; cases hv
                      refine .inl ⟨rfl, fun a W hk hw K hK => ?_⟩
                      have e88 := hk.at_ 36 _ 88 _ rfl (by decide) _ rfl rfl rfl
                      have e89 := hk.at_ 37 _ 89 _ rfl (by decide) _ rfl rfl rfl
                      exact op_val (by simp [go_sem, ev' e88, ev' e89, ikl]) (hK _ hw)
                    | 39, ho, hv =>
                      cases ho; cases hv
                      refine .inl ⟨rfl, fun a W hk hw K hK => ?_⟩
                      have e90 := hk.at_ 38 _ 90 _ rfl (by decide) _ rfl rfl rfl
                      exact op_val (by simp [go_sem, ev' e90]) (hK _ hw)
                    | 40, ho, hv =>
                      cases ho; cases hv
                      refine .inl ⟨rfl, fun a W hk hw K hK => ?_⟩
                      have e91 := hk.at_ 39 _ 91 _ rfl (by decide) _ rfl rfl rfl
                      exact op_val (by simp [go_sem, ev' e91, HX1.out W hw]) (hK _ hw)
                    | 41, ho, hv =>
                      cases ho; cases hv
                      refine .inl ⟨rfl, fun a W hk hw K hK => ?_⟩
                      have e3 := hk.same 3 (by decide)
                      exact op_val (by simp [go_sem, ev' e3]) (hK _ hw)
                    | 42, ho, hv =>
                      cases ho; cases hv
                      refine .inl ⟨rfl, fun a W hk hw K hK => ?_⟩
                      have e12 := hk.same 12 (by decide)
                      exact op_val (by simp [go_sem, ev' e12]) (hK _ hw)
                    | 43, ho, hv =>
                      cases ho; cases hv
                      refine .inl ⟨rfl, fun a W hk hw K hK => ?_⟩
                      have e94 := hk.at_ 42 _ 94 _ rfl (by decide) _ rfl rfl rfl
                      exact op_val (by simp [go_sem, ev' e94, hkq]) (hK _ hw)
                    | 44, ho, hv =>
                      cases ho; cases hv
                      refine .inl ⟨rfl, fun a W hk hw K hK => ?_⟩
                      have e93 := hk.at_ 41 _ 93 _ rfl (by decide) _ rfl rfl rfl
                      have e95 := hk.at_ 43 _ 95 _ rfl (by decide) _ rfl rfl rfl
                      exact op_val (by simp [go_sem, ev' e93, ev' e95, iql]) (hK _ hw)
                    | 45, ho, hv =>
                      cases ho; cases hv
                      refine .inl ⟨rfl, fun a W hk hw K hK => ?_⟩
                      have e96 := hk.at_ 44 _ 96 _ rfl (by decide) _ rfl rfl rfl
                      exact op_val (by simp [go_sem, ev' e96]) (hK _ hw)
                    | 46, ho, hv =>
                      cases ho; cases hv
                      refine .inl ⟨rfl, fun a W hk hw K hK => ?_⟩
                      have e97 := hk.at_ 45 _ 97 _ rfl (by decide) _ rfl rfl rfl
                      exact op_val (by simp [go_sem, ev' e97, HY1.out W hw]) (hK _ hw)
                    | 47, ho, hv =>
                      cases ho; cases hv
                      refine .inl ⟨rfl, fun a W hk hw K hK => ?_⟩
                      have e92 := hk.at_ 40 _ 92 _ rfl (by decide) _ rfl rfl rfl
                      have e98 := hk.at_ 46 _ 98 _ rfl (by decide) _ rfl rfl rfl
                      exact op_val (by simp [go_sem, ev' e92, ev' e98, d2, d2N]) (hK _ hw)
                    | 48, ho, hv =>
                      cases ho; cases hv
                      refine .inl ⟨rfl, fun a W hk hw K hK => ?_⟩
                      have e87 := hk.at_ 35 _ 87 _ rfl (by decide) _ rfl rfl rfl
                      have e99 := hk.at_ 47 _ 99 _ rfl (by decide) _ rfl rfl rfl
                      exact op_val (by simp [go_sem, ev' e87, ev' e99]) (hK _ hw)
                    | 49, ho, hv =>
                      cases ho; cases hv
                      refine .inl ⟨rfl, fun a W hk hw K hK => ?_⟩
                      have e74 := hk.at_ 22 _ 74 _ rfl (by decide) _ rfl rfl rfl
                      have e100 := hk.at_ 48 _ 100 _ rfl (by decide) _ rfl rfl rfl
                      exact op_val (by simp [go_sem, ev' e74, ev' e100]) (hK _ hw)
                    | 50, ho, hv =>
                      cases ho; cases hv
                      refine .inl ⟨rfl, fun a W hk hw K hK => ?_⟩
                      have e71 := hk.at_ 19 _ 71 _ rfl (by decide) _ rfl rfl rfl
                      have e101 := hk.at_ 49 _ 101 _ rfl (by decide) _ rfl rfl rfl
                      exact op_val (by simp [go_sem, ev' e71, ev' e101]) (hK _ hw)
                    | _ + 51, _, hv => cases hv
                  intro W hw
                  simp only [List.drop_succ_cons, List.drop_zero, List.zip_cons_cons, List.zip_nil_right, putAll]
                  simp only [Act.put, List.setIfInBounds_toArray, List.set]
                  go_wp2_with fail
                  exact ⟨⟨k + 1, by go_num, by omega, HN, H3.out.trans hw⟩, by simp [intOf]; omega⟩
                · have d2 : decide ((jx : Int) ≤ (uy : Int)) = true := by rw [decide_eq_true_eq]; omega
                  have d2N : decide (jx ≤ uy) = true := by rw [decide_eq_true_eq]; omega
                  have HN : Hid (mv = false) := Lib.hid (by
                    have h1 := HX3.out
                    rw [decide_eq_false (p := (uy : Int) < (jx : Int)) (by omega)] at h1
                    rw [← h1]; simp)
                  clear HX3 hd1 hd2
                  refine wp_region_valsG (by kernel_rfl) 103 rfl (by kernel_rfl) (by kernel_rfl) [.slice (some ⟨ba, oa, none⟩) la.length ca, .slice (some ⟨bl, ol, none⟩) l.length cl, .int .i64 (k : Nat), .pointer (some ⟨bl, ol + k * 2, none⟩), .pointer (some ⟨bl, ol + k * 2, none⟩), .int .i64 (ix : Nat), .pointer (some ⟨ba, oa + ix * 2, none⟩), .agg #[.int .i64 a1, .int .i64 a2], .slice (some ⟨bb, ob, none⟩) lb.length cb, .slice (some ⟨bl, ol, none⟩) l.length cl, .int .i64 (k : Nat), .pointer (some ⟨bl, ol + k * 2, none⟩), .pointer (some ⟨bl, ol + k * 2 + 1, none⟩), .int .i64 (jx : Nat), .pointer (some ⟨bb, ob + jx * 2, none⟩), .agg #[.int .i64 b1, .int .i64 b2], .int .i64 play, .bool true, .bool false, .bool false, .int .i64 (k : Nat), .bool true, .bool true, .slice (some ⟨bl, ol, none⟩) l.length cl, .int .i64 (k : Nat), .pointer (some ⟨bl, ol + k * 2, none⟩), .pointer (some ⟨bl, ol + k * 2, none⟩), .int .i64 (ix : Nat), .slice (some ⟨bl, ol, none⟩) l.length cl, .int .i64 (k : Nat), .int .i64 (q : Nat), .pointer (some ⟨bl, ol + q * 2, none⟩), .pointer (some ⟨bl, ol + q * 2, none⟩), .int .i64 (ux : Nat), .bool false, .bool false, .slice (some ⟨bl, ol, none⟩) l.length cl, .int .i64 (k : Nat), .pointer (some ⟨bl, ol + k * 2, none⟩), .pointer (some ⟨bl, ol + k * 2 + 1, none⟩), .int .i64 (jx : Nat), .slice (some ⟨bl, ol, none⟩) l.length cl, .int .i64 (k : Nat), .int .i64 (q : Nat), .pointer (some ⟨bl, ol + q * 2, none⟩), .pointer (some ⟨bl, ol + q * 2 + 1, none⟩), .int .i64 (uy : Nat), .bool true, .bool true, .bool true, .bool true] rfl (fun W => Aft wr W) (Aft.drew _) ?st4 ?fi4
                  case st4 =>
                    intro i o v ho hv
                    match i, ho, hv with
                    | 0, ho, hv =>
                      cases ho; cases hv
                      refine .inl ⟨rfl, fun a W hk hw K hK => ?_⟩
                      have e0 := hk.same 0 (by decide)
                      exact op_val (by simp [go_sem, ev' e0]) (hK _ hw)
                    | 1, ho, hv =>
                      cases ho; cases hv
                      refine .inl ⟨rfl, fun a W hk hw K hK => ?_⟩
                      have e3 := hk.same 3 (by decide)
                      exact op_val (by simp [go_sem, ev' e3]) (hK _ hw)
                    | 2, ho, hv =>
                      cases ho; cases hv
                      refine .inl ⟨rfl, fun a W hk hw K hK => ?_⟩
                      have e12 := hk.same 12 (by decide)
                      exact op_val (by simp [go_sem, ev' e12]) (hK _ hw)
                    | 3, ho, hv =>
                      cases ho; cases hv
                      refine .inl ⟨rfl, fun a W hk hw K hK => ?_⟩
                      have e53 := hk.at_ 1 _ 53 _ rfl (by decide) _ rfl rfl rfl
                      have e54 := hk.at_ 2 _ 54 _ rfl (by decide) _ rfl rfl rfl
                      exact op_val (by simp [go_sem, ev' e53, ev' e54, ikl]) (hK _ hw)
                    | 4, ho, hv =>
                      cases ho; cases hv
                      refine .inl ⟨rfl, fun a W hk hw K hK => ?_⟩
                      have e55 := hk.at_ 3 _ 55 _ rfl (by decide) _ rfl rfl rfl
                      exact op_val (by simp [go_sem, ev' e55]) (hK _ hw)
                    | 5, ho, hv =>
                      cases ho; cases hv
                      refine .inl ⟨rfl, fun a W hk hw K hK => ?_⟩
                      have e56 := hk.at_ 4 _ 56 _ rfl (by decide) _ rfl rfl rfl
                      exact op_val (by simp [go_sem, ev' e56, HX0.out W hw]) (hK _ hw)
                    | 6, ho, hv =>
                      cases ho; cases hv
                      refine .inl ⟨rfl, fun a W hk hw K hK => ?_⟩
                      have e52 := hk.at_ 0 _ 52 _ rfl (by decide) _ rfl rfl rfl
                      have e57 := hk.at_ 5 _ 57 _ rfl (by decide) _ rfl rfl rfl
                      exact op_val (by simp [go_sem, ev' e52, ev' e57, iix]) (hK _ hw)
                    | 7, ho, hv =>
                      cases ho; cases hv
                      refine .inl ⟨rfl, fun a W hk hw K hK => ?_⟩
                      have e58 := hk.at_ 6 _ 58 _ rfl (by decide) _ rfl rfl rfl
                      exact op_val (by simp [go_sem, ev' e58, HA1.out W hw, HA2.out W hw]) (hK _ hw)
                    | 8, ho, hv =>
                      cases ho; cases hv
                      refine .inl ⟨rfl, fun a W hk hw K hK => ?_⟩
                      have e1 := hk.same 1 (by decide)
                      exact op_val (by simp [go_sem, ev' e1]) (hK _ hw)
                    | 9, ho, hv =>
                      cases ho; cases hv
                      refine .inl ⟨rfl, fun a W hk hw K hK => ?_⟩
                      have e3 := hk.same 3 (by decide)
                      exact op_val (by simp [go_sem, ev' e3]) (hK _ hw)
                    | 10, ho, hv =>
                      cases ho; cases hv
                      refine .inl ⟨rfl, fun a W hk hw K hK => ?_⟩
                      have e12 := hk.same 12 (by decide)
                      exact op_val (by simp [go_sem, ev' e12]) (hK _ hw)
                    | 11, ho, hv =>
                      cases ho; cases hv
                      refine .inl ⟨rfl, fun a W hk hw K hK => ?_⟩
                      have e61 := hk.at_ 9 _ 61 _ rfl (by decide) _ rfl rfl rfl
                      have e62 := hk.at_ 10 _ 62 _ rfl (by decide) _ rfl rfl rfl
                      exact op_val (by simp [go_sem, ev' e61, ev' e62, ikl]) (hK _ hw)
                    | 12, ho, hv =>
                      cases ho; cases hv
                      refine .inl ⟨rfl, fun a W hk hw K hK => ?_⟩
                      have e63 := hk.at_ 11 _ 63 _ rfl (by decide) _ rfl rfl rfl
                      exact op_val (by simp [go_sem, ev' e63]) (hK _ hw)
                    | 13, ho, hv =>
                      cases ho; cases hv
                      refine .inl ⟨rfl, fun a W hk hw K hK => ?_⟩
                      have e64 := hk.at_ 12 _ 64 _ rfl (by decide) _ rfl rfl rfl
                      exact op_val (by simp [go_sem, ev' e64, HX1.out W hw]) (hK _ hw)
                    | 14, ho, hv =>
                      cases ho; cases hv
                      refine .inl ⟨rfl, fun a W hk hw K hK => ?_⟩
                      have e60 := hk.at_ 8 _ 60 _ rfl (by decide) _ rfl rfl rfl
                      have e65 := hk.at_ 13 _ 65 _ rfl (by decide) _ rfl rfl rfl
                      exact op_val (by simp [go_sem, ev' e60, ev' e65, ijx]) (hK _ hw)
                    | 15, ho, hv =>
                      cases ho; cases hv
                      refine .inl ⟨rfl, fun a W hk hw K hK => ?_⟩
                      have e66 := hk.at_ 14 _ 66 _ rfl (by decide) _ rfl rfl rfl
                      exact op_val (by simp [go_sem, ev' e66, HB1.out W hw, HB2.out W hw]) (hK _ hw)
                    | 16, ho, hv =>
                      cases ho; cases hv
                      refine .inl ⟨rfl, fun a W hk hw K hK => ?_⟩
                      have e2 := hk.same 2 (by decide)
                      exact op_val (by simp [go_sem, ev' e2]) (hK _ hw)
                    | 17, ho, hv =>
                      cases ho; cases hv
                      refine .inl ⟨rfl, fun a W hk hw K hK => ?_⟩
                      have e59 := hk.at_ 7 _ 59 _ rfl (by decide) _ rfl rfl rfl
                      have e67 := hk.at_ 15 _ 67 _ rfl (by decide) _ rfl rfl rfl
                      have e68 := hk.at_ 16 _ 68 _ rfl (by decide) _ rfl rfl rfl
                      refine op_callN rfl rfl rfl _ rfl (vs := #[.agg #[.int .i64 a1, .int .i64 a2], .agg #[.int .i64 b1, .int .i64 b2], .int .i64 play]) (by simp [e59, e67, e68]) (HSA.out W) ?_
                      rintro e w7 ⟨rfl, hw7⟩
                      exact ⟨_, rfl, hK _ (hw.trans hw7)⟩
                    | 18, ho, hv =>
                      cases ho; cases hv
                      refine .inl ⟨rfl, fun a W hk hw K hK => ?_⟩
                      have e69 := hk.at_ 17 _ 69 _ rfl (by decide) _ rfl rfl rfl
                      exact op_val (by simp [go_sem, ev' e69]) (hK _ hw)
                    | 19, ho, hv =>
                      cases ho; cases hv
                      refine .inl ⟨rfl, fun a W hk hw K hK => ?_⟩
                      have e70 := hk.at_ 18 _ 70 _ rfl (by decide) _ rfl rfl rfl
                      exact op_val (by simp [go_sem, ev' e70]) (hK _ hw)
                    | 20, ho, hv =>
                      cases ho; cases hv
                      refine .inl ⟨rfl, fun a W hk hw K hK => ?_⟩
                      have e12 := hk.same 12 (by decide)
                      exact op_val (by simp [go_sem, ev' e12]) (hK _ hw)
                    | 21, ho, hv =>
                      cases ho; cases hv
                      refine .inl ⟨rfl, fun a W hk hw K hK => ?_⟩
                      have e72 := hk.at_ 20 _ 72 _ rfl (by decide) _ rfl rfl rfl
                      exact op_val (by simp [go_sem, ev' e72, hk0, hk0N]) (hK _ hw)
                    | 22, ho, hv =>
                      cases ho; cases hv
                      refine .inl ⟨rfl, fun a W hk hw K hK => ?_⟩
                      have e73 := hk.at_ 21 _ 73 _ rfl (by decide) _ rfl rfl rfl
                      exact op_val (by simp [go_sem, ev' e73]) (hK _ hw)
                    | 23, ho, hv =>
                      cases ho; cases hv
                      refine .inl ⟨rfl, fun a W hk hw K hK => ?_⟩
                      have e3 := hk.same 3 (by decide)
                      exact op_val (by simp [go_sem, ev' e3]) (hK _ hw)
                    | 24, ho, hv =>
                      cases ho; cases hv
                      refine .inl ⟨rfl, fun a W hk hw K hK => ?_⟩
                      have e12 := hk.same 12 (by decide)
                      exact op_val (by simp [go_sem, ev' e12]) (hK _ hw)
                    | 25, ho, hv =>
                      cases ho; cases hv
                      refine .inl ⟨rfl, fun a W hk hw K hK => ?_⟩
                      have e75 := hk.at_ 23 _ 75 _ rfl (by decide) _ rfl rfl rfl
                      have e76 := hk.at_ 24 _ 76 _ rfl (by decide) _ rfl rfl rfl
                      exact op_val (by simp [go_sem, ev' e75, ev' e76, ikl]) (hK _ hw)
                    | 26, ho, hv =>
                      cases ho; cases hv
                      refine .inl ⟨rfl, fun a W hk hw K hK => ?_⟩
                      have e77 := hk.at_ 25 _ 77 _ rfl (by decide) _ rfl rfl rfl
                      exact op_val (by simp [go_sem, ev' e77]) (hK _ hw)
                    | 27, ho, hv =>
                      cases ho; cases hv
                      refine .inl ⟨rfl, fun a W hk hw K hK => ?_⟩
                      have e78 := hk.at_ 26 _ 78 _ rfl (by decide) _ rfl rfl rfl
                      exact op_val (by simp [go_sem, ev' e78, HX0.out W hw]) (hK _ hw)
                    | 28, ho, hv =>
                      cases ho; cases hv
                      refine .inl ⟨rfl, fun a W hk hw K hK => ?_⟩
                      have e3 := hk.same 3 (by decide)
                      exact op_val (by simp [go_sem, ev' e3]) (hK _ hw)
                    | 29, ho, hv =>
                      cases ho; cases hv
                      refine .inl ⟨rfl, fun a W hk hw K hK => ?_⟩
                      have e12 := hk.same 12 (by decide)
                      exact op_val (by simp [go_sem, ev' e12]) (hK _ hw)
                    | 30, ho, hv =>
                      cases ho; cases hv
                      refine .inl ⟨rfl, fun a W hk hw K hK => ?_⟩
                      have e81 := hk.at_ 29 _ 81 _ rfl (by decide) _ rfl rfl rfl
                      exact op_val (by simp [go_sem, ev' e81, hkq]) (hK _ hw)
                    | 31, ho, hv =>
                      cases ho; cases hv
                      refine .inl ⟨rfl, fun a W hk hw K hK => ?_⟩
                      have e80 := hk.at_ 28 _ 80 _ rfl (by decide) _ rfl rfl rfl
                      have e82 := hk.at_ 30 _ 82 _ rfl (by decide) _ rfl rfl rfl
                      exact op_val (by simp [go_sem, ev' e80, ev' e82, iql]) (hK _ hw)
                    | 32, ho, hv =>
                      cases ho; cases hv
                      refine .inl ⟨rfl, fun a W hk hw K hK => ?_⟩
                      have e83 := hk.at_ 31 _ 83 _ rfl (by decide) _ rfl rfl rfl
                      exact op_val (by simp [go_sem, ev' e83]) (hK _ hw)
                    | 33, ho, hv =>
                      cases ho; cases hv
                      refine .inl ⟨rfl, fun a W hk hw K hK => ?_⟩
                      have e84 := hk.at_ 32 _ 84 _ rfl (by decide) _ rfl rfl rfl
                      exact op_val (by simp [go_sem, ev' e84, HY0.out W hw]) (hK _ hw)
                    | 34, ho, hv =>
                      cases ho; cases hv
                      refine .inl ⟨rfl, fun a W hk hw K hK => ?_⟩
                      have e79 := hk.at_ 27 _ 79 _ rfl (by decide) _ rfl rfl rfl
                      have e85 := hk.at_ 33 _ 85 _ rfl (by decide) _ rfl rfl rfl
                      exact op_val (by simp [go_sem, ev' e79, ev' e85, d1, d1N]) (hK _ hw)
                    | 35, ho, hv =>
                      cases ho; cases hv
                      refine .inl ⟨rfl, fun a W hk hw K hK => ?_⟩
                      have e86 := hk.at_ 34 _ 86 _ rfl (by decide) _ rfl rfl rfl
                      exact op_val (by simp [go_sem, ev' e86]) (hK _ hw)
                    | 36, ho, hv =>
                      cases ho; cases hv
                      refine .inl ⟨rfl, fun a W hk hw K hK => ?_⟩
                      have e3 := hk.same 3 (by decide)
                      exact op_val (by simp [go_sem, ev' e3]) (hK _ hw)
                    | 37, ho, hv =>
                      cases ho; cases hv
                      refine .inl ⟨rfl, fun a W hk hw K hK => ?_⟩
                      have e12 := hk.same 12 (by decide)
                      exact op_val (by simp [go_sem, ev' e12]) (hK _ hw)
                    | 38, ho, hv =>
                      cases ho; cases hv
                      refine .inl ⟨rfl, fun a W hk hw K hK => ?_⟩
                      have e88 := hk.at_ 36 _ 88 _ rfl (by decide) _ rfl rfl rfl
                      have e89 := hk.at_ 37 _ 89 _ rfl (by decide) _ rfl rfl rfl
                      exact op_val (by simp [go_sem, ev' e88, ev' e89, ikl]) (hK _ hw)
                    | 39, ho, hv =>
                      cases ho; cases hv
                      refine .inl ⟨rfl, fun a W hk hw K hK => ?_⟩
                      have e90 := hk.at_ 38 _ 90 _ rfl (by decide) _ rfl rfl rfl
                      exact op_val (by simp [go_sem, ev' e90]) (hK _ hw)
                    | 40, ho, hv =>
                      cases ho; cases hv
                      refine .inl ⟨rfl, fun a W hk hw K hK => ?_⟩
                      have e91 := hk.at_ 39 _ 91 _ rfl (by decide) _ rfl rfl rfl
                      exact op_val (by simp [go_sem, ev' e91, HX1.out W hw]) (hK _ hw)
                    | 41, ho, hv =>
                      cases ho; cases hv
                      refine .inl ⟨rfl, fun a W hk hw K hK => ?_⟩
                      have e3 := hk.same 3 (by decide)
                      exact op_val (by simp [go_sem, ev' e3]) (hK _ hw)
                    | 42, ho, hv =>
                      cases ho; cases hv
                      refine .inl ⟨rfl, fun a W hk hw K hK => ?_⟩
                      have e12 := hk.same 12 (by decide)
                      exact op_val (by simp [go_sem, ev' e12]) (hK _ hw)
                    | 43, ho, hv =>
                      cases ho; cases hv
                      refine .inl ⟨rfl, fun a W hk hw K hK => ?_⟩
                      have e94 := hk.at_ 42 _ 94 _ rfl (by decide) _ rfl rfl rfl
                      exact op_val (by simp [go_sem, ev' e94, hkq]) (hK _ hw)
                    | 44, ho, hv =>
                      cases ho; cases hv
                      refine .inl ⟨rfl, fun a W hk hw K hK => ?_⟩
                      have e93 := hk.at_ 41 _ 93 _ rfl (by decide) _ rfl rfl rfl
                      have e95 := hk.at_ 43 _ 95 _ rfl (by decide) _ rfl rfl rfl
                      exact op_val (by simp [go_sem, ev' e93, ev' e95, iql]) (hK _ hw)
                    | 45, ho, hv =>
                      cases ho; cases hv
                      refine .inl ⟨rfl, fun a W hk hw K hK => ?_⟩
                      have e96 := hk.at_ 44 _ 96 _ rfl (by decide) _ rfl rfl rfl
                      exact op_val (by simp [go_sem, ev' e96]) (hK _ hw)
                    | 46, ho, hv =>
                      cases ho; cases hv
                      refine .inl ⟨rfl, fun a W hk hw K hK => ?_⟩
                      have e97 := hk.at_ 45 _ 97 _ rfl (by decide) _ rfl rfl rfl
                      exact op_val (by simp [go_sem, ev' e97, HY1.out W hw]) (hK _ hw)
                    | 47, ho, hv =>
                      cases ho; cases hv
                      refine .inl ⟨rfl, fun a W hk hw K hK => ?_⟩
                      have e92 := hk.at_ 40 _ 92 _ rfl (by decide) _ rfl rfl rfl
                      have e98 := hk.at_ 46 _ 98 _ rfl (by decide) _ rfl rfl rfl
                      exact op_val (by simp [go_sem, ev' e92, ev' e98, d2, d2N]) (hK _ hw)
                    | 48, ho, hv =>
                      cases ho; cases hv
                      refine .inl ⟨rfl, fun a W hk hw K hK => ?_⟩
                      have e87 := hk.at_ 35 _ 87 _ rfl (by decide) _ rfl rfl rfl
                      have e99 := hk.at_ 47 _ 99 _ rfl (by decide) _ rfl rfl rfl
                      exact op_val (by simp [go_sem, ev' e87, ev' e99]) (hK _ hw)
                    | 49, ho, hv =>
                      cases ho; cases hv
                      refine .inl ⟨rfl, fun a W hk hw K hK => ?_⟩
                      have e74 := hk.at_ 22 _ 74 _ rfl (by decide) _ rfl rfl rfl
                      have e100 := hk.at_ 48 _ 100 _ rfl (by decide) _ rfl rfl rfl
                      exact op_val (by simp [go_sem, ev' e74, ev' e100]) (hK _ hw)
                    | 50, ho, hv =>
                      cases ho; cases hv
                      refine .inl ⟨rfl, fun a W hk hw K hK => ?_⟩
                      have e71 := hk.at_ 19 _ 71 _ rfl (by decide) _ rfl rfl rfl
                      have e101 := hk.at_ 49 _ 101 _ rfl (by decide) _ rfl rfl rfl
                      exact op_val (by simp [go_sem, ev' e71, ev' e101]) (hK _ hw)
                    | _ + 51, _, hv => cases hv
                  intro W hw
                  simp only [List.drop_succ_cons, List.drop_zero, List.zip_cons_cons, List.zip_nil_right, putAll]
                  simp only [Act.put, List.setIfInBounds_toArray, List.set]
                  obtain rfl := HN.out
                  go_wp2_with fail
                  exact bodyPost_ret (v := .tuple #[.bool false, .int .i64 0]) (by simp [results, Try.results21, go_sem]) rfl ⟨rfl, H3.out.trans hw⟩
              · have d1 : decide ((ix : Int) ≤ (ux : Int)) = true := by rw [decide_eq_true_eq]; omega
                have d1N : decide (ix ≤ ux) = true := by rw [decide_eq_true_eq]; omega
                have HN : Hid (mv = false) := Lib.hid (by
                  have h1 := HX3.out
                  rw [decide_eq_false (p := (ux : Int) < (ix : Int)) (by omega)] at h1
                  rw [← h1]; simp)
                clear HX3 hd1
                refine wp_region_valsG (by kernel_rfl) 103 rfl (by kernel_rfl) (by kernel_rfl) [.slice (some ⟨ba, oa, none⟩) la.length ca, .slice (some ⟨bl, ol, none⟩) l.length cl, .int .i64 (k : Nat), .pointer (some ⟨bl, ol + k * 2, none⟩), .pointer (some ⟨bl, ol + k * 2, none⟩), .int .i64 (ix : Nat), .pointer (some ⟨ba, oa + ix * 2, none⟩), .agg #[.int .i64 a1, .int .i64 a2], .slice (some ⟨bb, ob, none⟩) lb.length cb, .slice (some ⟨bl, ol, none⟩) l.length cl, .int .i64 (k : Nat), .pointer (some ⟨bl, ol + k * 2, none⟩), .pointer (some ⟨bl, ol + k * 2 + 1, none⟩), .int .i64 (jx : Nat), .pointer (some ⟨bb, ob + jx * 2, none⟩), .agg #[.int .i64 b1, .int .i64 b2], .int .i64 play, .bool true, .bool false, .bool false, .int .i64 (k : Nat), .bool true, .bool true, .slice (some ⟨bl, ol, none⟩) l.length cl, .int .i64 (k : Nat), .pointer (some ⟨bl, ol + k * 2, none⟩), .pointer (some ⟨bl, ol + k * 2, none⟩), .int .i64 (ix : Nat), .slice (some ⟨bl, ol, none⟩) l.length cl, .int .i64 (k : Nat), .int .i64 (q : Nat), .pointer (some ⟨bl, ol + q * 2, none⟩), .pointer (some ⟨bl, ol + q * 2, none⟩), .int .i64 (ux : Nat), .bool true, .bool true, undef, undef, undef, undef, undef, undef, undef, undef, undef, undef, undef, undef, .bool true, .bool true, .bool true] rfl (fun W => Aft wr W) (Aft.drew _) ?st5 ?fi5
                case st5 =>
                  intro i o v ho hv
                  match i, ho, hv with
                  | 0, ho, hv =>
                    cases ho; cases hv
                    refine .inl ⟨rfl, fun a W hk hw K hK => ?_⟩
                    have e0 := hk.same 0 (by decide)
                    exact op_val (by simp [go_sem, ev' e0]) (hK _ hw)
                  | 1, ho, hv =>
                    cases ho; cases hv
                    refine .inl ⟨rfl, fun a W hk hw K hK => ?_⟩
                    have e3 := hk.same 3 (by decide)
                    exact op_val (by simp [go_sem, ev' e3]) (hK _ hw)
                  | 2, ho, hv =>
                    cases ho; cases hv
                    refine .inl ⟨rfl, fun a W hk hw K hK => ?_⟩
                    have e12 := hk.same 12 (by decide)
                    exact op_val (by simp [go_sem, ev' e12]) (hK _ hw)
                  | 3, ho, hv =>
                    cases ho; cases hv
                    refine .inl ⟨rfl, fun a W hk hw K hK => ?_⟩
                    have e53 := hk.at_ 1 _ 53 _ rfl (by decide) _ rfl rfl rfl
                    have e54 := hk.at_ 2 _ 54 _ rfl (by decide) _ rfl rfl rfl
                    exact op_val (by simp [go_sem, ev' e53, ev' e54, ikl]) (hK _ hw)
                  | 4, ho, hv =>
                    cases ho; cases hv
                    refine .inl ⟨rfl, fun a W hk hw K hK => ?_⟩
                    have e55 := hk.at_ 3 _ 55 _ rfl (by decide) _ rfl rfl rfl
                    exact op_val (by simp [go_sem, ev' e55]) (hK _ hw)
                  | 5, ho, hv =>
                    cases ho; cases hv
                    refine .inl ⟨rfl, fun a W hk hw K hK => ?_⟩
                    have e56 := hk.at_ 4 _ 56 _ rfl (by decide) _ rfl rfl rfl
                    exact op_val (by simp [go_sem, ev' e56, HX0.out W hw]) (hK _ hw)
                  | 6, ho, hv =>
                    cases ho; cases hv
                    refine .inl ⟨rfl, fun a W hk hw K hK => ?_⟩
                    have e52 := hk.at_ 0 _ 52 _ rfl (by decide) _ rfl rfl rfl
                    have e57 := hk.at_ 5 _ 57 _ rfl (by decide) _ rfl rfl rfl
                    exact op_val (by simp [go_sem, ev' e52, ev' e57, iix]) (hK _ hw)
                  | 7, ho, hv =>
                    cases ho; cases hv
                    refine .inl ⟨rfl, fun a W hk hw K hK => ?_⟩
                    have e58 := hk.at_ 6 _ 58 _ rfl (by decide) _ rfl rfl rfl
                    exact op_val (by simp [go_sem, ev' e58, HA1.out W hw, HA2.out W hw]) (hK _ hw)
                  | 8, ho, hv =>
                    cases ho; cases hv
                    refine .inl ⟨rfl, fun a W hk hw K hK => ?_⟩
                    have e1 := hk.same 1 (by decide)
                    exact op_val (by simp [go_sem, ev' e1]) (hK _ hw)
                  | 9, ho, hv =>
                    cases ho; cases hv
                    refine .inl ⟨rfl, fun a W hk hw K hK => ?_⟩
                    have e3 := hk.same 3 (by decide)
                    exact op_val (by simp [go_sem, ev' e3]) (hK _ hw)
                  | 10, ho, hv =>
                    cases ho; cases hv
                    refine .inl ⟨rfl, fun a W hk hw K hK => ?_⟩
                    have e12 := hk.same 12 (by decide)
                    exact op_val (by simp [go_sem, ev' e12]) (hK _ hw)
                  | 11, ho, hv =>
                    cases ho; cases hv
                    refine .inl ⟨rfl, fun a W hk hw K hK => ?_⟩
                    have e61 := hk.at_ 9 _ 61 _ rfl (by decide) _ rfl rfl rfl
                    have e62 := hk.at_ 10 _ 62 _ rfl (by decide) _ rfl rfl rfl
                    exact op_val (by simp [go_sem, ev' e61, ev' e62, ikl]) (hK _ hw)
                  | 12, ho, hv =>
                    cases ho; cases hv
                    refine .inl ⟨rfl, fun a W hk hw K hK => ?_⟩
                    have e63 := hk.at_ 11 _ 63 _ rfl (by decide) _ rfl rfl rfl
                    exact op_val (by simp [go_sem, ev' e63]) (hK _ hw)
                  | 13, ho, hv =>
                    cases ho; cases hv
                    refine .inl ⟨rfl, fun a W hk hw K hK => ?_⟩
                    have e64 := hk.at_ 12 _ 64 _ rfl (by decide) _ rfl rfl rfl
                    exact op_val (by simp [go_sem, ev' e64, HX1.out W hw]) (hK _ hw)
                  | 14, ho, hv =>
                    cases ho; cases hv
                    refine .inl ⟨rfl, fun a W hk hw K hK => ?_⟩
                    have e60 := hk.at_ 8 _ 60 _ rfl (by decide) _ rfl rfl rfl
                    have e65 := hk.at_ 13 _ 65 _ rfl (by decide) _ rfl rfl rfl
                    exact op_val (by simp [go_sem, ev' e60, ev' e65, ijx]) (hK _ hw)
                  | 15, ho, hv =>
                    cases ho; cases hv
                    refine .inl ⟨rfl, fun a W hk hw K hK => ?_⟩
                    have e66 := hk.at_ 14 _ 66 _ rfl (by decide) _ rfl rfl rfl
                    exact op_val (by simp [go_sem, ev' e66, HB1.out W hw, HB2.out W hw]) (hK _ hw)
                  | 16, ho, hv =>
                    cases ho; cases hv
                    refine .inl ⟨rfl, fun a W hk hw K hK => ?_⟩
                    have e2 := hk.same 2 (by decide)
                    exact op_val (by simp [go_sem, ev' e2]) (hK _ hw)
                  | 17, ho, hv =>
                    cases ho; cases hv
                    refine .inl ⟨rfl, fun a W hk hw K hK => ?_⟩
                    have e59 := hk.at_ 7 _ 59 _ rfl (by decide) _ rfl rfl rfl
                    have e67 := hk.at_ 15 _ 67 _ rfl (by decide) _ rfl rfl rfl
                    have e68 := hk.at_ 16 _ 68 _ rfl (by decide) _ rfl rfl rfl
                    refine op_callN rfl rfl rfl _ rfl (vs := #[.agg #[.int .i64 a1, .int .i64 a2], .agg #[.int .i64 b1, .int .i64 b2], .int .i64 play]) (by simp [e59, e67, e68]) (HSA.out W) ?_
                    rintro e w7 ⟨rfl, hw7⟩
                    exact ⟨_, rfl, hK _ (hw.trans hw7)⟩
                  | 18, ho, hv =>
                    cases ho; cases hv
                    refine .inl ⟨rfl, fun a W hk hw K hK => ?_⟩
                    have e69 := hk.at_ 17 _ 69 _ rfl (by decide) _ rfl rfl rfl
                    exact op_val (by simp [go_sem, ev' e69]) (hK _ hw)
                  | 19, ho, hv =>
                    cases ho; cases hv
                    refine .inl ⟨rfl, fun a W hk hw K hK => ?_⟩
                    have e70 := hk.at_ 18 _ 70 _ rfl (by decide) _ rfl rfl rfl
                    exact op_val (by simp [go_sem, ev' e70]) (hK _ hw)
                  | 20, ho, hv =>
                    cases ho; cases hv
                    refine .inl ⟨rfl, fun a W hk hw K hK => ?_⟩
                    have e12 := hk.same 12 (by decide)
                    exact op_val (by simp [go_sem, ev' e12]) (hK _ hw)
                  | 21, ho, hv =>
                    cases ho; cases hv
                    refine .inl ⟨rfl, fun a W hk hw K hK => ?_⟩
                    have e72 := hk.at_ 20 _ 72 _ rfl (by decide) _ rfl rfl rfl
                    exact op_val (by simp [go_sem, ev' e72, hk0, hk0N]) (hK _ hw)
                  | 22, ho, hv =>
                    cases ho; cases hv
                    refine .inl ⟨rfl, fun a W hk hw K hK => ?_⟩
                    have e73 := hk.at_ 21 _ 73 _ rfl (by decide) _ rfl rfl rfl
                    exact op_val (by simp [go_sem, ev' e73]) (hK _ hw)
                  | 23, ho, hv =>
                    cases ho; cases hv
                    refine .inl ⟨rfl, fun a W hk hw K hK => ?_⟩
                    have e3 := hk.same 3 (by decide)
                    exact op_val (by simp [go_sem, ev' e3]) (hK _ hw)
                  | 24, ho, hv =>
                    cases ho; cases hv
                    refine .inl ⟨rfl, fun a W hk hw K hK => ?_⟩
                    have e12 := hk.same 12 (by decide)
                    exact op_val (by simp [go_sem, ev' e12]) (hK _ hw)
                  | 25, ho, hv =>
                    cases ho; cases hv
                    refine .inl ⟨rfl, fun a W hk hw K hK => ?_⟩
                    have e75 := hk.at_ 23 _ 75 _ rfl (by decide) _ rfl rfl rfl
                    have e76 := hk.at_ 24 _ 76 _ rfl (by decide) _ rfl rfl rfl
                    exact op_val (by simp [go_sem, ev' e75, ev' e76, ikl]) (hK _ hw)
                  | 26, ho, hv =>
                    cases ho; cases hv
                    refine .inl ⟨rfl, fun a W hk hw K hK => ?_⟩
                    have e77 := hk.at_ 25 _ 77 _ rfl (by decide) _ rfl rfl rfl
                    exact op_val (by simp [go_sem, ev' e77]) (hK _ hw)
                  | 27, ho, hv =>
                    cases ho; cases hv
                    refine .inl ⟨rfl, fun a W hk hw K hK => ?_⟩
                    have e78 := hk.at_ 26 _ 78 _ rfl (by decide) _ rfl rfl rfl
                    exact op_val (by simp [go_sem, ev' e78, HX0.out W hw]) (hK _ hw)
                  | 28, ho, hv =>
                    cases ho; cases hv
                    refine .inl ⟨rfl, fun a W hk hw K hK => ?_⟩
                    have e3 := hk.same 3 (by decide)
                    exact op_val (by simp [go_sem, ev' e3]) (hK _ hw)
                  | 29, ho, hv =>
                    cases ho; cases hv
                    refine .inl ⟨rfl, fun a W hk hw K hK => ?_⟩
                    have e12 := hk.same 12 (by decide)
                    exact op_val (by simp [go_sem, ev' e12]) (hK _ hw)
                  | 30, ho, hv =>
                    cases ho; cases hv
                    refine .inl ⟨rfl, fun a W hk hw K hK => ?_⟩
                    have e81 := hk.at_ 29 _ 81 _ rfl (by decide) _ rfl rfl rfl
                    exact op_val (by simp [go_sem, ev' e81, hkq]) (hK _ hw)
                  | 31, ho, hv =>
                    cases ho; cases hv
                    refine .inl ⟨rfl, fun a W hk hw K hK => ?_⟩
                    have e80 := hk.at_ 28 _ 80 _ rfl (by decide) _ rfl rfl rfl
                    have e82 := hk.at_ 30 _ 82 _ rfl (by decide) _ rfl rfl rfl
                    exact op_val (by simp [go_sem, ev' e80, ev' e82, iql]) (hK _ hw)
                  | 32, ho, hv =>
                    cases ho; cases hv
                    refine .inl ⟨rfl, fun a W hk hw K hK => ?_⟩
                    have e83 := hk.at_ 31 _ 83 _ rfl (by decide) _ rfl rfl rfl
                    exact op_val (by simp [go_sem, ev' e83]) (hK _ hw)
                  | 33, ho, hv =>
                    cases ho; cases hv
                    refine .inl ⟨rfl, fun a W hk hw K hK => ?_⟩
                    have e84 := hk.at_ 32 _ 84 _ rfl (by decide) _ rfl rfl rfl
                    exact op_val (by simp [go_sem, ev' e84, HY0.out W hw]) (hK _ hw)
                  | 34, ho, hv =>
                    cases ho; cases hv
                    refine .inl ⟨rfl, fun a W hk hw K hK => ?_⟩
                    have e79 := hk.at_ 27 _ 79 _ rfl (by decide) _ rfl rfl rfl
                    have e85 := hk.at_ 33 _ 85 _ rfl (by decide) _ rfl rfl rfl
                    exact op_val (by simp [go_sem, ev' e79, ev' e85, d1, d1N]) (hK _ hw)
                  | 35, ho, hv =>
                    cases ho; cases hv
                    refine .inl ⟨rfl, fun a W hk hw K hK => ?_⟩
                    have e86 := hk.at_ 34 _ 86 _ rfl (by decide) _ rfl rfl rfl
                    exact op_val (by simp [go_sem, ev' e86]) (hK _ hw)
                  | 36, ho, hv => cases ho; cases hv; exact .inr ⟨rfl, rfl⟩
                  | 37, ho, hv => cases ho; cases hv; exact .inr ⟨rfl, rfl⟩
                  | 38, ho, hv => cases ho; cases hv; exact .inr ⟨rfl, rfl⟩
                  | 39, ho, hv => cases ho; cases hv; exact .inr ⟨rfl, rfl⟩
                  | 40, ho, hv => cases ho; cases hv; exact .inr ⟨rfl, rfl⟩
                  | 41, ho, hv => cases ho; cases hv; exact .inr ⟨rfl, rfl⟩
                  | 42, ho, hv => cases ho; cases hv; exact .inr ⟨rfl, rfl⟩
                  | 43, ho, hv => cases ho; cases hv; exact .inr ⟨rfl, rfl⟩
                  | 44, ho, hv => cases ho; cases hv; exact .inr ⟨rfl, rfl⟩
                  | 45, ho, hv => cases ho; cases hv; exact .inr ⟨rfl, rfl⟩
                  | 46, ho, hv => cases ho; cases hv; exact .inr ⟨rfl, rfl⟩
                  | 47, ho, hv => cases ho; cases hv; exact .inr ⟨rfl, rfl⟩
                  | 48, ho, hv =>
                    cases ho; cases hv
                    refine .inl ⟨rfl, fun a W hk hw K hK => ?_⟩
                    have e87 := hk.at_ 35 _ 87 _ rfl (by decide) _ rfl rfl rfl
                    have e99 := hk.at_ 47 _ 99 _ rfl (by decide) _ rfl rfl rfl
                    exact op_val (by simp [go_sem, ev' e87, ev' e99]) (hK _ hw)
                  | 49, ho, hv =>
                    cases ho; cases hv
                    refine .inl ⟨rfl, fun a W hk hw K hK => ?_⟩
                    have e74 := hk.at_ 22 _ 74 _ rfl (by decide) _ rfl rfl rfl
                    have e100 := hk.at_ 48 _ 100 _ rfl (by decide) _ rfl rfl rfl
                    exact op_val (by simp [go_sem, ev' e74, ev' e100]) (hK _ hw)
                  | 50, ho, hv =>
                    cases ho; cases hv
                    refine .inl ⟨rfl, fun a W hk hw K hK => ?_⟩
                    have e71 := hk.at_ 19 _ 71 _ rfl (by decide) _ rfl rfl rfl
                    have e101 := hk.at_ 49 _ 101 _ rfl (by decide) _ rfl rfl rfl
                    exact op_val (by simp [go_sem, ev' e71, ev' e101]) (hK _ hw)
                  | _ + 51, _, hv => cases hv
                intro W hw
                simp only [List.drop_succ_cons, List.drop_zero, List.zip_cons_cons, List.zip_nil_right, putAll]
                simp only [Act.put, List.setIfInBounds_toArray, List.set]
                obtain rfl := HN.out
                go_wp2_with fail
                exact bodyPost_ret (v := .tuple #[.bool false, .int .i64 0]) (by simp [results, Try.results21, go_sem]) rfl ⟨rfl, H3.out.trans hw⟩
        · have t1 : decide (k < l.length) = false := by simpa using hkl
          have hmv : mv = true := by rw [← HX.out, List.drop_eq_nil_of_le (by omega)]; rfl
          obtain rfl := hmv
          go_wp2_with fail
          exact bodyPost_ret (v := .tuple #[.bool true, .int .i64 0]) (by simp [results, Try.results21, go_sem]) rfl ⟨rfl, H3.out⟩
end Go.Proofs
end
