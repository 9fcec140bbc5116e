/- Own texts, merged: Ym. -/
import Derived.Test.YthegmhnaiabcpaaE21
import Derived.BigGuard
set_option linter.unusedSimpArgs false
set_option linter.unusedVariables false
set_option linter.unnecessarySimpa false
section
/- Walks: SheetMatched. -/
namespace Go.Proofs
open Go.RowKit
attribute [local go_sem] Oper.semAt_some

set_option maxRecDepth 100000 in
set_option maxHeartbeats 8000000 in
theorem matchedLaw_any (A1 : Option Addr) (l1 : List Int) (c1 : Nat) (A2 : Option Addr) (l2 : List Int) (c2 : Nat) (kp : Int) (w : World) (h1 : Bytes w A1 l1) (h2 : Bytes w A2 l2) :
    Calls Try.prog 5 #[.slice A1 l1.length c1, .slice A2 l2.length c2, .int .i64 kp] w fun e w' => e = .returned (.bool true) ∧ Aft w w' := by
  have HB1 := Lib.hid h1
  have HB2 := Lib.hid h2
  clear h1 h2
  go_enter Try.func5, Try.ntmps5
  (repeat (first | go_big_skip | go_big_want | go_big_move | go_big_op | go_step | go_upon | go_back))
  go_at_call 8
  refine (of_any A1 l1 c1 w HB1.out).mono ?_
  rintro e x1 ⟨rfl, hd1⟩
  dsimp only
  have HD1 := Lib.hid hd1
  (repeat (first | go_big_skip | go_big_want | go_big_move | go_big_op | go_step | go_upon | go_back))
  go_at_call 8
  refine (of_any A2 l2 c2 x1 (HB2.out.aft hd1.aft0)).mono ?_
  rintro e x2 ⟨rfl, hd2⟩
  dsimp only
  obtain ⟨d, hd⟩ : ∃ d, w.heap.size = d := ⟨_, rfl⟩
  obtain ⟨dq, hdq⟩ : ∃ dq, x1.heap.size = dq := ⟨_, rfl⟩
  have hdd : d < dq := by rw [← hd, ← hdq]; exact hd1.lt
  have HD2 : Hid (DeckAt w d A1 l1 c1 0 x2) := Lib.hid (by rw [← hd]; exact hd1.aft hd2.aft0)
  have HQ2 : Hid (DeckAt w dq A2 l2 c2 0 x2) := Lib.hid (by rw [← hdq]; exact hd2.older HB2.out hd1.aft0)
  rw [hd, hdq]
  clear hd1 hd2 HD1 hdq
  obtain ⟨u, hu, hu8⟩ := fold_ex kp 8 (by decide)
  have HFU := Lib.hid fun W => fold_at kp 8 u W (by decide) (by decide) hu
  clear hu
  go_upto_region 2 with fail
  apply wp_region_lit
  (repeat (first | go_big_skip | go_big_want | go_big_move | go_big_op | go_step | go_upon | go_back))
  go_at_call 9
  refine (HFU.out _).mono ?_
  rintro e w9 ⟨rfl, rfl⟩
  dsimp only
  have HMK := Lib.hid (marked_any w d A1 l1 c1 0 (u : Int) x2 HD2.out (by decide) (by omega) (by omega))
  clear HFU
  go_upto_region 3 with fail
  apply wp_region_lit
  (repeat (first | go_big_skip | go_big_want | go_big_move | go_big_op | go_step | go_upon | go_back))
  go_at_call 31
  refine HMK.out.mono ?_
  rintro e x3 ⟨va, vb, vr, la, lb, lr, LA, LB, at_, k, rfl, hk14, hP, oA, oB, oR, hg3, ha3⟩
  dsimp only
  have HP := Lib.hid hP
  have hqlt := HQ2.out.lt
  obtain ⟨A3, c3, rfl, -, pA, bA⟩ := own_flat (enc := enc2) (fun _ => rfl) oA (by have := hP.na; omega)
  obtain ⟨A4, c4, rfl, -, pB, bB⟩ := own_flat (enc := enc2) (fun _ => rfl) oB (by have := hP.nb; omega)
  obtain ⟨A5, c5, rfl, -, pR, -⟩ := own_flat (enc := enc2) (fun _ => rfl) oR (by have := chain_len hP.ch; have := hP.na; simp; omega)
  have PA : Hid (Prs x3 A3 la) := Lib.hid pA
  have PB : Hid (Prs x3 A4 lb) := Lib.hid pB
  have PR : Hid (Prs x3 A5 (lr.map castP)) := Lib.hid pR
  have HNA : Hid (∀ b o, A3 = some ⟨b, o, none⟩ → b ≠ dq) := Lib.hid fun b o e => by have := bA b o e; omega
  have HNB : Hid (∀ b o, A4 = some ⟨b, o, none⟩ → b ≠ dq) := Lib.hid fun b o e => by have := bB b o e; omega
  have HQ := Lib.hid (HQ2.out.kept hg3 ha3 (by omega))
  have HW := Lib.hid ha3
  have he : edgesE la lb (u : Int) = 0 := hP.edges hk14 ⟨by omega, by omega⟩
  have HE := Lib.hid he
  have he1 : edgesE la lb ((u : Int) + 1) = 0 := hP.edges hk14 ⟨by omega, by omega⟩
  have HE1 := Lib.hid he1
  have hna : la.length ≤ 14 := by have := hP.na; omega
  have hnb : lb.length ≤ 14 := by have := hP.nb; omega
  have HSZ := Lib.hid (show dq < x3.heap.size from HQ.out.lt)
  clear hP oA oB oR hg3 ha3 pA pB pR bA bB he he1 HD2 HQ2 HMK hqlt
  have HK14 := Lib.hid hk14
  clear hk14
  go_upto_region 4 with fail
  (repeat (first | go_big_skip | go_big_want | go_big_move | go_big_op | go_step | go_upon | go_back))
  go_at_call 25
  refine (match_good la lb (u : Int) _ _ _ _ _ PA.out PB.out HE.out).mono ?_
  rintro e x1 ⟨v, ml, rfl, ho, hch, hlo, ha⟩
  dsimp only
  have hml : ml.length = (ml.map castP).length := by simp
  rw [hml] at ho
  obtain ⟨A8, c8, rfl, -, hp, -⟩ := own_flat (enc := enc2) (fun _ => rfl) ho (by simp; have := chain_len hch; omega)
  rw [← hml]
  have P8 : Hid (Prs x1 A8 (ml.map castP)) := Lib.hid hp
  have HCH := Lib.hid hch
  obtain ⟨t, ht⟩ : ∃ t, ml.length = t := ⟨_, rfl⟩
  rw [ht] at hlo
  have HLO := Lib.hid hlo
  have HT := Lib.hid ht
  rw [ht]
  have ht14 : t ≤ 14 := by rw [← ht]; have := chain_len hch; omega
  clear ho hp hml hch hlo ht
  replace PA := Lib.hid (PA.out.aft (ha))
  replace PB := Lib.hid (PB.out.aft (ha))
  replace PR := Lib.hid (PR.out.aft (ha))
  replace HQ := Lib.hid (HQ.out.aft (ha))
  replace HW := Lib.hid (HW.out.trans (ha))
  clear ha
  go_upto_region 5 with fail
  have HMT : Hid (∀ (ls : List (Nat × Nat)) W A B Al ca cb cl, Sheet.Chain (sameB (u : Int) la lb) la.length lb.length 0 0 ls → Prs W A la → Prs W B lb → Prs W Al (ls.map castP) → Calls Try.prog 20 #[.slice A la.length ca, .slice B lb.length cb, .int .i64 (u : Nat), .slice Al ls.length cl] W fun e w' => e = .returned (.tuple #[.bool true, .int .i64 0]) ∧ Aft W w') := Lib.hid fun ls W A B Al ca cb cl hc h1 h2 h3 => by
    have := matches_any la lb (u : Int) (ls.map castP) A B Al ca cb cl W h1 h2 h3
    have hm := chain_match HE.out hc
    rwa [hm.1, hm.2, List.length_map] at this
  have HC8 : Hid (∀ W A B ca cb, Prs W A la → Prs W B lb → Prs W A8 (ml.map castP) → Calls Try.prog 20 #[.slice A la.length ca, .slice B lb.length cb, .int .i64 (u : Nat), .slice A8 t c8] W fun e w' => e = .returned (.tuple #[.bool true, .int .i64 0]) ∧ Aft W w') := Lib.hid fun W A B ca cb h1 h2 h3 => by
    have := HMT.out ml W A B A8 ca cb c8 HCH.out h1 h2 h3
    rwa [HT.out] at this
  (repeat (first | go_big_skip | go_big_want | go_big_move | go_big_op | go_step | go_upon | go_back))
  go_at_call 20
  refine (HC8.out _ _ _ _ _ PA.out PB.out P8.out).mono ?_
  rintro e x2 ⟨rfl, ha⟩
  dsimp only
  replace PA := Lib.hid (PA.out.aft (ha))
  replace PB := Lib.hid (PB.out.aft (ha))
  replace PR := Lib.hid (PR.out.aft (ha))
  replace HQ := Lib.hid (HQ.out.aft (ha))
  replace P8 := Lib.hid (P8.out.aft (ha))
  replace HW := Lib.hid (HW.out.trans (ha))
  clear ha HC8
  go_upto_region 6 with fail
  (repeat (first | go_big_skip | go_big_want | go_big_move | go_big_op | go_step | go_upon | go_back))
  go_at_call 26
  refine (levels_good la lb (u : Int) _ _ _ _ _ PA.out PB.out HE.out).mono ?_
  rintro e x3 ⟨v, V, rfl, ho, hLV, hV, ha⟩
  dsimp only
  have HS9 := Lib.hid (rowsV_shape V la.length lb.length)
  have HV9 := Lib.hid (rowsV_val hV (by omega))
  obtain ⟨lv, elv⟩ : ∃ lv, rowsV V la.length lb.length = lv := ⟨_, rfl⟩
  have HLB : Hid (∀ v err, BarsW (u : Int) la lb lv v err → v = (t : Int) ∧ err = 0) := Lib.hid fun v err h => levels_bars HE.out hLV hV HLO.out (by rw [elv]; exact h)
  rw [elv] at ho HS9 HV9
  obtain ⟨A9, c9, hv9, -, -⟩ := ho.lists (by rw [HS9.out.n]; omega) (fun r hr => by rw [HS9.out.m r hr]; omega)
  subst hv9
  rw [HS9.out.n] at ho ⊢
  have OL : Hid (OwnLists x3 x2.heap.size (.slice A9 la.length c9) lv) := Lib.hid ho
  have HDB : Hid (dq < x2.heap.size) := Lib.hid HQ.out.lt
  clear ho hLV hV elv
  replace PA := Lib.hid (PA.out.aft (ha))
  replace PB := Lib.hid (PB.out.aft (ha))
  replace PR := Lib.hid (PR.out.aft (ha))
  replace HQ := Lib.hid (HQ.out.aft (ha))
  replace P8 := Lib.hid (P8.out.aft (ha))
  replace HW := Lib.hid (HW.out.trans (ha))
  clear ha
  go_upto_region 7 with fail
  obtain ⟨A10, c10, hv10, -, hp10⟩ := OL.out.lists (by rw [HS9.out.n]; omega) (fun r hr => by rw [HS9.out.m r hr]; omega)
  rw [HS9.out.n] at hv10
  have P9 : Hid (Lists x3 A9 lv) := Lib.hid (by cases hv10; exact hp10)
  clear hv10 hp10
  have HBAR : Hid (∀ W A B Al ca cb cl, Prs W A la → Prs W B lb → Lists W Al lv → Calls Try.prog 23 #[.slice A la.length ca, .slice B lb.length cb, .int .i64 (u : Nat), .slice Al la.length cl] W fun e w' => e = .returned (.tuple #[.int .i64 (t : Nat), .int .i64 0]) ∧ Aft W w') := Lib.hid fun W A B Al ca cb cl h1 h2 h3 => by
    have := bars_all la lb (u : Int) lv A B Al ca cb cl W h1 h2 h3
    rw [HS9.out.n] at this
    refine this.mono fun e w' h => ?_
    obtain ⟨v, err, rfl, hb, ha⟩ := h
    obtain ⟨rfl, rfl⟩ := HLB.out v err hb
    exact ⟨rfl, ha⟩
  (repeat (first | go_big_skip | go_big_want | go_big_move | go_big_op | go_step | go_upon | go_back))
  go_at_call 23
  refine (HBAR.out _ _ _ _ _ _ _ PA.out PB.out P9.out).mono ?_
  rintro e x4 ⟨rfl, ha⟩
  dsimp only
  replace PA := Lib.hid (PA.out.aft (ha))
  replace PB := Lib.hid (PB.out.aft (ha))
  replace PR := Lib.hid (PR.out.aft (ha))
  replace HQ := Lib.hid (HQ.out.aft (ha))
  replace P8 := Lib.hid (P8.out.aft (ha))
  replace OL := Lib.hid (OL.out.aft (ha))
  replace HW := Lib.hid (HW.out.trans (ha))
  clear ha HBAR P9
  go_upto_region 8 with fail
  have hlr : (lr.map castP).length = lr.length := by simp
  have hrl : lr.length ≤ t := HLO.out.all _ HP.out.ch
  rw [hlr]
  have HC5 := Lib.hid fun W A B ca cb (h1 : Prs W A la) (h2 : Prs W B lb) (h3 : Prs W A5 (lr.map castP)) => HMT.out lr W A B A5 ca cb c5 HP.out.ch h1 h2 h3
  (repeat (first | go_big_skip | go_big_want | go_big_move | go_big_op | go_step | go_upon | go_back))
  go_at_call 20
  refine (HC5.out _ _ _ _ _ PA.out PB.out PR.out).mono ?_
  rintro e x5 ⟨rfl, ha⟩
  dsimp only
  replace PA := Lib.hid (PA.out.aft (ha))
  replace PB := Lib.hid (PB.out.aft (ha))
  replace PR := Lib.hid (PR.out.aft (ha))
  replace HQ := Lib.hid (HQ.out.aft (ha))
  replace P8 := Lib.hid (P8.out.aft (ha))
  replace OL := Lib.hid (OL.out.aft (ha))
  replace HW := Lib.hid (HW.out.trans (ha))
  clear ha HC5 hlr PR P8
  have t1 : ((t : Int) != (t : Int)) = false := by simp
  have t2 : decide ((t : Int) < (lr.length : Int)) = false := by simp; omega
  have t2N : decide (t < lr.length) = false := by simp; omega
  go_upto_region 11 with fail
  clear t1 t2 t2N hrl
  have HPG : Hid (∀ W, x5.grownBy W (some dq) → Prs W A3 la ∧ Prs W A4 lb) := Lib.hid fun W h => ⟨PA.out.grown h HNA.out, PB.out.grown h HNB.out⟩
  have HDR : Hid (∀ W mm nn, DeckAt w dq A2 l2 c2 mm W → mm ≤ 200000 → -1000000 ≤ nn → nn ≤ 1000000 → Calls Try.prog 32 #[.pointer (some ⟨dq, 0, none⟩), .int .i64 nn] W (Dealt w dq A2 l2 c2 mm nn W)) := Lib.hid fun W mm nn h1 h2 h3 h4 => draw_any w dq A2 l2 c2 mm nn W h1 (by omega) h3 h4
  have HDK : Hid (dq < x5.heap.size) := Lib.hid HQ.out.lt
  go_upto_block 0 with fail
  refine wp_block ?_
  go_loopw [127] (fun i wr => ∃ r m : Nat, i = .int .i64 (r : Nat) ∧ r ≤ 5 ∧ m ≤ 100 * r ∧ DeckAt w dq A2 l2 c2 m wr ∧ x5.grownBy wr (some dq)) (fun i _ => 5 - (intOf i).toNat)
  case atStart => exact ⟨0, 0, rfl, by omega, by omega, HQ.out, only_refl _ _⟩
  case round =>
    obtain ⟨r, m, rfl, hr, hm, hdk, hgk⟩ := hrel
    rename World => wo
    have HK := Lib.hid hdk
    have HG := Lib.hid hgk
    clear hdk hgk
    by_cases hr5 : r < 5
    · have t1 : decide (r < 5) = true := by simpa using hr5
      have t1i : decide ((r : Int) < 5) = true := by simp; omega
      go_upto_block 2 with fail
      clear t1 t1i
      refine wp_block ?_
      go_loopw [23, 24, 25] (fun vm xu xv wr => ∃ (p q m : Nat) (lm : List (Nat × Nat)), xu = .int .i64 (p : Nat) ∧ xv = .int .i64 (q : Nat) ∧ p ≤ la.length ∧ q ≤ lb.length ∧ m ≤ 100 * r + p + q ∧ Hid (Sheet.Chain (sameB (u : Int) la lb) la.length lb.length 0 0 lm ∧ ∀ z ∈ lm, z.1 < p ∧ z.2 < q) ∧ DeckAt w dq A2 l2 c2 m wr ∧ x5.grownBy wr (some dq) ∧ wr.ownsRow x5.heap.size 57 2 vm (lm.map castP).length ((lm.map castP).flatMap enc2)) (fun _ xu xv _ => la.length - (intOf xu).toNat + (lb.length - (intOf xv).toNat))
      case atStart => exact ⟨0, 0, m, [], rfl, rfl, by omega, by omega, by omega, Lib.hid ⟨.nil 0 0, fun z h => by cases h⟩, HK.out, HG.out, World.ownsRow_nil _ _ 57 2⟩
      case round =>
        obtain ⟨p, q, m, lm, rfl, rfl, hp, hq, hm, HCM, hdk, hgk, hown⟩ := hrel
        rename World => wi
        have HK2 := Lib.hid hdk
        have HG2 := Lib.hid hgk
        have HO2 := Lib.hid hown
        clear hdk hgk hown HK HG
        by_cases hboth : p < la.length ∧ q < lb.length
        · have hpl := hboth.1
          have hql := hboth.2
          have t1 : decide (p < la.length) = true := by simpa using hpl
          have t2 : decide (q < lb.length) = true := by simpa using hql
          clear hboth
          go_upto_region 16 with fail
          apply wp_region_lit
          (repeat (first | go_big_skip | go_big_want | go_big_move | go_big_op | go_step | go_upon | go_back))
          go_at_call 32
          refine (HDR.out _ _ 3 HK2.out (by omega) (by omega) (by omega)).mono ?_
          rintro e w5 ⟨x, rfl, hx0, hx1, hd5, hg5⟩
          dsimp only
          have HK5 := Lib.hid hd5
          have HG5 := Lib.hid (HG2.out.trans hg5)
          have HO5 := Lib.hid (own_low HO2.out hg5 HDK.out)
          have hxs : x = 0 ∨ x = 1 ∨ x = 2 := by omega
          clear hx0 hx1 hd5 hg5 HK2 HG2 HO2 t1 t2
          rcases hxs with rfl | rfl | rfl
          · have HN : Hid (Sheet.Chain (sameB (u : Int) la lb) la.length lb.length 0 0 lm ∧ ∀ z ∈ lm, z.1 < p + 1 ∧ z.2 < q) := Lib.hid ⟨HCM.out.1, fun z hz => by have := HCM.out.2 z hz; omega⟩
            go_wp2_with fail
            exact ⟨⟨p + 1, q, m + 1, lm, by go_num, rfl, by omega, by omega, by omega, HN, HK5.out, HG5.out, HO5.out⟩, by simp [intOf]; omega⟩
          · have HN : Hid (Sheet.Chain (sameB (u : Int) la lb) la.length lb.length 0 0 lm ∧ ∀ z ∈ lm, z.1 < p ∧ z.2 < q + 1) := Lib.hid ⟨HCM.out.1, fun z hz => by have := HCM.out.2 z hz; omega⟩
            go_wp2_with fail
            exact ⟨⟨p, q + 1, m + 1, lm, rfl, by go_num, by omega, by omega, by omega, HN, HK5.out, HG5.out, HO5.out⟩, by simp [intOf]; omega⟩
          ·
            obtain ⟨zb, hzb⟩ : ∃ z, w5.heap.size = z := ⟨_, rfl⟩
            obtain ⟨W6, hW6⟩ : ∃ W, w5.alloc (.cells #[.int .i64 (p : Nat), .int .i64 (q : Nat)] 57) = W := ⟨_, rfl⟩
            have HA6 := Lib.hid (hW6 ▸ Aft.alloc w5 (.cells #[.int .i64 (p : Nat), .int .i64 (q : Nat)] 57))
            have HB6 : Hid (Blk W6 zb 57 #[.int .i64 (p : Nat), .int .i64 (q : Nat)]) := Lib.hid (by rw [← hW6, ← hzb]; exact Blk.new w5 _ _)
            have HG6 := Lib.hid (HG5.out.trans (only_of_aft HA6.out _))
            go_upto_region 18 with fail
            try rw [hW6]
            try rw [hzb]
            clear hW6 hzb
            obtain ⟨pa6, pb6⟩ := HPG.out _ HG6.out
            obtain ⟨ba, oa, hba0, hba, hca⟩ := pa6.at hpl
            obtain ⟨bb, ob, hbb0, hbb, hcb⟩ := pb6.at hql
            obtain ⟨y0, y1⟩ := hca p hpl
            obtain ⟨z0, z1⟩ := hcb q hql
            have HSB : Hid (sameB (u : Int) la lb p q = sameM (u : Int) la[p] lb[q]) := Lib.hid (by
              unfold sameB
              rw [List.getD_eq_getElem?_getD, List.getD_eq_getElem?_getD, List.getElem?_eq_getElem hpl, List.getElem?_eq_getElem hql]
              rfl)
            have hka := HP.out.ka _ (List.getElem_mem hpl)
            have hkb := HP.out.kb _ (List.getElem_mem hql)
            have hra := HP.out.ra
            have hrb := HP.out.rb
            obtain ⟨⟨a1, k1⟩, ela⟩ : ∃ y, la[p] = y := ⟨_, rfl⟩
            obtain ⟨⟨b1, k2⟩, elb⟩ : ∃ y, lb[q] = y := ⟨_, rfl⟩
            rw [ela] at y0 y1 HSB hka
            rw [elb] at z0 z1 HSB hkb
            dsimp only at y0 y1 z0 z1 hka hkb
            have hk14 : (k : Int) ≤ 14 := by have := HK14.out; omega
            have ha1 : -1000 ≤ a1 ∧ a1 ≤ 1000 := by omega
            have hb1 : -1000 ≤ b1 ∧ b1 ≤ 1000 := by omega
            have HCA : Hid (∀ W, Aft W6 W → W.cell? ⟨ba, oa + p * 2, none⟩ = some (.int .i64 a1) ∧ W.cell? ⟨ba, oa + p * 2 + 1, none⟩ = some (.int .i64 k1)) := Lib.hid fun W h => ⟨cellA y0 hba h, cellA y1 hba h⟩
            have HCB : Hid (∀ W, Aft W6 W → W.cell? ⟨bb, ob + q * 2, none⟩ = some (.int .i64 b1) ∧ W.cell? ⟨bb, ob + q * 2 + 1, none⟩ = some (.int .i64 k2)) := Lib.hid fun W h => ⟨cellA z0 hbb h, cellA z1 hbb h⟩
            have ip : (0 : Int) ≤ (p : Int) ∧ (p : Int) < (la.length : Int) := by omega
            have iq : (0 : Int) ≤ (q : Int) ∧ (q : Int) < (lb.length : Int) := by omega
            subst hba0 hbb0
            clear hca hcb y0 y1 z0 z1 hka hkb hra hrb hk14 pa6 pb6 ela elb
            by_cases hkk : k1 = k2
            ·
              obtain ⟨s1, es1⟩ : ∃ z, a1 - b1 = z := ⟨_, rfl⟩
              obtain ⟨s2, es2⟩ : ∃ z, b1 - a1 = z := ⟨_, rfl⟩
              have hs1 : IntKind.i64.wrap (a1 - b1) = s1 := by rw [es1]; exact IntWalk.i64_in _ (by omega)
              have hs2 : IntKind.i64.wrap (b1 - a1) = s2 := by rw [es2]; exact IntWalk.i64_in _ (by omega)
              obtain ⟨sx, esx⟩ : ∃ z, max s1 s2 = z := ⟨_, rfl⟩
              have hsx : (if s1 < s2 then s2 else s1) = sx := by split <;> omega
              by_cases hc0 : sx ≤ (u : Int)
              ·
                have hcl : decide (sx ≤ (u : Int)) = true := by simpa using hc0
                have HN : Hid (Sheet.Chain (sameB (u : Int) la lb) la.length lb.length 0 0 (lm ++ [(p, q)]) ∧ ∀ z ∈ lm ++ [(p, q)], z.1 < p + 1 ∧ z.2 < q + 1) := Lib.hid (by
                  refine ⟨HCM.out.1.snoc (n := p) (m := q) HCM.out.2 hpl hql ?_, fun z hz => ?_⟩
                  · rw [HSB.out]
                    unfold sameM
                    dsimp only
                    rw [decide_eq_true hkk, decide_eq_true (by omega), decide_eq_true (by omega)]
                    rfl
                  · rcases List.mem_append.1 hz with hz | hz
                    · have := HCM.out.2 z hz
                      omega
                    · rw [List.mem_singleton] at hz
                      subst hz
                      exact ⟨by show p < p + 1; omega, by show q < q + 1; omega⟩)
                clear es1 es2 esx hc0
                refine wp_region_valsG (by kernel_rfl) 325 rfl (by kernel_rfl) (by kernel_rfl) [.slice (some ⟨ba, oa, none⟩) la.length c3, .int .i64 (p : Nat), .pointer (some ⟨ba, oa + p * 2, none⟩), .pointer (some ⟨ba, oa + p * 2 + 1, none⟩), .int .i64 k1, .slice (some ⟨bb, ob, none⟩) lb.length c4, .int .i64 (q : Nat), .pointer (some ⟨bb, ob + q * 2, none⟩), .pointer (some ⟨bb, ob + q * 2 + 1, none⟩), .int .i64 k2, .bool true, .bool true, .slice (some ⟨ba, oa, none⟩) la.length c3, .int .i64 (p : Nat), .pointer (some ⟨ba, oa + p * 2, none⟩), .pointer (some ⟨ba, oa + p * 2, none⟩), .int .i64 a1, .slice (some ⟨bb, ob, none⟩) lb.length c4, .int .i64 (q : Nat), .pointer (some ⟨bb, ob + q * 2, none⟩), .pointer (some ⟨bb, ob + q * 2, none⟩), .int .i64 b1, .int .i64 s1, .slice (some ⟨bb, ob, none⟩) lb.length c4, .int .i64 (q : Nat), .pointer (some ⟨bb, ob + q * 2, none⟩), .pointer (some ⟨bb, ob + q * 2, none⟩), .int .i64 b1, .slice (some ⟨ba, oa, none⟩) la.length c3, .int .i64 (p : Nat), .pointer (some ⟨ba, oa + p * 2, none⟩), .pointer (some ⟨ba, oa + p * 2, none⟩), .int .i64 a1, .int .i64 s2, .int .i64 sx, .int .i64 (u : Nat), .bool true, .bool true] rfl (fun W => Aft W6 W) (Aft.drew _) ?st1 ?fi1
                case st1 =>
                  intro i o v ho hv
                  match i, ho, hv with
                  | 0, ho, hv =>
                    cases ho; cases hv
                    refine .inl ⟨rfl, fun a W hk hw K hK => ?_⟩
                    have e10 := hk.same 10 (by decide)
                    exact op_val (by simp [go_sem, ev' e10]) (hK _ hw)
                  | 1, ho, hv =>
                    cases ho; cases hv
                    refine .inl ⟨rfl, fun a W hk hw K hK => ?_⟩
                    have e24 := hk.same 24 (by decide)
                    exact op_val (by simp [go_sem, ev' e24]) (hK _ hw)
                  | 2, ho, hv =>
                    cases ho; cases hv
                    refine .inl ⟨rfl, fun a W hk hw K hK => ?_⟩
                    have e144 := hk.at_ 0 _ 144 _ rfl (by decide) _ rfl rfl rfl
                    have e145 := hk.at_ 1 _ 145 _ rfl (by decide) _ rfl rfl rfl
                    exact op_val (by simp [go_sem, ev' e144, ev' e145, ip]) (hK _ hw)
                  | 3, ho, hv =>
                    cases ho; cases hv
                    refine .inl ⟨rfl, fun a W hk hw K hK => ?_⟩
                    have e146 := hk.at_ 2 _ 146 _ rfl (by decide) _ rfl rfl rfl
                    exact op_val (by simp [go_sem, ev' e146]) (hK _ hw)
                  | 4, ho, hv =>
                    cases ho; cases hv
                    refine .inl ⟨rfl, fun a W hk hw K hK => ?_⟩
                    have e147 := hk.at_ 3 _ 147 _ rfl (by decide) _ rfl rfl rfl
                    exact op_val (by simp [go_sem, ev' e147, (HCA.out W hw).2]) (hK _ hw)
                  | 5, ho, hv =>
                    cases ho; cases hv
                    refine .inl ⟨rfl, fun a W hk hw K hK => ?_⟩
                    have e11 := hk.same 11 (by decide)
                    exact op_val (by simp [go_sem, ev' e11]) (hK _ hw)
                  | 6, ho, hv =>
                    cases ho; cases hv
                    refine .inl ⟨rfl, fun a W hk hw K hK => ?_⟩
                    have e25 := hk.same 25 (by decide)
                    exact op_val (by simp [go_sem, ev' e25]) (hK _ hw)
                  | 7, ho, hv =>
                    cases ho; cases hv
                    refine .inl ⟨rfl, fun a W hk hw K hK => ?_⟩
                    have e149 := hk.at_ 5 _ 149 _ rfl (by decide) _ rfl rfl rfl
                    have e150 := hk.at_ 6 _ 150 _ rfl (by decide) _ rfl rfl rfl
                    exact op_val (by simp [go_sem, ev' e149, ev' e150, iq]) (hK _ hw)
                  | 8, ho, hv =>
                    cases ho; cases hv
                    refine .inl ⟨rfl, fun a W hk hw K hK => ?_⟩
                    have e151 := hk.at_ 7 _ 151 _ rfl (by decide) _ rfl rfl rfl
                    exact op_val (by simp [go_sem, ev' e151]) (hK _ hw)
                  | 9, ho, hv =>
                    cases ho; cases hv
                    refine .inl ⟨rfl, fun a W hk hw K hK => ?_⟩
                    have e152 := hk.at_ 8 _ 152 _ rfl (by decide) _ rfl rfl rfl
                    exact op_val (by simp [go_sem, ev' e152, (HCB.out W hw).2]) (hK _ hw)
                  | 10, ho, hv =>
                    cases ho; cases hv
                    refine .inl ⟨rfl, fun a W hk hw K hK => ?_⟩
                    have e148 := hk.at_ 4 _ 148 _ rfl (by decide) _ rfl rfl rfl
                    have e153 := hk.at_ 9 _ 153 _ rfl (by decide) _ rfl rfl rfl
                    exact op_val (by simp [go_sem, ev' e148, ev' e153, hkk]) (hK _ hw)
                  | 11, ho, hv =>
                    cases ho; cases hv
                    refine .inl ⟨rfl, fun a W hk hw K hK => ?_⟩
                    have e154 := hk.at_ 10 _ 154 _ rfl (by decide) _ rfl rfl rfl
                    exact op_val (by simp [go_sem, ev' e154]) (hK _ hw)
                  | 12, ho, hv =>
                    cases ho; cases hv
                    refine .inl ⟨rfl, fun a W hk hw K hK => ?_⟩
                    have e10 := hk.same 10 (by decide)
                    exact op_val (by simp [go_sem, ev' e10]) (hK _ hw)
                  | 13, ho, hv =>
                    cases ho; cases hv
                    refine .inl ⟨rfl, fun a W hk hw K hK => ?_⟩
                    have e24 := hk.same 24 (by decide)
                    exact op_val (by simp [go_sem, ev' e24]) (hK _ hw)
                  | 14, ho, hv =>
                    cases ho; cases hv
                    refine .inl ⟨rfl, fun a W hk hw K hK => ?_⟩
                    have e156 := hk.at_ 12 _ 156 _ rfl (by decide) _ rfl rfl rfl
                    have e157 := hk.at_ 13 _ 157 _ rfl (by decide) _ rfl rfl rfl
                    exact op_val (by simp [go_sem, ev' e156, ev' e157, ip]) (hK _ hw)
                  | 15, ho, hv =>
                    cases ho; cases hv
                    refine .inl ⟨rfl, fun a W hk hw K hK => ?_⟩
                    have e158 := hk.at_ 14 _ 158 _ rfl (by decide) _ rfl rfl rfl
                    exact op_val (by simp [go_sem, ev' e158]) (hK _ hw)
                  | 16, ho, hv =>
                    cases ho; cases hv
                    refine .inl ⟨rfl, fun a W hk hw K hK => ?_⟩
                    have e159 := hk.at_ 15 _ 159 _ rfl (by decide) _ rfl rfl rfl
                    exact op_val (by simp [go_sem, ev' e159, (HCA.out W hw).1]) (hK _ hw)
                  | 17, ho, hv =>
                    cases ho; cases hv
                    refine .inl ⟨rfl, fun a W hk hw K hK => ?_⟩
                    have e11 := hk.same 11 (by decide)
                    exact op_val (by simp [go_sem, ev' e11]) (hK _ hw)
                  | 18, ho, hv =>
                    cases ho; cases hv
                    refine .inl ⟨rfl, fun a W hk hw K hK => ?_⟩
                    have e25 := hk.same 25 (by decide)
                    exact op_val (by simp [go_sem, ev' e25]) (hK _ hw)
                  | 19, ho, hv =>
                    cases ho; cases hv
                    refine .inl ⟨rfl, fun a W hk hw K hK => ?_⟩
                    have e161 := hk.at_ 17 _ 161 _ rfl (by decide) _ rfl rfl rfl
                    have e162 := hk.at_ 18 _ 162 _ rfl (by decide) _ rfl rfl rfl
                    exact op_val (by simp [go_sem, ev' e161, ev' e162, iq]) (hK _ hw)
                  | 20, ho, hv =>
                    cases ho; cases hv
                    refine .inl ⟨rfl, fun a W hk hw K hK => ?_⟩
                    have e163 := hk.at_ 19 _ 163 _ rfl (by decide) _ rfl rfl rfl
                    exact op_val (by simp [go_sem, ev' e163]) (hK _ hw)
                  | 21, ho, hv =>
                    cases ho; cases hv
                    refine .inl ⟨rfl, fun a W hk hw K hK => ?_⟩
                    have e164 := hk.at_ 20 _ 164 _ rfl (by decide) _ rfl rfl rfl
                    exact op_val (by simp [go_sem, ev' e164, (HCB.out W hw).1]) (hK _ hw)
                  | 22, ho, hv =>
                    cases ho; cases hv
                    refine .inl ⟨rfl, fun a W hk hw K hK => ?_⟩
                    have e160 := hk.at_ 16 _ 160 _ rfl (by decide) _ rfl rfl rfl
                    have e165 := hk.at_ 21 _ 165 _ rfl (by decide) _ rfl rfl rfl
                    exact op_val (by simp [go_sem, ev' e160, ev' e165, hs1]) (hK _ hw)
                  | 23, ho, hv =>
                    cases ho; cases hv
                    refine .inl ⟨rfl, fun a W hk hw K hK => ?_⟩
                    have e11 := hk.same 11 (by decide)
                    exact op_val (by simp [go_sem, ev' e11]) (hK _ hw)
                  | 24, ho, hv =>
                    cases ho; cases hv
                    refine .inl ⟨rfl, fun a W hk hw K hK => ?_⟩
                    have e25 := hk.same 25 (by decide)
                    exact op_val (by simp [go_sem, ev' e25]) (hK _ hw)
                  | 25, ho, hv =>
                    cases ho; cases hv
                    refine .inl ⟨rfl, fun a W hk hw K hK => ?_⟩
                    have e167 := hk.at_ 23 _ 167 _ rfl (by decide) _ rfl rfl rfl
                    have e168 := hk.at_ 24 _ 168 _ rfl (by decide) _ rfl rfl rfl
                    exact op_val (by simp [go_sem, ev' e167, ev' e168, iq]) (hK _ hw)
                  | 26, ho, hv =>
                    cases ho; cases hv
                    refine .inl ⟨rfl, fun a W hk hw K hK => ?_⟩
                    have e169 := hk.at_ 25 _ 169 _ rfl (by decide) _ rfl rfl rfl
                    exact op_val (by simp [go_sem, ev' e169]) (hK _ hw)
                  | 27, ho, hv =>
                    cases ho; cases hv
                    refine .inl ⟨rfl, fun a W hk hw K hK => ?_⟩
                    have e170 := hk.at_ 26 _ 170 _ rfl (by decide) _ rfl rfl rfl
                    exact op_val (by simp [go_sem, ev' e170, (HCB.out W hw).1]) (hK _ hw)
                  | 28, ho, hv =>
                    cases ho; cases hv
                    refine .inl ⟨rfl, fun a W hk hw K hK => ?_⟩
                    have e10 := hk.same 10 (by decide)
                    exact op_val (by simp [go_sem, ev' e10]) (hK _ hw)
                  | 29, ho, hv =>
                    cases ho; cases hv
                    refine .inl ⟨rfl, fun a W hk hw K hK => ?_⟩
                    have e24 := hk.same 24 (by decide)
                    exact op_val (by simp [go_sem, ev' e24]) (hK _ hw)
                  | 30, ho, hv =>
                    cases ho; cases hv
                    refine .inl ⟨rfl, fun a W hk hw K hK => ?_⟩
                    have e172 := hk.at_ 28 _ 172 _ rfl (by decide) _ rfl rfl rfl
                    have e173 := hk.at_ 29 _ 173 _ rfl (by decide) _ rfl rfl rfl
                    exact op_val (by simp [go_sem, ev' e172, ev' e173, ip]) (hK _ hw)
                  | 31, ho, hv =>
                    cases ho; cases hv
                    refine .inl ⟨rfl, fun a W hk hw K hK => ?_⟩
                    have e174 := hk.at_ 30 _ 174 _ rfl (by decide) _ rfl rfl rfl
                    exact op_val (by simp [go_sem, ev' e174]) (hK _ hw)
                  | 32, ho, hv =>
                    cases ho; cases hv
                    refine .inl ⟨rfl, fun a W hk hw K hK => ?_⟩
                    have e175 := hk.at_ 31 _ 175 _ rfl (by decide) _ rfl rfl rfl
                    exact op_val (by simp [go_sem, ev' e175, (HCA.out W hw).1]) (hK _ hw)
                  | 33, ho, hv =>
                    cases ho; cases hv
                    refine .inl ⟨rfl, fun a W hk hw K hK => ?_⟩
                    have e171 := hk.at_ 27 _ 171 _ rfl (by decide) _ rfl rfl rfl
                    have e176 := hk.at_ 32 _ 176 _ rfl (by decide) _ rfl rfl rfl
                    exact op_val (by simp [go_sem, ev' e171, ev' e176, hs2]) (hK _ hw)
                  | 34, ho, hv =>
                    cases ho; cases hv
                    refine .inl ⟨rfl, fun a W hk hw K hK => ?_⟩
                    have e166 := hk.at_ 22 _ 166 _ rfl (by decide) _ rfl rfl rfl
                    have e177 := hk.at_ 33 _ 177 _ rfl (by decide) _ rfl rfl rfl
                    exact op_val (by simp [go_sem, ev' e166, ev' e177, hsx]) (hK _ hw)
                  | 35, ho, hv =>
                    cases ho; cases hv
                    refine .inl ⟨rfl, fun a W hk hw K hK => ?_⟩
                    have e9 := hk.same 9 (by decide)
                    exact op_val (by simp [go_sem, ev' e9]) (hK _ hw)
                  | 36, ho, hv =>
                    cases ho; cases hv
                    refine .inl ⟨rfl, fun a W hk hw K hK => ?_⟩
                    have e178 := hk.at_ 34 _ 178 _ rfl (by decide) _ rfl rfl rfl
                    have e179 := hk.at_ 35 _ 179 _ rfl (by decide) _ rfl rfl rfl
                    exact op_val (by simp [go_sem, ev' e178, ev' e179, hcl]) (hK _ hw)
                  | 37, ho, hv =>
                    cases ho; cases hv
                    refine .inl ⟨rfl, fun a W hk hw K hK => ?_⟩
                    have e155 := hk.at_ 11 _ 155 _ rfl (by decide) _ rfl rfl rfl
                    have e180 := hk.at_ 36 _ 180 _ rfl (by decide) _ rfl rfl rfl
                    exact op_val (by simp [go_sem, ev' e155, ev' e180]) (hK _ hw)
                  | _ + 38, _, hv => cases hv
                intro W hw
                simp only [List.drop_succ_cons, List.drop_zero, List.zip_cons_cons, List.zip_nil_right, putAll]
                simp only [Act.put, List.setIfInBounds_toArray, List.set]
                rename World => W7
                have HA7 := Lib.hid (HA6.out.trans hw)
                have HB7 := Lib.hid (HB6.out.aft hw)
                have c0 := HB7.out.cell 0
                have c1 := HB7.out.cell 1
                have c2 := HB7.out.lt
                simp only [List.getElem?_toArray, List.getElem?_cons_zero, List.getElem?_cons_succ] at c0 c1
                clear hw hs1 hs2 hsx hcl hkk
                (repeat ((fail_if_success at_builtin); first | go_big_skip | go_big_want | go_big_move | go_big_op | go_step | go_upon | go_back))
                have HK8 := Lib.hid ((HK5.out.aft HA7.out).aft (Aft.alloc W7 (.cells #[.int .i64 (p : Nat), .int .i64 (q : Nat)] 57)))
                have HG8 := Lib.hid ((HG5.out.trans (only_of_aft HA7.out _)).trans (only_of_aft (Aft.alloc W7 (.cells #[.int .i64 (p : Nat), .int .i64 (q : Nat)] 57)) _))
                have HO8 := Lib.hid (own_aft (own_aft HO5.out HA7.out) (Aft.alloc W7 (.cells #[.int .i64 (p : Nat), .int .i64 (q : Nat)] 57)))
                obtain ⟨v9, w9, hr9, ho9, hg9, -⟩ := app_rec (enc := enc2) ty49 HO8.out HG8.out.size ((p : Int), (q : Int)) (c := 1) rfl (src_blk (Blk.new W7 57 _)) (fun u hu => by simp [enc2] at hu; rcases hu with rfl | rfl <;> rfl) (by simp; have := chain_len HCM.out.1; omega) (by decide) (by decide)
                refine wpList_val rfl (exec_append rfl rfl rfl hr9) ?_
                have HK9 := Lib.hid (HK8.out.grown hg9 (fun b e => by have := own_ge HO8.out b e; have := HDK.out; omega))
                have HG9 := Lib.hid (only_row HG8.out hg9 (fun b e => own_ge HO8.out b e))
                have HO9 : Hid (w9.ownsRow x5.heap.size 57 2 v9 ((lm ++ [(p, q)]).map castP).length (((lm ++ [(p, q)]).map castP).flatMap enc2)) := Lib.hid (by rw [List.map_append]; exact ho9)
                clear hr9 ho9 hg9 HK8 HG8 HO8 c0 c1 c2
                go_wp2_with fail
                exact ⟨⟨p + 1, q + 1, m + 1, lm ++ [(p, q)], by go_num, by go_num, by omega, by omega, by omega, HN, HK9.out, HG9.out, HO9.out⟩, by simp [intOf]; omega⟩
              ·
                have hcl : decide (sx ≤ (u : Int)) = false := by simpa using hc0
                clear es1 es2 esx hc0
                refine wp_region_valsG (by kernel_rfl) 325 rfl (by kernel_rfl) (by kernel_rfl) [.slice (some ⟨ba, oa, none⟩) la.length c3, .int .i64 (p : Nat), .pointer (some ⟨ba, oa + p * 2, none⟩), .pointer (some ⟨ba, oa + p * 2 + 1, none⟩), .int .i64 k1, .slice (some ⟨bb, ob, none⟩) lb.length c4, .int .i64 (q : Nat), .pointer (some ⟨bb, ob + q * 2, none⟩), .pointer (some ⟨bb, ob + q * 2 + 1, none⟩), .int .i64 k2, .bool true, .bool true, .slice (some ⟨ba, oa, none⟩) la.length c3, .int .i64 (p : Nat), .pointer (some ⟨ba, oa + p * 2, none⟩), .pointer (some ⟨ba, oa + p * 2, none⟩), .int .i64 a1, .slice (some ⟨bb, ob, none⟩) lb.length c4, .int .i64 (q : Nat), .pointer (some ⟨bb, ob + q * 2, none⟩), .pointer (some ⟨bb, ob + q * 2, none⟩), .int .i64 b1, .int .i64 s1, .slice (some ⟨bb, ob, none⟩) lb.length c4, .int .i64 (q : Nat), .pointer (some ⟨bb, ob + q * 2, none⟩), .pointer (some ⟨bb, ob + q * 2, none⟩), .int .i64 b1, .slice (some ⟨ba, oa, none⟩) la.length c3, .int .i64 (p : Nat), .pointer (some ⟨ba, oa + p * 2, none⟩), .pointer (some ⟨ba, oa + p * 2, none⟩), .int .i64 a1, .int .i64 s2, .int .i64 sx, .int .i64 (u : Nat), .bool false, .bool false] rfl (fun W => Aft W6 W) (Aft.drew _) ?st2 ?fi2
                case st2 =>
                  intro i o v ho hv
                  match i, ho, hv with
                  | 0, ho, hv =>
                    cases ho; cases hv
                    refine .inl ⟨rfl, fun a W hk hw K hK => ?_⟩
                    have e10 := hk.same 10 (by decide)
                    exact op_val (by simp [go_sem, ev' e10]) (hK _ hw)
                  | 1, ho, hv =>
                    cases ho; cases hv
                    refine .inl ⟨rfl, fun a W hk hw K hK => ?_⟩
                    have e24 := hk.same 24 (by decide)
                    exact op_val (by simp [go_sem, ev' e24]) (hK _ hw)
                  | 2, ho, hv =>
                    cases ho; cases hv
                    refine .inl ⟨rfl, fun a W hk hw K hK => ?_⟩
                    have e144 := hk.at_ 0 _ 144 _ rfl (by decide) _ rfl rfl rfl
                    have e145 := hk.at_ 1 _ 145 _ rfl (by decide) _ rfl rfl rfl
                    exact op_val (by simp [go_sem, ev' e144, ev' e145, ip]) (hK _ hw)
                  | 3, ho, hv =>
                    cases ho; cases hv
                    refine .inl ⟨rfl, fun a W hk hw K hK => ?_⟩
                    have e146 := hk.at_ 2 _ 146 _ rfl (by decide) _ rfl rfl rfl
                    exact op_val (by simp [go_sem, ev' e146]) (hK _ hw)
                  | 4, ho, hv =>
                    cases ho; cases hv
                    refine .inl ⟨rfl, fun a W hk hw K hK => ?_⟩
                    have e147 := hk.at_ 3 _ 147 _ rfl (by decide) _ rfl rfl rfl
                    exact op_val (by simp [go_sem, ev' e147, (HCA.out W hw).2]) (hK _ hw)
                  | 5, ho, hv =>
                    cases ho; cases hv
                    refine .inl ⟨rfl, fun a W hk hw K hK => ?_⟩
                    have e11 := hk.same 11 (by decide)
                    exact op_val (by simp [go_sem, ev' e11]) (hK _ hw)
                  | 6, ho, hv =>
                    cases ho; cases hv
                    refine .inl ⟨rfl, fun a W hk hw K hK => ?_⟩
                    have e25 := hk.same 25 (by decide)
                    exact op_val (by simp [go_sem, ev' e25]) (hK _ hw)
                  | 7, ho, hv =>
                    cases ho; cases hv
                    refine .inl ⟨rfl, fun a W hk hw K hK => ?_⟩
                    have e149 := hk.at_ 5 _ 149 _ rfl (by decide) _ rfl rfl rfl
                    have e150 := hk.at_ 6 _ 150 _ rfl (by decide) _ rfl rfl rfl
                    exact op_val (by simp [go_sem, ev' e149, ev' e150, iq]) (hK _ hw)
                  | 8, ho, hv =>
                    cases ho; cases hv
                    refine .inl ⟨rfl, fun a W hk hw K hK => ?_⟩
                    have e151 := hk.at_ 7 _ 151 _ rfl (by decide) _ rfl rfl rfl
                    exact op_val (by simp [go_sem, ev' e151]) (hK _ hw)
                  | 9, ho, hv =>
                    cases ho; cases hv
                    refine .inl ⟨rfl, fun a W hk hw K hK => ?_⟩
                    have e152 := hk.at_ 8 _ 152 _ rfl (by decide) _ rfl rfl rfl
                    exact op_val (by simp [go_sem, ev' e152, (HCB.out W hw).2]) (hK _ hw)
                  | 10, ho, hv =>
                    cases ho; cases hv
                    refine .inl ⟨rfl, fun a W hk hw K hK => ?_⟩
                    have e148 := hk.at_ 4 _ 148 _ rfl (by decide) _ rfl rfl rfl
                    have e153 := hk.at_ 9 _ 153 _ rfl (by decide) _ rfl rfl rfl
                    exact op_val (by simp [go_sem, ev' e148, ev' e153, hkk]) (hK _ hw)
                  | 11, ho, hv =>
                    cases ho; cases hv
                    refine .inl ⟨rfl, fun a W hk hw K hK => ?_⟩
                    have e154 := hk.at_ 10 _ 154 _ rfl (by decide) _ rfl rfl rfl
                    exact op_val (by simp [go_sem, ev' e154]) (hK _ hw)
                  | 12, ho, hv =>
                    cases ho; cases hv
                    refine .inl ⟨rfl, fun a W hk hw K hK => ?_⟩
                    have e10 := hk.same 10 (by decide)
                    exact op_val (by simp [go_sem, ev' e10]) (hK _ hw)
                  | 13, ho, hv =>
                    cases ho; cases hv
                    refine .inl ⟨rfl, fun a W hk hw K hK => ?_⟩
                    have e24 := hk.same 24 (by decide)
                    exact op_val (by simp [go_sem, ev' e24]) (hK _ hw)
                  | 14, ho, hv =>
                    cases ho; cases hv
                    refine .inl ⟨rfl, fun a W hk hw K hK => ?_⟩
                    have e156 := hk.at_ 12 _ 156 _ rfl (by decide) _ rfl rfl rfl
                    have e157 := hk.at_ 13 _ 157 _ rfl (by decide) _ rfl rfl rfl
                    exact op_val (by simp [go_sem, ev' e156, ev' e157, ip]) (hK _ hw)
                  | 15, ho, hv =>
                    cases ho; cases hv
                    refine .inl ⟨rfl, fun a W hk hw K hK => ?_⟩
                    have e158 := hk.at_ 14 _ 158 _ rfl (by decide) _ rfl rfl rfl
                    exact op_val (by simp [go_sem, ev' e158]) (hK _ hw)
                  | 16, ho, hv =>
                    cases ho; cases hv
                    refine .inl ⟨rfl, fun a W hk hw K hK => ?_⟩
                    have e159 := hk.at_ 15 _ 159 _ rfl (by decide) _ rfl rfl rfl
                    exact op_val (by simp [go_sem, ev' e159, (HCA.out W hw).1]) (hK _ hw)
                  | 17, ho, hv =>
                    cases ho; cases hv
                    refine .inl ⟨rfl, fun a W hk hw K hK => ?_⟩
                    have e11 := hk.same 11 (by decide)
                    exact op_val (by simp [go_sem, ev' e11]) (hK _ hw)
                  | 18, ho, hv =>
                    cases ho; cases hv
                    refine .inl ⟨rfl, fun a W hk hw K hK => ?_⟩
                    have e25 := hk.same 25 (by decide)
                    exact op_val (by simp [go_sem, ev' e25]) (hK _ hw)
                  | 19, ho, hv =>
                    cases ho; cases hv
                    refine .inl ⟨rfl, fun a W hk hw K hK => ?_⟩
                    have e161 := hk.at_ 17 _ 161 _ rfl (by decide) _ rfl rfl rfl
                    have e162 := hk.at_ 18 _ 162 _ rfl (by decide) _ rfl rfl rfl
                    exact op_val (by simp [go_sem, ev' e161, ev' e162, iq]) (hK _ hw)
                  | 20, ho, hv =>
                    cases ho; cases hv
                    refine .inl ⟨rfl, fun a W hk hw K hK => ?_⟩
                    have e163 := hk.at_ 19 _ 163 _ rfl (by decide) _ rfl rfl rfl
                    exact op_val (by simp [go_sem, ev' e163]) (hK _ hw)
                  | 21, ho, hv =>
                    cases ho; cases hv
                    refine .inl ⟨rfl, fun a W hk hw K hK => ?_⟩
                    have e164 := hk.at_ 20 _ 164 _ rfl (by decide) _ rfl rfl rfl
                    exact op_val (by simp [go_sem, ev' e164, (HCB.out W hw).1]) (hK _ hw)
                  | 22, ho, hv =>
                    cases ho; cases hv
                    refine .inl ⟨rfl, fun a W hk hw K hK => ?_⟩
                    have e160 := hk.at_ 16 _ 160 _ rfl (by decide) _ rfl rfl rfl
                    have e165 := hk.at_ 21 _ 165 _ rfl (by decide) _ rfl rfl rfl
                    exact op_val (by simp [go_sem, ev' e160, ev' e165, hs1]) (hK _ hw)
                  | 23, ho, hv =>
                    cases ho; cases hv
                    refine .inl ⟨rfl, fun a W hk hw K hK => ?_⟩
                    have e11 := hk.same 11 (by decide)
                    exact op_val (by simp [go_sem, ev' e11]) (hK _ hw)
                  | 24, ho, hv =>
                    cases ho; cases hv
                    refine .inl ⟨rfl, fun a W hk hw K hK => ?_⟩
                    have e25 := hk.same 25 (by decide)
                    exact op_val (by simp [go_sem, ev' e25]) (hK _ hw)
                  | 25, ho, hv =>
                    cases ho; cases hv
                    refine .inl ⟨rfl, fun a W hk hw K hK => ?_⟩
                    have e167 := hk.at_ 23 _ 167 _ rfl (by decide) _ rfl rfl rfl
                    have e168 := hk.at_ 24 _ 168 _ rfl (by decide) _ rfl rfl rfl
                    exact op_val (by simp [go_sem, ev' e167, ev' e168, iq]) (hK _ hw)
                  | 26, ho, hv =>
                    cases ho; cases hv
                    refine .inl ⟨rfl, fun a W hk hw K hK => ?_⟩
                    have e169 := hk.at_ 25 _ 169 _ rfl (by decide) _ rfl rfl rfl
                    exact op_val (by simp [go_sem, ev' e169]) (hK _ hw)
                  | 27, ho, hv =>
                    cases ho; cases hv
                    refine .inl ⟨rfl, fun a W hk hw K hK => ?_⟩
                    have e170 := hk.at_ 26 _ 170 _ rfl (by decide) _ rfl rfl rfl
                    exact op_val (by simp [go_sem, ev' e170, (HCB.out W hw).1]) (hK _ hw)
                  | 28, ho, hv =>
                    cases ho; cases hv
                    refine .inl ⟨rfl, fun a W hk hw K hK => ?_⟩
                    have e10 := hk.same 10 (by decide)
                    exact op_val (by simp [go_sem, ev' e10]) (hK _ hw)
                  | 29, ho, hv =>
                    cases ho; cases hv
                    refine .inl ⟨rfl, fun a W hk hw K hK => ?_⟩
                    have e24 := hk.same 24 (by decide)
                    exact op_val (by simp [go_sem, ev' e24]) (hK _ hw)
                  | 30, ho, hv =>
                    cases ho; cases hv
                    refine .inl ⟨rfl, fun a W hk hw K hK => ?_⟩
                    have e172 := hk.at_ 28 _ 172 _ rfl (by decide) _ rfl rfl rfl
                    have e173 := hk.at_ 29 _ 173 _ rfl (by decide) _ rfl rfl rfl
                    exact op_val (by simp [go_sem, ev' e172, ev' e173, ip]) (hK _ hw)
                  | 31, ho, hv =>
                    cases ho; cases hv
                    refine .inl ⟨rfl, fun a W hk hw K hK => ?_⟩
                    have e174 := hk.at_ 30 _ 174 _ rfl (by decide) _ rfl rfl rfl
                    exact op_val (by simp [go_sem, ev' e174]) (hK _ hw)
                  | 32, ho, hv =>
                    cases ho; cases hv
                    refine .inl ⟨rfl, fun a W hk hw K hK => ?_⟩
                    have e175 := hk.at_ 31 _ 175 _ rfl (by decide) _ rfl rfl rfl
                    exact op_val (by simp [go_sem, ev' e175, (HCA.out W hw).1]) (hK _ hw)
                  | 33, ho, hv =>
                    cases ho; cases hv
                    refine .inl ⟨rfl, fun a W hk hw K hK => ?_⟩
                    have e171 := hk.at_ 27 _ 171 _ rfl (by decide) _ rfl rfl rfl
                    have e176 := hk.at_ 32 _ 176 _ rfl (by decide) _ rfl rfl rfl
                    exact op_val (by simp [go_sem, ev' e171, ev' e176, hs2]) (hK _ hw)
                  | 34, ho, hv =>
                    cases ho; cases hv
                    refine .inl ⟨rfl, fun a W hk hw K hK => ?_⟩
                    have e166 := hk.at_ 22 _ 166 _ rfl (by decide) _ rfl rfl rfl
                    have e177 := hk.at_ 33 _ 177 _ rfl (by decide) _ rfl rfl rfl
                    exact op_val (by simp [go_sem, ev' e166, ev' e177, hsx]) (hK _ hw)
                  | 35, ho, hv =>
                    cases ho; cases hv
                    refine .inl ⟨rfl, fun a W hk hw K hK => ?_⟩
                    have e9 := hk.same 9 (by decide)
                    exact op_val (by simp [go_sem, ev' e9]) (hK _ hw)
                  | 36, ho, hv =>
                    cases ho; cases hv
                    refine .inl ⟨rfl, fun a W hk hw K hK => ?_⟩
                    have e178 := hk.at_ 34 _ 178 _ rfl (by decide) _ rfl rfl rfl
                    have e179 := hk.at_ 35 _ 179 _ rfl (by decide) _ rfl rfl rfl
                    exact op_val (by simp [go_sem, ev' e178, ev' e179, hcl]) (hK _ hw)
                  | 37, ho, hv =>
                    cases ho; cases hv
                    refine .inl ⟨rfl, fun a W hk hw K hK => ?_⟩
                    have e155 := hk.at_ 11 _ 155 _ rfl (by decide) _ rfl rfl rfl
                    have e180 := hk.at_ 36 _ 180 _ rfl (by decide) _ rfl rfl rfl
                    exact op_val (by simp [go_sem, ev' e155, ev' e180]) (hK _ hw)
                  | _ + 38, _, hv => cases hv
                intro W hw
                simp only [List.drop_succ_cons, List.drop_zero, List.zip_cons_cons, List.zip_nil_right, putAll]
                simp only [Act.put, List.setIfInBounds_toArray, List.set]
                have HN : Hid (Sheet.Chain (sameB (u : Int) la lb) la.length lb.length 0 0 lm ∧ ∀ z ∈ lm, z.1 < p + 1 ∧ z.2 < q + 1) := Lib.hid ⟨HCM.out.1, fun z hz => by have := HCM.out.2 z hz; omega⟩
                have HA7 := Lib.hid (HA6.out.trans hw)
                clear hw
                go_wp2_with fail
                exact ⟨⟨p + 1, q + 1, m + 1, lm, by go_num, by go_num, by omega, by omega, by omega, HN, HK5.out.aft HA7.out, HG5.out.trans (only_of_aft HA7.out _), own_aft HO5.out HA7.out⟩, by simp [intOf]; omega⟩
            ·
              refine wp_region_valsG (by kernel_rfl) 325 rfl (by kernel_rfl) (by kernel_rfl) [.slice (some ⟨ba, oa, none⟩) la.length c3, .int .i64 (p : Nat), .pointer (some ⟨ba, oa + p * 2, none⟩), .pointer (some ⟨ba, oa + p * 2 + 1, none⟩), .int .i64 k1, .slice (some ⟨bb, ob, none⟩) lb.length c4, .int .i64 (q : Nat), .pointer (some ⟨bb, ob + q * 2, none⟩), .pointer (some ⟨bb, ob + q * 2 + 1, none⟩), .int .i64 k2, .bool false, .bool false, undef, undef, undef, undef, undef, undef, undef, undef, undef, undef, undef, undef, undef, undef, undef, undef, undef, undef, undef, undef, undef, undef, undef, undef, undef, .bool false] rfl (fun W => Aft W6 W) (Aft.drew _) ?st3 ?fi3
              case st3 =>
                intro i o v ho hv
                match i, ho, hv with
                | 0, ho, hv =>
                  cases ho; cases hv
                  refine .inl ⟨rfl, fun a W hk hw K hK => ?_⟩
                  have e10 := hk.same 10 (by decide)
                  exact op_val (by simp [go_sem, ev' e10]) (hK _ hw)
                | 1, ho, hv =>
                  cases ho; cases hv
                  refine .inl ⟨rfl, fun a W hk hw K hK => ?_⟩
                  have e24 := hk.same 24 (by decide)
                  exact op_val (by simp [go_sem, ev' e24]) (hK _ hw)
                | 2, ho, hv =>
                  cases ho; cases hv
                  refine .inl ⟨rfl, fun a W hk hw K hK => ?_⟩
                  have e144 := hk.at_ 0 _ 144 _ rfl (by decide) _ rfl rfl rfl
                  have e145 := hk.at_ 1 _ 145 _ rfl (by decide) _ rfl rfl rfl
                  exact op_val (by simp [go_sem, ev' e144, ev' e145, ip]) (hK _ hw)
                | 3, ho, hv =>
                  cases ho; cases hv
                  refine .inl ⟨rfl, fun a W hk hw K hK => ?_⟩
                  have e146 := hk.at_ 2 _ 146 _ rfl (by decide) _ rfl rfl rfl
                  exact op_val (by simp [go_sem, ev' e146]) (hK _ hw)
                | 4, ho, hv =>
                  cases ho; cases hv
                  refine .inl ⟨rfl, fun a W hk hw K hK => ?_⟩
                  have e147 := hk.at_ 3 _ 147 _ rfl (by decide) _ rfl rfl rfl
                  exact op_val (by simp [go_sem, ev' e147, (HCA.out W hw).2]) (hK _ hw)
                | 5, ho, hv =>
                  cases ho; cases hv
                  refine .inl ⟨rfl, fun a W hk hw K hK => ?_⟩
                  have e11 := hk.same 11 (by decide)
                  exact op_val (by simp [go_sem, ev' e11]) (hK _ hw)
                | 6, ho, hv =>
                  cases ho; cases hv
                  refine .inl ⟨rfl, fun a W hk hw K hK => ?_⟩
                  have e25 := hk.same 25 (by decide)
                  exact op_val (by simp [go_sem, ev' e25]) (hK _ hw)
                | 7, ho, hv =>
                  cases ho; cases hv
                  refine .inl ⟨rfl, fun a W hk hw K hK => ?_⟩
                  have e149 := hk.at_ 5 _ 149 _ rfl (by decide) _ rfl rfl rfl
                  have e150 := hk.at_ 6 _ 150 _ rfl (by decide) _ rfl rfl rfl
                  exact op_val (by simp [go_sem, ev' e149, ev' e150, iq]) (hK _ hw)
                | 8, ho, hv =>
                  cases ho; cases hv
                  refine .inl ⟨rfl, fun a W hk hw K hK => ?_⟩
                  have e151 := hk.at_ 7 _ 151 _ rfl (by decide) _ rfl rfl rfl
                  exact op_val (by simp [go_sem, ev' e151]) (hK _ hw)
                | 9, ho, hv =>
                  cases ho; cases hv
                  refine .inl ⟨rfl, fun a W hk hw K hK => ?_⟩
                  have e152 := hk.at_ 8 _ 152 _ rfl (by decide) _ rfl rfl rfl
                  exact op_val (by simp [go_sem, ev' e152, (HCB.out W hw).2]) (hK _ hw)
                | 10, ho, hv =>
                  cases ho; cases hv
                  refine .inl ⟨rfl, fun a W hk hw K hK => ?_⟩
                  have e148 := hk.at_ 4 _ 148 _ rfl (by decide) _ rfl rfl rfl
                  have e153 := hk.at_ 9 _ 153 _ rfl (by decide) _ rfl rfl rfl
                  exact op_val (by simp [go_sem, ev' e148, ev' e153, hkk]) (hK _ hw)
                | 11, ho, hv =>
                  cases ho; cases hv
                  refine .inl ⟨rfl, fun a W hk hw K hK => ?_⟩
                  have e154 := hk.at_ 10 _ 154 _ rfl (by decide) _ rfl rfl rfl
                  exact op_val (by simp [go_sem, ev' e154]) (hK _ hw)
                | 12, ho, hv => cases ho; cases hv; exact .inr ⟨rfl, rfl⟩
                | 13, ho, hv => cases ho; cases hv; exact .inr ⟨rfl, rfl⟩
                | 14, ho, hv => cases ho; cases hv; exact .inr ⟨rfl, rfl⟩
                | 15, ho, hv => cases ho; cases hv; exact .inr ⟨rfl, rfl⟩
                | 16, ho, hv => cases ho; cases hv; exact .inr ⟨rfl, rfl⟩
                | 17, ho, hv => cases ho; cases hv; exact .inr ⟨rfl, rfl⟩
                | 18, ho, hv => cases ho; cases hv; exact .inr ⟨rfl, rfl⟩
                | 19, ho, hv => cases ho; cases hv; exact .inr ⟨rfl, rfl⟩
                | 20, ho, hv => cases ho; cases hv; exact .inr ⟨rfl, rfl⟩
                | 21, ho, hv => cases ho; cases hv; exact .inr ⟨rfl, rfl⟩
                | 22, ho, hv => cases ho; cases hv; exact .inr ⟨rfl, rfl⟩
                | 23, ho, hv => cases ho; cases hv; exact .inr ⟨rfl, rfl⟩
                | 24, ho, hv => cases ho; cases hv; exact .inr ⟨rfl, rfl⟩
                | 25, ho, hv => cases ho; cases hv; exact .inr ⟨rfl, rfl⟩
                | 26, ho, hv => cases ho; cases hv; exact .inr ⟨rfl, rfl⟩
                | 27, ho, hv => cases ho; cases hv; exact .inr ⟨rfl, rfl⟩
                | 28, ho, hv => cases ho; cases hv; exact .inr ⟨rfl, rfl⟩
                | 29, ho, hv => cases ho; cases hv; exact .inr ⟨rfl, rfl⟩
                | 30, ho, hv => cases ho; cases hv; exact .inr ⟨rfl, rfl⟩
                | 31, ho, hv => cases ho; cases hv; exact .inr ⟨rfl, rfl⟩
                | 32, ho, hv => cases ho; cases hv; exact .inr ⟨rfl, rfl⟩
                | 33, ho, hv => cases ho; cases hv; exact .inr ⟨rfl, rfl⟩
                | 34, ho, hv => cases ho; cases hv; exact .inr ⟨rfl, rfl⟩
                | 35, ho, hv => cases ho; cases hv; exact .inr ⟨rfl, rfl⟩
                | 36, ho, hv => cases ho; cases hv; exact .inr ⟨rfl, rfl⟩
                | 37, ho, hv =>
                  cases ho; cases hv
                  refine .inl ⟨rfl, fun a W hk hw K hK => ?_⟩
                  have e155 := hk.at_ 11 _ 155 _ rfl (by decide) _ rfl rfl rfl
                  have e180 := hk.at_ 36 _ 180 _ rfl (by decide) _ rfl rfl rfl
                  exact op_val (by simp [go_sem, ev' e155, ev' e180]) (hK _ hw)
                | _ + 38, _, hv => cases hv
              intro W hw
              simp only [List.drop_succ_cons, List.drop_zero, List.zip_cons_cons, List.zip_nil_right, putAll]
              simp only [Act.put, List.setIfInBounds_toArray, List.set]
              have HN : Hid (Sheet.Chain (sameB (u : Int) la lb) la.length lb.length 0 0 lm ∧ ∀ z ∈ lm, z.1 < p + 1 ∧ z.2 < q + 1) := Lib.hid ⟨HCM.out.1, fun z hz => by have := HCM.out.2 z hz; omega⟩
              have HA7 := Lib.hid (HA6.out.trans hw)
              clear hw
              go_wp2_with fail
              exact ⟨⟨p + 1, q + 1, m + 1, lm, by go_num, by go_num, by omega, by omega, by omega, HN, HK5.out.aft HA7.out, HG5.out.trans (only_of_aft HA7.out _), own_aft HO5.out HA7.out⟩, by simp [intOf]; omega⟩
        ·
          obtain ⟨Am, cm, hvm, -, hpm, -⟩ := own_flat (enc := enc2) (fun _ => rfl) HO2.out (by simp; have := chain_len HCM.out.1; omega)
          subst hvm
          have PM : Hid (Prs wi Am (lm.map castP)) := Lib.hid hpm
          obtain ⟨pa2, pb2⟩ := HPG.out _ HG2.out
          have HMM := Lib.hid (HMT.out lm wi A3 A4 Am c3 c4 cm HCM.out.1 pa2 pb2 PM.out)
          have hlm : (lm.map castP).length = lm.length := by simp
          rw [hlm]
          have hlt : lm.length ≤ t := HLO.out.all _ HCM.out.1
          have t3 : decide ((t : Int) < (lm.length : Int)) = false := by simp; omega
          have t3N : decide (t < lm.length) = false := by simp; omega
          have t12 : p < la.length → decide (q < lb.length) = false := fun h => by rw [decide_eq_false_iff_not]; intro h2; exact hboth ⟨h, h2⟩
          clear hpm pa2 pb2 hlm hlt
          by_cases hpl : p < la.length
          ·
            have t1 : decide (p < la.length) = true := by simpa using hpl
            have t2 := t12 hpl
            clear t12 hboth
            go_wp2_with (go_at_call 20; refine HMM.out.mono ?_; rintro e w5 ⟨rfl, u5, rfl⟩)
            exact ⟨⟨r + 1, m, by go_num, by omega, by omega, HK2.out.aft (Aft.lat _ u5), HG2.out.trans (only_of_aft (Aft.lat _ u5) _)⟩, by simp [intOf]; omega⟩
          ·
            have t1 : decide (p < la.length) = false := by simpa using hpl
            clear t12 hboth
            go_wp2_with (go_at_call 20; refine HMM.out.mono ?_; rintro e w5 ⟨rfl, u5, rfl⟩)
            exact ⟨⟨r + 1, m, by go_num, by omega, by omega, HK2.out.aft (Aft.lat _ u5), HG2.out.trans (only_of_aft (Aft.lat _ u5) _)⟩, by simp [intOf]; omega⟩
    · have t1 : decide (r < 5) = false := by simpa using hr5
      have t1i : decide ((r : Int) < 5) = false := by simp; omega
      go_upto_region 29 with fail
      clear t1 t1i
      obtain ⟨vs9, hvs9⟩ := OL.out
      have OL9 := Lib.hid (hvs9.low HG.out HDB.out)
      clear hvs9
      by_cases hne : 0 < la.length ∧ 0 < lb.length
      rotate_left
      · by_cases hpl : 0 < la.length
        ·
          have t1 : decide (0 < la.length) = true := by simpa using hpl
          have t1i : decide ((0 : Int) < (la.length : Int)) = true := by simpa using hpl
          have t2 : decide (0 < lb.length) = false := by rw [decide_eq_false_iff_not]; intro h; exact hne ⟨hpl, h⟩
          have t2i : decide ((0 : Int) < (lb.length : Int)) = false := by rw [decide_eq_false_iff_not]; intro h; exact hne ⟨hpl, by omega⟩
          clear hne
          obtain ⟨pa2, pb2⟩ := HPG.out _ HG.out
          have PA2 := Lib.hid pa2
          have PB2 := Lib.hid pb2
          have HY := Lib.hid HK.out.aft0
          clear pa2 pb2
          go_upto_region 37 with fail
          (repeat (first | go_big_skip | go_big_want | go_big_move | go_big_op | go_step | go_upon | go_back))
          go_at_call 25
          refine (match_good lb la (u : Int) _ _ _ _ _ PB2.out PA2.out (edges_swap HE.out)).mono ?_
          rintro e x6 ⟨v6, ml6, rfl, ho, hch, hlo, ha⟩
          dsimp only
          have hml : ml6.length = (ml6.map castP).length := by simp
          rw [hml] at ho
          obtain ⟨B6, d6, rfl, -, -, -⟩ := own_flat (enc := enc2) (fun _ => rfl) ho (by simp; have := chain_len hch; omega)
          rw [← hml]
          have e6 := long_swap HLO.out hlo
          rw [e6]
          clear e6
          replace HY := Lib.hid (HY.out.trans ha)
          replace PA2 := Lib.hid (PA2.out.aft ha)
          replace PB2 := Lib.hid (PB2.out.aft ha)
          clear ho hml hch hlo
          clear ha
          go_upto_region 38 with fail
          apply wp_region_lit
          (repeat (first | go_big_skip | go_big_want | go_big_move | go_big_op | go_step | go_upon | go_back))
          go_at_call 33
          refine (backM_any _ la _ _ PA2.out (edgesE_ok HE.out).2.2.1 (by omega)).mono ?_
          rintro e x7 ⟨vbA, rfl, ho, ha⟩
          dsimp only
          have hbl := backL_len la
          obtain ⟨EA, fA, rfl, -, hp, -⟩ := own_flat (enc := enc2) (fun _ => rfl) ho (by rw [hbl]; omega)
          have QA : Hid (Prs x7 EA (backL la)) := Lib.hid hp
          replace HY := Lib.hid (HY.out.trans ha)
          replace PA2 := Lib.hid (PA2.out.aft ha)
          replace PB2 := Lib.hid (PB2.out.aft ha)
          clear ho hp hbl
          clear ha
          
          (repeat (first | go_big_skip | go_big_want | go_big_move | go_big_op | go_step | go_upon | go_back))
          go_at_call 33
          refine (backM_any _ lb _ _ PB2.out (edgesE_ok HE.out).2.2.2.1 (by omega)).mono ?_
          rintro e x8 ⟨vbB, rfl, ho, ha⟩
          dsimp only
          have hbl := backL_len lb
          obtain ⟨EB, fB, rfl, -, hp, -⟩ := own_flat (enc := enc2) (fun _ => rfl) ho (by rw [hbl]; omega)
          have QB : Hid (Prs x8 EB (backL lb)) := Lib.hid hp
          replace HY := Lib.hid (HY.out.trans ha)
          replace PA2 := Lib.hid (PA2.out.aft ha)
          replace PB2 := Lib.hid (PB2.out.aft ha)
          clear ho hp hbl
          replace QA := Lib.hid (QA.out.aft ha)
          clear ha
          (repeat (first | go_big_skip | go_big_want | go_big_move | go_big_op | go_step | go_upon | go_back))
          go_at_call 25
          refine (match_good (backL la) (backL lb) (u : Int) _ _ _ _ _ QA.out QB.out (edges_back HE.out)).mono ?_
          rintro e x9 ⟨v7, ml7, rfl, ho, hch, hlo, ha⟩
          dsimp only
          have hml : ml7.length = (ml7.map castP).length := by simp
          rw [hml] at ho
          obtain ⟨B7, d7, rfl, -, -, -⟩ := own_flat (enc := enc2) (fun _ => rfl) ho (by simp; have := chain_len hch; rw [backL_len] at this; omega)
          rw [← hml]
          have e7 := long_back HLO.out hlo
          rw [e7]
          clear e7
          replace HY := Lib.hid (HY.out.trans ha)
          replace PA2 := Lib.hid (PA2.out.aft ha)
          replace PB2 := Lib.hid (PB2.out.aft ha)
          clear ho hml hch hlo
          clear ha
          go_upto_region 39 with fail
          clear QA QB
          (repeat (first | go_big_skip | go_big_want | go_big_move | go_big_op | go_step | go_upon | go_back))
          go_at_call 25
          refine (match_good la lb ((u : Int) + 1) _ _ _ _ _ PA2.out PB2.out HE1.out).mono ?_
          rintro e x10 ⟨v8, ml8, rfl, ho, hch, hlo, ha⟩
          dsimp only
          have hml : ml8.length = (ml8.map castP).length := by simp
          rw [hml] at ho
          obtain ⟨B8, d8, rfl, -, -, -⟩ := own_flat (enc := enc2) (fun _ => rfl) ho (by simp; have := chain_len hch; omega)
          rw [← hml]
          have e8 := long_more HLO.out hlo
          have t8 : decide ((t : Int) ≤ (ml8.length : Int)) = true := by simp; exact e8
          have t8N : decide (t ≤ ml8.length) = true := by simp; exact e8
          clear e8
          replace HY := Lib.hid (HY.out.trans ha)
          replace PA2 := Lib.hid (PA2.out.aft ha)
          replace PB2 := Lib.hid (PB2.out.aft ha)
          clear ho hml hch hlo
          clear ha
          go_upto_region 40 with fail
          apply wp_region_lit
          (repeat (first | go_big_skip | go_big_want | go_big_move | go_big_op | go_step | go_upon | go_back))
          go_at_call 15
          refine (awake_any _).mono ?_
          rintro e x11 ⟨rfl, ha⟩
          dsimp only
          have HAW := Lib.hid (HY.out.trans ha)
          clear ha
          (repeat (first | go_big_skip | go_big_want | go_big_move | go_big_op | go_step | go_upon | go_back))
          go_ret
          exact ⟨rfl, HAW.out⟩
        ·
          have t1 : decide (0 < la.length) = false := by simpa using hpl
          have t1i : decide ((0 : Int) < (la.length : Int)) = false := by simpa using hpl
          clear hne
          obtain ⟨pa2, pb2⟩ := HPG.out _ HG.out
          have PA2 := Lib.hid pa2
          have PB2 := Lib.hid pb2
          have HY := Lib.hid HK.out.aft0
          clear pa2 pb2
          go_upto_region 37 with fail
          (repeat (first | go_big_skip | go_big_want | go_big_move | go_big_op | go_step | go_upon | go_back))
          go_at_call 25
          refine (match_good lb la (u : Int) _ _ _ _ _ PB2.out PA2.out (edges_swap HE.out)).mono ?_
          rintro e x12 ⟨v6, ml6, rfl, ho, hch, hlo, ha⟩
          dsimp only
          have hml : ml6.length = (ml6.map castP).length := by simp
          rw [hml] at ho
          obtain ⟨B6, d6, rfl, -, -, -⟩ := own_flat (enc := enc2) (fun _ => rfl) ho (by simp; have := chain_len hch; omega)
          rw [← hml]
          have e6 := long_swap HLO.out hlo
          rw [e6]
          clear e6
          replace HY := Lib.hid (HY.out.trans ha)
          replace PA2 := Lib.hid (PA2.out.aft ha)
          replace PB2 := Lib.hid (PB2.out.aft ha)
          clear ho hml hch hlo
          clear ha
          go_upto_region 38 with fail
          apply wp_region_lit
          (repeat (first | go_big_skip | go_big_want | go_big_move | go_big_op | go_step | go_upon | go_back))
          go_at_call 33
          refine (backM_any _ la _ _ PA2.out (edgesE_ok HE.out).2.2.1 (by omega)).mono ?_
          rintro e x13 ⟨vbA, rfl, ho, ha⟩
          dsimp only
          have hbl := backL_len la
          obtain ⟨EA, fA, rfl, -, hp, -⟩ := own_flat (enc := enc2) (fun _ => rfl) ho (by rw [hbl]; omega)
          have QA : Hid (Prs x13 EA (backL la)) := Lib.hid hp
          replace HY := Lib.hid (HY.out.trans ha)
          replace PA2 := Lib.hid (PA2.out.aft ha)
          replace PB2 := Lib.hid (PB2.out.aft ha)
          clear ho hp hbl
          clear ha
          
          (repeat (first | go_big_skip | go_big_want | go_big_move | go_big_op | go_step | go_upon | go_back))
          go_at_call 33
          refine (backM_any _ lb _ _ PB2.out (edgesE_ok HE.out).2.2.2.1 (by omega)).mono ?_
          rintro e x14 ⟨vbB, rfl, ho, ha⟩
          dsimp only
          have hbl := backL_len lb
          obtain ⟨EB, fB, rfl, -, hp, -⟩ := own_flat (enc := enc2) (fun _ => rfl) ho (by rw [hbl]; omega)
          have QB : Hid (Prs x14 EB (backL lb)) := Lib.hid hp
          replace HY := Lib.hid (HY.out.trans ha)
          replace PA2 := Lib.hid (PA2.out.aft ha)
          replace PB2 := Lib.hid (PB2.out.aft ha)
          clear ho hp hbl
          replace QA := Lib.hid (QA.out.aft ha)
          clear ha
          (repeat (first | go_big_skip | go_big_want | go_big_move | go_big_op | go_step | go_upon | go_back))
          go_at_call 25
          refine (match_good (backL la) (backL lb) (u : Int) _ _ _ _ _ QA.out QB.out (edges_back HE.out)).mono ?_
          rintro e x15 ⟨v7, ml7, rfl, ho, hch, hlo, ha⟩
          dsimp only
          have hml : ml7.length = (ml7.map castP).length := by simp
          rw [hml] at ho
          obtain ⟨B7, d7, rfl, -, -, -⟩ := own_flat (enc := enc2) (fun _ => rfl) ho (by simp; have := chain_len hch; rw [backL_len] at this; omega)
          rw [← hml]
          have e7 := long_back HLO.out hlo
          rw [e7]
          clear e7
          replace HY := Lib.hid (HY.out.trans ha)
          replace PA2 := Lib.hid (PA2.out.aft ha)
          replace PB2 := Lib.hid (PB2.out.aft ha)
          clear ho hml hch hlo
          clear ha
          go_upto_region 39 with fail
          clear QA QB
          (repeat (first | go_big_skip | go_big_want | go_big_move | go_big_op | go_step | go_upon | go_back))
          go_at_call 25
          refine (match_good la lb ((u : Int) + 1) _ _ _ _ _ PA2.out PB2.out HE1.out).mono ?_
          rintro e x16 ⟨v8, ml8, rfl, ho, hch, hlo, ha⟩
          dsimp only
          have hml : ml8.length = (ml8.map castP).length := by simp
          rw [hml] at ho
          obtain ⟨B8, d8, rfl, -, -, -⟩ := own_flat (enc := enc2) (fun _ => rfl) ho (by simp; have := chain_len hch; omega)
          rw [← hml]
          have e8 := long_more HLO.out hlo
          have t8 : decide ((t : Int) ≤ (ml8.length : Int)) = true := by simp; exact e8
          have t8N : decide (t ≤ ml8.length) = true := by simp; exact e8
          clear e8
          replace HY := Lib.hid (HY.out.trans ha)
          replace PA2 := Lib.hid (PA2.out.aft ha)
          replace PB2 := Lib.hid (PB2.out.aft ha)
          clear ho hml hch hlo
          clear ha
          go_upto_region 40 with fail
          apply wp_region_lit
          (repeat (first | go_big_skip | go_big_want | go_big_move | go_big_op | go_step | go_upon | go_back))
          go_at_call 15
          refine (awake_any _).mono ?_
          rintro e x17 ⟨rfl, ha⟩
          dsimp only
          have HAW := Lib.hid (HY.out.trans ha)
          clear ha
          (repeat (first | go_big_skip | go_big_want | go_big_move | go_big_op | go_step | go_upon | go_back))
          go_ret
          exact ⟨rfl, HAW.out⟩
      ·
        have hpl := hne.1
        have hql := hne.2
        have t1 : decide (0 < la.length) = true := by simpa using hpl
        have t1i : decide ((0 : Int) < (la.length : Int)) = true := by simpa using hpl
        have t2 : decide (0 < lb.length) = true := by simpa using hql
        have t2i : decide ((0 : Int) < (lb.length : Int)) = true := by simpa using hql
        clear hne
        go_upto_region 30 with fail
        clear t1 t1i t2 t2i
        obtain ⟨A10, c10, hv10, -, hp10⟩ := OL9.out.lists (by rw [HS9.out.n]; omega) (fun r hr => by rw [HS9.out.m r hr]; omega)
        rw [HS9.out.n] at hv10
        have P9 : Hid (Lists wo A9 lv) := Lib.hid (by cases hv10; exact hp10)
        clear hv10 hp10
        have HCL := Lib.hid (cloneAll_any wo A9 lv c9 P9.out (by rw [HS9.out.n]; omega))
        rw [HS9.out.n] at HCL
        apply wp_region_lit
        (repeat (first | go_big_skip | go_big_want | go_big_move | go_big_op | go_step | go_upon | go_back))
        go_at_call 18
        refine HCL.out.mono ?_
        rintro e x38 ⟨vc, rfl, ⟨vsc, hoc⟩, ha⟩
        dsimp only
        have HKc := Lib.hid (HK.out.aft ha)
        have HGc := Lib.hid (HG.out.trans (only_of_aft ha _))
        have HWO : Hid (dq < wo.heap.size) := Lib.hid HK.out.lt
        have HOC := Lib.hid hoc
        clear hoc ha HCL P9 OL9
        go_upto_region 31 with fail
        apply wp_region_lit
        (repeat (first | go_big_skip | go_big_want | go_big_move | go_big_op | go_step | go_upon | go_back))
        go_at_call 32
        refine (HDR.out _ _ _ HKc.out (by omega) (by omega) (by omega)).mono ?_
        rintro e x39 ⟨xx, rfl, hx0, hx1, hd5, hg5⟩
        dsimp only
        obtain ⟨XX, rfl⟩ := Int.eq_ofNat_of_zero_le hx0
        have hXX : XX < la.length := by omega
        have HKa := Lib.hid hd5
        have HGa := Lib.hid (HGc.out.trans hg5)
        have HOa := Lib.hid (HOC.out.low hg5 HWO.out)
        clear hx0 hx1 hd5 hg5 HKc HGc HOC
        (repeat (first | go_big_skip | go_big_want | go_big_move | go_big_op | go_step | go_upon | go_back))
        go_at_call 32
        refine (HDR.out _ _ _ HKa.out (by omega) (by omega) (by omega)).mono ?_
        rintro e x40 ⟨yy, rfl, hx0, hx1, hd5, hg5⟩
        dsimp only
        obtain ⟨YY, rfl⟩ := Int.eq_ofNat_of_zero_le hx0
        have hYY : YY < lb.length := by omega
        have HKb := Lib.hid hd5
        have HGb := Lib.hid (HGa.out.trans hg5)
        have HOb := Lib.hid (HOa.out.low hg5 HWO.out)
        clear hx0 hx1 hd5 hg5 HKa HGa HOa
        go_upto_region 32 with fail
        have hXl : XX < lv.length := by rw [HS9.out.n]; exact hXX
        have hYl : YY < lv[XX].length := by rw [HS9.out.m _ (List.getElem_mem hXl)]; exact hYY
        have hrl : lv[XX].length = lb.length := HS9.out.m _ (List.getElem_mem hXl)
        obtain ⟨bT, cT, g, cap, hvT, hvg, hbT, hbg⟩ := HOb.out.form hXl hYl
        subst hvT
        have HAT := Lib.hid fun W (h : x40.grownBy W (some dq)) => (HOb.out.low h HWO.out).at hXl hYl rfl hvg
        have HOW := Lib.hid fun W (h : x40.grownBy W (some dq)) => HOb.out.low h HWO.out
        rw [hrl] at HAT
        rw [HS9.out.n]
        have iX : (0 : Int) ≤ (XX : Int) ∧ (XX : Int) < (la.length : Int) := by omega
        have iY : (0 : Int) ≤ (YY : Int) ∧ (YY : Int) < (lb.length : Int) := by omega
        have HRL := Lib.hid hrl
        have HVG := Lib.hid hvg
        clear hrl hvg
        refine wp_region_valsU (by kernel_rfl) 8 325 rfl (by kernel_rfl) (by kernel_rfl) [some (.slice (some ⟨bT, 0, none⟩) la.length cT), some (.int .i64 (XX : Nat)), some (.pointer (some ⟨bT, XX, none⟩)), some (.slice (some ⟨g, 0, none⟩) lb.length cap), some (.int .i64 (YY : Nat)), some (.pointer (some ⟨dq, 0, none⟩)), none, some (.pointer (some ⟨g, YY, none⟩))] (by kernel_rfl) rfl (Dr1 w dq A2 l2 c2 (m + 1 + 1) x40) (Dr1.start HKb.out) ?st4 ?fi4
        case st4 =>
          intro i o v ho hv
          match i, ho, hv with
          | 0, ho, hv =>
            cases ho; cases hv
            refine .inl ⟨rfl, fun done a W hz hd hp hk hw K hK => ?_⟩
            have e29 := hk.same 29 (by decide)
            exact op_val (v := .slice (some ⟨bT, 0, none⟩) la.length cT) (by simp [go_sem, ev' e29]) (hK _ _ (fun u hu => by cases hu; rfl) (hw.keep (by decide) (by decide)))
          | 1, ho, hv =>
            cases ho; cases hv
            refine .inl ⟨rfl, fun done a W hz hd hp hk hw K hK => ?_⟩
            have e30 := hk.same 30 (by decide)
            exact op_val (v := .int .i64 (XX : Nat)) (by simp [go_sem, ev' e30]) (hK _ _ (fun u hu => by cases hu; rfl) (hw.keep (by decide) (by decide)))
          | 2, ho, hv =>
            cases ho; cases hv
            refine .inl ⟨rfl, fun done a W hz hd hp hk hw K hK => ?_⟩
            have e237 := hk.at_ 0 _ 237 _ rfl (by decide) _ rfl rfl rfl
            have e238 := hk.at_ 1 _ 238 _ rfl (by decide) _ rfl rfl rfl
            exact op_val (v := .pointer (some ⟨bT, XX, none⟩)) (by simp [go_sem, ev' e237, ev' e238, iX]) (hK _ _ (fun u hu => by cases hu; rfl) (hw.keep (by decide) (by decide)))
          | 3, ho, hv =>
            cases ho; cases hv
            refine .inl ⟨rfl, fun done a W hz hd hp hk hw K hK => ?_⟩
            have e239 := hk.at_ 2 _ 239 _ rfl (by decide) _ rfl rfl rfl
            exact op_val (v := .slice (some ⟨g, 0, none⟩) lb.length cap) (by simp [go_sem, ev' e239, (HAT.out W hw.grown).2.1]) (hK _ _ (fun u hu => by cases hu; rfl) (hw.keep (by decide) (by decide)))
          | 4, ho, hv =>
            cases ho; cases hv
            refine .inl ⟨rfl, fun done a W hz hd hp hk hw K hK => ?_⟩
            have e31 := hk.same 31 (by decide)
            exact op_val (v := .int .i64 (YY : Nat)) (by simp [go_sem, ev' e31]) (hK _ _ (fun u hu => by cases hu; rfl) (hw.keep (by decide) (by decide)))
          | 5, ho, hv =>
            cases ho; cases hv
            refine .inl ⟨rfl, fun done a W hz hd hp hk hw K hK => ?_⟩
            have e8 := hk.same 8 (by decide)
            exact op_val (v := .pointer (some ⟨dq, 0, none⟩)) (by simp [go_sem, ev' e8]) (hK _ _ (fun u hu => by cases hu; rfl) (hw.keep (by decide) (by decide)))
          | 6, ho, hv =>
            cases ho; cases hv
            refine .inl ⟨rfl, fun done a W hz hd hp hk hw K hK => ?_⟩
            have e242 := hk.at_ 5 _ 242 _ rfl (by decide) _ rfl rfl rfl
            have hdk := hw.deck
            refine op_callN rfl rfl rfl _ rfl (vs := #[.pointer (some ⟨dq, 0, none⟩), .int .i64 4]) (by simp [e242, show ∀ v, a.eval (.const v) = v from fun _ => rfl]) (HDR.out W _ 4 hdk (by cases done 6 <;> simp [n1] <;> omega) (by decide) (by decide)) fun e w' h => ?_
            obtain ⟨x, rfl, hx0, hx1, hd2, hg2⟩ := h
            exact ⟨_, rfl, hK _ _ (fun u hu => by cases hu) (hw.deal ⟨hx0, by omega⟩ hd hd2 hg2 (by rw [hz]; decide))⟩
          | 7, ho, hv =>
            cases ho; cases hv
            refine .inl ⟨rfl, fun done a W hz hd hp hk hw K hK => ?_⟩
            have e240 := hk.at_ 3 _ 240 _ rfl (by decide) _ rfl rfl rfl
            have e241 := hk.at_ 4 _ 241 _ rfl (by decide) _ rfl rfl rfl
            exact op_val (v := .pointer (some ⟨g, YY, none⟩)) (by simp [go_sem, ev' e240, ev' e241, iY]) (hK _ _ (fun u hu => by cases hu; rfl) (hw.keep (by decide) (by decide)))
          | _ + 8, _, hv => cases hv
        intro done us W hus hd hw
        obtain ⟨z, ez, hz0, hz4⟩ := hw.v (hd 6 (by decide))
        have hdk := hw.deck
        have hgw := hw.grown
        clear hw
        obtain ⟨o1, rfl⟩ : ∃ x, us = [x] := List.length_eq_one_iff.1 hus
        simp only [fill, List.drop_succ_cons, List.drop_zero, List.zip_cons_cons, List.zip_nil_right, putAll] at ez ⊢
        simp only [Act.put, List.setIfInBounds_toArray, List.set] at ez ⊢
        have ez : o1 = .int .i64 z := ez
        subst ez
        obtain ⟨-, -, ⟨u9, m1⟩, m2, m3, m4⟩ := HAT.out W hgw
        obtain ⟨W8, hW8⟩ : ∃ X, X = W.setCell ⟨g, YY, none⟩ (.int .i64 z) := ⟨_, rfl⟩
        have HO8 := Lib.hid (m4 z)
        have hgs : W.grownBy (W.setCell ⟨g, YY, none⟩ (.int .i64 z)) (some g) := only_setCell (only_refl W (some g)) (p := ⟨g, YY, none⟩) (.inl rfl) _
        have HG8 := Lib.hid (only_row (HGb.out.trans hgw) hgs (fun b e => by have e : g = b := Option.some.inj e; have := HG.out.size; omega))
        have HK8 := Lib.hid (hdk.grown hgs (fun b e => by have e : g = b := Option.some.inj e; have := HWO.out; omega))
        rw [← hW8] at HO8 HG8 HK8
        have HW8 := Lib.hid hW8
        have HZ := Lib.hid (And.intro hz0 hz4)
        clear hW8 hgs m4 HAT hd hus hdk hgw HKb HGb HOb hz0 hz4
        go_upto_region 33 with fail
        rw [← HW8.out]
        clear m1 m2 m3 HW8
        have HSL := Lib.hid (setL_shape HS9.out hXX YY z)
        have HVL := Lib.hid (setL_val HS9.out HV9.out hXX YY (z := z) (by have := HZ.out; omega))
        obtain ⟨A11, c11, hv11, -, hp11⟩ := HO8.out.lists (by rw [HSL.out.n]; omega) (fun r hr => by rw [HSL.out.m r hr]; omega)
        rw [HSL.out.n] at hv11
        have P11 : Hid (Lists W8 (some ⟨bT, 0, none⟩) (setL lv XX YY z)) := Lib.hid (by injection hv11 with e1 e2 e3; rw [e1]; exact hp11)
        clear hv11 hp11
        obtain ⟨pa8, pb8⟩ := HPG.out _ HG8.out
        have HBA := Lib.hid (bars_all la lb (u : Int) (setL lv XX YY z) A3 A4 (some ⟨bT, 0, none⟩) c3 c4 cT W8 pa8 pb8 P11.out)
        rw [HSL.out.n] at HBA
        clear pa8 pb8
        apply wp_region_lit
        (repeat (first | go_big_skip | go_big_want | go_big_move | go_big_op | go_step | go_upon | go_back))
        go_at_call 23
        refine HBA.out.mono ?_
        rintro e x41 ⟨bv, be, rfl, hbw, ha⟩
        dsimp only
        have HG9 := Lib.hid (HG8.out.trans (only_of_aft ha _))
        have HA9 := Lib.hid (HK8.out.aft0.trans ha)
        have HBL := Lib.hid (bars_less HE.out HSL.out HVL.out HLO.out hbw)
        clear hbw ha HBA P11 HG8 HK8 HO8
        go_upto_region 34 with fail
        rcases HBL.out with ⟨rfl, hbt⟩ | rfl
        ·
          have t3 : decide (bv < (t : Int)) = false := by rw [decide_eq_false_iff_not]; omega
          clear hbt HBL
          go_upto_region 36 with fail
          obtain ⟨pa2, pb2⟩ := HPG.out _ HG9.out
          have PA2 := Lib.hid pa2
          have PB2 := Lib.hid pb2
          have HY := Lib.hid HA9.out
          clear pa2 pb2
          go_upto_region 37 with fail
          (repeat (first | go_big_skip | go_big_want | go_big_move | go_big_op | go_step | go_upon | go_back))
          go_at_call 25
          refine (match_good lb la (u : Int) _ _ _ _ _ PB2.out PA2.out (edges_swap HE.out)).mono ?_
          rintro e x42 ⟨v6, ml6, rfl, ho, hch, hlo, ha⟩
          dsimp only
          have hml : ml6.length = (ml6.map castP).length := by simp
          rw [hml] at ho
          obtain ⟨B6, d6, rfl, -, -, -⟩ := own_flat (enc := enc2) (fun _ => rfl) ho (by simp; have := chain_len hch; omega)
          rw [← hml]
          have e6 := long_swap HLO.out hlo
          rw [e6]
          clear e6
          replace HY := Lib.hid (HY.out.trans ha)
          replace PA2 := Lib.hid (PA2.out.aft ha)
          replace PB2 := Lib.hid (PB2.out.aft ha)
          clear ho hml hch hlo
          clear ha
          go_upto_region 38 with fail
          apply wp_region_lit
          (repeat (first | go_big_skip | go_big_want | go_big_move | go_big_op | go_step | go_upon | go_back))
          go_at_call 33
          refine (backM_any _ la _ _ PA2.out (edgesE_ok HE.out).2.2.1 (by omega)).mono ?_
          rintro e x43 ⟨vbA, rfl, ho, ha⟩
          dsimp only
          have hbl := backL_len la
          obtain ⟨EA, fA, rfl, -, hp, -⟩ := own_flat (enc := enc2) (fun _ => rfl) ho (by rw [hbl]; omega)
          have QA : Hid (Prs x43 EA (backL la)) := Lib.hid hp
          replace HY := Lib.hid (HY.out.trans ha)
          replace PA2 := Lib.hid (PA2.out.aft ha)
          replace PB2 := Lib.hid (PB2.out.aft ha)
          clear ho hp hbl
          clear ha
          
          (repeat (first | go_big_skip | go_big_want | go_big_move | go_big_op | go_step | go_upon | go_back))
          go_at_call 33
          refine (backM_any _ lb _ _ PB2.out (edgesE_ok HE.out).2.2.2.1 (by omega)).mono ?_
          rintro e x44 ⟨vbB, rfl, ho, ha⟩
          dsimp only
          have hbl := backL_len lb
          obtain ⟨EB, fB, rfl, -, hp, -⟩ := own_flat (enc := enc2) (fun _ => rfl) ho (by rw [hbl]; omega)
          have QB : Hid (Prs x44 EB (backL lb)) := Lib.hid hp
          replace HY := Lib.hid (HY.out.trans ha)
          replace PA2 := Lib.hid (PA2.out.aft ha)
          replace PB2 := Lib.hid (PB2.out.aft ha)
          clear ho hp hbl
          replace QA := Lib.hid (QA.out.aft ha)
          clear ha
          (repeat (first | go_big_skip | go_big_want | go_big_move | go_big_op | go_step | go_upon | go_back))
          go_at_call 25
          refine (match_good (backL la) (backL lb) (u : Int) _ _ _ _ _ QA.out QB.out (edges_back HE.out)).mono ?_
          rintro e x45 ⟨v7, ml7, rfl, ho, hch, hlo, ha⟩
          dsimp only
          have hml : ml7.length = (ml7.map castP).length := by simp
          rw [hml] at ho
          obtain ⟨B7, d7, rfl, -, -, -⟩ := own_flat (enc := enc2) (fun _ => rfl) ho (by simp; have := chain_len hch; rw [backL_len] at this; omega)
          rw [← hml]
          have e7 := long_back HLO.out hlo
          rw [e7]
          clear e7
          replace HY := Lib.hid (HY.out.trans ha)
          replace PA2 := Lib.hid (PA2.out.aft ha)
          replace PB2 := Lib.hid (PB2.out.aft ha)
          clear ho hml hch hlo
          clear ha
          go_upto_region 39 with fail
          clear QA QB
          (repeat (first | go_big_skip | go_big_want | go_big_move | go_big_op | go_step | go_upon | go_back))
          go_at_call 25
          refine (match_good la lb ((u : Int) + 1) _ _ _ _ _ PA2.out PB2.out HE1.out).mono ?_
          rintro e x46 ⟨v8, ml8, rfl, ho, hch, hlo, ha⟩
          dsimp only
          have hml : ml8.length = (ml8.map castP).length := by simp
          rw [hml] at ho
          obtain ⟨B8, d8, rfl, -, -, -⟩ := own_flat (enc := enc2) (fun _ => rfl) ho (by simp; have := chain_len hch; omega)
          rw [← hml]
          have e8 := long_more HLO.out hlo
          have t8 : decide ((t : Int) ≤ (ml8.length : Int)) = true := by simp; exact e8
          have t8N : decide (t ≤ ml8.length) = true := by simp; exact e8
          clear e8
          replace HY := Lib.hid (HY.out.trans ha)
          replace PA2 := Lib.hid (PA2.out.aft ha)
          replace PB2 := Lib.hid (PB2.out.aft ha)
          clear ho hml hch hlo
          clear ha
          go_upto_region 40 with fail
          apply wp_region_lit
          (repeat (first | go_big_skip | go_big_want | go_big_move | go_big_op | go_step | go_upon | go_back))
          go_at_call 15
          refine (awake_any _).mono ?_
          rintro e x47 ⟨rfl, ha⟩
          dsimp only
          have HAW := Lib.hid (HY.out.trans ha)
          clear ha
          (repeat (first | go_big_skip | go_big_want | go_big_move | go_big_op | go_step | go_upon | go_back))
          go_ret
          exact ⟨rfl, HAW.out⟩
        ·
          clear HBL
          go_upto_region 36 with fail
          obtain ⟨pa2, pb2⟩ := HPG.out _ HG9.out
          have PA2 := Lib.hid pa2
          have PB2 := Lib.hid pb2
          have HY := Lib.hid HA9.out
          clear pa2 pb2
          go_upto_region 37 with fail
          (repeat (first | go_big_skip | go_big_want | go_big_move | go_big_op | go_step | go_upon | go_back))
          go_at_call 25
          refine (match_good lb la (u : Int) _ _ _ _ _ PB2.out PA2.out (edges_swap HE.out)).mono ?_
          rintro e x48 ⟨v6, ml6, rfl, ho, hch, hlo, ha⟩
          dsimp only
          have hml : ml6.length = (ml6.map castP).length := by simp
          rw [hml] at ho
          obtain ⟨B6, d6, rfl, -, -, -⟩ := own_flat (enc := enc2) (fun _ => rfl) ho (by simp; have := chain_len hch; omega)
          rw [← hml]
          have e6 := long_swap HLO.out hlo
          rw [e6]
          clear e6
          replace HY := Lib.hid (HY.out.trans ha)
          replace PA2 := Lib.hid (PA2.out.aft ha)
          replace PB2 := Lib.hid (PB2.out.aft ha)
          clear ho hml hch hlo
          clear ha
          go_upto_region 38 with fail
          apply wp_region_lit
          (repeat (first | go_big_skip | go_big_want | go_big_move | go_big_op | go_step | go_upon | go_back))
          go_at_call 33
          refine (backM_any _ la _ _ PA2.out (edgesE_ok HE.out).2.2.1 (by omega)).mono ?_
          rintro e x49 ⟨vbA, rfl, ho, ha⟩
          dsimp only
          have hbl := backL_len la
          obtain ⟨EA, fA, rfl, -, hp, -⟩ := own_flat (enc := enc2) (fun _ => rfl) ho (by rw [hbl]; omega)
          have QA : Hid (Prs x49 EA (backL la)) := Lib.hid hp
          replace HY := Lib.hid (HY.out.trans ha)
          replace PA2 := Lib.hid (PA2.out.aft ha)
          replace PB2 := Lib.hid (PB2.out.aft ha)
          clear ho hp hbl
          clear ha
          
          (repeat (first | go_big_skip | go_big_want | go_big_move | go_big_op | go_step | go_upon | go_back))
          go_at_call 33
          refine (backM_any _ lb _ _ PB2.out (edgesE_ok HE.out).2.2.2.1 (by omega)).mono ?_
          rintro e x50 ⟨vbB, rfl, ho, ha⟩
          dsimp only
          have hbl := backL_len lb
          obtain ⟨EB, fB, rfl, -, hp, -⟩ := own_flat (enc := enc2) (fun _ => rfl) ho (by rw [hbl]; omega)
          have QB : Hid (Prs x50 EB (backL lb)) := Lib.hid hp
          replace HY := Lib.hid (HY.out.trans ha)
          replace PA2 := Lib.hid (PA2.out.aft ha)
          replace PB2 := Lib.hid (PB2.out.aft ha)
          clear ho hp hbl
          replace QA := Lib.hid (QA.out.aft ha)
          clear ha
          (repeat (first | go_big_skip | go_big_want | go_big_move | go_big_op | go_step | go_upon | go_back))
          go_at_call 25
          refine (match_good (backL la) (backL lb) (u : Int) _ _ _ _ _ QA.out QB.out (edges_back HE.out)).mono ?_
          rintro e x51 ⟨v7, ml7, rfl, ho, hch, hlo, ha⟩
          dsimp only
          have hml : ml7.length = (ml7.map castP).length := by simp
          rw [hml] at ho
          obtain ⟨B7, d7, rfl, -, -, -⟩ := own_flat (enc := enc2) (fun _ => rfl) ho (by simp; have := chain_len hch; rw [backL_len] at this; omega)
          rw [← hml]
          have e7 := long_back HLO.out hlo
          rw [e7]
          clear e7
          replace HY := Lib.hid (HY.out.trans ha)
          replace PA2 := Lib.hid (PA2.out.aft ha)
          replace PB2 := Lib.hid (PB2.out.aft ha)
          clear ho hml hch hlo
          clear ha
          go_upto_region 39 with fail
          clear QA QB
          (repeat (first | go_big_skip | go_big_want | go_big_move | go_big_op | go_step | go_upon | go_back))
          go_at_call 25
          refine (match_good la lb ((u : Int) + 1) _ _ _ _ _ PA2.out PB2.out HE1.out).mono ?_
          rintro e x52 ⟨v8, ml8, rfl, ho, hch, hlo, ha⟩
          dsimp only
          have hml : ml8.length = (ml8.map castP).length := by simp
          rw [hml] at ho
          obtain ⟨B8, d8, rfl, -, -, -⟩ := own_flat (enc := enc2) (fun _ => rfl) ho (by simp; have := chain_len hch; omega)
          rw [← hml]
          have e8 := long_more HLO.out hlo
          have t8 : decide ((t : Int) ≤ (ml8.length : Int)) = true := by simp; exact e8
          have t8N : decide (t ≤ ml8.length) = true := by simp; exact e8
          clear e8
          replace HY := Lib.hid (HY.out.trans ha)
          replace PA2 := Lib.hid (PA2.out.aft ha)
          replace PB2 := Lib.hid (PB2.out.aft ha)
          clear ho hml hch hlo
          clear ha
          go_upto_region 40 with fail
          apply wp_region_lit
          (repeat (first | go_big_skip | go_big_want | go_big_move | go_big_op | go_step | go_upon | go_back))
          go_at_call 15
          refine (awake_any _).mono ?_
          rintro e x53 ⟨rfl, ha⟩
          dsimp only
          have HAW := Lib.hid (HY.out.trans ha)
          clear ha
          (repeat (first | go_big_skip | go_big_want | go_big_move | go_big_op | go_step | go_upon | go_back))
          go_ret
          exact ⟨rfl, HAW.out⟩
end Go.Proofs
end
