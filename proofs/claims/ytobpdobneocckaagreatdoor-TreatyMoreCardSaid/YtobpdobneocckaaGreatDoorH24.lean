/- Own texts, merged: Mrl. -/
import Derived.Test.YtobpdobneocckaaGreatDoorH23
import Derived.Deep.CutRange
import Derived.BigGuard
set_option linter.unusedSimpArgs false
set_option linter.unusedVariables false
section
/- Walks: the law TreatyMore (7). -/
namespace Go.Proofs
open Go.RowKit

set_option maxRecDepth 100000 in
set_option maxHeartbeats 16000000 in
theorem more_any (w : World) (A : Option Addr) (l : List Int) (c : Nat) (Am : Option Addr) (tr : List Int) (cm : Nat) (hA : Bytes w A l) (hB : Bytes w Am tr) : Calls Tryz.prog 7 #[.slice A l.length c, .slice Am tr.length cm] w fun e w' => e = .returned (.bool true) ∧ Aft w w' := by
  have HA := Lib.hid hA
  have HB := Lib.hid hB
  clear hA hB
  go_enter Tryz.func7, Tryz.ntmps7
  (repeat (first | go_big_skip | go_big_want | go_big_move | go_big_op | go_step | go_upon | go_back))
  go_at_call 21
  refine (of_any A l c w HA.out).mono ?_
  rintro e x ⟨rfl, hdk⟩
  dsimp only
  have HDK := Lib.hid hdk
  clear hdk
  (repeat (first | go_big_skip | go_big_want | go_big_move | go_big_op | go_step | go_upon | go_back))
  go_at_call 20
  refine (made_any w w.heap.size A l c 0 x HDK.out (by omega) 5 (by omega)).mono ?_
  rintro e y ⟨T, a1, a2, a3, a4, c1, c2, c3, c4, rfl, hok, hdk, hgr, htr⟩
  dsimp only
  have HOK := Lib.hid hok
  have ha := Aft.alloc y (.cells #[.int .i64 T.places, .slice a1 T.ways.length c1, .slice a2 T.words.length c2, .slice a3 T.starts.length c3, .slice a4 T.legs.length c4] 27)
  have HAW : Hid (Aft w (y.alloc (.cells #[.int .i64 T.places, .slice a1 T.ways.length c1, .slice a2 T.words.length c2, .slice a3 T.starts.length c3, .slice a4 T.legs.length c4] 27))) := Lib.hid (hdk.2.2.1.trans ha)
  have HT : Hid (TRep (y.alloc (.cells #[.int .i64 T.places, .slice a1 T.ways.length c1, .slice a2 T.words.length c2, .slice a3 T.starts.length c3, .slice a4 T.legs.length c4] 27)) T a1 a2 a3 a4) := Lib.hid (htr _ (only_of_aft ha _))
  have hb := Blk.new y 27 #[.int .i64 T.places, .slice a1 T.ways.length c1, .slice a2 T.words.length c2, .slice a3 T.starts.length c3, .slice a4 T.legs.length c4]
  clear hok hdk hgr htr ha HDK
  go_upto_region 2 with fail
  generalize y.alloc (.cells #[.int .i64 T.places, .slice a1 T.ways.length c1, .slice a2 T.words.length c2, .slice a3 T.starts.length c3, .slice a4 T.legs.length c4] 27) = Y at *
  generalize y.heap.size = D at *
  have HBX := Lib.hid hb
  have HBY := Lib.hid (HB.out.aft HAW.out)
  have hDY := hb.lt
  clear hb
  have HCC := Lib.hid HOK.out.check
  have HRM := Lib.hid HOK.out.room
  obtain ⟨P, hP⟩ := Int.eq_ofNat_of_zero_le (show 0 ≤ T.places by have := HOK.out.p1; omega)
  have hP8 : 2 ≤ P ∧ P ≤ 8 := by have := HOK.out.p1; have := HOK.out.p2; omega
  have HPP := Lib.hid hP
  clear hP
  have hnl := HOK.out.nlegs
  have hnw := HOK.out.nwords
  have hnw1 := HOK.out.nwords1
  (repeat (first | go_big_skip | go_big_want | go_big_move | go_big_op | go_step | go_upon | go_back))
  go_at_call 21
  refine (of_any Am tr cm Y HBY.out).mono ?_
  rintro e x2 ⟨rfl, hdk⟩
  dsimp only
  have HZ := Lib.hid hdk.2.2.1
  have hd6 := hdk.lt
  have HDK := Lib.hid hdk
  clear hdk
  generalize hD6 : Y.heap.size = D6 at *
  have HD6 := Lib.hid hD6
  clear hD6
  obtain ⟨k0, k1, k2, k3, k4⟩ := boxR5 (HBX.out.aft HZ.out)
  have HC15 : Hid (Calls Tryz.prog 15 #[.agg #[.int .i64 T.places, .slice a1 T.ways.length c1, .slice a2 T.words.length c2, .slice a3 T.starts.length c3, .slice a4 T.legs.length c4]] x2 fun e w' => ∃ A c, e = .returned (.tuple #[.slice A (allX T).length c, .int .i64 (allE T)]) ∧ ListsF x2.heap.size w' A (allX T) ∧ Aft x2 w') := Lib.hid ((allTopF_any x2 T a1 a2 a3 a4 c1 c2 c3 c4 (HT.out.aft HZ.out)).mono fun e w' ⟨ha, A, c, he, hl⟩ => ⟨A, c, he, hl, ha⟩)
  obtain ⟨E, hE⟩ : ∃ E, allE T = E := ⟨_, rfl⟩
  obtain ⟨L1, hL1⟩ : ∃ L, allX T = L := ⟨_, rfl⟩
  have HE2 := Lib.hid (allE_two HCC.out)
  rw [hE] at HE2
  simp only [hE, hL1] at HC15
  have HEQ := Lib.hid hE
  have HL1 := Lib.hid hL1
  clear hE hL1
  (repeat (first | go_big_skip | go_big_want | go_big_move | go_big_op | go_step | go_upon | go_back))
  go_at_call 15
  refine HC15.out.mono ?_
  rintro e X1 ⟨A1, e1, rfl, hli, ha⟩
  dsimp only
  have HZ := Lib.hid (HZ.out.trans ha)
  have HDK := Lib.hid (HDK.out.aft ha)
  have HI1 := Lib.hid hli
  generalize x2.heap.size = bs at *
  clear hli ha k0 k1 k2 k3 k4 HC15
  obtain ⟨k0, k1, k2, k3, k4⟩ := boxR5 (HBX.out.aft HZ.out)
  have HC38 := Lib.hid (fewestZ_any X1 T a1 a2 a3 a4 c1 c2 c3 c4 (HT.out.aft HZ.out) HCC.out)
  obtain ⟨F0, hF0⟩ : ∃ F, fewN T = F := ⟨_, rfl⟩
  simp only [hF0] at HC38
  have HF0 := Lib.hid hF0
  clear hF0
  (repeat (first | go_big_skip | go_big_want | go_big_move | go_big_op | go_step | go_upon | go_back))
  go_at_call 38
  refine HC38.out.mono ?_
  rintro e X2 ⟨⟨A2, n2, e2, rfl⟩, ha⟩
  dsimp only
  have HZ := Lib.hid (HZ.out.trans ha)
  have HDK := Lib.hid (HDK.out.aft ha)
  have HI1 := Lib.hid (HI1.out.aft ha)
  have hd6X := HDK.out.lt
  clear ha k0 k1 k2 k3 k4 HC38
  rcases HE2.out with hE0 | hE0
  case' inl =>
    subst hE0
    go_upto_region 7 with fail
  case' inr =>
    subst hE0
    go_upto_region 7 with fail
  all_goals
    refine region7_mrlit T a1 a2 a3 a4 c1 c2 c3 c4 D X2 (HT.out.aft HZ.out) (HBX.out.aft HZ.out) (by have := HRM.out.nways; omega) (by omega) (by have := HRM.out.nstarts2; have := HPP.out; omega) (by omega) (fun l hl => by have := HRM.out.wlen l hl; omega) HRM.out.small.1 _ _ _ _ _ _ _ _ _ _ _ _ _ _ _ _ _ _ _ _ _ _ _ _ _ _ _ _ _ _ _ _ _ _ _ _ _ _ _ _ _ _ _ _ _ _ _ _ _ _ _ _ _ _ _ _ _ _ _ _ _ _ _ _ _ _ _ _ _ _ _ _ _ _ _ _ _ _ _ _ _ _ _ _ _ _ _ _ _ _ _ _ _ _ _ _ _ _ _ _ _ _ _ _ _ _ _ _ _ _ _ _ _ _ _ _ _ _ _ _ _ _ _ _ _ _ _ _ _ _ _ _ _ _ _ _ _ _ _ _ _ _ _ _ _ _ _ _ _ _ _ _ _ _ _ _ _ _ _ _ _ _ _ _ _ _ _ _ _ _ _ _ _ _ _ _ _ _ _ _ _ _ _ _ _ _ _ _ _ _ _ _ _ _ _ _ _ _ _ _ _ _ _ _ _ _ _ _ _ _ _ _ _ _ _ _ _ _ _ _ _ _ _ _ _ _ _ _ _ _ _ _ _ _ _ _ _ _ _ _ _ _ _ _ _ _ _ _ _ _ _ _ _ ?_
    intro u56 u58 u60 b1 b2 b3 d1 d2 d3 d4 f1 f2 f3 f4 g1 g2 g3 g4 h1 h2 h3 h4 j1 j2 j3 j4 s1 s2 s3 s4 v1 v2 v3 W haW x1 x2' x3 o1 o2 o3 hlt hdis hbs hbn
    have HM := Lib.hid (mst_init HDK.out hd6X haW x1 x2' x3 o1 o2 o3 hlt hdis hbs hbn)
    clear haW x1 x2' x3 o1 o2 o3 hlt hdis hbs
    have HBN := Lib.hid hbn
    clear hbn
    -- a word
    obtain ⟨k0, k1, k2, k3, k4⟩ := boxR5 (HBX.out.aft HM.out.aftY)
    (repeat (first | go_big_skip | go_big_want | go_big_move | go_big_op | go_step | go_upon | go_back))
    go_at_call 39
    refine (draw_any Y D6 Am tr cm 0 T.words.length W HM.out.deckAt (by omega) (by omega) (by omega)).mono ?_
    rintro e W1 ⟨kk, rfl, q0, q1, g5, g6⟩
    obtain ⟨wi, rfl⟩ := Int.eq_ofNat_of_zero_le q0
    dsimp only
    have hwi : wi < T.words.length := by omega
    have HM := Lib.hid (HM.out.step (GrownS.of g6 fun k e => by cases e; rfl) g5)
    clear q0 q1 g5 g6 k0 k1 k2 k3 k4
    go_upto_region 9 with fail
    obtain ⟨D1, D2, D3, p1, p2, p3, p4, q1, q2, q3, q4, r1, r2, r3, r4, hm⟩ := HM.out
    obtain ⟨xs, hws⟩ := hm.o1.words
    obtain ⟨g, cap, ep2⟩ := own_block1 hws.own (by omega)
    subst ep2
    have hbx9 := HBX.out.aft hm.deck.2.2.1
    rw [HPP.out] at hbx9
    have hb9 := hm.x1
    rw [HPP.out] at hb9
    have hYX : D6 < X2.heap.size := hd6X
    have hDD : D < D6 := hDY
    refine region9_mrlit Y D6 Am tr cm (0 + 1) T D1 D b1 g cap wi P _ _ _ _ _ _ _ xs W1 hm.deck (by omega) hP8.2 hbx9 hb9 hws (fun h => by have := (hm.lt1 _ h).1; omega) (fun k h => (hm.lt1 k h).2.1) (fun k h => by have := (hm.lt1 _ h).1; have := HD6.out; omega) (by omega) (by have := hm.bs.1; omega) (fun h => (hm.lt1 _ h).2.2.1 rfl) hwi (fun ms hms => by have := HRM.out.wlen ms hms; omega) (by omega) _ _ _ _ _ _ _ _ _ _ _ _ _ _ _ _ _ _ _ _ _ _ _ _ _ _ _ _ _ _ _ _ _ _ _ _ _ _ _ _ _ _ _ _ _ _ _ _ _ _ _ _ _ _ _ _ _ _ _ _ _ _ _ _ _ _ _ _ _ _ _ _ _ _ _ _ _ _ _ _ _ _ _ _ _ _ _ _ _ _ _ _ _ _ _ _ _ _ _ _ _ _ _ _ _ _ _ _ _ _ _ _ _ _ _ _ _ _ _ _ _ _ _ _ _ _ _ _ _ _ _ _ _ _ _ _ _ _ _ _ _ _ _ _ _ _ _ _ _ _ _ _ _ _ _ _ _ _ _ _ _ _ _ _ _ _ _ _ _ _ _ _ _ _ _ _ _ _ _ _ _ _ _ _ _ _ _ _ _ _ _ _ _ _ _ _ _ _ _ _ _ _ _ _ _ _ _ _ _ _ _ _ _ _ _ _ _ _ _ _ _ _ _ _ _ _ _ _ _ _ _ _ _ _ _ _ _ _ _ _ _ _ _ _ _ _ _ _ _ _ ?_
    intro u67 u68 u69 u70 u71 u72 u73 u74 u75 u76 u77 u78 u79 u80 u81 u82 u83 u84 W2 hf
    obtain ⟨ks, es, hks, hes, hm2⟩ := hm.told hf
    have HKS := Lib.hid hks
    have HES := Lib.hid hes
    have HM := Lib.hid hm2
    clear hm hf hws hbx9 hb9 hks hes hm2
    obtain ⟨T1, hT1⟩ : ∃ U, toldT T wi ⟨ks, es⟩ = U := ⟨_, rfl⟩
    rw [hT1] at HM
    have HT1 := Lib.hid hT1
    clear hT1
    -- a place
    obtain ⟨k0, k1, k2, k3, k4⟩ := boxR5 (HBX.out.aft HM.out.aftY)
    (repeat (first | go_big_skip | go_big_want | go_big_move | go_big_op | go_step | go_upon | go_back))
    go_at_call 39
    refine (draw_any Y D6 Am tr cm (0 + 1 + 4 + P) T.places W2 HM.out.deckAt (by omega) (by have := HPP.out; omega) (by have := HPP.out; omega)).mono ?_
    rintro e W3 ⟨kk, rfl, q0, q1, g5, g6⟩
    obtain ⟨x, rfl⟩ := Int.eq_ofNat_of_zero_le q0
    dsimp only
    have hx : x < P := by have := HPP.out; omega
    have HM := Lib.hid (HM.out.step (GrownS.of g6 fun k e => by cases e; rfl) g5)
    clear q0 q1 g5 g6 k0 k1 k2 k3 k4
    go_upto_region 11 with fail
    obtain ⟨D1, D2, D3, p1, p2, p3, p4, q1, q2, q3, q4, r1, r2, r3, r4, hm⟩ := HM.out
    obtain ⟨wA, wc, eq1⟩ := own_slice2 hm.o2.ways.1
    subst eq1
    have hbx9 := HBX.out.aft hm.deck.2.2.1
    rw [HPP.out] at hbx9
    refine region11_mrlit Y D6 Am tr cm (0 + 1 + 4 + P + 1) D D2 b2 T.ways.length x ((x + 1) % P) P wA wc _ _ _ _ _ _ _ _ _ W3 hm.deck (by omega) hP8 hx rfl hbx9 hm.x2 hm.o2.ways (fun h => by have := (hm.lt2 _ h).1; omega) (fun k h => by have := (hm.lt2 _ h).1; have := HD6.out; omega) (by have := hm.bs.2.1; have := HD6.out; omega) (by omega) (by have := hm.bs.2.1; omega) (fun h => (hm.lt2 _ h).2.2.2.1 rfl) (by have := HOK.out.nways; omega) _ _ _ _ _ _ _ _ _ _ _ _ _ _ _ _ _ _ _ _ _ _ _ _ _ _ _ _ _ _ _ _ _ _ _ _ _ _ _ _ _ _ _ _ _ _ _ _ _ _ _ _ _ _ _ _ _ _ _ _ _ _ _ _ _ _ _ _ _ _ _ _ _ _ _ _ _ _ _ _ _ _ _ _ _ _ _ _ _ _ _ _ _ _ _ _ _ _ _ _ _ _ _ _ _ _ _ _ _ _ _ _ _ _ _ _ _ _ _ _ _ _ _ _ _ _ _ _ _ _ _ _ _ _ _ _ _ _ _ _ _ _ _ _ _ _ _ _ _ _ _ _ _ _ _ _ _ _ _ _ _ _ _ _ _ _ _ _ _ _ _ _ _ _ _ _ _ _ _ _ _ _ _ _ _ _ _ _ _ _ _ _ _ _ _ _ _ _ _ _ _ _ _ _ _ _ _ _ _ _ _ _ _ _ _ _ _ _ _ _ _ _ _ _ _ _ _ _ _ _ _ _ _ _ _ _ _ _ _ _ _ _ _ _ _ _ _ _ _ _ ?_
    intro u89 u90 u91 u92 u93 u94 u95 u96 u97 u98 u99 u100 u101 u102 W4 hf
    obtain ⟨kw, hkw, hm2⟩ := hm.way hf
    have HM := Lib.hid hm2
    clear hm hf hbx9 hm2
    -- a kind and an end
    go_upto_region 12 with fail
    have hbx9 := HBX.out.aft HM.out.aftY
    rw [HPP.out] at hbx9
    refine region12_mrlit Y D6 Am tr cm (0 + 1 + 4 + P + 1 + 1) D P _ _ _ _ W4 HM.out.deckAt (by omega) hP8 hbx9 (by omega) _ _ _ _ _ _ _ _ _ _ _ _ _ _ _ _ _ _ _ _ _ _ _ _ _ _ _ _ _ _ _ _ _ _ _ _ _ _ _ _ _ _ _ _ _ _ _ _ _ _ _ _ _ _ _ _ _ _ _ _ _ _ _ _ _ _ _ _ _ _ _ _ _ _ _ _ _ _ _ _ _ _ _ _ _ _ _ _ _ _ _ _ _ _ _ _ _ _ _ _ _ _ _ _ _ _ _ _ _ _ _ _ _ _ _ _ _ _ _ _ _ _ _ _ _ _ _ _ _ _ _ _ _ _ _ _ _ _ _ _ _ _ _ _ _ _ _ _ _ _ _ _ _ _ _ _ _ _ _ _ _ _ _ _ _ _ _ _ _ _ _ _ _ _ _ _ _ _ _ _ _ _ _ _ _ _ _ _ _ _ _ _ _ _ _ _ _ _ _ _ _ _ _ _ _ _ _ _ _ _ _ _ _ _ _ _ _ _ _ _ _ _ _ _ _ _ _ _ _ _ _ _ _ _ _ _ _ _ _ _ _ _ _ _ _ _ _ _ _ _ _ _ ?_
    intro u103 u104 u105 u106 u107 u108 u17 u18 W5 hf
    obtain ⟨kd, en, hkd, hen, e17, e18, hg, hdk⟩ := hf
    have e17 : u17 = .int .i64 kd := e17
    have e18 : u18 = .int .i64 en := e18
    subst e17 e18
    have HM := Lib.hid (HM.out.step hg hdk)
    clear hg hdk hbx9
    rw [← wideP_zero T ⟨x, ((x + 1) % P : Nat), kw⟩ kd en] at HM
    obtain ⟨wy, hwy⟩ : ∃ wy : Way, ⟨x, ((x + 1) % P : Nat), kw⟩ = wy := ⟨_, rfl⟩
    rw [hwy] at HM
    have HWY := Lib.hid hwy
    clear hwy
    obtain ⟨mm, hmm⟩ : ∃ mm, 0 + 1 + 4 + P + 1 + 1 + 2 = mm := ⟨_, rfl⟩
    rw [hmm] at HM
    have HMM : Hid (mm ≤ 1000) := Lib.hid (by rw [← hmm]; omega)
    clear hmm
    have HOL : Hid (∀ i, (h : i < T.words.length) → T.words[i].length ≤ 100 ∧ 1 ≤ T.words[i].length) := Lib.hid fun i h => by have := HRM.out.wlen _ (List.getElem_mem h); omega
    -- all meanings have a kind and an end more
    obtain ⟨D1, D2, D3, p1, p2, p3, p4, q1, q2, q3, q4, r1, r2, r3, r4, hm⟩ := HM.out
    obtain ⟨wA, wc, eq2⟩ := own_slice2 hm.o2.words.choose_spec.own.1
    subst eq2
    obtain ⟨k0, k1, k2, k3, k4⟩ := boxR5 hm.x2
    rw [wideP_len] at k2
    clear hm
    (repeat (first | go_big_skip | go_big_want | go_big_move | go_big_op | go_step | go_upon | go_back))
    clear k0 k1 k2 k3 k4
    go_loopw [112] (fun i wr => ∃ k : Nat, i = .int .i64 k ∧ k ≤ T.words.length ∧ MSt Y D6 Am tr cm mm X2 b1 b2 b3 T1 (wideP T wy kd en k 0) T wr) (fun i _ => T.words.length - (intOf i).toNat)
    case atStart => exact ⟨0, rfl, by omega, HM.out⟩
    case round =>
      rename World => wa
      obtain ⟨k, rfl, hk, hma⟩ := hrel
      have HMA := Lib.hid hma
      clear hma
      by_cases hkl : k < T.words.length
      · have hdec : decide (k < T.words.length) = true := decide_eq_true hkl
        obtain ⟨row, hrow⟩ : ∃ r, T.words[k] = r := ⟨_, rfl⟩
        have HROW := Lib.hid hrow
        have hrl := HOL.out k hkl
        rw [hrow] at hrl
        clear hrow
        obtain ⟨D1, D2, D3, p1, p2, p3, p4, q1, q2, q3, q4, r1, r2, r3, r4, hm⟩ := HMA.out
        obtain ⟨xs, hws⟩ := hm.o2.words
        obtain ⟨g2, cap2, eq2⟩ := own_block1 hws.own (by rw [wideP_len]; omega)
        subst eq2
        obtain ⟨va, hxa, ys, hro⟩ := hws.at_ k (by rw [wideP_len]; exact hkl)
        obtain ⟨gr, rc, eva⟩ := own_block1 hro.own (by rw [wideP_at _ _ _ _ _ _ hkl, HROW.out, widen_len]; omega)
        subst eva
        have c1 := own_cell hws.own hxa
        rw [wideP_at _ _ _ _ _ _ hkl, HROW.out, widen_len] at c1
        obtain ⟨k0, k1, k2, k3, k4⟩ := boxR5 hm.x2
        rw [wideP_len] at k2
        have i1 : (0 : Int) ≤ (k : Int) ∧ (k : Int) < (T.words.length : Int) := by omega
        clear hm hws hxa hro
        (repeat (first | go_big_skip | go_big_want | go_big_move | go_big_op | go_step | go_upon | go_back))
        clear c1 k0 k1 k2 k3 k4
        go_loopw [121] (fun i wr => ∃ q : Nat, i = .int .i64 q ∧ q ≤ row.length ∧ MSt Y D6 Am tr cm mm X2 b1 b2 b3 T1 (wideP T wy kd en k q) T wr) (fun i _ => row.length - (intOf i).toNat)
        case atStart => exact ⟨0, rfl, by omega, HMA.out⟩
        case round =>
          rename World => wb
          obtain ⟨q, rfl, hq, hmb⟩ := hrel
          have HMB := Lib.hid hmb
          clear hmb
          by_cases hql : q < row.length
          · have hdecq : decide (q < row.length) = true := decide_eq_true hql
            obtain ⟨D1, D2, D3, p1, p2, p3, p4, q1, q2, q3, q4, r1, r2, r3, r4, hm⟩ := HMB.out
            obtain ⟨xs, hws⟩ := hm.o2.words
            have hkw : k < (wideP T wy kd en k q).words.length := by rw [wideP_len]; exact hkl
            obtain ⟨g2, cap2, eq2⟩ := own_block1 hws.own (by omega)
            subst eq2
            obtain ⟨va, hxa, ys, hro⟩ := hws.at_ k hkw
            have hms : (wideP T wy kd en k q).words[k] = widen kd en q row := by rw [wideP_at _ _ _ _ _ _ hkl, HROW.out]
            rw [hms] at hro
            obtain ⟨gr, rc, eva⟩ := own_block1 hro.own (by rw [widen_len]; omega)
            subst eva
            have c1 := own_cell hws.own hxa
            rw [widen_len] at c1
            obtain ⟨k0, k1, k2, k3, k4⟩ := boxR5 hm.x2
            rw [wideP_len] at k2
            have i1 : (0 : Int) ≤ (k : Int) ∧ (k : Int) < (T.words.length : Int) := by omega
            have i2 : (0 : Int) ≤ (q : Int) ∧ (q : Int) < (row.length : Int) := by omega
            have hk0 : q < (widen kd en q row).length := by rw [widen_len]; exact hql
            have hmem : row ∈ T.words := by rw [← HROW.out]; exact List.getElem_mem hkl
            have HW20 := Lib.hid (show OWordsX D2 _ _ _ wb ∧ _ from ⟨hws, hxa⟩)
            have HME := Lib.hid (fun (W6 : World) (hf : Fin20 wb D2 (.slice (some ⟨g2, 0, none⟩) (wideP T wy kd en k q).words.length cap2) (wideP T wy kd en k q).words xs k q kd en W6) => hm.mean hf)
            have HKK := Lib.hid (HRM.out.kinds row hmem row[q] (List.getElem_mem hql))
            have HEE := Lib.hid (HRM.out.ends row hmem row[q] (List.getElem_mem hql))
            have HLL := Lib.hid (HRM.out.small.2 row hmem row[q] (List.getElem_mem hql))
            have HMS := Lib.hid hms
            clear hm hws hxa hro hms
            go_upto_region 20 with fail
            refine region20_mrlit D2 _ (wideP T wy kd en k q).words (widen kd en q row) xs gr rc k q kd en wb HW20.out.1 hkw HMS.out HW20.out.2 hk0 (by rw [widen_at _ _ _ _ hql]; exact risesB_iff.1 HKK.out.2) (by rw [widen_at _ _ _ _ hql]; exact risesB_iff.1 HEE.out.2) (by rw [widen_at _ _ _ _ hql]; have := HLL.out; omega) _ _ _ _ _ _ _ _ _ _ _ _ _ _ _ _ _ _ _ _ _ _ _ _ _ _ _ _ _ _ _ _ _ _ _ _ _ _ _ _ _ _ _ _ _ _ _ _ _ _ _ _ _ _ _ _ _ _ _ _ _ _ _ _ _ _ _ _ _ _ _ _ _ _ _ _ _ _ _ _ _ _ _ _ _ _ _ _ _ _ _ _ _ _ _ _ _ _ _ _ _ _ _ _ _ _ _ _ _ _ _ _ _ _ _ _ _ _ _ _ _ _ _ _ _ _ _ _ _ _ _ _ _ _ _ _ _ _ _ _ _ _ _ _ _ _ _ _ _ _ _ _ _ _ _ _ _ _ _ _ _ _ _ _ _ _ _ _ _ _ _ _ _ _ _ _ _ _ _ _ _ _ _ _ _ _ _ _ _ _ _ _ _ _ _ _ _ _ _ _ _ _ _ _ _ _ _ _ _ _ _ _ _ _ _ _ _ _ _ _ _ _ _ _ _ _ _ _ _ _ _ _ _ _ _ _ _ _ _ _ _ _ _ _ _ _ _ _ _ _ _ ?_
            intro u131 u132 u133 u134 u135 u136 u137 u138 u139 u140 u141 u142 u143 u144 u145 u146 u147 u148 W6 hf
            have hm2 := HME.out W6 hf
            rw [wideP_step T wy kd en k q hkl (by rw [HROW.out]; exact hql)] at hm2
            have HM2 := Lib.hid hm2
            clear hf hm2 HW20 HME HKK HEE HLL HMS c1 k0 k1 k2 k3 k4 i1 i2
            (repeat (first | go_big_skip | go_big_want | go_big_move | go_big_op | go_step | go_upon | go_back))
            exact ⟨⟨q + 1, by go_num, by omega, HM2.out⟩, by simp [intOf]; omega⟩
          · have hdecq : decide (q < row.length) = false := decide_eq_false hql
            have hirq : decide ((q : Int) < (row.length : Int)) = false := decide_eq_false (by omega)
            have hqe : q = row.length := by omega
            have HMN : Hid (MSt Y D6 Am tr cm mm X2 b1 b2 b3 T1 (wideP T wy kd en (k + 1) 0) T wb) := Lib.hid (by
              rw [← wideP_next T wy kd en k hkl, HROW.out, ← hqe]
              exact HMB.out)
            clear hqe
            (repeat (first | go_big_skip | go_big_want | go_big_move | go_big_op | go_step | go_upon | go_back))
            exact ⟨⟨k + 1, by go_num, by omega, HMN.out⟩, by simp [intOf]; omega⟩
      · have hdec : decide (k < T.words.length) = false := decide_eq_false hkl
        have hirr : decide ((k : Int) < (T.words.length : Int)) = false := decide_eq_false (by omega)
        have hke : k = T.words.length := by omega
        have HM : Hid (MSt Y D6 Am tr cm mm X2 b1 b2 b3 T1 (wideT T wy kd en) T wa) := Lib.hid (by
          rw [← wideP_all T wy kd en, ← hke]
          exact HMA.out)
        clear hke
        -- legs
        obtain ⟨D1, D2, D3, p1, p2, p3, p4, q1, q2, q3, q4, r1, r2, r3, r4, hm⟩ := HM.out
        obtain ⟨wA, wc, eq2⟩ := own_slice2 hm.o3.legs.1
        subst eq2
        obtain ⟨k0, k1, k2, k3, k4⟩ := boxR5 hm.x3
        clear hm
        (repeat (first | go_big_skip | go_big_want | go_big_move | go_big_op | go_step | go_upon | go_back))
        clear k0 k1 k2 k3 k4 hdec hirr
        go_loopw [154] (fun i wr => ∃ (k : Nat) (os : List Int), i = .int .i64 k ∧ k ≤ T.legs.length ∧ os.length = k ∧ (∀ j, j < k → 0 ≤ os.getD j 0 ∧ os.getD j 0 < T.words.length) ∧ MSt Y D6 Am tr cm (mm + k) X2 b1 b2 b3 T1 (wideT T wy kd en) (strictP T os k) wr) (fun i _ => T.legs.length - (intOf i).toNat)
        case atStart => exact ⟨0, [], rfl, by omega, rfl, fun j h => absurd h (Nat.not_lt_zero _), by rw [strictP_zero]; exact HM.out⟩
        case round =>
          rename World => wb
          obtain ⟨i, os, rfl, hi, hos, hor, hmb⟩ := hrel
          have HMB := Lib.hid hmb
          have HOS := Lib.hid hos
          have HOR := Lib.hid hor
          clear hmb hos hor
          by_cases hil : i < T.legs.length
          · have hdec : decide (i < T.legs.length) = true := decide_eq_true hil
            obtain ⟨D1, D2, D3, p1, p2, p3, p4, q1, q2, q3, q4, r1, r2, r3, r4, hm⟩ := HMB.out
            have hlq : i < (strictP T os i).legs.length := by rw [strictP_len]; exact hil
            obtain ⟨g4, cap4, eq4⟩ := own_block1 hm.o3.legs (by omega)
            subst eq4
            have c1 := own_cell hm.o3.legs (flat_other _ i hlq)
            rw [strictP_at T os i hil] at c1
            obtain ⟨k0, k1, k2, k3, k4⟩ := boxR5 hm.x3
            rw [strictP_len] at k4
            have i1 : (0 : Int) ≤ (i : Int) ∧ (i : Int) < (T.legs.length : Int) := by omega
            by_cases ho : T.legs[i].other = -1
            · rw [ho] at c1
              obtain ⟨ns, hns⟩ := flat_ints (strictP T os i).legs
              have HNS := Lib.hid hns
              have HHM := Lib.hid hm
              have HHO := Lib.hid ho
              have hDD2 : D ≠ D6 := by omega
              clear hm hns ho
              go_upto_region 27 with fail
              refine region27_mrlit Y D6 Am tr cm (mm + i) D D3 b3 g4 T.legs.length cap4 i T.words.length c2 a2 _ _ _ _ _ _ _ _ ((strictP T os i).legs.flatMap encLeg) ns wb HHM.out.deck (by have := HMM.out; omega) (by omega) hil (HBX.out.aft HHM.out.deck.2.2.1) (by have := HHM.out.x3; rw [strictP_len] at this; exact this) (by have := HHM.out.o3.legs; rw [strictP_len] at this; exact this) (fun h => by have := (HHM.out.lt3 _ h).1; omega) (fun k h => by have := (HHM.out.lt3 _ h).1; have := HD6.out; omega) hDD2 (by have := HHM.out.bs.2.2.1; omega) HNS.out _ _ _ _ _ _ _ _ _ _ _ _ _ _ _ _ _ _ _ _ _ _ _ _ _ _ _ _ _ _ _ _ _ _ _ _ _ _ _ _ _ _ _ _ _ _ _ _ _ _ _ _ _ _ _ _ _ _ _ _ _ _ _ _ _ _ _ _ _ _ _ _ _ _ _ _ _ _ _ _ _ _ _ _ _ _ _ _ _ _ _ _ _ _ _ _ _ _ _ _ _ _ _ _ _ _ _ _ _ _ _ _ _ _ _ _ _ _ _ _ _ _ _ _ _ _ _ _ _ _ _ _ _ _ _ _ _ _ _ _ _ _ _ _ _ _ _ _ _ _ _ _ _ _ _ _ _ _ _ _ _ _ _ _ _ _ _ _ _ _ _ _ _ _ _ _ _ _ _ _ _ _ _ _ _ _ _ _ _ _ _ _ _ _ _ _ _ _ _ _ _ _ _ _ _ _ _ _ _ _ _ _ _ _ _ _ _ _ _ _ _ _ _ _ _ _ _ _ _ _ _ _ _ _ _ _ _ _ _ _ _ _ _ _ _ _ _ _ _ _ ?_
              intro u164 u165 u166 u167 u168 u169 u170 u171 u172 u173 W6 hf
              have hf' : Fin27 Y D6 Am tr cm (mm + i) wb D3 g4 (strictP T os i).legs.length cap4 i T.words.length ((strictP T os i).legs.flatMap encLeg) W6 := by rw [strictP_len]; exact hf
              have hm := HHM.out
              obtain ⟨kk, hkk, hm2⟩ := hm.leg hlq hf'
              rw [strictP_put T os i kk HOS.out hil HHO.out] at hm2
              have HM2 := Lib.hid hm2
              have HO2 : Hid (∀ j, j < i + 1 → 0 ≤ (os ++ [(kk : Int)]).getD j 0 ∧ (os ++ [(kk : Int)]).getD j 0 < T.words.length) := Lib.hid fun j hj => by
                by_cases h : j < i
                · rw [getD_snoc HOS.out h]; exact HOR.out j h
                · have e : j = os.length := by have := HOS.out; omega
                  have : (os ++ [(kk : Int)]).getD j 0 = kk := by rw [List.getD_eq_getElem?_getD, e]; simp
                  rw [this]; omega
              clear hm hf hf' hm2 HNS HHM HHO hDD2 c1 k0 k1 k2 k3 k4 i1 hlq hkk
              (repeat (first | go_big_skip | go_big_want | go_big_move | go_big_op | go_step | go_upon | go_back))
              exact ⟨⟨i + 1, os ++ [(kk : Int)], by go_num, by omega, by rw [List.length_append, HOS.out]; rfl, HO2.out, HM2.out⟩, by simp [intOf]; omega⟩
            · obtain ⟨o, ho'⟩ : ∃ o, T.legs[i].other = o := ⟨_, rfl⟩
              rw [ho'] at c1
              have HSK := Lib.hid (strictP_skip T os i HOS.out hil ho)
              rw [ho'] at ho
              have hoe : (o == -1) = false := by simpa using ho
              have HM2 : Hid (MSt Y D6 Am tr cm (mm + (i + 1)) X2 b1 b2 b3 T1 (wideT T wy kd en) (strictP T (os ++ [0]) (i + 1)) wb) := Lib.hid (by
                rw [← HSK.out]
                exact HMB.out.step (GrownS.refl _ _) (HMB.out.deckAt.more (by omega)))
              have HO2 : Hid (∀ j, j < i + 1 → 0 ≤ (os ++ [(0 : Int)]).getD j 0 ∧ (os ++ [(0 : Int)]).getD j 0 < T.words.length) := Lib.hid fun j hj => by
                by_cases h : j < i
                · rw [getD_snoc HOS.out h]; exact HOR.out j h
                · have e : j = os.length := by have := HOS.out; omega
                  have : (os ++ [(0 : Int)]).getD j 0 = 0 := by rw [List.getD_eq_getElem?_getD, e]; simp
                  rw [this]; omega
              clear hm ho ho' HSK hlq
              (repeat (first | go_big_skip | go_big_want | go_big_move | go_big_op | go_step | go_upon | go_back))
              exact ⟨⟨i + 1, os ++ [0], by go_num, by omega, by rw [List.length_append, HOS.out]; rfl, HO2.out, HM2.out⟩, by simp [intOf]; omega⟩
          · have hdec : decide (i < T.legs.length) = false := decide_eq_false hil
            have hirr : decide ((i : Int) < (T.legs.length : Int)) = false := decide_eq_false (by omega)
            have hie : i = T.legs.length := by omega
            have HM : Hid (MSt Y D6 Am tr cm (mm + i) X2 b1 b2 b3 T1 (wideT T wy kd en) (strictT T os) wb) := Lib.hid (by
              rw [← strictP_all T os, ← hie]
              exact HMB.out)
            have hmn := mod_ne hP8.1 hx
            have hpl := more_plain HOK.out hwi (mm := ⟨ks, es⟩) ⟨HKS.out.2.1, HKS.out.2.2⟩ ⟨fun z hz => by have := HES.out.2.1 z hz; have := HPP.out; omega, HES.out.2.2⟩ (wy := wy) (kd := kd) (en := en)
              (by rw [← HWY.out]; have := HPP.out; exact ⟨by show 0 ≤ (x : Int); omega, by show (x : Int) < T.places; omega, by show 0 ≤ (((x + 1) % P : Nat) : Int); omega, by show (((x + 1) % P : Nat) : Int) < T.places; omega, by show (x : Int) ≠ (((x + 1) % P : Nat) : Int); omega, by show 0 ≤ (kw : Int); omega, by show (kw : Int) < 4; omega⟩)
              (by omega) (by have := HPP.out; omega) (os := os) (fun j hj => HOR.out j (by omega))
            rw [HT1.out] at hpl
            obtain ⟨T2, hT2⟩ : ∃ U, wideT T wy kd en = U := ⟨_, rfl⟩
            obtain ⟨T3, hT3⟩ : ∃ U, strictT T os = U := ⟨_, rfl⟩
            rw [hT2, hT3] at hpl HM
            have HPL := Lib.hid hpl
            have HGX := Lib.hid HM.out.grownX
            have HAYW := Lib.hid HM.out.aftY
            obtain ⟨⟨d1, d2, d3, d4, f1, f2, f3, f4, hb1, ht1⟩, ⟨g1, g2, g3, g4, h1, h2, h3, h4, hb2, ht2⟩, ⟨j1, j2, j3, j4, s1, s2, s3, s4, hb3, ht3⟩⟩ := HM.out.three hpl.1.1 hpl.1.2.1 hpl.1.2.2
            have HB1 := Lib.hid hb1
            have HB2 := Lib.hid hb2
            have HB3 := Lib.hid hb3
            have HC1 := Lib.hid (fun (y : World) (hy : Aft wb y) => fewestZ_any y T1 d1 d2 d3 d4 f1 f2 f3 f4 (ht1.aft hy) hpl.1.1.check)
            have HC2 := Lib.hid (fun (y : World) (hy : Aft wb y) => fewestZ_any y T2 g1 g2 g3 g4 h1 h2 h3 h4 (ht2.aft hy) hpl.1.2.1.check)
            have HC3 := Lib.hid (fun (y : World) (hy : Aft wb y) => allZ_any y T1 d1 d2 d3 d4 f1 f2 f3 f4 (ht1.aft hy))
            have HC4 := Lib.hid (fun (y : World) (hy : Aft wb y) => allZ_any y T3 j1 j2 j3 j4 s1 s2 s3 s4 (ht3.aft hy))
            have hF1 := hpl.2.1
            have hF2 := hpl.2.2.1
            rw [HF0.out] at hF1 hF2
            obtain ⟨F1, hF1'⟩ : ∃ F, fewN T1 = F := ⟨_, rfl⟩
            obtain ⟨F2, hF2'⟩ : ∃ F, fewN T2 = F := ⟨_, rfl⟩
            obtain ⟨E1, hE1⟩ : ∃ E, allE T1 = E := ⟨_, rfl⟩
            obtain ⟨E3, hE3⟩ : ∃ E, allE T3 = E := ⟨_, rfl⟩
            obtain ⟨L2, hL2⟩ : ∃ L, allX T1 = L := ⟨_, rfl⟩
            obtain ⟨L3, hL3⟩ : ∃ L, allX T3 = L := ⟨_, rfl⟩
            simp only [hF1'] at HC1 hF1
            simp only [hF2'] at HC2 hF2
            simp only [hE1, hL2] at HC3
            simp only [hE3, hL3] at HC4
            have hm1 : decide (F0 < F1) = false := decide_eq_false (by omega)
            have hm2 : decide (F0 < F2) = false := decide_eq_false (by omega)
            have HE1 := Lib.hid hE1
            have HE3 := Lib.hid hE3
            have HL2 := Lib.hid hL2
            have HL3 := Lib.hid hL3
            have HZZ := Lib.hid (Aft.refl wb)
            clear hie hmn hpl hT2 hT3 hb1 hb2 hb3 ht1 ht2 ht3 hF1 hF2 hF1' hF2' hE1 hE3 hL2 hL3 HMB HOS HOR HM
            obtain ⟨k0, k1, k2, k3, k4⟩ := boxR5 (HB1.out.aft HZZ.out)
            (repeat (first | go_big_skip | go_big_want | go_big_move | go_big_op | go_step | go_upon | go_back))
            go_at_call 38
            refine (HC1.out _ HZZ.out).mono ?_
            rintro e V1 ⟨⟨A3, n3, e3, rfl⟩, ha⟩
            dsimp only
            have HZZ := Lib.hid (HZZ.out.trans ha)
            clear ha k0 k1 k2 k3 k4 HC1
            obtain ⟨k0, k1, k2, k3, k4⟩ := boxR5 (HB2.out.aft HZZ.out)
            (repeat (first | go_big_skip | go_big_want | go_big_move | go_big_op | go_step | go_upon | go_back))
            go_at_call 38
            refine (HC2.out _ HZZ.out).mono ?_
            rintro e V2 ⟨⟨A4, n4, e4, rfl⟩, ha⟩
            dsimp only
            have HZZ := Lib.hid (HZZ.out.trans ha)
            clear ha k0 k1 k2 k3 k4 HC2
            obtain ⟨k0, k1, k2, k3, k4⟩ := boxR5 (HB1.out.aft HZZ.out)
            (repeat (first | go_big_skip | go_big_want | go_big_move | go_big_op | go_step | go_upon | go_back))
            go_at_call 15
            refine (HC3.out _ HZZ.out).mono ?_
            rintro e V3 ⟨A5, e5, rfl, hli, ha⟩
            dsimp only
            have HZZ := Lib.hid (HZZ.out.trans ha)
            have HI2 := Lib.hid hli
            clear ha hli k0 k1 k2 k3 k4 HC3 hm1 hm2
            obtain ⟨k0, k1, k2, k3, k4⟩ := boxR5 (HB3.out.aft HZZ.out)
            (repeat (first | go_big_skip | go_big_want | go_big_move | go_big_op | go_step | go_upon | go_back))
            go_at_call 15
            refine (HC4.out _ HZZ.out).mono ?_
            rintro e V4 ⟨A6, e6, rfl, hli, ha⟩
            dsimp only
            have HZZ := Lib.hid (HZZ.out.trans ha)
            have HI2 := Lib.hid (HI2.out.aft ha)
            have HI3 := Lib.hid hli
            have HI1 := Lib.hid (((HI1.out.grown HGX.out (fun k e => by cases e; omega)).aft HZZ.out).lists)
            clear ha hli k0 k1 k2 k3 k4 HC4
            have HEE1 := Lib.hid (allE_two HPL.out.1.1.check)
            have HEE3 := Lib.hid (allE_two HPL.out.1.2.2.check)
            rw [HE1.out] at HEE1
            rw [HE3.out] at HEE3
            go_upto_region 35 with fail
            first
              | have HEQ0 : Hid (allE T = 0) := HEQ
                have hE3 : E3 = 0 := by rw [← HE3.out]; exact HPL.out.2.2.2.2.1 HEQ.out
                subst hE3
                have hl1 : L1 = allL T := by rw [← HL1.out]; exact allX_zero HEQ.out
                have hl3 : L3 = allL T3 := by rw [← HL3.out]; exact allX_zero HE3.out
                have HM2 : Hid (amongB L3 L1 = true) := Lib.hid (among_sub fun l h => by rw [hl1]; rw [hl3] at h; exact HPL.out.2.2.2.2.2.2 l h)
                rcases HEE1.out with h1 | h1
                · subst h1
                  have hl2 : L2 = allL T1 := by rw [← HL2.out]; exact allX_zero HE1.out
                  have HM1 : Hid (amongB L1 L2 = true) := Lib.hid (among_sub fun l h => by rw [hl2]; rw [hl1] at h; exact HPL.out.2.2.2.2.2.1 l h)
                  clear hl1 hl2 hl3
                  have HN1 := Lib.hid (among_any V4 A1 A5 L1 L2 e1 e5 HI1.out HI2.out)
                  rw [HM1.out] at HN1
                  have HN2 := Lib.hid (fun (y : World) (hy : Aft V4 y) => among_any y A6 A1 L3 L1 e6 e1 (HI3.out.aft hy) (HI1.out.aft hy))
                  simp only [HM2.out] at HN2
                  (repeat (first | go_big_skip | go_big_want | go_big_move | go_big_op | go_step | go_upon | go_back))
                  go_at_call 42
                  refine HN1.out.mono ?_
                  rintro e V5 ⟨rfl, ha⟩
                  dsimp only
                  have HZ4 := Lib.hid ha
                  clear ha HN1
                  (repeat (first | go_big_skip | go_big_want | go_big_move | go_big_op | go_step | go_upon | go_back))
                  go_at_call 42
                  refine (HN2.out _ HZ4.out).mono ?_
                  rintro e V6 ⟨rfl, ha⟩
                  dsimp only
                  have HZ4 := Lib.hid (HZ4.out.trans ha)
                  clear ha HN2
                  (repeat (first | go_big_skip | go_big_want | go_big_move | go_big_op | go_step | go_upon | go_back))
                  go_at_call 9
                  refine (awake_any _).mono ?_
                  rintro e z ⟨rfl, ha⟩
                  dsimp only
                  (repeat (first | go_big_skip | go_big_want | go_big_move | go_big_op | go_step | go_upon | go_back))
                  go_ret
                  exact ⟨rfl, HAW.out.trans (HAYW.out.trans (HZZ.out.trans (HZ4.out.trans ha)))⟩
                · subst h1
                  clear hl1 hl3
                  have HN2 := Lib.hid (among_any V4 A6 A1 L3 L1 e6 e1 HI3.out HI1.out)
                  rw [HM2.out] at HN2
                  (repeat (first | go_big_skip | go_big_want | go_big_move | go_big_op | go_step | go_upon | go_back))
                  go_at_call 42
                  refine HN2.out.mono ?_
                  rintro e V6 ⟨rfl, ha⟩
                  dsimp only
                  have HZ4 := Lib.hid ha
                  clear ha HN2
                  (repeat (first | go_big_skip | go_big_want | go_big_move | go_big_op | go_step | go_upon | go_back))
                  go_at_call 9
                  refine (awake_any _).mono ?_
                  rintro e z ⟨rfl, ha⟩
                  dsimp only
                  (repeat (first | go_big_skip | go_big_want | go_big_move | go_big_op | go_step | go_upon | go_back))
                  go_ret
                  exact ⟨rfl, HAW.out.trans (HAYW.out.trans (HZZ.out.trans (HZ4.out.trans ha)))⟩
              | have HEQ0 : Hid (allE T = 11) := HEQ
                have hE1 : E1 = 11 := by
                  rcases HEE1.out with h1 | h1
                  · exfalso
                    have := HPL.out.2.2.2.1 (HE1.out.trans h1)
                    have h2 := HEQ.out
                    omega
                  · exact h1
                subst hE1
                rcases HEE3.out with h1 | h1
                all_goals
                  subst h1
                  (repeat (first | go_big_skip | go_big_want | go_big_move | go_big_op | go_step | go_upon | go_back))
                  go_at_call 9
                  refine (awake_any _).mono ?_
                  rintro e z ⟨rfl, ha⟩
                  dsimp only
                  (repeat (first | go_big_skip | go_big_want | go_big_move | go_big_op | go_step | go_upon | go_back))
                  go_ret
                  exact ⟨rfl, HAW.out.trans (HAYW.out.trans (HZZ.out.trans ha))⟩
end Go.Proofs
end
