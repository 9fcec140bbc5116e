/- Own texts, merged: Req Rlg Ren0 Rpn Rln Rrd Rev. -/
import Derived.Test.YtfliejmidnnggaaY18
section
/- Walks: equal of two treaties of the same contents. -/
namespace Go.Proofs
open Go.RowKit
attribute [local go_sem] Oper.semAt_some

theorem eqB_self {α : Type} [DecidableEq α] (l : List α) : eqB l l = true := decide_eq_true rfl

set_option maxRecDepth 100000 in
set_option maxHeartbeats 8000000 in
theorem equal_same (w : World) (T : Treaty) (a1 a2 a3 a4 : Option Addr) (c1 c2 c3 c4 : Nat) (e1 e2 e3 e4 : Option Addr) (f1 f2 f3 f4 : Nat) (hT : TRep w T a1 a2 a3 a4) (hU : TRep w T e1 e2 e3 e4) :
    Calls Try.prog 23 #[.agg #[.int .i64 T.places, .slice a1 T.ways.length c1, .slice a2 T.words.length c2, .slice a3 T.starts.length c3, .slice a4 T.legs.length c4], .agg #[.int .i64 T.places, .slice e1 T.ways.length f1, .slice e2 T.words.length f2, .slice e3 T.starts.length f3, .slice e4 T.legs.length f4]] w fun e w' => e = .returned (.bool true) ∧ Aft w w' := by
  have hl2 := hT.words.len (by decide)
  have HT := Lib.hid hT
  have HU := Lib.hid hU
  clear hT hU
  go_enter Try.func23, Try.ntmps23
  go_upto_region 1 with fail
  have hA0 : Aft w ((w.alloc (.cells #[.int .i64 T.places, .slice a1 T.ways.length c1, .slice a2 T.words.length c2, .slice a3 T.starts.length c3, .slice a4 T.legs.length c4] 27)).alloc (.cells #[.int .i64 T.places, .slice e1 T.ways.length f1, .slice e2 T.words.length f2, .slice e3 T.starts.length f3, .slice e4 T.legs.length f4] 27)) := (Aft.alloc _ _).then_alloc _
  have hb1 : Blk ((w.alloc (.cells #[.int .i64 T.places, .slice a1 T.ways.length c1, .slice a2 T.words.length c2, .slice a3 T.starts.length c3, .slice a4 T.legs.length c4] 27)).alloc (.cells #[.int .i64 T.places, .slice e1 T.ways.length f1, .slice e2 T.words.length f2, .slice e3 T.starts.length f3, .slice e4 T.legs.length f4] 27)) w.heap.size 27 #[.int .i64 T.places, .slice a1 T.ways.length c1, .slice a2 T.words.length c2, .slice a3 T.starts.length c3, .slice a4 T.legs.length c4] := (Blk.new _ _ _).alloc _
  have hb2 := Blk.new (w.alloc (.cells #[.int .i64 T.places, .slice a1 T.ways.length c1, .slice a2 T.words.length c2, .slice a3 T.starts.length c3, .slice a4 T.legs.length c4] 27)) 27 #[.int .i64 T.places, .slice e1 T.ways.length f1, .slice e2 T.words.length f2, .slice e3 T.starts.length f3, .slice e4 T.legs.length f4]
  rw [World.size_alloc] at hb2
  generalize ((w.alloc (.cells #[.int .i64 T.places, .slice a1 T.ways.length c1, .slice a2 T.words.length c2, .slice a3 T.starts.length c3, .slice a4 T.legs.length c4] 27)).alloc (.cells #[.int .i64 T.places, .slice e1 T.ways.length f1, .slice e2 T.words.length f2, .slice e3 T.starts.length f3, .slice e4 T.legs.length f4] 27)) = X at *
  have HB1 := Lib.hid hb1
  have HB2 := Lib.hid hb2
  have HA := Lib.hid hA0
  have hp : (T.places != T.places) = false := by simp
  have hX0 := Aft.refl X
  clear hb1 hb2 hA0
  have hB1 := HB1.out.aft hX0
  have hB2 := HB2.out.aft hX0
  have k0 : X.cell? ⟨w.heap.size, 0, none⟩ = some (.int .i64 T.places) := hB1.cell 0
  have k1 : X.cell? ⟨w.heap.size, 1, none⟩ = some (.slice a1 T.ways.length c1) := hB1.cell 1
  have k2 : X.cell? ⟨w.heap.size, 2, none⟩ = some (.slice a2 T.words.length c2) := hB1.cell 2
  have k3 : X.cell? ⟨w.heap.size, 3, none⟩ = some (.slice a3 T.starts.length c3) := hB1.cell 3
  have k4 : X.cell? ⟨w.heap.size, 4, none⟩ = some (.slice a4 T.legs.length c4) := hB1.cell 4
  have m0 : X.cell? ⟨w.heap.size + 1, 0, none⟩ = some (.int .i64 T.places) := hB2.cell 0
  have m1 : X.cell? ⟨w.heap.size + 1, 1, none⟩ = some (.slice e1 T.ways.length f1) := hB2.cell 1
  have m2 : X.cell? ⟨w.heap.size + 1, 2, none⟩ = some (.slice e2 T.words.length f2) := hB2.cell 2
  have m3 : X.cell? ⟨w.heap.size + 1, 3, none⟩ = some (.slice e3 T.starts.length f3) := hB2.cell 3
  have m4 : X.cell? ⟨w.heap.size + 1, 4, none⟩ = some (.slice e4 T.legs.length f4) := hB2.cell 4
  clear hB1 hB2
  clear hX0
  (repeat (first | go_big_skip | go_big_want | go_big_move | go_big_op | go_step | go_upon | go_back))
  go_at_call 76
  refine (equalWays_same _ _ _ _ _ X (HT.out.aft HA.out).ways (HU.out.aft HA.out).ways).mono ?_
  rintro e Y ⟨rfl, haY⟩
  dsimp only
  have HAY := Lib.hid haY
  clear k0 k1 k2 k3 k4 m0 m1 m2 m3 m4
  have hB1 := HB1.out.aft haY
  have hB2 := HB2.out.aft haY
  have k0 : Y.cell? ⟨w.heap.size, 0, none⟩ = some (.int .i64 T.places) := hB1.cell 0
  have k1 : Y.cell? ⟨w.heap.size, 1, none⟩ = some (.slice a1 T.ways.length c1) := hB1.cell 1
  have k2 : Y.cell? ⟨w.heap.size, 2, none⟩ = some (.slice a2 T.words.length c2) := hB1.cell 2
  have k3 : Y.cell? ⟨w.heap.size, 3, none⟩ = some (.slice a3 T.starts.length c3) := hB1.cell 3
  have k4 : Y.cell? ⟨w.heap.size, 4, none⟩ = some (.slice a4 T.legs.length c4) := hB1.cell 4
  have m0 : Y.cell? ⟨w.heap.size + 1, 0, none⟩ = some (.int .i64 T.places) := hB2.cell 0
  have m1 : Y.cell? ⟨w.heap.size + 1, 1, none⟩ = some (.slice e1 T.ways.length f1) := hB2.cell 1
  have m2 : Y.cell? ⟨w.heap.size + 1, 2, none⟩ = some (.slice e2 T.words.length f2) := hB2.cell 2
  have m3 : Y.cell? ⟨w.heap.size + 1, 3, none⟩ = some (.slice e3 T.starts.length f3) := hB2.cell 3
  have m4 : Y.cell? ⟨w.heap.size + 1, 4, none⟩ = some (.slice e4 T.legs.length f4) := hB2.cell 4
  clear hB1 hB2
  clear haY
  (repeat (first | go_big_skip | go_big_want | go_big_move | go_big_op | go_step | go_upon | go_back))
  go_at_call 20
  refine (kitEqual_int _ _ _ _ _ _ Y (HT.out.aft (HA.out.trans HAY.out)).starts (HU.out.aft (HA.out.trans HAY.out)).starts).mono ?_
  rintro e Z ⟨rfl, haZ⟩
  rw [eqB_self]
  dsimp only
  have HAZ := Lib.hid (HAY.out.trans haZ)
  clear k0 k1 k2 k3 k4 m0 m1 m2 m3 m4
  have hB1 := HB1.out.aft HAZ.out
  have hB2 := HB2.out.aft HAZ.out
  have k0 : Z.cell? ⟨w.heap.size, 0, none⟩ = some (.int .i64 T.places) := hB1.cell 0
  have k1 : Z.cell? ⟨w.heap.size, 1, none⟩ = some (.slice a1 T.ways.length c1) := hB1.cell 1
  have k2 : Z.cell? ⟨w.heap.size, 2, none⟩ = some (.slice a2 T.words.length c2) := hB1.cell 2
  have k3 : Z.cell? ⟨w.heap.size, 3, none⟩ = some (.slice a3 T.starts.length c3) := hB1.cell 3
  have k4 : Z.cell? ⟨w.heap.size, 4, none⟩ = some (.slice a4 T.legs.length c4) := hB1.cell 4
  have m0 : Z.cell? ⟨w.heap.size + 1, 0, none⟩ = some (.int .i64 T.places) := hB2.cell 0
  have m1 : Z.cell? ⟨w.heap.size + 1, 1, none⟩ = some (.slice e1 T.ways.length f1) := hB2.cell 1
  have m2 : Z.cell? ⟨w.heap.size + 1, 2, none⟩ = some (.slice e2 T.words.length f2) := hB2.cell 2
  have m3 : Z.cell? ⟨w.heap.size + 1, 3, none⟩ = some (.slice e3 T.starts.length f3) := hB2.cell 3
  have m4 : Z.cell? ⟨w.heap.size + 1, 4, none⟩ = some (.slice e4 T.legs.length f4) := hB2.cell 4
  clear hB1 hB2
  clear haZ
  (repeat (first | go_big_skip | go_big_want | go_big_move | go_big_op | go_step | go_upon | go_back))
  go_at_call 77
  refine (equalLegs_same _ _ _ _ _ Z (HT.out.aft (HA.out.trans HAZ.out)).legs (HU.out.aft (HA.out.trans HAZ.out)).legs).mono ?_
  rintro e V ⟨rfl, haV⟩
  dsimp only
  have HAV := Lib.hid (HAZ.out.trans haV)
  have hq : ((T.words.length : Int) != (T.words.length : Int)) = false := by simp
  clear k0 k1 k2 k3 k4 m0 m1 m2 m3 m4
  clear haV
  have hB1 := HB1.out.aft HAV.out
  have hB2 := HB2.out.aft HAV.out
  have k2 : V.cell? ⟨w.heap.size, 2, none⟩ = some (.slice a2 T.words.length c2) := hB1.cell 2
  have m2 : V.cell? ⟨w.heap.size + 1, 2, none⟩ = some (.slice e2 T.words.length f2) := hB2.cell 2
  clear hB1 hB2
  (repeat (first | go_big_skip | go_big_want | go_big_move | go_big_op | go_step | go_upon | go_back))
  clear k2 m2
  go_loopw [48] (fun i wr => ∃ k : Nat, i = .int .i64 k ∧ k ≤ T.words.length ∧ Aft X wr) (fun i _ => T.words.length - (intOf i).toNat)
  case atStart => exact ⟨0, rfl, by omega, HAV.out⟩
  case round =>
    obtain ⟨k, rfl, hk, ha⟩ := hrel
    have HAX := Lib.hid ha
    have hB1 := HB1.out.aft ha
    have hB2 := HB2.out.aft ha
    have k2 : wr.cell? ⟨w.heap.size, 2, none⟩ = some (.slice a2 T.words.length c2) := hB1.cell 2
    have m2 : wr.cell? ⟨w.heap.size + 1, 2, none⟩ = some (.slice e2 T.words.length f2) := hB2.cell 2
    clear hB1 hB2
    clear ha
    by_cases hkn : k < T.words.length
    · have hdec : decide (k < T.words.length) = true := decide_eq_true hkn
      obtain ⟨b2, o2, Am, cm, rfl, cW, hms⟩ := word_cell (HT.out.aft (HA.out.trans HAX.out)).words hkn
      obtain ⟨p2, q2, Bm, cn, rfl, dW, hns⟩ := word_cell (HU.out.aft (HA.out.trans HAX.out)).words hkn
      have hml := hms.len (by decide)
      have CW := Lib.hid cW
      have DW := Lib.hid dW
      have HMS := Lib.hid hms
      have HNS := Lib.hid hns
      have i1 : (0 : Int) ≤ (k : Int) ∧ (k : Int) < (T.words.length : Int) := by omega
      have hq2 : ((T.words[k].length : Int) != (T.words[k].length : Int)) = false := by simp
      clear hms hns
      generalize T.words[k] = ws at *
      (repeat (first | go_big_skip | go_big_want | go_big_move | go_big_op | go_step | go_upon | go_back))
      go_quiet (fail)
      generalize hu : wr.drewN _ = u at *
      have hAu : Aft wr u := by rw [← hu]; exact Aft.drewN _ _
      have HAU := Lib.hid (HAX.out.trans hAu)
      have cW := cells_aft hAu CW.out
      have dW := cells_aft hAu DW.out
      have HMU := Lib.hid (HMS.out.aft MeanR.mono hAu)
      have HNU := Lib.hid (HNS.out.aft MeanR.mono hAu)
      have CWU := Lib.hid cW
      have DWU := Lib.hid dW
      clear hu hAu k2 m2 hq2
      have hB1 := HB1.out.aft HAU.out
      have hB2 := HB2.out.aft HAU.out
      have k2 : u.cell? ⟨w.heap.size, 2, none⟩ = some (.slice (some ⟨b2, o2, none⟩) T.words.length c2) := hB1.cell 2
      have m2 : u.cell? ⟨w.heap.size + 1, 2, none⟩ = some (.slice (some ⟨p2, q2, none⟩) T.words.length f2) := hB2.cell 2
      clear hB1 hB2
      (repeat (first | go_big_skip | go_big_want | go_big_move | go_big_op | go_step | go_upon | go_back))
      clear k2 m2 cW dW
      go_loopw [70] (fun i wr => ∃ m : Nat, i = .int .i64 m ∧ m ≤ ws.length ∧ Aft u wr) (fun i _ => ws.length - (intOf i).toNat)
      case atStart => exact ⟨0, rfl, by omega, Aft.refl _⟩
      case round =>
        rename World => w6
        obtain ⟨m, rfl, hm, ha6⟩ := hrel
        have HA6 := Lib.hid ha6
        clear ha6
        by_cases hml : m < ws.length
        · have hdm : decide (m < ws.length) = true := decide_eq_true hml
          obtain ⟨bm, om, rfl, hbm, hcm⟩ := HMU.out.at hml
          obtain ⟨vs, -, ⟨Ak, ck, Ae, ce, rfl, hik, hie⟩, hv2⟩ := hcm m hml
          obtain ⟨pm, qm, rfl, hpm, hcm'⟩ := HNU.out.at hml
          obtain ⟨vs, -, ⟨Bk, dk, Be, de, rfl, hik', hie'⟩, hv2'⟩ := hcm' m hml
          have CK1 := Lib.hid (show w6.cell? ⟨bm, om + m * 2, none⟩ = some (.slice Ak ws[m].kinds.length ck) from cells_aft HA6.out (by have := hv2 0 (by simp); simpa using this))
          have CE1 := Lib.hid (show w6.cell? ⟨bm, om + m * 2 + 1, none⟩ = some (.slice Ae ws[m].ends.length ce) from cells_aft HA6.out (by have := hv2 1 (by simp); simpa using this))
          have CK2 := Lib.hid (show w6.cell? ⟨pm, qm + m * 2, none⟩ = some (.slice Bk ws[m].kinds.length dk) from cells_aft HA6.out (by have := hv2' 0 (by simp); simpa using this))
          have CE2 := Lib.hid (show w6.cell? ⟨pm, qm + m * 2 + 1, none⟩ = some (.slice Be ws[m].ends.length de) from cells_aft HA6.out (by have := hv2' 1 (by simp); simpa using this))
          have CW1 := Lib.hid (cells_aft HA6.out CWU.out)
          have CW2 := Lib.hid (cells_aft HA6.out DWU.out)
          have HK1 := Lib.hid (hik.aft HA6.out)
          have HE1 := Lib.hid (hie.aft HA6.out)
          have HK2 := Lib.hid (hik'.aft HA6.out)
          have HE2 := Lib.hid (hie'.aft HA6.out)
          have hB1 := HB1.out.aft (HAU.out.trans HA6.out)
          have hB2 := HB2.out.aft (HAU.out.trans HA6.out)
          have C1 : Hid (w6.cell? ⟨w.heap.size, 2, none⟩ = some (.slice (some ⟨b2, o2, none⟩) T.words.length c2)) := Lib.hid (hB1.cell 2)
          have C2 : Hid (w6.cell? ⟨w.heap.size + 1, 2, none⟩ = some (.slice (some ⟨p2, q2, none⟩) T.words.length f2)) := Lib.hid (hB2.cell 2)
          have i2 : (0 : Int) ≤ (m : Int) ∧ (m : Int) < (ws.length : Int) := by omega
          clear hcm hv2 hcm' hv2' hik hie hik' hie' hB1 hB2
          generalize ws[m].kinds = kk at *
          generalize ws[m].ends = ee at *
          (repeat (first | go_big_skip | go_big_want | go_big_move | go_big_op | go_step | go_upon | go_back))
          have hmx : Try.prog.follows .mixedOrders = true := by kernel_rfl
          refine wp_region_valsG hmx 117 rfl (by kernel_rfl) (by kernel_rfl) [.pointer (some ⟨w.heap.size, 2, none⟩), .slice (some ⟨b2, o2, none⟩) T.words.length c2, .int .i64 k, .pointer (some ⟨b2, o2 + k, none⟩), .slice (some ⟨bm, om, none⟩) ws.length cm, .int .i64 m, .pointer (some ⟨bm, om + m * 2, none⟩), .pointer (some ⟨bm, om + m * 2, none⟩), .slice Ak kk.length ck, .pointer (some ⟨w.heap.size + 1, 2, none⟩), .slice (some ⟨p2, q2, none⟩) T.words.length f2, .int .i64 k, .pointer (some ⟨p2, q2 + k, none⟩), .slice (some ⟨pm, qm, none⟩) ws.length cn, .int .i64 m, .pointer (some ⟨pm, qm + m * 2, none⟩), .pointer (some ⟨pm, qm + m * 2, none⟩), .slice Bk kk.length dk, .bool true, .bool false, .bool false, .pointer (some ⟨w.heap.size, 2, none⟩), .slice (some ⟨b2, o2, none⟩) T.words.length c2, .int .i64 k, .pointer (some ⟨b2, o2 + k, none⟩), .slice (some ⟨bm, om, none⟩) ws.length cm, .int .i64 m, .pointer (some ⟨bm, om + m * 2, none⟩), .pointer (some ⟨bm, om + m * 2 + 1, none⟩), .slice Ae ee.length ce, .pointer (some ⟨w.heap.size + 1, 2, none⟩), .slice (some ⟨p2, q2, none⟩) T.words.length f2, .int .i64 k, .pointer (some ⟨p2, q2 + k, none⟩), .slice (some ⟨pm, qm, none⟩) ws.length cn, .int .i64 m, .pointer (some ⟨pm, qm + m * 2, none⟩), .pointer (some ⟨pm, qm + m * 2 + 1, none⟩), .slice Be ee.length de, .bool true, .bool false, .bool false] rfl (fun X => Aft w6 X) (Aft.drew _) ?step ?fin
          case step =>
            intro i' o' v ho hv
            match i', ho, hv with
            | 0, ho, hv =>
              cases ho; cases hv
              refine .inl ⟨rfl, fun a X hk hX K hK => ?_⟩
              have e_2 : a.eval (.tmp 2) = .pointer (some ⟨w.heap.size, 0, none⟩) := (hk.same 2 (by decide)).trans rfl
              exact op_val (by simp [go_sem, ev' e_2]) (hK _ hX)
            | 1, ho, hv =>
              cases ho; cases hv
              refine .inl ⟨rfl, fun a X hk hX K hK => ?_⟩
              have e_73 : a.eval (.tmp 73) = .pointer (some ⟨w.heap.size, 2, none⟩) := hk.at_ 0 _ 73 _ rfl (by decide) _ rfl rfl rfl
              have hc := cells_aft hX C1.out
              exact op_val (by simp [go_sem, ev' e_73, hc]) (hK _ hX)
            | 2, ho, hv =>
              cases ho; cases hv
              refine .inl ⟨rfl, fun a X hk hX K hK => ?_⟩
              have e_5 : a.eval (.tmp 5) = .int .i64 k := (hk.same 5 (by decide)).trans rfl
              exact op_val (by simp [go_sem, ev' e_5]) (hK _ hX)
            | 3, ho, hv =>
              cases ho; cases hv
              refine .inl ⟨rfl, fun a X hk hX K hK => ?_⟩
              have e_74 : a.eval (.tmp 74) = .slice (some ⟨b2, o2, none⟩) T.words.length c2 := hk.at_ 1 _ 74 _ rfl (by decide) _ rfl rfl rfl
              have e_75 : a.eval (.tmp 75) = .int .i64 k := hk.at_ 2 _ 75 _ rfl (by decide) _ rfl rfl rfl
              exact op_val (by simp [go_sem, ev' e_74, ev' e_75, i1]) (hK _ hX)
            | 4, ho, hv =>
              cases ho; cases hv
              refine .inl ⟨rfl, fun a X hk hX K hK => ?_⟩
              have e_76 : a.eval (.tmp 76) = .pointer (some ⟨b2, o2 + k, none⟩) := hk.at_ 3 _ 76 _ rfl (by decide) _ rfl rfl rfl
              have hc := cells_aft hX CW1.out
              exact op_val (by simp [go_sem, ev' e_76, hc]) (hK _ hX)
            | 5, ho, hv =>
              cases ho; cases hv
              refine .inl ⟨rfl, fun a X hk hX K hK => ?_⟩
              have e_6 : a.eval (.tmp 6) = .int .i64 m := (hk.same 6 (by decide)).trans rfl
              exact op_val (by simp [go_sem, ev' e_6]) (hK _ hX)
            | 6, ho, hv =>
              cases ho; cases hv
              refine .inl ⟨rfl, fun a X hk hX K hK => ?_⟩
              have e_77 : a.eval (.tmp 77) = .slice (some ⟨bm, om, none⟩) ws.length cm := hk.at_ 4 _ 77 _ rfl (by decide) _ rfl rfl rfl
              have e_78 : a.eval (.tmp 78) = .int .i64 m := hk.at_ 5 _ 78 _ rfl (by decide) _ rfl rfl rfl
              exact op_val (by simp [go_sem, ev' e_77, ev' e_78, i2]) (hK _ hX)
            | 7, ho, hv =>
              cases ho; cases hv
              refine .inl ⟨rfl, fun a X hk hX K hK => ?_⟩
              have e_79 : a.eval (.tmp 79) = .pointer (some ⟨bm, om + m * 2, none⟩) := hk.at_ 6 _ 79 _ rfl (by decide) _ rfl rfl rfl
              exact op_val (by simp [go_sem, ev' e_79]) (hK _ hX)
            | 8, ho, hv =>
              cases ho; cases hv
              refine .inl ⟨rfl, fun a X hk hX K hK => ?_⟩
              have e_80 : a.eval (.tmp 80) = .pointer (some ⟨bm, om + m * 2, none⟩) := hk.at_ 7 _ 80 _ rfl (by decide) _ rfl rfl rfl
              have hc := cells_aft hX CK1.out
              exact op_val (by simp [go_sem, ev' e_80, hc]) (hK _ hX)
            | 9, ho, hv =>
              cases ho; cases hv
              refine .inl ⟨rfl, fun a X hk hX K hK => ?_⟩
              have e_3 : a.eval (.tmp 3) = .pointer (some ⟨w.heap.size + 1, 0, none⟩) := (hk.same 3 (by decide)).trans rfl
              exact op_val (by simp [go_sem, ev' e_3]) (hK _ hX)
            | 10, ho, hv =>
              cases ho; cases hv
              refine .inl ⟨rfl, fun a X hk hX K hK => ?_⟩
              have e_82 : a.eval (.tmp 82) = .pointer (some ⟨w.heap.size + 1, 2, none⟩) := hk.at_ 9 _ 82 _ rfl (by decide) _ rfl rfl rfl
              have hc := cells_aft hX C2.out
              exact op_val (by simp [go_sem, ev' e_82, hc]) (hK _ hX)
            | 11, ho, hv =>
              cases ho; cases hv
              refine .inl ⟨rfl, fun a X hk hX K hK => ?_⟩
              have e_5 : a.eval (.tmp 5) = .int .i64 k := (hk.same 5 (by decide)).trans rfl
              exact op_val (by simp [go_sem, ev' e_5]) (hK _ hX)
            | 12, ho, hv =>
              cases ho; cases hv
              refine .inl ⟨rfl, fun a X hk hX K hK => ?_⟩
              have e_83 : a.eval (.tmp 83) = .slice (some ⟨p2, q2, none⟩) T.words.length f2 := hk.at_ 10 _ 83 _ rfl (by decide) _ rfl rfl rfl
              have e_84 : a.eval (.tmp 84) = .int .i64 k := hk.at_ 11 _ 84 _ rfl (by decide) _ rfl rfl rfl
              exact op_val (by simp [go_sem, ev' e_83, ev' e_84, i1]) (hK _ hX)
            | 13, ho, hv =>
              cases ho; cases hv
              refine .inl ⟨rfl, fun a X hk hX K hK => ?_⟩
              have e_85 : a.eval (.tmp 85) = .pointer (some ⟨p2, q2 + k, none⟩) := hk.at_ 12 _ 85 _ rfl (by decide) _ rfl rfl rfl
              have hc := cells_aft hX CW2.out
              exact op_val (by simp [go_sem, ev' e_85, hc]) (hK _ hX)
            | 14, ho, hv =>
              cases ho; cases hv
              refine .inl ⟨rfl, fun a X hk hX K hK => ?_⟩
              have e_6 : a.eval (.tmp 6) = .int .i64 m := (hk.same 6 (by decide)).trans rfl
              exact op_val (by simp [go_sem, ev' e_6]) (hK _ hX)
            | 15, ho, hv =>
              cases ho; cases hv
              refine .inl ⟨rfl, fun a X hk hX K hK => ?_⟩
              have e_86 : a.eval (.tmp 86) = .slice (some ⟨pm, qm, none⟩) ws.length cn := hk.at_ 13 _ 86 _ rfl (by decide) _ rfl rfl rfl
              have e_87 : a.eval (.tmp 87) = .int .i64 m := hk.at_ 14 _ 87 _ rfl (by decide) _ rfl rfl rfl
              exact op_val (by simp [go_sem, ev' e_86, ev' e_87, i2]) (hK _ hX)
            | 16, ho, hv =>
              cases ho; cases hv
              refine .inl ⟨rfl, fun a X hk hX K hK => ?_⟩
              have e_88 : a.eval (.tmp 88) = .pointer (some ⟨pm, qm + m * 2, none⟩) := hk.at_ 15 _ 88 _ rfl (by decide) _ rfl rfl rfl
              exact op_val (by simp [go_sem, ev' e_88]) (hK _ hX)
            | 17, ho, hv =>
              cases ho; cases hv
              refine .inl ⟨rfl, fun a X hk hX K hK => ?_⟩
              have e_89 : a.eval (.tmp 89) = .pointer (some ⟨pm, qm + m * 2, none⟩) := hk.at_ 16 _ 89 _ rfl (by decide) _ rfl rfl rfl
              have hc := cells_aft hX CK2.out
              exact op_val (by simp [go_sem, ev' e_89, hc]) (hK _ hX)
            | 18, ho, hv =>
              cases ho; cases hv
              refine .inl ⟨rfl, fun a X hk hX K hK => ?_⟩
              have e_81 : a.eval (.tmp 81) = .slice Ak kk.length ck := hk.at_ 8 _ 81 _ rfl (by decide) _ rfl rfl rfl
              have e_90 : a.eval (.tmp 90) = .slice Bk kk.length dk := hk.at_ 17 _ 90 _ rfl (by decide) _ rfl rfl rfl
              refine op_call2 Try.func20 (by kernel_rfl) (by kernel_rfl) _ _ rfl e_81 e_90 (kitEqual_int Ak Bk kk kk ck dk X (HK1.out.aft hX) (HK2.out.aft hX)) ?_
              rintro e w' ⟨rfl, ha7⟩
              rw [eqB_self]
              exact ⟨_, rfl, hK _ (hX.trans ha7)⟩
            | 19, ho, hv =>
              cases ho; cases hv
              refine .inl ⟨rfl, fun a X hk hX K hK => ?_⟩
              have e_91 : a.eval (.tmp 91) = .bool true := hk.at_ 18 _ 91 _ rfl (by decide) _ rfl rfl rfl
              exact op_val (by simp [go_sem, ev' e_91]) (hK _ hX)
            | 20, ho, hv =>
              cases ho; cases hv
              refine .inl ⟨rfl, fun a X hk hX K hK => ?_⟩
              have e_92 : a.eval (.tmp 92) = .bool false := hk.at_ 19 _ 92 _ rfl (by decide) _ rfl rfl rfl
              exact op_val (by simp [go_sem, ev' e_92]) (hK _ hX)
            | 21, ho, hv =>
              cases ho; cases hv
              refine .inl ⟨rfl, fun a X hk hX K hK => ?_⟩
              have e_2 : a.eval (.tmp 2) = .pointer (some ⟨w.heap.size, 0, none⟩) := (hk.same 2 (by decide)).trans rfl
              exact op_val (by simp [go_sem, ev' e_2]) (hK _ hX)
            | 22, ho, hv =>
              cases ho; cases hv
              refine .inl ⟨rfl, fun a X hk hX K hK => ?_⟩
              have e_94 : a.eval (.tmp 94) = .pointer (some ⟨w.heap.size, 2, none⟩) := hk.at_ 21 _ 94 _ rfl (by decide) _ rfl rfl rfl
              have hc := cells_aft hX C1.out
              exact op_val (by simp [go_sem, ev' e_94, hc]) (hK _ hX)
            | 23, ho, hv =>
              cases ho; cases hv
              refine .inl ⟨rfl, fun a X hk hX K hK => ?_⟩
              have e_5 : a.eval (.tmp 5) = .int .i64 k := (hk.same 5 (by decide)).trans rfl
              exact op_val (by simp [go_sem, ev' e_5]) (hK _ hX)
            | 24, ho, hv =>
              cases ho; cases hv
              refine .inl ⟨rfl, fun a X hk hX K hK => ?_⟩
              have e_95 : a.eval (.tmp 95) = .slice (some ⟨b2, o2, none⟩) T.words.length c2 := hk.at_ 22 _ 95 _ rfl (by decide) _ rfl rfl rfl
              have e_96 : a.eval (.tmp 96) = .int .i64 k := hk.at_ 23 _ 96 _ rfl (by decide) _ rfl rfl rfl
              exact op_val (by simp [go_sem, ev' e_95, ev' e_96, i1]) (hK _ hX)
            | 25, ho, hv =>
              cases ho; cases hv
              refine .inl ⟨rfl, fun a X hk hX K hK => ?_⟩
              have e_97 : a.eval (.tmp 97) = .pointer (some ⟨b2, o2 + k, none⟩) := hk.at_ 24 _ 97 _ rfl (by decide) _ rfl rfl rfl
              have hc := cells_aft hX CW1.out
              exact op_val (by simp [go_sem, ev' e_97, hc]) (hK _ hX)
            | 26, ho, hv =>
              cases ho; cases hv
              refine .inl ⟨rfl, fun a X hk hX K hK => ?_⟩
              have e_6 : a.eval (.tmp 6) = .int .i64 m := (hk.same 6 (by decide)).trans rfl
              exact op_val (by simp [go_sem, ev' e_6]) (hK _ hX)
            | 27, ho, hv =>
              cases ho; cases hv
              refine .inl ⟨rfl, fun a X hk hX K hK => ?_⟩
              have e_98 : a.eval (.tmp 98) = .slice (some ⟨bm, om, none⟩) ws.length cm := hk.at_ 25 _ 98 _ rfl (by decide) _ rfl rfl rfl
              have e_99 : a.eval (.tmp 99) = .int .i64 m := hk.at_ 26 _ 99 _ rfl (by decide) _ rfl rfl rfl
              exact op_val (by simp [go_sem, ev' e_98, ev' e_99, i2]) (hK _ hX)
            | 28, ho, hv =>
              cases ho; cases hv
              refine .inl ⟨rfl, fun a X hk hX K hK => ?_⟩
              have e_100 : a.eval (.tmp 100) = .pointer (some ⟨bm, om + m * 2, none⟩) := hk.at_ 27 _ 100 _ rfl (by decide) _ rfl rfl rfl
              exact op_val (by simp [go_sem, ev' e_100]) (hK _ hX)
            | 29, ho, hv =>
              cases ho; cases hv
              refine .inl ⟨rfl, fun a X hk hX K hK => ?_⟩
              have e_101 : a.eval (.tmp 101) = .pointer (some ⟨bm, om + m * 2 + 1, none⟩) := hk.at_ 28 _ 101 _ rfl (by decide) _ rfl rfl rfl
              have hc := cells_aft hX CE1.out
              exact op_val (by simp [go_sem, ev' e_101, hc]) (hK _ hX)
            | 30, ho, hv =>
              cases ho; cases hv
              refine .inl ⟨rfl, fun a X hk hX K hK => ?_⟩
              have e_3 : a.eval (.tmp 3) = .pointer (some ⟨w.heap.size + 1, 0, none⟩) := (hk.same 3 (by decide)).trans rfl
              exact op_val (by simp [go_sem, ev' e_3]) (hK _ hX)
            | 31, ho, hv =>
              cases ho; cases hv
              refine .inl ⟨rfl, fun a X hk hX K hK => ?_⟩
              have e_103 : a.eval (.tmp 103) = .pointer (some ⟨w.heap.size + 1, 2, none⟩) := hk.at_ 30 _ 103 _ rfl (by decide) _ rfl rfl rfl
              have hc := cells_aft hX C2.out
              exact op_val (by simp [go_sem, ev' e_103, hc]) (hK _ hX)
            | 32, ho, hv =>
              cases ho; cases hv
              refine .inl ⟨rfl, fun a X hk hX K hK => ?_⟩
              have e_5 : a.eval (.tmp 5) = .int .i64 k := (hk.same 5 (by decide)).trans rfl
              exact op_val (by simp [go_sem, ev' e_5]) (hK _ hX)
            | 33, ho, hv =>
              cases ho; cases hv
              refine .inl ⟨rfl, fun a X hk hX K hK => ?_⟩
              have e_104 : a.eval (.tmp 104) = .slice (some ⟨p2, q2, none⟩) T.words.length f2 := hk.at_ 31 _ 104 _ rfl (by decide) _ rfl rfl rfl
              have e_105 : a.eval (.tmp 105) = .int .i64 k := hk.at_ 32 _ 105 _ rfl (by decide) _ rfl rfl rfl
              exact op_val (by simp [go_sem, ev' e_104, ev' e_105, i1]) (hK _ hX)
            | 34, ho, hv =>
              cases ho; cases hv
              refine .inl ⟨rfl, fun a X hk hX K hK => ?_⟩
              have e_106 : a.eval (.tmp 106) = .pointer (some ⟨p2, q2 + k, none⟩) := hk.at_ 33 _ 106 _ rfl (by decide) _ rfl rfl rfl
              have hc := cells_aft hX CW2.out
              exact op_val (by simp [go_sem, ev' e_106, hc]) (hK _ hX)
            | 35, ho, hv =>
              cases ho; cases hv
              refine .inl ⟨rfl, fun a X hk hX K hK => ?_⟩
              have e_6 : a.eval (.tmp 6) = .int .i64 m := (hk.same 6 (by decide)).trans rfl
              exact op_val (by simp [go_sem, ev' e_6]) (hK _ hX)
            | 36, ho, hv =>
              cases ho; cases hv
              refine .inl ⟨rfl, fun a X hk hX K hK => ?_⟩
              have e_107 : a.eval (.tmp 107) = .slice (some ⟨pm, qm, none⟩) ws.length cn := hk.at_ 34 _ 107 _ rfl (by decide) _ rfl rfl rfl
              have e_108 : a.eval (.tmp 108) = .int .i64 m := hk.at_ 35 _ 108 _ rfl (by decide) _ rfl rfl rfl
              exact op_val (by simp [go_sem, ev' e_107, ev' e_108, i2]) (hK _ hX)
            | 37, ho, hv =>
              cases ho; cases hv
              refine .inl ⟨rfl, fun a X hk hX K hK => ?_⟩
              have e_109 : a.eval (.tmp 109) = .pointer (some ⟨pm, qm + m * 2, none⟩) := hk.at_ 36 _ 109 _ rfl (by decide) _ rfl rfl rfl
              exact op_val (by simp [go_sem, ev' e_109]) (hK _ hX)
            | 38, ho, hv =>
              cases ho; cases hv
              refine .inl ⟨rfl, fun a X hk hX K hK => ?_⟩
              have e_110 : a.eval (.tmp 110) = .pointer (some ⟨pm, qm + m * 2 + 1, none⟩) := hk.at_ 37 _ 110 _ rfl (by decide) _ rfl rfl rfl
              have hc := cells_aft hX CE2.out
              exact op_val (by simp [go_sem, ev' e_110, hc]) (hK _ hX)
            | 39, ho, hv =>
              cases ho; cases hv
              refine .inl ⟨rfl, fun a X hk hX K hK => ?_⟩
              have e_102 : a.eval (.tmp 102) = .slice Ae ee.length ce := hk.at_ 29 _ 102 _ rfl (by decide) _ rfl rfl rfl
              have e_111 : a.eval (.tmp 111) = .slice Be ee.length de := hk.at_ 38 _ 111 _ rfl (by decide) _ rfl rfl rfl
              refine op_call2 Try.func20 (by kernel_rfl) (by kernel_rfl) _ _ rfl e_102 e_111 (kitEqual_int Ae Be ee ee ce de X (HE1.out.aft hX) (HE2.out.aft hX)) ?_
              rintro e w' ⟨rfl, ha7⟩
              rw [eqB_self]
              exact ⟨_, rfl, hK _ (hX.trans ha7)⟩
            | 40, ho, hv =>
              cases ho; cases hv
              refine .inl ⟨rfl, fun a X hk hX K hK => ?_⟩
              have e_112 : a.eval (.tmp 112) = .bool true := hk.at_ 39 _ 112 _ rfl (by decide) _ rfl rfl rfl
              exact op_val (by simp [go_sem, ev' e_112]) (hK _ hX)
            | 41, ho, hv =>
              cases ho; cases hv
              refine .inl ⟨rfl, fun a X hk hX K hK => ?_⟩
              have e_93 : a.eval (.tmp 93) = .bool false := hk.at_ 20 _ 93 _ rfl (by decide) _ rfl rfl rfl
              have e_113 : a.eval (.tmp 113) = .bool false := hk.at_ 40 _ 113 _ rfl (by decide) _ rfl rfl rfl
              exact op_val (by simp [go_sem, ev' e_93, ev' e_113]) (hK _ hX)
            | _ + 42, ho, _ => cases ho
          case fin =>
            intro X2 hX
            simp only [List.zip_cons_cons, List.zip_nil_right, putAll, Act.put, List.setIfInBounds_toArray, List.set_cons_succ, List.set_cons_zero]
            have HX := Lib.hid hX
            clear hX
            (repeat (first | go_big_skip | go_big_want | go_big_move | go_big_op | go_step | go_upon | go_back))
            exact ⟨⟨m + 1, by go_num, by omega, HA6.out.trans HX.out⟩, by simp [intOf] <;> omega⟩
        · have hdm : decide (m < ws.length) = false := decide_eq_false hml
          (repeat (first | go_big_skip | go_big_want | go_big_move | go_big_op | go_step | go_upon | go_back))
          exact ⟨⟨k + 1, by go_num, by omega, HAU.out.trans HA6.out⟩, by simp [intOf] <;> omega⟩
    · have hdec : decide (k < T.words.length) = false := decide_eq_false hkn
      (repeat (first | go_big_skip | go_big_want | go_big_move | go_big_op | go_step | go_upon | go_back))
      go_ret
      exact ⟨rfl, HA.out.trans HAX.out⟩
end Go.Proofs
end

section
/- Walks: the reference's legs. -/
namespace Go.Proofs
open Go.RowKit
attribute [local go_sem] Oper.semAt_some

theorem own_slice2 {w : World} {base e sz n : Nat} {v : Value} {xs : List Value} (h : w.ownsRow base e sz v n xs) : ∃ A c, v = .slice A n c := by
  rcases h.2 with ⟨rfl, h0⟩ | ⟨g, cap, cur, rfl, _⟩
  · exact ⟨none, 0, by rw [h0]⟩
  · exact ⟨_, _, rfl⟩

theorem LTab.mono {W : World} {base b : Nat} {v : Value} {n P : Nat} {f : Nat → Nat → Nat → Bool} (h : LTab W base v n P f) (hb : b ≤ base) : LTab W b v n P f := let ⟨vs, h1, h2⟩ := h.ex; ⟨vs, World.ownsRow.mono h1 hb, h2⟩

set_option maxRecDepth 100000 in
set_option maxHeartbeats 4000000 in
theorem legsRef_any (w : World) (T : Treaty) (a1 a2 a3 a4 : Option Addr) (c1 c2 c3 c4 : Nat) (R : List Int) (AR : Option Addr) (cR : Nat) (hT : TRep w T a1 a2 a3 a4) (hR : Ints w AR R) (ok : TOk T) (hro : ReadOk T R) :
    Calls Try.prog 92 #[.agg #[.int .i64 T.places, .slice a1 T.ways.length c1, .slice a2 T.words.length c2, .slice a3 T.starts.length c3, .slice a4 T.legs.length c4], .slice AR R.length cR] w fun e w' => ∃ v, e = .returned v ∧ Aft w w' ∧ LTab w' w.heap.size v T.legs.length T.places.toNat (leadsF T R) := by
  have HCA := Lib.hid (fun (y : World) (hy : Aft w y) (i : Nat) (hi : i < T.legs.length) => canRef_any y T a1 a2 a3 a4 c1 c2 c3 c4 R AR cR (hT.aft hy) (hR.aft hy) ok hro hi)
  have hln := ok.nlegs
  clear hT hR ok hro
  go_enter Try.func92, Try.ntmps92
  go_upto_region 1 with fail
  have hb := Blk.new w 36 #[.int .i64 T.places, .slice a1 T.ways.length c1, .slice a2 T.words.length c2, .slice a3 T.starts.length c3, .slice a4 T.legs.length c4]
  have ha := Aft.alloc w (.cells #[.int .i64 T.places, .slice a1 T.ways.length c1, .slice a2 T.words.length c2, .slice a3 T.starts.length c3, .slice a4 T.legs.length c4] 36)
  generalize w.alloc (.cells #[.int .i64 T.places, .slice a1 T.ways.length c1, .slice a2 T.words.length c2, .slice a3 T.starts.length c3, .slice a4 T.legs.length c4] 36) = X at *
  have HB := Lib.hid hb
  have HA := Lib.hid ha
  have hsz := ha.size
  have HL0 : Hid (Aft X X ∧ LTab X X.heap.size (.slice none 0 0) 0 T.places.toNat (leadsF T R)) := Lib.hid ⟨Aft.refl _, LTab.nil _ _ _ _⟩
  clear hb ha
  (repeat (first | go_big_skip | go_big_want | go_big_move | go_big_op | go_step | go_upon | go_back))
  go_loopw [5, 6] (fun v i wr => ∃ k : Nat, i = .int .i64 k ∧ k ≤ T.legs.length ∧ Aft X wr ∧ LTab wr X.heap.size v k T.places.toNat (leadsF T R)) (fun _ i _ => T.legs.length - (intOf i).toNat)
  case atStart => exact ⟨0, rfl, by omega, HL0.out⟩
  case round =>
    obtain ⟨k, rfl, hk, haX, ht⟩ := hrel
    obtain ⟨vs, hown, hts⟩ := ht.ex
    obtain ⟨sA, sc, rfl⟩ := own_slice2 hown
    have HAX := Lib.hid haX
    have HLT := Lib.hid ht
    have HOW := Lib.hid hown
    have HTS := Lib.hid hts
    have hBw := HB.out.aft haX
    have k0 : wr.cell? ⟨w.heap.size, 0, none⟩ = some (.int .i64 T.places) := hBw.cell 0
    have k1 : wr.cell? ⟨w.heap.size, 1, none⟩ = some (.slice a1 T.ways.length c1) := hBw.cell 1
    have k2' : wr.cell? ⟨w.heap.size, 2, none⟩ = some (.slice a2 T.words.length c2) := hBw.cell 2
    have k3 : wr.cell? ⟨w.heap.size, 3, none⟩ = some (.slice a3 T.starts.length c3) := hBw.cell 3
    have k4 : wr.cell? ⟨w.heap.size, 4, none⟩ = some (.slice a4 T.legs.length c4) := hBw.cell 4
    have hszr := haX.size
    clear haX ht hown hts hBw HL0
    by_cases hkn : k < T.legs.length
    · have hdec : decide (k < T.legs.length) = true := decide_eq_true hkn
      (repeat (first | go_big_skip | go_big_want | go_big_move | go_big_op | go_step | go_upon | go_back))
      go_at_call 114
      refine (HCA.out wr (HA.out.trans HAX.out) k hkn).mono ?_
      rintro e z ⟨t, rfl, haz, htz⟩
      obtain ⟨bt, ct, rfl, -⟩ := htz.cells
      dsimp only
      have HTZ := Lib.hid htz
      have HAZ := Lib.hid haz
      have hszz := haz.size
      clear k0 k1 k2' k3 k4 haz htz
      go_upto_region 4 with (at_builtin; go_loud (refine wpList_app1 ty135 rfl _ _ rfl (Nat.le_trans hszr (HAZ.out.then_alloc _).size) rfl (own_aft HOW.out (HAZ.out.then_alloc _)) rfl (Blk.new _ _ _) rfl (fun u hu => by rw [List.mem_singleton] at hu; subst hu; rfl) (by omega) (by decide) ?_; intro v' w6 hown6 hg6 hat6; have HLT6 := Lib.hid (HLT.out.push (HAZ.out.then_alloc _) (HTZ.out.aft (Aft.alloc _ _)) HOW.out HTS.out hown6 hg6); have HA7 := Lib.hid ((HAX.out.trans (HAZ.out.then_alloc _)).grown hg6 (fun q e => (HOW.out.lt q e).1)); clear hown6 hg6 hat6))
      (repeat (first | go_big_skip | go_big_want | go_big_move | go_big_op | go_step | go_upon | go_back))
      exact ⟨⟨k + 1, by go_num, by omega, HA7.out, HLT6.out⟩, by simp [intOf]; omega⟩
    · have hdec : decide (k < T.legs.length) = false := decide_eq_false hkn
      obtain rfl : k = T.legs.length := by omega
      (repeat (first | go_big_skip | go_big_want | go_big_move | go_big_op | go_step | go_upon | go_back))
      go_ret
      exact ⟨_, rfl, HA.out.trans HAX.out, HLT.out.mono hsz⟩
end Go.Proofs
end

section
/- Plain: which places can be reached if some legs yield; legs of all sets. -/
namespace Go.Proofs

/-- Which places can be stood at behind so many legs, if those of S yield. -/
def nowF (T : Treaty) (f : Nat → Nat → Nat → Bool) (S : Nat → Bool) : Nat → Nat → Bool
  | 0, b => hasB T.starts b
  | i + 1, b => (List.range T.places.toNat).any fun a => nowF T f S i a && (S i || f i a b)
def enB (T : Treaty) (f : Nat → Nat → Nat → Bool) (S : Nat → Bool) : Bool := (List.range T.places.toNat).any (nowF T f S T.legs.length)
/-- .. from the first k places. -/
def nextF (T : Treaty) (f : Nat → Nat → Nat → Bool) (S : Nat → Bool) (i k b : Nat) : Bool := (List.range k).any fun a => nowF T f S i a && (S i || f i a b)
theorem nextF_succ (T : Treaty) (f : Nat → Nat → Nat → Bool) (S : Nat → Bool) (i k b : Nat) : nextF T f S i (k + 1) b = (nextF T f S i k b || nowF T f S i k && (S i || f i k b)) := by
  unfold nextF; rw [List.range_succ, List.any_append]; simp
theorem nextF_all (T : Treaty) (f : Nat → Nat → Nat → Bool) (S : Nat → Bool) (i b : Nat) : nextF T f S i T.places.toNat b = nowF T f S (i + 1) b := rfl

theorem enB_opens {T : Treaty} (ok : TOk T) {f f' : Nat → Nat → Nat → Bool} {S : Nat → Bool} (hf : ∀ i a b, i < T.legs.length → a < T.places.toNat → b < T.places.toNat → f' i a b = (S i || f i a b)) : enB T f S = opens T f' := by
  have key : ∀ i, i ≤ T.legs.length → (opens T f' = true ↔ ∃ a, a < T.places.toNat ∧ nowF T f S i a = true ∧ ahd T f' (T.legs.length - i) i a = true) := by
    intro i
    induction i with
    | zero =>
      intro _
      unfold opens
      rw [List.any_eq_true]
      constructor
      · rintro ⟨s, hs, h⟩
        have hb := ok.starts s hs
        refine ⟨s.toNat, by omega, ?_, by simpa using h⟩
        show hasB T.starts _ = true
        rw [hasB_iff, Int.toNat_of_nonneg hb.1]
        exact hs
      · rintro ⟨a, ha, hn, h⟩
        exact ⟨a, hasB_iff.1 hn, by simpa using h⟩
    | succ i ih =>
      intro hi
      rw [ih (by omega)]
      have hk : T.legs.length - i = (T.legs.length - (i + 1)) + 1 := by omega
      rw [hk]
      constructor
      · rintro ⟨a, ha, hn, h⟩
        unfold ahd at h
        rw [List.any_eq_true] at h
        obtain ⟨b, hb, h⟩ := h
        rw [Bool.and_eq_true] at h
        have hb' := List.mem_range.1 hb
        refine ⟨b, hb', ?_, h.2⟩
        unfold nowF
        rw [List.any_eq_true]
        refine ⟨a, List.mem_range.2 ha, ?_⟩
        rw [hn, Bool.true_and, ← hf i a b (by omega) ha hb']
        exact h.1
      · rintro ⟨b, hb, hn, h⟩
        unfold nowF at hn
        rw [List.any_eq_true] at hn
        obtain ⟨a, ha, hn⟩ := hn
        have ha' := List.mem_range.1 ha
        rw [Bool.and_eq_true, ← hf i a b (by omega) ha' hb] at hn
        refine ⟨a, ha', hn.1, ?_⟩
        unfold ahd
        rw [List.any_eq_true]
        exact ⟨b, List.mem_range.2 hb, by rw [hn.2, h]; rfl⟩
  have h := key T.legs.length (Nat.le_refl _)
  rw [Nat.sub_self] at h
  rw [Bool.eq_iff_iff, h]
  unfold enB
  rw [List.any_eq_true]
  constructor
  · rintro ⟨a, ha, hn⟩; exact ⟨a, List.mem_range.1 ha, hn, rfl⟩
  · rintro ⟨a, ha, hn, -⟩; exact ⟨a, List.mem_range.2 ha, hn⟩
theorem enB_set {T : Treaty} (ok : TOk T) (f : Nat → Nat → Nat → Bool) (S : List Int) : enB T f (fun i => hasB S i) = opens T (setS f S T.places.toNat) :=
  enB_opens ok fun i a b _ ha hb => by unfold setS; simp [ha, hb, Bool.or_comm]
theorem nowF_congr {T : Treaty} {f : Nat → Nat → Nat → Bool} {S S' : Nat → Bool} (n : Nat) (h : ∀ i, i < n → S i = S' i) : ∀ b, nowF T f S n b = nowF T f S' n b := by
  induction n with
  | zero => intro b; rfl
  | succ n ih =>
    intro b
    unfold nowF
    have e1 := ih fun i hi => h i (by omega)
    rw [h n (by omega)]
    simp only [e1]
theorem enB_congr {T : Treaty} {f : Nat → Nat → Nat → Bool} {S S' : Nat → Bool} (h : ∀ i, i < T.legs.length → S i = S' i) : enB T f S = enB T f S' := by
  unfold enB
  have : nowF T f S T.legs.length = nowF T f S' T.legs.length := funext (nowF_congr _ h)
  rw [this]

/-- How many of the first n legs are of a set. -/
def popN (S : Nat → Bool) : Nat → Nat
  | 0 => 0
  | n + 1 => popN S n + (if S n then 1 else 0)
/-- The set as a list. -/
def setOf (S : Nat → Bool) (n : Nat) : List Int := ((List.range n).filter S).map (fun i : Nat => (i : Int))
theorem setOf_len (S : Nat → Bool) (n : Nat) : (setOf S n).length = popN S n := by
  induction n with
  | zero => rfl
  | succ n ih =>
    unfold setOf at ih ⊢
    rw [List.range_succ, List.filter_append, List.map_append, List.length_append, ih, show popN S (n + 1) = popN S n + (if S n then 1 else 0) from rfl]
    cases h : S n <;> simp [h]
theorem setOf_has (S : Nat → Bool) (n i : Nat) (hi : i < n) : hasB (setOf S n) i = S i := by
  rw [Bool.eq_iff_iff, hasB_iff]
  unfold setOf
  rw [List.mem_map]
  constructor
  · rintro ⟨x, hx, e⟩
    have : x = i := by omega
    subst this
    exact (List.mem_filter.1 hx).2
  · intro h
    exact ⟨i, List.mem_filter.2 ⟨List.mem_range.2 hi, h⟩, rfl⟩
/-- The best of the first k sets, each a number whose bits are its legs. -/
def bestTo (T : Treaty) (f : Nat → Nat → Nat → Bool) : Nat → Nat
  | 0 => T.legs.length
  | k + 1 => if popN k.testBit T.legs.length < bestTo T f k ∧ enB T f k.testBit = true then popN k.testBit T.legs.length else bestTo T f k
theorem bestTo_anti (T : Treaty) (f : Nat → Nat → Nat → Bool) (k : Nat) : bestTo T f (k + 1) ≤ bestTo T f k := by
  conv => lhs; unfold bestTo
  split
  · rename_i h; omega
  · exact Nat.le_refl _
theorem bestTo_le (T : Treaty) (f : Nat → Nat → Nat → Bool) {k : Nat} (h : enB T f k.testBit = true) : bestTo T f (k + 1) ≤ popN k.testBit T.legs.length := by
  unfold bestTo
  split
  · exact Nat.le_refl _
  · rename_i h2; by_cases h3 : popN k.testBit T.legs.length < bestTo T f k
    · exact absurd ⟨h3, h⟩ h2
    · omega
theorem bestTo_mono (T : Treaty) (f : Nat → Nat → Nat → Bool) {k m : Nat} (h : k ≤ m) : bestTo T f m ≤ bestTo T f k := by
  induction h with
  | refl => exact Nat.le_refl _
  | step _ ih => exact Nat.le_trans (bestTo_anti T f _) ih
theorem bestTo_ge {T : Treaty} (ok : TOk T) (f : Nat → Nat → Nat → Bool) (k : Nat) : (yieldL T f).length ≤ bestTo T f k := by
  induction k with
  | zero =>
    show _ ≤ T.legs.length
    have := yieldL_len ok f
    have := (costL_bd ok f).2
    omega
  | succ k ih =>
    unfold bestTo
    split
    · rename_i h
      have h2 := h.2
      rw [enB_congr (S' := fun i => hasB (setOf k.testBit T.legs.length) i) (fun i hi => (setOf_has _ _ i hi).symm), enB_set ok] at h2
      have := opens_min ok h2
      rw [← yieldL_len ok f, setOf_len] at this
      omega
    · exact ih
theorem bits_of (p : Nat → Bool) (n : Nat) : ∃ k, k < 2 ^ n ∧ ∀ i, i < n → k.testBit i = p i := by
  induction n with
  | zero => exact ⟨0, by decide, fun i hi => absurd hi (Nat.not_lt_zero _)⟩
  | succ n ih =>
    obtain ⟨k, hk, hb⟩ := ih
    cases hp : p n with
    | false =>
      refine ⟨k, Nat.lt_trans hk (Nat.pow_lt_pow_right (by decide) (Nat.lt_succ_self n)), fun i hi => ?_⟩
      by_cases e : i = n
      · subst e; rw [hp]; exact Nat.testBit_lt_two_pow hk
      · exact hb i (by omega)
    | true =>
      refine ⟨2 ^ n + k, by rw [Nat.pow_succ]; omega, fun i hi => ?_⟩
      by_cases e : i = n
      · subst e; rw [hp, Nat.testBit_two_pow_add_eq, Nat.testBit_lt_two_pow hk]; rfl
      · rw [Nat.testBit_two_pow_add_gt (by omega)]; exact hb i (by omega)
theorem popN_congr {S S' : Nat → Bool} (n : Nat) (h : ∀ i, i < n → S i = S' i) : popN S n = popN S' n := by
  induction n with
  | zero => rfl
  | succ n ih => unfold popN; rw [ih fun i hi => h i (by omega), h n (by omega)]
theorem pop_list {l : List Int} (n : Nat) (h : l.Pairwise (fun x y => x < y)) (hb : ∀ x ∈ l, 0 ≤ x ∧ x < n) : popN (fun i => hasB l i) n = l.length := by
  rw [← setOf_len]
  have e : setOf (fun i => hasB l i) n = l := by
    have h1 : (setOf (fun i => hasB l i) n).Pairwise (fun x y => x < y) := by
      unfold setOf
      rw [List.pairwise_map]
      refine List.Pairwise.imp (fun h => ?_) ((List.pairwise_lt_range (n := n)).filter _)
      omega
    refine List.Perm.eq_of_pairwise (le := fun x y => x < y) (fun a b _ _ h1 h2 => absurd h1 (by omega)) h1 h ?_
    refine (List.perm_ext_iff_of_nodup (h1.imp fun h => by omega) (h.imp fun h => by omega)).2 fun x => ?_
    unfold setOf
    rw [List.mem_map]
    constructor
    · rintro ⟨i, hi, rfl⟩
      exact hasB_iff.1 (List.mem_filter.1 hi).2
    · intro hx
      obtain ⟨h0, h1⟩ := hb x hx
      exact ⟨x.toNat, List.mem_filter.2 ⟨List.mem_range.2 (by omega), by rw [Int.toNat_of_nonneg h0]; exact hasB_iff.2 hx⟩, by omega⟩
  rw [e]
theorem bestTo_all {T : Treaty} (ok : TOk T) (f : Nat → Nat → Nat → Bool) : bestTo T f (2 ^ T.legs.length) = (yieldL T f).length := by
  refine Nat.le_antisymm ?_ (bestTo_ge ok f _)
  obtain ⟨k, hk, hb⟩ := bits_of (fun i => hasB (yieldL T f) i) T.legs.length
  have h1 : enB T f k.testBit = true := by
    rw [enB_congr hb, enB_set ok]
    exact yieldL_opens ok f fun x hx => hx
  have h2 := bestTo_le T f h1
  rw [popN_congr _ hb, pop_list _ yieldL_rise fun x hx => yieldL_mem hx] at h2
  exact Nat.le_trans (bestTo_mono T f (by omega)) h2
end Go.Proofs
end

section
/- Plain: the reference's lines, which grow leg by leg, are all lines. -/
namespace Go.Proofs




theorem flatMap_congr' {α β : Type} {l : List α} {g g' : α → List β} (h : ∀ a ∈ l, g a = g' a) : l.flatMap g = l.flatMap g' := by
  induction l with
  | nil => rfl
  | cons a l ih => rw [List.flatMap_cons, List.flatMap_cons, h a (by simp), ih fun b hb => h b (by simp [hb])]


end Go.Proofs
end

section
/- Walks: the reference's lines. -/
namespace Go.Proofs
open Go.RowKit
attribute [local go_sem] Oper.semAt_some


theorem own_zero (u : World) : (u.alloc (.cells #[] 3)).ownsRow u.heap.size 3 1 (.slice (some ⟨u.heap.size, 0, none⟩) 0 0) 0 [] := by
  have := blk_own (l := []) (c := 0) (Nat.le_refl u.heap.size) (Blk.new u 3 #[]) ⟨by simp, fun t h => by simp at h⟩ rfl (by simp) (by decide)
  simpa using this

end Go.Proofs
end

section
/- Walks: the reference: Reading, Lines, Breaks. -/
namespace Go.Proofs
open Go.RowKit
attribute [local go_sem] Oper.semAt_some

/-- What Check answers. -/
def CheckC : Prop := ∀ (w : World) (T : Treaty) (a1 a2 a3 a4 : Option Addr) (c1 c2 c3 c4 : Nat), TRep w T a1 a2 a3 a4 → Calls Try.prog 14 #[.agg #[.int .i64 T.places, .slice a1 T.ways.length c1, .slice a2 T.words.length c2, .slice a3 T.starts.length c3, .slice a4 T.legs.length c4]] w fun e w' => e = .returned (.int .i64 (checkE T)) ∧ Aft w w'
theorem word_cell2 {w : World} {a2 : Option Addr} {ws : List (List Mean)} (h : RowsP w a2 1 WordR ws) {n : Nat} (hn : n < ws.length) :
    ∃ b2 o2 Am cm, a2 = some ⟨b2, o2, none⟩ ∧ w.cell? ⟨b2, o2 + n, none⟩ = some (.slice Am ws[n].length cm) ∧ RowsP w Am 2 MeanR ws[n] := by
  obtain ⟨b2, o2, e, hb, hc⟩ := h.at hn
  obtain ⟨vs, _, ⟨Am, cm, rfl, hms⟩, hv⟩ := hc n hn
  refine ⟨b2, o2, Am, cm, e, ?_, hms⟩
  have := hv 0 (by simp); simpa using this

set_option maxRecDepth 100000 in
set_option maxHeartbeats 4000000 in
theorem readingRef_any (HCK : CheckC) (w : World) (T : Treaty) (a1 a2 a3 a4 : Option Addr) (c1 c2 c3 c4 : Nat) (R : List Int) (AR : Option Addr) (cR : Nat) (hT : TRep w T a1 a2 a3 a4) (hR : Ints w AR R) :
    Calls Try.prog 65 #[.agg #[.int .i64 T.places, .slice a1 T.ways.length c1, .slice a2 T.words.length c2, .slice a3 T.starts.length c3, .slice a4 T.legs.length c4], .slice AR R.length cR] w fun e w' => e = .returned (.int .i64 (readE T R)) ∧ Aft w w' := by
  have HCC := Lib.hid (fun (y : World) (hy : Aft w y) => HCK y T a1 a2 a3 a4 c1 c2 c3 c4 (hT.aft hy))
  have hrl := hR.len
  have hl2 := hT.words.len (by decide)
  have HT := Lib.hid hT
  have HR := Lib.hid hR
  clear hT hR HCK
  go_enter Try.func65, Try.ntmps65
  go_upto_region 1 with fail
  have hb := Blk.new w 36 #[.int .i64 T.places, .slice a1 T.ways.length c1, .slice a2 T.words.length c2, .slice a3 T.starts.length c3, .slice a4 T.legs.length c4]
  have ha := Aft.alloc w (.cells #[.int .i64 T.places, .slice a1 T.ways.length c1, .slice a2 T.words.length c2, .slice a3 T.starts.length c3, .slice a4 T.legs.length c4] 36)
  generalize w.alloc (.cells #[.int .i64 T.places, .slice a1 T.ways.length c1, .slice a2 T.words.length c2, .slice a3 T.starts.length c3, .slice a4 T.legs.length c4] 36) = X at *
  have k0 : X.cell? ⟨w.heap.size, 0, none⟩ = some (.int .i64 T.places) := hb.cell 0
  have k1 : X.cell? ⟨w.heap.size, 1, none⟩ = some (.slice a1 T.ways.length c1) := hb.cell 1
  have k2 : X.cell? ⟨w.heap.size, 2, none⟩ = some (.slice a2 T.words.length c2) := hb.cell 2
  have k3 : X.cell? ⟨w.heap.size, 3, none⟩ = some (.slice a3 T.starts.length c3) := hb.cell 3
  have k4 : X.cell? ⟨w.heap.size, 4, none⟩ = some (.slice a4 T.legs.length c4) := hb.cell 4
  have HB := Lib.hid hb
  have HA := Lib.hid ha
  clear hb ha
  (repeat (first | go_big_skip | go_big_want | go_big_move | go_big_op | go_step | go_upon | go_back))
  go_at_call 14
  refine (HCC.out X HA.out).mono ?_
  rintro e Y ⟨rfl, haY⟩
  dsimp only
  have HAY := Lib.hid haY
  have hBw := HB.out.aft haY
  clear k0 k1 k2 k3 k4 haY
  have k2 : Y.cell? ⟨w.heap.size, 2, none⟩ = some (.slice a2 T.words.length c2) := hBw.cell 2
  clear hBw
  by_cases hce : checkE T = 0
  · have HCE := Lib.hid hce
    have HOK := Lib.hid (checkE_ok hce)
    rw [hce]
    clear hce
    have d0 : ((0 : Int) != 0) = false := by decide
    by_cases hlen : R.length = T.words.length
    · have HLN := Lib.hid hlen
      have hbl : ((R.length : Int) != (T.words.length : Int)) = false := by rw [hlen]; simp
      clear hlen
      have HX0 : Hid (Aft Y Y) := Lib.hid (Aft.refl _)
      (repeat (first | go_big_skip | go_big_want | go_big_move | go_big_op | go_step | go_upon | go_back))
      go_loopw [6] (fun i wr => ∃ k : Nat, i = .int .i64 k ∧ k ≤ R.length ∧ (∀ j, j < k → (h : j < R.length) → (h' : j < T.words.length) → 0 ≤ R[j] ∧ R[j] < T.words[j].length) ∧ Aft Y wr) (fun i _ => R.length - (intOf i).toNat)
      case atStart => exact ⟨0, rfl, by omega, fun j h => absurd h (Nat.not_lt_zero _), HX0.out⟩
      case round =>
        obtain ⟨k, rfl, hk, hall, haX⟩ := hrel
        have HAX := Lib.hid haX
        have HALL := Lib.hid hall
        clear hall HX0 k2
        by_cases hkn : k < R.length
        · have hdec : decide (k < R.length) = true := decide_eq_true hkn
          have hkw : k < T.words.length := by have := HLN.out; omega
          have hBw := HB.out.aft (HAY.out.trans haX)
          obtain ⟨b2, o2, Am, cm, rfl, cW, hms⟩ := word_cell2 (HT.out.aft (HA.out.trans (HAY.out.trans haX))).words hkw
          obtain ⟨bR, oR, rfl, hbR, hcR⟩ := (HR.out.aft (HA.out.trans (HAY.out.trans haX))).at hkn
          have hml := hms.len (by decide)
          have C2 : Hid (wr.cell? ⟨w.heap.size, 2, none⟩ = some (.slice (some ⟨b2, o2, none⟩) T.words.length c2)) := Lib.hid (hBw.cell 2)
          have CW := Lib.hid cW
          have CR := Lib.hid (hcR k hkn)
          have hnx : 0 ≤ R[k] ∧ R[k] < T.words[k].length → ∀ j, j < k + 1 → (h : j < R.length) → (h' : j < T.words.length) → 0 ≤ R[j] ∧ R[j] < T.words[j].length := fun h j hj h1 h2 => by
            by_cases e : j < k
            · exact HALL.out j e h1 h2
            · have e2 : j = k := by omega
              subst e2; exact h
          have hbd : ¬ (0 ≤ R[k] ∧ R[k] < T.words[k].length) → readE T R = 2 := fun h => readE_arg HCE.out fun hro => h (hro.2 k hkn hkw)
          have HNX := Lib.hid hnx
          have HBD := Lib.hid hbd
          have i1 : (0 : Int) ≤ (k : Int) ∧ (k : Int) < (R.length : Int) := by omega
          have i2 : (0 : Int) ≤ (k : Int) ∧ (k : Int) < (T.words.length : Int) := by omega
          clear hBw cW hcR hms hnx hbd haX
          generalize R[k] = r at *
          generalize T.words[k].length = ln at *
          have hw1 : IntKind.i64.wrap ((ln : Int) - 1) = (ln : Int) - 1 := IntWalk.i64_in _ (by omega)
          (repeat (first | go_big_skip | go_big_want | go_big_move | go_big_op | go_step | go_upon | go_back))
          obtain ⟨bb, hbb⟩ : ∃ b, (!fromB r 0 ((ln : Int) - 1)) = b := ⟨_, rfl⟩
          have HBB := Lib.hid hbb
          clear hbb
          have hmx : Try.prog.follows .mixedOrders = true := by kernel_rfl
          refine wp_region_valsG hmx 36 rfl (by kernel_rfl) (by kernel_rfl) [.slice (some ⟨bR, oR, none⟩) R.length cR, .int .i64 k, .pointer (some ⟨bR, oR + k, none⟩), .int .i64 r, .pointer (some ⟨w.heap.size, 2, none⟩), .slice (some ⟨b2, o2, none⟩) T.words.length c2, .int .i64 k, .pointer (some ⟨b2, o2 + k, none⟩), .slice Am ln cm, .int .i64 ln, .int .i64 ((ln : Int) - 1), .bool bb] rfl (fun X => Aft wr X) (Aft.drew _) ?step ?fin
          case step =>
            intro i' o' v ho hv
            match i', ho, hv with
            | 0, ho, hv =>
              cases ho; cases hv
              refine .inl ⟨rfl, fun a X hk hX K hK => ?_⟩
              have e_1 : a.eval (.tmp 1) = .slice (some ⟨bR, oR, none⟩) R.length cR := (hk.same 1 (by decide)).trans rfl
              exact op_val (by simp [go_sem, ev' e_1]) (hK _ hX)
            | 1, ho, hv =>
              cases ho; cases hv
              refine .inl ⟨rfl, fun a X hk hX K hK => ?_⟩
              have e_6 : a.eval (.tmp 6) = .int .i64 k := (hk.same 6 (by decide)).trans rfl
              exact op_val (by simp [go_sem, ev' e_6]) (hK _ hX)
            | 2, ho, hv =>
              cases ho; cases hv
              refine .inl ⟨rfl, fun a X hk hX K hK => ?_⟩
              have e_24 : a.eval (.tmp 24) = .slice (some ⟨bR, oR, none⟩) R.length cR := hk.at_ 0 _ 24 _ rfl (by decide) _ rfl rfl rfl
              have e_25 : a.eval (.tmp 25) = .int .i64 k := hk.at_ 1 _ 25 _ rfl (by decide) _ rfl rfl rfl
              exact op_val (by simp [go_sem, ev' e_24, ev' e_25, i1]) (hK _ hX)
            | 3, ho, hv =>
              cases ho; cases hv
              refine .inl ⟨rfl, fun a X hk hX K hK => ?_⟩
              have e_26 : a.eval (.tmp 26) = .pointer (some ⟨bR, oR + k, none⟩) := hk.at_ 2 _ 26 _ rfl (by decide) _ rfl rfl rfl
              have hc := cells_aft hX CR.out
              exact op_val (by simp [go_sem, ev' e_26, hc]) (hK _ hX)
            | 4, ho, hv =>
              cases ho; cases hv
              refine .inl ⟨rfl, fun a X hk hX K hK => ?_⟩
              have e_2 : a.eval (.tmp 2) = .pointer (some ⟨w.heap.size, 0, none⟩) := (hk.same 2 (by decide)).trans rfl
              exact op_val (by simp [go_sem, ev' e_2]) (hK _ hX)
            | 5, ho, hv =>
              cases ho; cases hv
              refine .inl ⟨rfl, fun a X hk hX K hK => ?_⟩
              have e_28 : a.eval (.tmp 28) = .pointer (some ⟨w.heap.size, 2, none⟩) := hk.at_ 4 _ 28 _ rfl (by decide) _ rfl rfl rfl
              have hc := cells_aft hX C2.out
              exact op_val (by simp [go_sem, ev' e_28, hc]) (hK _ hX)
            | 6, ho, hv =>
              cases ho; cases hv
              refine .inl ⟨rfl, fun a X hk hX K hK => ?_⟩
              have e_6 : a.eval (.tmp 6) = .int .i64 k := (hk.same 6 (by decide)).trans rfl
              exact op_val (by simp [go_sem, ev' e_6]) (hK _ hX)
            | 7, ho, hv =>
              cases ho; cases hv
              refine .inl ⟨rfl, fun a X hk hX K hK => ?_⟩
              have e_29 : a.eval (.tmp 29) = .slice (some ⟨b2, o2, none⟩) T.words.length c2 := hk.at_ 5 _ 29 _ rfl (by decide) _ rfl rfl rfl
              have e_30 : a.eval (.tmp 30) = .int .i64 k := hk.at_ 6 _ 30 _ rfl (by decide) _ rfl rfl rfl
              exact op_val (by simp [go_sem, ev' e_29, ev' e_30, i2]) (hK _ hX)
            | 8, ho, hv =>
              cases ho; cases hv
              refine .inl ⟨rfl, fun a X hk hX K hK => ?_⟩
              have e_31 : a.eval (.tmp 31) = .pointer (some ⟨b2, o2 + k, none⟩) := hk.at_ 7 _ 31 _ rfl (by decide) _ rfl rfl rfl
              have hc := cells_aft hX CW.out
              exact op_val (by simp [go_sem, ev' e_31, hc]) (hK _ hX)
            | 9, ho, hv =>
              cases ho; cases hv
              refine .inl ⟨rfl, fun a X hk hX K hK => ?_⟩
              have e_32 : a.eval (.tmp 32) = .slice Am ln cm := hk.at_ 8 _ 32 _ rfl (by decide) _ rfl rfl rfl
              exact op_val (by simp [go_sem, ev' e_32]) (hK _ hX)
            | 10, ho, hv =>
              cases ho; cases hv
              refine .inl ⟨rfl, fun a X hk hX K hK => ?_⟩
              have e_33 : a.eval (.tmp 33) = .int .i64 ln := hk.at_ 9 _ 33 _ rfl (by decide) _ rfl rfl rfl
              exact op_val (by simp [go_sem, ev' e_33, hw1]) (hK _ hX)
            | 11, ho, hv =>
              cases ho; cases hv
              refine .inl ⟨rfl, fun a X hk hX K hK => ?_⟩
              have e_27 : a.eval (.tmp 27) = .int .i64 r := hk.at_ 3 _ 27 _ rfl (by decide) _ rfl rfl rfl
              have e_34 : a.eval (.tmp 34) = .int .i64 ((ln : Int) - 1) := hk.at_ 10 _ 34 _ rfl (by decide) _ rfl rfl rfl
              refine op_call3 Try.func60 (by kernel_rfl) (by kernel_rfl) _ _ _ rfl e_27 rfl e_34 (beside_any _ _ _ X) ?_
              rintro e w' ⟨rfl, rfl⟩
              rw [HBB.out]
              exact ⟨_, rfl, hK _ hX⟩
            | _ + 12, ho, _ => cases ho
          case fin =>
            intro X hX
            simp only [List.zip_cons_cons, List.zip_nil_right, putAll, Act.put, List.setIfInBounds_toArray, List.set_cons_succ, List.set_cons_zero]
            have HX := Lib.hid hX
            clear hX hw1
            cases bb with
            | true =>
              have HR2 := Lib.hid (HBD.out (by have := HBB.out; rw [Bool.not_eq_true', fromB_not] at this; omega))
              (repeat (first | go_big_skip | go_big_want | go_big_move | go_big_op | go_step | go_upon | go_back))
              go_ret
              exact ⟨ret_int HR2.out.symm, HA.out.trans (HAY.out.trans (HAX.out.trans HX.out))⟩
            | false =>
              have HR2 := Lib.hid (HNX.out (by have := HBB.out; rw [Bool.not_eq_false', fromB_iff] at this; omega))
              (repeat (first | go_big_skip | go_big_want | go_big_move | go_big_op | go_step | go_upon | go_back))
              exact ⟨⟨k + 1, by go_num, by omega, HR2.out, HAX.out.trans HX.out⟩, by simp [intOf] <;> omega⟩
        · have hdec : decide (k < R.length) = false := decide_eq_false hkn
          have HR2 : Hid (readE T R = 0) := Lib.hid (readE_zero.2 ⟨HCE.out, HLN.out, fun j h h' => HALL.out j (by omega) h h'⟩)
          (repeat (first | go_big_skip | go_big_want | go_big_move | go_big_op | go_step | go_upon | go_back))
          go_ret
          exact ⟨ret_int HR2.out.symm, HA.out.trans (HAY.out.trans HAX.out)⟩
    · have hbl : ((R.length : Int) != (T.words.length : Int)) = true := by rw [bne_iff_ne]; omega
      have HR2 : Hid (readE T R = 2) := Lib.hid (readE_arg HCE.out fun h => hlen h.1)
      clear hlen
      (repeat (first | go_big_skip | go_big_want | go_big_move | go_big_op | go_step | go_upon | go_back))
      go_ret
      exact ⟨ret_int HR2.out.symm, HA.out.trans HAY.out⟩
  · have HR2 : Hid (readE T R = checkE T) := Lib.hid (readE_check hce)
    have hz : (checkE T != 0) = true := by rw [bne_iff_ne]; exact hce
    clear hce
    generalize checkE T = ce at *
    (repeat (first | go_big_skip | go_big_want | go_big_move | go_big_op | go_step | go_upon | go_back))
    go_ret
    exact ⟨ret_int HR2.out.symm, HA.out.trans HAY.out⟩
end Go.Proofs
end

section
/- Plain: all readings, word by word. -/
namespace Go.Proofs

theorem prodN_app (ns : List Nat) (n : Nat) : prodN (ns ++ [n]) = prodN ns * n := by
  induction ns with
  | nil => simp [prodN]
  | cons a ns ih => show a * prodN (ns ++ [n]) = a * prodN ns * n; rw [ih, Nat.mul_assoc]
theorem dig_app : ∀ (ns : List Nat) (n k : Nat), k < prodN (ns ++ [n]) → dig (ns ++ [n]) k = dig ns (k / n) ++ [((k % n : Nat) : Int)]
  | [], n, k, hn => by
    have hk : k < n := by have : k < n * 1 := hn; omega
    show [((k / 1 : Nat) : Int)] = [((k % n : Nat) : Int)]
    rw [Nat.div_one, Nat.mod_eq_of_lt hk]
  | a :: ns, n, k, hn => by
    show ((k / prodN (ns ++ [n]) : Nat) : Int) :: dig (ns ++ [n]) (k % prodN (ns ++ [n])) = ((k / n / prodN ns : Nat) : Int) :: dig ns (k / n % prodN ns) ++ [((k % n : Nat) : Int)]
    have hp : 0 < prodN (ns ++ [n]) := by
      have h : k < a * prodN (ns ++ [n]) := hn
      rcases Nat.eq_zero_or_pos (prodN (ns ++ [n])) with e | e
      · rw [e] at h; simp at h
      · exact e
    rw [dig_app ns n _ (Nat.mod_lt _ hp), prodN_app, Nat.mul_comm (prodN ns) n, ← Nat.div_div_eq_div_mul, List.cons_append]
    congr 2
    · rw [Nat.mod_mul_right_div_self]
    · rw [Nat.mod_mul_right_mod]
/-- the readings of the first words -/
def readW (T : Treaty) (k : Nat) : List (List Int) := (List.range (prodN ((T.words.take k).map List.length))).map (dig ((T.words.take k).map List.length))
/-- one word more -/
def extW (n : Nat) (r : List Int) (m : Nat) : List (List Int) := (List.range m).map fun m : Nat => r ++ [(m : Int)]
theorem range_mul_map {α : Type} (f : Nat → α) (P n : Nat) : (List.range (P * n)).map f = (List.range P).flatMap fun q => (List.range n).map fun m => f (q * n + m) := by
  induction P with
  | zero => simp
  | succ P ih =>
    rw [Nat.add_mul, Nat.one_mul, List.range_add, List.map_append, ih, List.range_succ, List.flatMap_append]
    simp [List.map_map, Function.comp_def]
theorem readW_succ {T : Treaty} {k : Nat} (hk : k < T.words.length) (h1 : 1 ≤ T.words[k].length) : readW T (k + 1) = (readW T k).flatMap fun r => extW 0 r T.words[k].length := by
  unfold readW extW
  rw [List.take_succ_eq_append_getElem hk, List.map_append, List.map_singleton, prodN_app, range_mul_map, List.flatMap_map]
  refine flatMap_congr' fun q hq => ?_
  have hq := List.mem_range.1 hq
  refine List.map_congr_left fun m hm => ?_
  have hm := List.mem_range.1 hm
  have hlt : q * T.words[k].length + m < prodN ((T.words.take k).map List.length ++ [T.words[k].length]) := by
    rw [prodN_app]
    have : (q + 1) * T.words[k].length ≤ prodN ((T.words.take k).map List.length) * T.words[k].length := Nat.mul_le_mul_right _ hq
    rw [Nat.add_mul, Nat.one_mul] at this
    omega
  rw [dig_app _ _ _ hlt]
  congr 2
  · rw [Nat.mul_comm, Nat.mul_add_div (by omega), Nat.div_eq_of_lt hm, Nat.add_zero]
  · rw [Nat.mul_comm, Nat.mul_add_mod, Nat.mod_eq_of_lt hm]
theorem readW_zero (T : Treaty) : readW T 0 = [[]] := by unfold readW; simp [prodN, dig]
theorem readW_all (T : Treaty) : readW T T.words.length = readingsL T := by unfold readW readingsL lensOf; rw [List.take_length]
theorem readW_len {T : Treaty} {k : Nat} {l : List Int} (hk : k ≤ T.words.length) (h : l ∈ readW T k) : l.length = k := by
  unfold readW at h
  obtain ⟨j, -, rfl⟩ := List.mem_map.1 h
  rw [dig_len, List.length_map, List.length_take]; omega
end Go.Proofs
end
