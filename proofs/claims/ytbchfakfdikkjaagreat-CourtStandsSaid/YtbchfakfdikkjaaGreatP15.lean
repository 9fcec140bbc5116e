/- Own texts, merged: CtMa Srt0 CtV CtU CtW. -/
import Derived.Test.YtbchfakfdikkjaaGreatP02
import Derived.Test.YtbchfakfdikkjaaGreatP07
import Derived.Test.YtbchfakfdikkjaaGreatP12
import Derived.Test.YtbchfakfdikkjaaGreatP13
import Derived.Test.YtbchfakfdikkjaaGreatP14
import Derived.Shelf.SlLaysF
import Derived.Lib.Small
import Derived.Shelf.SlSortCmp.Whole1
set_option linter.unusedSimpArgs false
set_option linter.unusedVariables false
set_option linter.unnecessarySimpa false
section
namespace Go.Proofs
open Go.RowKit
attribute [local go_sem] Oper.semAt_some
theorem info57' : (Tryz.prog.info? 57).map (·.size) = some 2 := by kernel_rfl
theorem info25b : (Tryz.prog.info? 25).map (·.size) = some 3 := by kernel_rfl
theorem own_cap {w : World} {base g cap n : Nat} {t : TypeId} {size : Nat} {xs : List Value} (h : w.ownsRow base t size (.slice (some ⟨g, 0, none⟩) n cap) n xs) : n ≤ cap := by
  rcases h.2 with ⟨h0, _⟩ | ⟨g', cap', cur, hv, _, _, hn, _⟩
  · cases h0
  cases hv
  exact hn
def MadeR (w0 : World) (d : Nat) (A : Option Addr) (l : List Int) (c m n : Nat) (w : World) (e : Ending) (w' : World) : Prop :=
  ∃ N L T a1 a2 c1 c2, e = .returned (.agg #[.int .i64 ((N : Nat) : Int), .slice a1 L.length c1, .slice a2 T.length c2]) ∧ 1 ≤ N ∧ N ≤ n ∧ Drawn N L T ∧ T.length ≤ 3 ∧ CRepS w.heap.size w' ⟨N, L, T⟩ a1 a2 ∧ DeckAt w0 d A l c (m + 200) w' ∧ w.grownBy w' (some d)

set_option maxRecDepth 100000 in
set_option maxHeartbeats 8000000 in
theorem made_any (w0 : World) (d : Nat) (A : Option Addr) (l : List Int) (c m n : Nat) (w : World) (hd : DeckAt w0 d A l c m w) (hm : m ≤ 800000) (hn1 : 1 ≤ n) (hn : n ≤ 14) :
    Calls Tryz.prog 36 #[.pointer (some ⟨d, 0, none⟩), .int .i64 n] w (MadeR w0 d A l c m n w) := by
  have hdl := hd.lt
  have HB := Lib.hid (between_any w0 d A l c m 1 n (w.alloc (.cells #[.int .i64 0, .slice none 0 0, .slice none 0 0] 25)) (hd.aft (Aft.alloc _ _)) (by omega) (by omega) (by omega) (by omega))
  clear hd
  go_enter Tryz.func36, Tryz.ntmps36
  go_upto_region 2 with (first | (go_at_call 87; refine HB.out.mono ?_; rintro e w1 ⟨x, rfl, hx0, hx1, hd1, hg1⟩; obtain ⟨N, rfl⟩ := Int.eq_ofNat_of_zero_le (show 0 ≤ x by omega); have HD1 := Lib.hid hd1; have HG1 := Lib.hid hg1; clear hd1 hg1) | (refine wpList_store_new rfl 25 (.tmp 5) (.tmp 11) rfl rfl rfl info25b rfl (all_oneCell_toArray (by intro v hv; simp at hv; rcases hv with rfl | rfl | rfl <;> rfl)) ?_))
  simp only [Act.put]
  have HM0 : Hid (Md w d w1.heap.size N [] [] (.slice none 0 0) (.slice none 0 0) (w1.alloc (.cells #[.int .i64 N, .slice none 0 0, .slice none 0 0] 25))) := Lib.hid (by
    have hsz : w.heap.size + 1 ≤ w1.heap.size := by have := HG1.out.size; simpa using this
    refine ⟨only_aft (World.grownBy.trans (only_of_aft (Aft.alloc w _) _) HG1.out) (Aft.alloc _ _), hdl, by omega, ?_, Blk.new _ _ _, World.ownsRow_nil _ _ 57 2, Outs.nil _ _⟩
    exact ((Blk.new w 25 _).grown HG1.out (fun e => by cases e; omega)).alloc _)
  have HD2 := Lib.hid (HD1.out.aft (Aft.alloc w1 (.cells #[.int .i64 N, .slice none 0 0, .slice none 0 0] 25)))
  obtain ⟨b5, hb5⟩ : ∃ b5, w1.heap.size = b5 := ⟨_, rfl⟩
  rw [hb5] at HM0 ⊢
  clear hb5 HB HD1 HG1
  generalize w1.alloc (.cells #[.int .i64 N, .slice none 0 0, .slice none 0 0] 25) = W2 at *
  have HDR := Lib.hid (draw_any w0 d A l c (m + 1) (2 * N + 1) W2 HD2.out (by omega) (by omega) (by omega))
  obtain ⟨k0, k1, k2, k3, -⟩ := HM0.out.cells
  have hN14 : N ≤ 14 := by omega
  have hN1 : 1 ≤ N := by omega
  go_upto_block 0 with (go_at_call 44; refine HDR.out.mono ?_; rintro e w3 ⟨x, rfl, hk0, hk1, hd3, hg3⟩; obtain ⟨K, rfl⟩ := Int.eq_ofNat_of_zero_le hk0; have HD3 := Lib.hid hd3; have HM3 := Lib.hid (HM0.out.deal hg3); clear hd3 hg3)
  have hK : K ≤ 28 := by omega
  clear k0 k1 k2 k3 hk0 hk1 HDR HD2 HM0
  refine wp_block ?_
  go_loopw [18] (fun i wr => ∃ (k : Nat) (L : List (Int × Int)) (vS : Value), i = .int .i64 k ∧ k ≤ K ∧ Drawn N L [] ∧ Md w d b5 N L [] vS (.slice none 0 0) wr ∧ DeckAt w0 d A l c (m + 2 + 3 * k) wr) (fun i _ => K - (intOf i).toNat)
  case atStart => exact ⟨0, [], _, rfl, by omega, Drawn.nil N, HM3.out, HD3.out.more (by omega)⟩
  case round =>
    obtain ⟨k, L, vS, rfl, hk, hdn, hmd, hdk⟩ := hrel
    have HM := Lib.hid hmd
    have HDN := Lib.hid hdn
    have HDK := Lib.hid hdk
    clear hmd hdn hdk
    by_cases hkK : k < K
    · have t1 : decide (k < K) = true := by simpa using hkK
      have HMW : Hid (∀ W, wr.grownBy W (some d) → W.cell? ⟨b5, 0, none⟩ = some (.int .i64 N) ∧ b5 < W.heap.size) := Lib.hid fun W h => ⟨(HM.out.deal h).cells.1, (HM.out.deal h).cells.2.2.2.1⟩
      have H44 : Hid (∀ W mm, DeckAt w0 d A l c mm W → mm ≤ 900200 → Calls Tryz.prog 44 #[.pointer (some ⟨d, 0, none⟩), .int .i64 N] W (Dealt w0 d A l c mm N W)) := Lib.hid fun W mm h h2 => draw_any w0 d A l c mm N W h (by omega) (by omega) (by omega)
      go_upto_region 4 with (fail)
      refine wp_region_valsU (by kernel_rfl) 10 88 rfl (by kernel_rfl) (by kernel_rfl) [some (.pointer (some ⟨d, 0, none⟩)), some (.pointer (some ⟨b5, 0, none⟩)), some (.int .i64 N), none, some (.pointer (some ⟨d, 0, none⟩)), some (.pointer (some ⟨b5, 0, none⟩)), some (.int .i64 N), none, none, none] (by kernel_rfl) rfl (Deal4 w0 d A l c (m + 2 + 3 * k) wr N) (Deal4.start HDK.out) ?st1 ?fi1
      case st1 =>
        intro i o v ho hv
        match i, ho, hv with
        | 0, ho, hv =>
          cases ho; cases hv
          refine .inl ⟨rfl, fun done a W hz hd hp hk hw K hK => ?_⟩
          have e0 := hk.same 0 (by decide)
          exact op_val (v := .pointer (some ⟨d, 0, none⟩)) (by simp [go_sem, ev' e0]) (hK _ _ (fun u hu => by cases hu; rfl) (hw.keep (by decide) (by decide)))
        | 1, ho, hv =>
          cases ho; cases hv
          refine .inl ⟨rfl, fun done a W hz hd hp hk hw K hK => ?_⟩
          have e5 := hk.same 5 (by decide)
          exact op_val (v := .pointer (some ⟨b5, 0, none⟩)) (by simp [go_sem, ev' e5]) (hK _ _ (fun u hu => by cases hu; rfl) (hw.keep (by decide) (by decide)))
        | 2, ho, hv =>
          cases ho; cases hv
          refine .inl ⟨rfl, fun done a W hz hd hp hk hw K hK => ?_⟩
          have e21 := hk.at_ 1 _ 21 _ rfl (by decide) _ rfl rfl rfl
          exact op_val (v := .int .i64 N) (by simp [go_sem, ev' e21, (HMW.out W hw.grown).1]) (hK _ _ (fun u hu => by cases hu; rfl) (hw.keep (by decide) (by decide)))
        | 3, ho, hv =>
          cases ho; cases hv
          refine .inl ⟨rfl, fun done a W hz hd hp hk hw K hK => ?_⟩
          have e20 := hk.at_ 0 _ 20 _ rfl (by decide) _ rfl rfl rfl
          have e22 := hk.at_ 2 _ 22 _ rfl (by decide) _ rfl rfl rfl
          have hdk := hw.deck
          refine op_callN rfl rfl rfl _ rfl (vs := #[.pointer (some ⟨d, 0, none⟩), .int .i64 N]) (by simp [e20, e22]) (H44.out W _ hdk (by cases done 3 <;> cases done 7 <;> simp [n1] <;> omega)) fun e w' h => ?_
          obtain ⟨x, rfl, hx0, hx1, hd2, hg2⟩ := h
          obtain ⟨X, rfl⟩ := Int.eq_ofNat_of_zero_le hx0
          exact ⟨_, rfl, hK _ _ (fun u hu => by cases hu) (hw.step3 hd (by omega) hd2 hg2 (by rw [hz]; decide))⟩
        | 4, ho, hv =>
          cases ho; cases hv
          refine .inl ⟨rfl, fun done a W hz hd hp hk hw K hK => ?_⟩
          have e0 := hk.same 0 (by decide)
          exact op_val (v := .pointer (some ⟨d, 0, none⟩)) (by simp [go_sem, ev' e0]) (hK _ _ (fun u hu => by cases hu; rfl) (hw.keep (by decide) (by decide)))
        | 5, ho, hv =>
          cases ho; cases hv
          refine .inl ⟨rfl, fun done a W hz hd hp hk hw K hK => ?_⟩
          have e5 := hk.same 5 (by decide)
          exact op_val (v := .pointer (some ⟨b5, 0, none⟩)) (by simp [go_sem, ev' e5]) (hK _ _ (fun u hu => by cases hu; rfl) (hw.keep (by decide) (by decide)))
        | 6, ho, hv =>
          cases ho; cases hv
          refine .inl ⟨rfl, fun done a W hz hd hp hk hw K hK => ?_⟩
          have e25 := hk.at_ 5 _ 25 _ rfl (by decide) _ rfl rfl rfl
          exact op_val (v := .int .i64 N) (by simp [go_sem, ev' e25, (HMW.out W hw.grown).1]) (hK _ _ (fun u hu => by cases hu; rfl) (hw.keep (by decide) (by decide)))
        | 7, ho, hv =>
          cases ho; cases hv
          refine .inl ⟨rfl, fun done a W hz hd hp hk hw K hK => ?_⟩
          have e24 := hk.at_ 4 _ 24 _ rfl (by decide) _ rfl rfl rfl
          have e26 := hk.at_ 6 _ 26 _ rfl (by decide) _ rfl rfl rfl
          have hdk := hw.deck
          refine op_callN rfl rfl rfl _ rfl (vs := #[.pointer (some ⟨d, 0, none⟩), .int .i64 N]) (by simp [e24, e26]) (H44.out W _ hdk (by cases done 3 <;> cases done 7 <;> simp [n1] <;> omega)) fun e w' h => ?_
          obtain ⟨x, rfl, hx0, hx1, hd2, hg2⟩ := h
          obtain ⟨X, rfl⟩ := Int.eq_ofNat_of_zero_le hx0
          exact ⟨_, rfl, hK _ _ (fun u hu => by cases hu) (hw.step7 hd (by omega) hd2 hg2 (by rw [hz]; decide))⟩
        | 8, ho, hv =>
          cases ho; cases hv
          refine .inl ⟨rfl, fun done a W hz hd hp hk hw K hK => ?_⟩
          obtain ⟨x, ex, hx⟩ := hw.v3 (hp 3 (by decide))
          obtain ⟨y, ey, hy⟩ := hw.v7 (hp 7 (by decide))
          exact op_val (v := .agg #[.int .i64 x, .int .i64 y]) (by simp [go_sem, ev' ex, ev' ey]) (hK _ _ (fun u hu => by cases hu) (hw.step8 hx hy (by rw [hz]; decide)))
        | 9, ho, hv =>
          cases ho; cases hv
          refine .inl ⟨rfl, fun done a W hz hd hp hk hw K hK => ?_⟩
          exact op_valW (w' := W.alloc (.cells #[.int .i64 0, .int .i64 0] 57)) (v := .pointer (some ⟨W.heap.size, 0, none⟩)) (by simp [go_sem]) (hK _ _ (fun u hu => by cases hu) (hw.step9 (by rw [hz]; decide)))
        | _ + 10, _, hv => cases hv
      intro done us W hus hd hw
      obtain ⟨x1, x2, x3, x4, rfl⟩ := list4 hus
      obtain ⟨x, y, e28, hx, hy⟩ := hw.v8 (hd 8 (by decide))
      obtain ⟨g, e6, hg0, hbg⟩ := hw.v9 (hd 9 (by decide))
      have e28' : x3 = .agg #[.int .i64 x, .int .i64 y] := by simpa [fill, putAll, Act.put, Act.eval] using e28
      have e6' : x4 = .pointer (some ⟨g, 0, none⟩) := by simpa [fill, putAll, Act.put, Act.eval] using e6
      subst e28'
      subst e6'
      have hdk := hw.deck
      rw [hd 3 (by decide), hd 7 (by decide), n1_t] at hdk
      have HDX := Lib.hid hdk
      have HGX := Lib.hid hw.grown
      have HBG := Lib.hid hbg
      clear hw hd hus hdk e28 e6 hbg HDK
      simp only [fill, List.drop_succ_cons, List.drop_zero, List.zip_cons_cons, List.zip_nil_right, putAll]
      simp only [Act.put, List.setIfInBounds_toArray, List.set]
      go_upto_region 5 with (refine wpList_store_mid rfl 57 (.tmp 6) (.tmp 28) rfl g 0 #[.int .i64 x, .int .i64 y] rfl rfl (blk_there HBG.out rfl) info57' (all_oneCell_toArray (by intro v hv; simp at hv; rcases hv with rfl | rfl <;> rfl)) ?_)
      have hb1 : Blk (W.setCells g 0 [.int .i64 x, .int .i64 y]) g 57 #[.int .i64 x, .int .i64 y] := by
        have := (HBG.out.store 0 (.int .i64 x)).store 1 (.int .i64 y)
        exact this
      have hs1 : W.grownBy (W.setCells g 0 [.int .i64 x, .int .i64 y]) (some g) := only_setCells _ _ _ (only_refl _ _)
      have hdg : d < g := by have := HM.out.dlt; have := HM.out.grown.size; omega
      have HB1 := Lib.hid hb1
      have HG1 := Lib.hid (only_grown HGX.out hs1 (fun k e => by cases e; exact hg0))
      have HD1 := Lib.hid (HDX.out.grown hs1 (fun k e => by cases e; exact hdg))
      clear hb1 hs1 HDX HGX HBG
      generalize W.setCells g 0 [.int .i64 x, .int .i64 y] = W1 at *
      have j0 : W1.cell? ⟨g, 0, none⟩ = some (.int .i64 x) := HB1.out.cell 0
      have j1 : W1.cell? ⟨g, 1, none⟩ = some (.int .i64 y) := HB1.out.cell 1
      have j2 := HB1.out.lt
      by_cases hxy : x = y
      · obtain rfl : x = y := hxy
        have txy : ((x : Int) == (x : Int)) = true := by simp
        have HCO := Lib.hid (coin_any w0 d A l c (m + 2 + 3 * k + 1 + 1) 5 W1 HD1.out (by omega) (by omega) (by omega))
        go_upto_region 7 with (go_at_call 88; refine HCO.out.mono ?_; rintro e w5 ⟨b, rfl, hd5, hg5⟩; have HD5 := Lib.hid hd5; have HG5 := Lib.hid hg5; have HB5 := Lib.hid (HB1.out.grown hg5 (fun e => by cases e; omega)); clear j0 j1 j2; have j0 : w5.cell? ⟨g, 0, none⟩ = some (.int .i64 x) := HB5.out.cell 0; have j1 : w5.cell? ⟨g, 1, none⟩ = some (.int .i64 x) := HB5.out.cell 1; have j2 := HB5.out.lt; have j3 := HB5.out.frozen 1; obtain ⟨k0, k3⟩ := HMW.out _ (HG1.out.trans hg5); clear hd5 hg5)
        · have hYN : ((x : Int) + 1) % (N : Int) < N := Int.emod_lt_of_pos _ (by omega)
          obtain ⟨Y, hY⟩ : ∃ Y : Nat, ((x : Int) + 1) % (N : Int) = Y := ⟨(((x : Int) + 1) % (N : Int)).toNat, by have := Int.emod_nonneg ((x : Int) + 1) (show (N : Int) ≠ 0 by omega); omega⟩
          rw [hY] at hYN ⊢
          have hset : w5.grownBy (w5.setCell ⟨g, 1, none⟩ (.int .i64 Y)) (some g) := only_setCell (only_refl w5 (some g)) (p := ⟨g, 1, none⟩) (.inl rfl) _
          have HB7 : Hid (Blk (w5.setCell ⟨g, 1, none⟩ (.int .i64 Y)) g 57 #[.int .i64 x, .int .i64 Y]) := Lib.hid (by
            have := HB5.out.store 1 (.int .i64 Y)
            exact this)
          have HG7 := Lib.hid (only_grown (HG1.out.trans HG5.out) hset (fun k e => by cases e; exact hg0))
          have HD7 := Lib.hid (HD5.out.grown hset (fun k e => by cases e; exact hdg))
          have hYN' : Y < N := by omega
          clear hset j0 j1 j2 j3 k0 k3 hY hYN HB5 HD5 HG5
          generalize w5.setCell ⟨g, 1, none⟩ (.int .i64 Y) = W7 at *
          have HAX := Lib.hid HG7.out
          obtain ⟨vA, vc, vA', vc', eS, eT, hstr⟩ := (HM.out.deal HAX.out).form (by have := HDN.out.len; omega)
          subst eS
          obtain ⟨k0, k1, k2, k3, k4⟩ := (HM.out.deal HAX.out).cells
          have j0 : W7.cell? ⟨g, 0, none⟩ = some (.int .i64 x) := (HB7.out).cell 0
          have j1 : W7.cell? ⟨g, 1, none⟩ = some (.int .i64 Y) := (HB7.out).cell 1
          have j2 := (HB7.out).lt
          have HCN := Lib.hid (containsS_any vA L vc x Y W7 hstr)
          have f1 := k4 1
          clear hstr k4
          have HLL := Lib.hid HDN.out.len
          by_cases hin : ((x : Int), (Y : Int)) ∈ L
          · rw [decide_eq_true hin] at HCN
            clear hin
            go_wp2_with (go_at_call 45; refine HCN.out.mono ?_; rintro e w7 ⟨rfl, ha7⟩; have HA7 := Lib.hid ha7; clear ha7)
            exact ⟨⟨k + 1, L, _, by go_num, by omega, HDN.out, (HM.out.deal HAX.out).aft HA7.out, (HD7.out.aft HA7.out).more (by omega)⟩, by simp [intOf]; omega⟩
          · rw [decide_eq_false hin] at HCN
            have HIN := Lib.hid hin
            clear hin
            by_cases h60 : L.length < 60
            · have t60 : decide ((L.length : Int) < 60) = true := by simp; omega
              go_upto_region 8 with (go_at_call 45; refine HCN.out.mono ?_; rintro e w7 ⟨rfl, ha7⟩; have HA7 := Lib.hid ha7; clear k0 k1 k2 k3 j0 j1 j2 f1; obtain ⟨k0, k1, k2, k3, k4⟩ := ((HM.out.deal HAX.out).aft ha7).cells; have f1 := k4 1; have j0 := ((HB7.out).aft ha7).cell 0; have j1 := ((HB7.out).aft ha7).cell 1; have j2 := ((HB7.out).aft ha7).lt; clear ha7 k4)
              have HM7 := Lib.hid (((HM.out.deal HAX.out).aft HA7.out).aft (Aft.alloc w7 (.cells #[.int .i64 x, .int .i64 Y] 57)))
              have hbase : b5 + 1 ≤ (w7.alloc (.cells #[.int .i64 x, .int .i64 Y] 57)).heap.size := by have := HM7.out.k5.lt; omega
              have hc0 : (w7.alloc (.cells #[.int .i64 x, .int .i64 Y] 57)).cell? ⟨w7.heap.size, 0, none⟩ = some (.int .i64 x) := (Blk.new w7 57 #[.int .i64 x, .int .i64 Y]).cell 0
              have hc1 : (w7.alloc (.cells #[.int .i64 x, .int .i64 Y] 57)).cell? ⟨w7.heap.size, 1, none⟩ = some (.int .i64 Y) := (Blk.new w7 57 #[.int .i64 x, .int .i64 Y]).cell 1
              have HC0 := Lib.hid hc0
              have HC1 := Lib.hid hc1
              clear hc0 hc1
              go_wp2_with (at_builtin; refine wpList_push22 rfl _ _ rfl HM7.out.own hbase rfl rfl HC0.out HC1.out (by omega) ?_; intro v8 w8 ho8 hg8; obtain ⟨A8, c8, rfl, _, _⟩ := own_strs ho8 (by simp; omega); have HO8 := Lib.hid ho8; have HG8 := Lib.hid hg8; have y0 := HM7.out.k5.grown hg8 (fun e => by have := own_ge HM7.out.own b5 e.symm; omega); have z1 := y0.cell 1; have z2 := y0.frozen 1; have z3 := y0.lt; clear ho8 hg8)
              have hpush := HM7.out.push HG8.out HO8.out
              rw [show (L ++ [((x : Int), (Y : Int))]).length = L.length + 1 by simp] at hpush
              have hdk := ((HD7.out.aft HA7.out).aft (Aft.alloc w7 (.cells #[.int .i64 x, .int .i64 Y] 57))).grown HG8.out (fun k e => by have := own_ge HM7.out.own k e; have := HM7.out.ge; have := HM7.out.dlt; omega)
              have hdk2 := hdk.grown (only_setCell (only_refl w8 (some b5)) (p := ⟨b5, 1, none⟩) (.inl rfl) (.slice A8 (L.length + 1) c8)) (fun k e => by cases e; have := HM7.out.ge; have := HM7.out.dlt; omega)
              exact ⟨⟨k + 1, _, _, by go_num, by omega, HDN.out.push ⟨⟨by omega, by omega⟩, by omega, by omega⟩ HIN.out h60, hpush, hdk2.more (by omega)⟩, by simp [intOf]; omega⟩
            · have t60 : decide ((L.length : Int) < 60) = false := by simp; omega
              go_wp2_with (go_at_call 45; refine HCN.out.mono ?_; rintro e w7 ⟨rfl, ha7⟩; have HA7 := Lib.hid ha7; clear k0 k1 k2 k3 j0 j1 j2 f1; obtain ⟨k0, k1, k2, k3, k4⟩ := ((HM.out.deal HAX.out).aft ha7).cells; have f1 := k4 1; clear ha7 k4)
              exact ⟨⟨k + 1, L, _, by go_num, by omega, HDN.out, (HM.out.deal HAX.out).aft HA7.out, (HD7.out.aft HA7.out).more (by omega)⟩, by simp [intOf]; omega⟩
        · have HG7 := Lib.hid (HG1.out.trans HG5.out)
          clear j0 j1 j2 j3 k0 k3
          have HAX := Lib.hid HG7.out
          obtain ⟨vA, vc, vA', vc', eS, eT, hstr⟩ := (HM.out.deal HAX.out).form (by have := HDN.out.len; omega)
          subst eS
          obtain ⟨k0, k1, k2, k3, k4⟩ := (HM.out.deal HAX.out).cells
          have j0 : w5.cell? ⟨g, 0, none⟩ = some (.int .i64 x) := (HB5.out).cell 0
          have j1 : w5.cell? ⟨g, 1, none⟩ = some (.int .i64 x) := (HB5.out).cell 1
          have j2 := (HB5.out).lt
          have HCN := Lib.hid (containsS_any vA L vc x x w5 hstr)
          have f1 := k4 1
          clear hstr k4
          have HLL := Lib.hid HDN.out.len
          by_cases hin : ((x : Int), (x : Int)) ∈ L
          · rw [decide_eq_true hin] at HCN
            clear hin
            go_wp2_with (go_at_call 45; refine HCN.out.mono ?_; rintro e w7 ⟨rfl, ha7⟩; have HA7 := Lib.hid ha7; clear ha7)
            exact ⟨⟨k + 1, L, _, by go_num, by omega, HDN.out, (HM.out.deal HAX.out).aft HA7.out, (HD5.out.aft HA7.out).more (by omega)⟩, by simp [intOf]; omega⟩
          · rw [decide_eq_false hin] at HCN
            have HIN := Lib.hid hin
            clear hin
            by_cases h60 : L.length < 60
            · have t60 : decide ((L.length : Int) < 60) = true := by simp; omega
              go_upto_region 8 with (go_at_call 45; refine HCN.out.mono ?_; rintro e w7 ⟨rfl, ha7⟩; have HA7 := Lib.hid ha7; clear k0 k1 k2 k3 j0 j1 j2 f1; obtain ⟨k0, k1, k2, k3, k4⟩ := ((HM.out.deal HAX.out).aft ha7).cells; have f1 := k4 1; have j0 := ((HB5.out).aft ha7).cell 0; have j1 := ((HB5.out).aft ha7).cell 1; have j2 := ((HB5.out).aft ha7).lt; clear ha7 k4)
              have HM7 := Lib.hid (((HM.out.deal HAX.out).aft HA7.out).aft (Aft.alloc w7 (.cells #[.int .i64 x, .int .i64 x] 57)))
              have hbase : b5 + 1 ≤ (w7.alloc (.cells #[.int .i64 x, .int .i64 x] 57)).heap.size := by have := HM7.out.k5.lt; omega
              have hc0 : (w7.alloc (.cells #[.int .i64 x, .int .i64 x] 57)).cell? ⟨w7.heap.size, 0, none⟩ = some (.int .i64 x) := (Blk.new w7 57 #[.int .i64 x, .int .i64 x]).cell 0
              have hc1 : (w7.alloc (.cells #[.int .i64 x, .int .i64 x] 57)).cell? ⟨w7.heap.size, 1, none⟩ = some (.int .i64 x) := (Blk.new w7 57 #[.int .i64 x, .int .i64 x]).cell 1
              have HC0 := Lib.hid hc0
              have HC1 := Lib.hid hc1
              clear hc0 hc1
              go_wp2_with (at_builtin; refine wpList_push22 rfl _ _ rfl HM7.out.own hbase rfl rfl HC0.out HC1.out (by omega) ?_; intro v8 w8 ho8 hg8; obtain ⟨A8, c8, rfl, _, _⟩ := own_strs ho8 (by simp; omega); have HO8 := Lib.hid ho8; have HG8 := Lib.hid hg8; have y0 := HM7.out.k5.grown hg8 (fun e => by have := own_ge HM7.out.own b5 e.symm; omega); have z1 := y0.cell 1; have z2 := y0.frozen 1; have z3 := y0.lt; clear ho8 hg8)
              have hpush := HM7.out.push HG8.out HO8.out
              rw [show (L ++ [((x : Int), (x : Int))]).length = L.length + 1 by simp] at hpush
              have hdk := ((HD5.out.aft HA7.out).aft (Aft.alloc w7 (.cells #[.int .i64 x, .int .i64 x] 57))).grown HG8.out (fun k e => by have := own_ge HM7.out.own k e; have := HM7.out.ge; have := HM7.out.dlt; omega)
              have hdk2 := hdk.grown (only_setCell (only_refl w8 (some b5)) (p := ⟨b5, 1, none⟩) (.inl rfl) (.slice A8 (L.length + 1) c8)) (fun k e => by cases e; have := HM7.out.ge; have := HM7.out.dlt; omega)
              exact ⟨⟨k + 1, _, _, by go_num, by omega, HDN.out.push ⟨⟨by omega, by omega⟩, by omega, by omega⟩ HIN.out h60, hpush, hdk2.more (by omega)⟩, by simp [intOf]; omega⟩
            · have t60 : decide ((L.length : Int) < 60) = false := by simp; omega
              go_wp2_with (go_at_call 45; refine HCN.out.mono ?_; rintro e w7 ⟨rfl, ha7⟩; have HA7 := Lib.hid ha7; clear k0 k1 k2 k3 j0 j1 j2 f1; obtain ⟨k0, k1, k2, k3, k4⟩ := ((HM.out.deal HAX.out).aft ha7).cells; have f1 := k4 1; clear ha7 k4)
              exact ⟨⟨k + 1, L, _, by go_num, by omega, HDN.out, (HM.out.deal HAX.out).aft HA7.out, (HD5.out.aft HA7.out).more (by omega)⟩, by simp [intOf]; omega⟩
      · have txy : ((x : Int) == (y : Int)) = false := beq_eq_false_iff_ne.2 (by omega)
        clear hxy
        go_upto_region 7 with (fail)
        clear j0 j1 j2
        have HAX := Lib.hid HG1.out
        obtain ⟨vA, vc, vA', vc', eS, eT, hstr⟩ := (HM.out.deal HAX.out).form (by have := HDN.out.len; omega)
        subst eS
        obtain ⟨k0, k1, k2, k3, k4⟩ := (HM.out.deal HAX.out).cells
        have j0 : W1.cell? ⟨g, 0, none⟩ = some (.int .i64 x) := (HB1.out).cell 0
        have j1 : W1.cell? ⟨g, 1, none⟩ = some (.int .i64 y) := (HB1.out).cell 1
        have j2 := (HB1.out).lt
        have HCN := Lib.hid (containsS_any vA L vc x y W1 hstr)
        have f1 := k4 1
        clear hstr k4
        have HLL := Lib.hid HDN.out.len
        by_cases hin : ((x : Int), (y : Int)) ∈ L
        · rw [decide_eq_true hin] at HCN
          clear hin
          go_wp2_with (go_at_call 45; refine HCN.out.mono ?_; rintro e w7 ⟨rfl, ha7⟩; have HA7 := Lib.hid ha7; clear ha7)
          exact ⟨⟨k + 1, L, _, by go_num, by omega, HDN.out, (HM.out.deal HAX.out).aft HA7.out, (HD1.out.aft HA7.out).more (by omega)⟩, by simp [intOf]; omega⟩
        · rw [decide_eq_false hin] at HCN
          have HIN := Lib.hid hin
          clear hin
          by_cases h60 : L.length < 60
          · have t60 : decide ((L.length : Int) < 60) = true := by simp; omega
            go_upto_region 8 with (go_at_call 45; refine HCN.out.mono ?_; rintro e w7 ⟨rfl, ha7⟩; have HA7 := Lib.hid ha7; clear k0 k1 k2 k3 j0 j1 j2 f1; obtain ⟨k0, k1, k2, k3, k4⟩ := ((HM.out.deal HAX.out).aft ha7).cells; have f1 := k4 1; have j0 := ((HB1.out).aft ha7).cell 0; have j1 := ((HB1.out).aft ha7).cell 1; have j2 := ((HB1.out).aft ha7).lt; clear ha7 k4)
            have HM7 := Lib.hid (((HM.out.deal HAX.out).aft HA7.out).aft (Aft.alloc w7 (.cells #[.int .i64 x, .int .i64 y] 57)))
            have hbase : b5 + 1 ≤ (w7.alloc (.cells #[.int .i64 x, .int .i64 y] 57)).heap.size := by have := HM7.out.k5.lt; omega
            have hc0 : (w7.alloc (.cells #[.int .i64 x, .int .i64 y] 57)).cell? ⟨w7.heap.size, 0, none⟩ = some (.int .i64 x) := (Blk.new w7 57 #[.int .i64 x, .int .i64 y]).cell 0
            have hc1 : (w7.alloc (.cells #[.int .i64 x, .int .i64 y] 57)).cell? ⟨w7.heap.size, 1, none⟩ = some (.int .i64 y) := (Blk.new w7 57 #[.int .i64 x, .int .i64 y]).cell 1
            have HC0 := Lib.hid hc0
            have HC1 := Lib.hid hc1
            clear hc0 hc1
            go_wp2_with (at_builtin; refine wpList_push22 rfl _ _ rfl HM7.out.own hbase rfl rfl HC0.out HC1.out (by omega) ?_; intro v8 w8 ho8 hg8; obtain ⟨A8, c8, rfl, _, _⟩ := own_strs ho8 (by simp; omega); have HO8 := Lib.hid ho8; have HG8 := Lib.hid hg8; have y0 := HM7.out.k5.grown hg8 (fun e => by have := own_ge HM7.out.own b5 e.symm; omega); have z1 := y0.cell 1; have z2 := y0.frozen 1; have z3 := y0.lt; clear ho8 hg8)
            have hpush := HM7.out.push HG8.out HO8.out
            rw [show (L ++ [((x : Int), (y : Int))]).length = L.length + 1 by simp] at hpush
            have hdk := ((HD1.out.aft HA7.out).aft (Aft.alloc w7 (.cells #[.int .i64 x, .int .i64 y] 57))).grown HG8.out (fun k e => by have := own_ge HM7.out.own k e; have := HM7.out.ge; have := HM7.out.dlt; omega)
            have hdk2 := hdk.grown (only_setCell (only_refl w8 (some b5)) (p := ⟨b5, 1, none⟩) (.inl rfl) (.slice A8 (L.length + 1) c8)) (fun k e => by cases e; have := HM7.out.ge; have := HM7.out.dlt; omega)
            exact ⟨⟨k + 1, _, _, by go_num, by omega, HDN.out.push ⟨⟨by omega, by omega⟩, by omega, by omega⟩ HIN.out h60, hpush, hdk2.more (by omega)⟩, by simp [intOf]; omega⟩
          · have t60 : decide ((L.length : Int) < 60) = false := by simp; omega
            go_wp2_with (go_at_call 45; refine HCN.out.mono ?_; rintro e w7 ⟨rfl, ha7⟩; have HA7 := Lib.hid ha7; clear k0 k1 k2 k3 j0 j1 j2 f1; obtain ⟨k0, k1, k2, k3, k4⟩ := ((HM.out.deal HAX.out).aft ha7).cells; have f1 := k4 1; clear ha7 k4)
            exact ⟨⟨k + 1, L, _, by go_num, by omega, HDN.out, (HM.out.deal HAX.out).aft HA7.out, (HD1.out.aft HA7.out).more (by omega)⟩, by simp [intOf]; omega⟩
    · have t1 : decide (k < K) = false := by simpa using hkK
      obtain rfl : K = k := by omega
      have HDR := Lib.hid (draw_any w0 d A l c (m + 2 + 3 * K) 4 wr HDK.out (by omega) (by omega) (by omega))
      clear hkK HM3 HD3
      go_upto_block 2 with (go_at_call 44; refine HDR.out.mono ?_; rintro e w4 ⟨x, rfl, hk0, hk1, hd4, hg4⟩; obtain ⟨K2, rfl⟩ := Int.eq_ofNat_of_zero_le hk0; have HD4 := Lib.hid hd4; have HM4 := Lib.hid (HM.out.deal hg4); clear hd4 hg4)
      have hK2 : K2 ≤ 3 := by omega
      clear hk0 hk1 HDR HDK HM
      refine wp_block ?_
      go_loopw [66] (fun i wr => ∃ (k : Nat) (T : List (List Int)) (vT : Value), i = .int .i64 k ∧ k ≤ K2 ∧ T.length ≤ k ∧ Drawn N L T ∧ Md w d b5 N L T vS vT wr ∧ DeckAt w0 d A l c (m + 90 + 20 * k) wr) (fun i _ => K2 - (intOf i).toNat)
      case atStart => exact ⟨0, [], _, rfl, by omega, by simp, HDN.out, HM4.out, HD4.out.more (by omega)⟩
      case round =>
        obtain ⟨k, T, vT, rfl, hk, hT, hdn, hmd, hdk⟩ := hrel
        have HM := Lib.hid hmd
        have HDT := Lib.hid hdn
        have HDK := Lib.hid hdk
        clear hmd hdn hdk
        by_cases hkK : k < K2
        · have t2 : decide (k < K2) = true := by simpa using hkK
          have HMW : Hid (∀ W, wr.grownBy W (some d) → W.cell? ⟨b5, 0, none⟩ = some (.int .i64 N) ∧ b5 < W.heap.size) := Lib.hid fun W h => ⟨(HM.out.deal h).cells.1, (HM.out.deal h).cells.2.2.2.1⟩
          obtain ⟨mn, hmn⟩ : ∃ mn : Nat, min 3 (N : Int) = mn := ⟨min 3 N, by omega⟩
          have hmn3 : mn ≤ 3 ∧ mn ≤ N ∧ 1 ≤ mn := by omega
          have HMN := Lib.hid hmn
          have H40 : Hid (∀ W mm, DeckAt w0 d A l c mm W → mm ≤ 900000 → Calls Tryz.prog 40 #[.pointer (some ⟨d, 0, none⟩), .int .i64 N] W (ShufR w0 d A l c mm N W)) := Lib.hid fun W mm h h2 => shuffle_any w0 d A l c mm N W h (by omega) (by omega)
          have H87 : Hid (∀ W mm, DeckAt w0 d A l c mm W → mm ≤ 900200 → Calls Tryz.prog 87 #[.pointer (some ⟨d, 0, none⟩), .int .i64 1, .int .i64 mn] W (DealtB w0 d A l c mm 1 mn W)) := Lib.hid fun W mm h h2 => between_any w0 d A l c mm 1 mn W h (by omega) (by omega) (by omega) (by omega)
          clear hmn
          go_upto_region 12 with (fail)
          refine wp_region_valsU (by kernel_rfl) 10 88 rfl (by kernel_rfl) (by kernel_rfl) [some (.pointer (some ⟨d, 0, none⟩)), some (.pointer (some ⟨b5, 0, none⟩)), some (.int .i64 N), none, some (.pointer (some ⟨d, 0, none⟩)), some (.pointer (some ⟨b5, 0, none⟩)), some (.int .i64 N), some (.int .i64 mn), none, none] (by kernel_rfl) rfl (Deal12 w0 d A l c (m + 90 + 20 * k) wr N) (Deal12.start HDK.out) ?st2 ?fi2
          case st2 =>
            intro i o v ho hv
            match i, ho, hv with
            | 0, ho, hv =>
              cases ho; cases hv
              refine .inl ⟨rfl, fun done a W hz hd hp hk hw K hK => ?_⟩
              have e0 := hk.same 0 (by decide)
              exact op_val (v := .pointer (some ⟨d, 0, none⟩)) (by simp [go_sem, ev' e0]) (hK _ _ (fun u hu => by cases hu; rfl) (hw.keep (by decide) (by decide)))
            | 1, ho, hv =>
              cases ho; cases hv
              refine .inl ⟨rfl, fun done a W hz hd hp hk hw K hK => ?_⟩
              have e5 := hk.same 5 (by decide)
              exact op_val (v := .pointer (some ⟨b5, 0, none⟩)) (by simp [go_sem, ev' e5]) (hK _ _ (fun u hu => by cases hu; rfl) (hw.keep (by decide) (by decide)))
            | 2, ho, hv =>
              cases ho; cases hv
              refine .inl ⟨rfl, fun done a W hz hd hp hk hw K hK => ?_⟩
              have e69 := hk.at_ 1 _ 69 _ rfl (by decide) _ rfl rfl rfl
              exact op_val (v := .int .i64 N) (by simp [go_sem, ev' e69, (HMW.out W hw.grown).1]) (hK _ _ (fun u hu => by cases hu; rfl) (hw.keep (by decide) (by decide)))
            | 3, ho, hv =>
              cases ho; cases hv
              refine .inl ⟨rfl, fun done a W hz hd hp hk hw K hK => ?_⟩
              have e68 := hk.at_ 0 _ 68 _ rfl (by decide) _ rfl rfl rfl
              have e70 := hk.at_ 2 _ 70 _ rfl (by decide) _ rfl rfl rfl
              have hdk := hw.deck
              refine op_callN rfl rfl rfl _ rfl (vs := #[.pointer (some ⟨d, 0, none⟩), .int .i64 N]) (by simp [e68, e70]) (H40.out W _ hdk (by cases done 3 <;> cases done 8 <;> simp [n1] <;> omega)) fun e w' h => ?_
              obtain ⟨v, P, rfl, ho, hp2, hd2, hg2⟩ := h
              obtain ⟨g, cap, rfl, _, _⟩ := ho.form (by omega)
              exact ⟨_, rfl, hK _ _ (fun u hu => by cases hu) (hw.step3 hd ho hp2 hd2 hg2 (by rw [hz]; decide))⟩
            | 4, ho, hv =>
              cases ho; cases hv
              refine .inl ⟨rfl, fun done a W hz hd hp hk hw K hK => ?_⟩
              have e0 := hk.same 0 (by decide)
              exact op_val (v := .pointer (some ⟨d, 0, none⟩)) (by simp [go_sem, ev' e0]) (hK _ _ (fun u hu => by cases hu; rfl) (hw.keep (by decide) (by decide)))
            | 5, ho, hv =>
              cases ho; cases hv
              refine .inl ⟨rfl, fun done a W hz hd hp hk hw K hK => ?_⟩
              have e5 := hk.same 5 (by decide)
              exact op_val (v := .pointer (some ⟨b5, 0, none⟩)) (by simp [go_sem, ev' e5]) (hK _ _ (fun u hu => by cases hu; rfl) (hw.keep (by decide) (by decide)))
            | 6, ho, hv =>
              cases ho; cases hv
              refine .inl ⟨rfl, fun done a W hz hd hp hk hw K hK => ?_⟩
              have e73 := hk.at_ 5 _ 73 _ rfl (by decide) _ rfl rfl rfl
              exact op_val (v := .int .i64 N) (by simp [go_sem, ev' e73, (HMW.out W hw.grown).1]) (hK _ _ (fun u hu => by cases hu; rfl) (hw.keep (by decide) (by decide)))
            | 7, ho, hv =>
              cases ho; cases hv
              refine .inl ⟨rfl, fun done a W hz hd hp hk hw K hK => ?_⟩
              have e74 := hk.at_ 6 _ 74 _ rfl (by decide) _ rfl rfl rfl
              refine op_val (v := .int .i64 mn) ?_ (hK _ _ (fun u hu => by cases hu; rfl) (hw.keep (by decide) (by decide)))
              rw [← HMN.out]
              simp [go_sem, ev' e74]
            | 8, ho, hv =>
              cases ho; cases hv
              refine .inl ⟨rfl, fun done a W hz hd hp hk hw K hK => ?_⟩
              have e72 := hk.at_ 4 _ 72 _ rfl (by decide) _ rfl rfl rfl
              have e75 := hk.at_ 7 _ 75 _ rfl (by decide) _ rfl rfl rfl
              have hdk := hw.deck
              refine op_callN rfl rfl rfl _ rfl (vs := #[.pointer (some ⟨d, 0, none⟩), .int .i64 1, .int .i64 mn]) (by simp [e72, e75, show ∀ v, a.eval (.const v) = v from fun _ => rfl]) (H87.out W _ hdk (by cases done 3 <;> cases done 8 <;> simp [n1] <;> omega)) fun e w' h => ?_
              obtain ⟨x, rfl, hx0, hx1, hd2, hg2⟩ := h
              obtain ⟨X, rfl⟩ := Int.eq_ofNat_of_zero_le (show 0 ≤ x by omega)
              exact ⟨_, rfl, hK _ _ (fun u hu => by cases hu) (hw.step8 hd (by omega) (by omega) (by omega) hd2 hg2 (by rw [hz]; decide))⟩
            | 9, ho, hv =>
              cases ho; cases hv
              refine .inl ⟨rfl, fun done a W hz hd hp hk hw K hK => ?_⟩
              obtain ⟨P, g, cap, e71, ho, hpm⟩ := hw.v3 (hp 3 (by decide))
              obtain ⟨q, e76, hq1, hq2, hq3⟩ := hw.v8 (hp 8 (by decide))
              refine op_val (v := .slice (some ⟨g, 0, none⟩) q cap) ?_ (hK _ _ (fun u hu => by cases hu) (hw.step9 ho hpm hq1 hq2 hq3 (by rw [hz]; decide)))
              have hcap : N ≤ cap := own_cap ho
              simp [go_sem, ev' e71, ev' e76]
              intro hlt
              omega
            | _ + 10, _, hv => cases hv
          intro done us W hus hd hw
          obtain ⟨x1, x2, x3, rfl⟩ := list3 hus
          obtain ⟨P, g, cap, q, e77, ho, hq1, hq2, hnd, hin⟩ := hw.v9 (hd 9 (by decide))
          have e77' : x3 = .slice (some ⟨g, 0, none⟩) q cap := by simpa [fill, putAll, Act.put, Act.eval] using e77
          subst e77'
          have hdk := hw.deck
          rw [hd 3 (by decide), hd 8 (by decide), n1_t, n1_t] at hdk
          have HDX := Lib.hid hdk
          have HGX := Lib.hid hw.grown
          have hgw := own_ge ho g rfl
          have HSO := Lib.hid (sort89_own ho (by omega))
          clear hw hd hus hdk e77 ho HDK
          simp only [fill, List.drop_succ_cons, List.drop_zero, List.zip_cons_cons, List.zip_nil_right, putAll]
          simp only [Act.put, List.setIfInBounds_toArray, List.set]
          go_upto_region 14 with (go_at_call 89; refine HSO.out.mono ?_; rintro e w6 ⟨rfl, hg6, l6, hp6, hs6, ho6⟩; have HG6 := Lib.hid hg6; have HP6 := Lib.hid hp6; have HS6 := Lib.hid hs6; have HO6 := Lib.hid ho6; clear hg6 hp6 hs6 ho6)
          have hb5w := HM.out.k5.lt
          have hdw := HM.out.dlt
          have hww := HM.out.ge
          have HGW := Lib.hid (only_grown HGX.out HG6.out (fun k e => by cases e; exact hgw))
          have HM6 := Lib.hid (HM.out.deal HGW.out)
          have HD6 := Lib.hid (HDX.out.grown HG6.out (fun k e => by cases e; omega))
          have hl6 : l6.length = q := by have := HO6.out.1; simpa using this
          have hfit : 1 ≤ l6.length ∧ l6.length ≤ 3 ∧ (∀ x ∈ l6, 0 ≤ x ∧ x < N) ∧ risesB l6 = true := ⟨by omega, by omega, fun x hx => hin x (HP6.out.subset hx), rises_sorted HS6.out (HP6.out.nodup_iff.2 hnd)⟩
          have HFT := Lib.hid hfit
          have HO6' := HO6.out
          rw [← hl6] at HO6'
          have HO7 := Lib.hid (World.ownsRow.mono HO6' (show b5 + 1 ≤ wr.heap.size by omega))
          clear HO6' HSO hin hnd hfit HDX HGX HG6 HO6 HP6 HS6
          obtain ⟨vA, vc, vA', vc', eS, eT, hstr⟩ := HM6.out.form (by have := HDT.out.len; omega)
          subst eT
          obtain ⟨k0, k1, k2, k3, k4⟩ := HM6.out.cells
          have f2 := k4 2
          clear hstr k4 eS
          have HLL := Lib.hid hl6
          have HM7 := Lib.hid (HM6.out.aft (Aft.alloc w6 (.cells #[.slice (some ⟨g, 0, none⟩) q cap] 33)))
          have HOR : Hid ((w6.alloc (.cells #[.slice (some ⟨g, 0, none⟩) q cap] 33)).ownsRow (b5 + 1) 3 1 (.slice (some ⟨g, 0, none⟩) q cap) l6.length (l6.map (Value.int .i64))) := Lib.hid (by
            have := own_aft HO7.out (Aft.alloc w6 (.cells #[.slice (some ⟨g, 0, none⟩) q cap] 33))
            rw [hl6] at this ⊢
            exact this)
          have hbase : b5 + 1 ≤ (w6.alloc (.cells #[.slice (some ⟨g, 0, none⟩) q cap] 33)).heap.size := by have := HM7.out.k5.lt; omega
          have HC0 : Hid ((w6.alloc (.cells #[.slice (some ⟨g, 0, none⟩) q cap] 33)).cell? ⟨w6.heap.size, 0, none⟩ = some (.slice (some ⟨g, 0, none⟩) q cap)) := Lib.hid (cell_new1 _ _ _)
          go_wp2_with (at_builtin; refine wpList_app_out rfl _ _ rfl HM7.out.outs hbase rfl rfl HC0.out HOR.out (by omega) ?_; intro v8 w8 ho8 hk8 hg8; obtain ⟨A8, c8, rfl⟩ := ho8.form; have HO8 := Lib.hid ho8; have HG8 := Lib.hid hg8; have y0 := HM7.out.k5.grown hg8 (fun e => by obtain ⟨vs, q1, q2⟩ := HM7.out.outs; have := own_ge q1 b5 e.symm; omega); have z1 := y0.cell 2; have z2 := y0.frozen 2; have z3 := y0.lt; clear ho8 hk8 hg8)
          have hpush := HM7.out.pushT HG8.out HO8.out
          rw [show (T ++ [l6]).length = T.length + 1 by simp] at hpush
          have hge8 : ∀ k, (Value.slice vA' T.length vc').ownBlock = some k → d < k := fun k e => by
            obtain ⟨vs, q1, q2⟩ := HM7.out.outs
            have := own_ge q1 k e
            omega
          have hdk := (HD6.out.aft (Aft.alloc w6 (.cells #[.slice (some ⟨g, 0, none⟩) q cap] 33))).grown HG8.out hge8
          have hdk2 := hdk.grown (only_setCell (only_refl w8 (some b5)) (p := ⟨b5, 2, none⟩) (.inl rfl) (.slice A8 (T.length + 1) c8)) (fun k e => by cases e; omega)
          exact ⟨⟨k + 1, _, _, by go_num, by omega, by simp; omega, HDT.out.pushT HFT.out, hpush, hdk2.more (by omega)⟩, by simp [intOf]; omega⟩
        · have t2 : decide (k < K2) = false := by simpa using hkK
          obtain rfl : K2 = k := by omega
          obtain ⟨vA, vc, vA', vc', eS, eT, hrep⟩ := HM.out.rep (by have := HDT.out.len; omega) (by omega) (fun x hx => by have := (HDT.out.lists x hx).2.1; omega)
          subst eS
          subst eT
          have hk4 := HM.out.k4
          have hne : w.heap.size ≠ b5 := by have := HM.out.ge; omega
          obtain ⟨k0, k1, k2, k3, -⟩ := HM.out.cells
          obtain ⟨W9, hW9, hl9, hg9⟩ : ∃ W9, wr.setCells w.heap.size 0 [.int .i64 N, .slice vA L.length vc, .slice vA' T.length vc'] = W9 ∧ (loadVar 25 ⟨w.heap.size, 0, none⟩).run Tryz.prog W9 = .ok (.agg #[.int .i64 N, .slice vA L.length vc, .slice vA' T.length vc']) W9 ∧ wr.grownBy W9 (some w.heap.size) :=
            ⟨_, rfl, run_loadVar_mid (P := Tryz.prog) _ w.heap.size 0 25 [.int .i64 N, .slice vA L.length vc, .slice vA' T.length vc'] _ (World.rangeAt_setCells_same wr w.heap.size 0 _ (blk_there hk4 rfl)) Tryz.underlying25 rfl info25b, only_setCells _ _ _ (only_refl _ _)⟩
          have HTH := Lib.hid (blk_there hk4 (rfl : 3 = (#[Value.int .i64 0, .slice none 0 0, .slice none 0 0] : Array Value).size))
          have HRP := Lib.hid hrep
          have HG9 := Lib.hid hg9
          have hlt4 := hk4.lt
          clear hk4 hrep hg9 hkK
          go_wp2_with (refine wpList_store_mid rfl 25 (.tmp 4) (.tmp 87) rfl w.heap.size 0 #[.int .i64 N, .slice vA L.length vc, .slice vA' T.length vc'] rfl rfl HTH.out info25b (all_oneCell_toArray (by intro v hv; simp at hv; rcases hv with rfl | rfl | rfl <;> rfl)) ?_; rw [hW9])
          have hsm : Sm (b5 + 1) wr W9 := Sm.of_grown HG9.out fun k e => by cases e; have := HM.out.ge; omega
          refine bodyPost_ret (v := .agg #[.int .i64 N, .slice vA L.length vc, .slice vA' T.length vc']) (by simp [results, Tryz.results36, Act.put, asAddr, hl9]) rfl ⟨N, L, T, vA, vA', vc, vc', rfl, hN1, by omega, HDT.out, by omega, HRP.out.back hsm (by have := HM.out.ge; omega), ?_, only_grown HM.out.grown HG9.out (fun k e => by cases e; exact Nat.le_refl _)⟩
          exact (HDK.out.grown HG9.out (fun k e => by cases e; exact HM.out.dlt)).more (by omega)
end Go.Proofs
end

section
namespace Go.Proofs
open Go.RowKit Go.Shelf
set_option maxRecDepth 100000
def renSort : Go.Shelf.Ren := ⟨fun | 6 => 75 | 14 => 107 | 15 => 108 | 20 => 119 | 21 => 120 | 22 => 121 | 23 => 122 | 24 => 123 | 25 => 124 | 26 => 125 | 27 => 126 | 28 => 127 | 29 => 128 | 46 => 140 | 47 => 141 | 48 => 142 | 49 => 143 | 50 => 144 | 57 => 148 | n => n, fun | 22 => 23 | 24 => 33 | 25 => 79 | 3 => 3 | 39 => 135 | 0 => 0 | 53 => 120 | 55 => 152 | 4 => 4 | 46 => 144 | 45 => 143 | 50 => 148 | 5 => 5 | 9 => 9 | 66 => 159 | 70 => 55 | 76 => 166 | 77 => 167 | n => n, fun n => n⟩
theorem laySort : SlLaysF.n6 Tryz.prog renSort := {
  mixed := by kernel_rfl
  f6 := ⟨Tryz.f75.name, by kernel_rfl, Tryz.func75.trans (congrArg some (by kernel_rfl))⟩
  f14 := ⟨Tryz.f107.name, by kernel_rfl, Tryz.func107.trans (congrArg some (by kernel_rfl))⟩
  f15 := Tryz.func108.trans (congrArg some (by kernel_rfl))
  f20 := ⟨Tryz.f119.name, by kernel_rfl, Tryz.func119.trans (congrArg some (by kernel_rfl))⟩
  f21 := ⟨Tryz.f120.name, by kernel_rfl, Tryz.func120.trans (congrArg some (by kernel_rfl))⟩
  f22 := ⟨Tryz.f121.name, by kernel_rfl, Tryz.func121.trans (congrArg some (by kernel_rfl))⟩
  f23 := ⟨Tryz.f122.name, by kernel_rfl, Tryz.func122.trans (congrArg some (by kernel_rfl))⟩
  f24 := ⟨Tryz.f123.name, by kernel_rfl, Tryz.func123.trans (congrArg some (by kernel_rfl))⟩
  f25 := ⟨Tryz.f124.name, by kernel_rfl, Tryz.func124.trans (congrArg some (by kernel_rfl))⟩
  f26 := ⟨Tryz.f125.name, by kernel_rfl, Tryz.func125.trans (congrArg some (by kernel_rfl))⟩
  f27 := ⟨Tryz.f126.name, by kernel_rfl, Tryz.func126.trans (congrArg some (by kernel_rfl))⟩
  f28 := Tryz.func127.trans (congrArg some (by kernel_rfl))
  f29 := Tryz.func128.trans (congrArg some (by kernel_rfl))
  f46 := ⟨Tryz.f140.name, by kernel_rfl, Tryz.func140.trans (congrArg some (by kernel_rfl))⟩
  f47 := Tryz.func141.trans (congrArg some (by kernel_rfl))
  f48 := Tryz.func142.trans (congrArg some (by kernel_rfl))
  f49 := ⟨Tryz.f143.name, by kernel_rfl, Tryz.func143.trans (congrArg some (by kernel_rfl))⟩
  f50 := ⟨Tryz.f144.name, by kernel_rfl, Tryz.func144.trans (congrArg some (by kernel_rfl))⟩
  f57 := ⟨Tryz.f148.name, by kernel_rfl, Tryz.func148.trans (congrArg some (by kernel_rfl))⟩
  t0 := Tryz.underlying0
  a0 := Tryz.isAgg0
  z0 := Tryz.sizeOf0
  v0 := Tryz.zeroValue0
  t3 := Tryz.underlying3
  a3 := Tryz.isAgg3
  z3 := Tryz.sizeOf3
  v3 := Tryz.zeroValue3
  t4 := Tryz.underlying4
  a4 := Tryz.isAgg4
  z4 := Tryz.sizeOf4
  v4 := Tryz.zeroValue4
  t5 := Tryz.underlying5
  a5 := Tryz.isAgg5
  z5 := Tryz.sizeOf5
  v5 := Tryz.zeroValue5
  t9 := Tryz.underlying9
  a9 := Tryz.isAgg9
  z9 := Tryz.sizeOf9
  v9 := Tryz.zeroValue9
  t22 := Tryz.underlying23
  a22 := Tryz.isAgg23
  z22 := Tryz.sizeOf23
  v22 := Tryz.zeroValue23
  a24 := Tryz.isAgg33
  z24 := Tryz.sizeOf33
  t25 := Tryz.underlying79
  a25 := Tryz.isAgg79
  z25 := Tryz.sizeOf79
  v25 := Tryz.zeroValue79
  t39 := Tryz.underlying135
  a39 := Tryz.isAgg135
  z39 := Tryz.sizeOf135
  v39 := Tryz.zeroValue135
  t45 := Tryz.underlying143
  a45 := Tryz.isAgg143
  z45 := Tryz.sizeOf143
  v45 := Tryz.zeroValue143
  t46 := Tryz.underlying144
  a46 := Tryz.isAgg144
  z46 := Tryz.sizeOf144
  v46 := Tryz.zeroValue144
  t50 := Tryz.underlying148
  a50 := Tryz.isAgg148
  z50 := Tryz.sizeOf148
  v50 := Tryz.zeroValue148
  t53 := Tryz.underlying120
  a53 := Tryz.isAgg120
  z53 := Tryz.sizeOf120
  v53 := Tryz.zeroValue120
  t55 := Tryz.underlying152
  a55 := Tryz.isAgg152
  z55 := Tryz.sizeOf152
  v55 := Tryz.zeroValue152
  t66 := Tryz.underlying159
  a66 := Tryz.isAgg159
  z66 := Tryz.sizeOf159
  v66 := Tryz.zeroValue159
  t70 := Tryz.underlying55
  a70 := Tryz.isAgg55
  z70 := Tryz.sizeOf55
  v70 := Tryz.zeroValue55
  t76 := Tryz.underlying166
  a76 := Tryz.isAgg166
  z76 := Tryz.sizeOf166
  v76 := Tryz.zeroValue166
  t77 := Tryz.underlying167
  a77 := Tryz.isAgg167
  z77 := Tryz.sizeOf167
  v77 := Tryz.zeroValue167 }
end Go.Proofs
end

section
namespace Go.Proofs
open Go.RowKit
attribute [local go_sem] Oper.semAt_some

theorem cmp96_any (x y : Int) (w : World) : Calls Tryz.prog 96 #[.int .i64 x, .int .i64 y] w fun e w' => e = .returned (.int .i64 (Lib.compareInt x y)) ∧ w' = w := by
  go_enter Tryz.func96, Tryz.ntmps96
  go_wp2
  all_goals (go_ret; refine ⟨?_, rfl⟩; unfold Lib.compareInt; (repeat' split) <;> first | rfl | (exfalso; omega))
theorem compareInt_zero {x y : Int} : Lib.compareInt x y = 0 ↔ x = y := by
  unfold Lib.compareInt
  (repeat' split) <;> constructor <;> intro h <;> first | omega | contradiction | (exfalso; omega)
def cmpZ : List Int → List Int → Int
  | [], [] => 0
  | [], _ :: _ => -1
  | _ :: _, [] => 1
  | x :: xs, y :: ys => if x = y then cmpZ xs ys else Lib.compareInt x y
theorem compareInt_neg {x y : Int} : Lib.compareInt x y < 0 ↔ x < y := by
  unfold Lib.compareInt
  (repeat' split) <;> constructor <;> intro h <;> first | omega | contradiction | (exfalso; omega)
theorem cmpZ_same : ∀ x : List Int, cmpZ x x = 0
  | [] => rfl
  | x :: xs => by unfold cmpZ; rw [if_pos rfl]; exact cmpZ_same xs
theorem cmpZ_trans : ∀ {x y z : List Int}, cmpZ x y < 0 → cmpZ y z < 0 → cmpZ x z < 0
  | [], [], z, h, _ => by simp [cmpZ] at h
  | [], _ :: _, [], _, h => by simp [cmpZ] at h
  | [], _ :: _, _ :: _, _, _ => by simp [cmpZ]
  | _ :: _, [], _, h, _ => by simp [cmpZ] at h
  | _ :: _, _ :: _, [], _, h => by simp [cmpZ] at h
  | x :: xs, y :: ys, z :: zs, h1, h2 => by
    unfold cmpZ at h1 h2 ⊢
    by_cases e1 : x = y
    · subst e1
      rw [if_pos rfl] at h1
      by_cases e2 : x = z
      · rw [if_pos e2] at h2 ⊢
        exact cmpZ_trans h1 h2
      · rw [if_neg e2] at h2 ⊢
        exact h2
    · rw [if_neg e1] at h1
      have h1' := compareInt_neg.1 h1
      by_cases e2 : y = z
      · subst e2
        rw [if_neg e1]; exact h1
      · rw [if_neg e2] at h2
        have h2' := compareInt_neg.1 h2
        rw [if_neg (by omega)]
        exact compareInt_neg.2 (by omega)
theorem cmpZ_ge : ∀ {x y z : List Int}, ¬ cmpZ x y < 0 → ¬ cmpZ y z < 0 → ¬ cmpZ x z < 0
  | _, [], _ :: _, _, h => by simp [cmpZ] at h
  | [], _ :: _, _, h, _ => by simp [cmpZ] at h
  | [], [], [], _, _ => by simp [cmpZ]
  | _ :: _, _, [], _, _ => by simp [cmpZ]
  | x :: xs, y :: ys, z :: zs, h1, h2 => by
    unfold cmpZ at h1 h2 ⊢
    by_cases e1 : x = y
    · subst e1
      rw [if_pos rfl] at h1
      by_cases e2 : x = z
      · rw [if_pos e2] at h2 ⊢
        exact cmpZ_ge h1 h2
      · rw [if_neg e2] at h2 ⊢
        exact h2
    · rw [if_neg e1] at h1
      have h1' : ¬ x < y := fun h => h1 (compareInt_neg.2 h)
      by_cases e2 : y = z
      · subst e2
        rw [if_neg e1]; exact h1
      · rw [if_neg e2] at h2
        have h2' : ¬ y < z := fun h => h2 (compareInt_neg.2 h)
        rw [if_neg (by omega)]
        exact fun h => by have := compareInt_neg.1 h; omega
theorem compareInt_anti {x y : Int} : ¬ Lib.compareInt x y < 0 → ¬ Lib.compareInt y x < 0 → x = y := fun h1 h2 => by
  have h1' : ¬ x < y := fun h => h1 (compareInt_neg.2 h)
  have h2' : ¬ y < x := fun h => h2 (compareInt_neg.2 h)
  omega
theorem cmpZ_eq : ∀ {x y : List Int}, ¬ cmpZ x y < 0 → ¬ cmpZ y x < 0 → x = y
  | [], [], _, _ => rfl
  | [], _ :: _, h, _ => by simp [cmpZ] at h
  | _ :: _, [], _, h => by simp [cmpZ] at h
  | x :: xs, y :: ys, h1, h2 => by
    unfold cmpZ at h1 h2
    by_cases e : x = y
    · subst e
      rw [if_pos rfl] at h1 h2
      rw [cmpZ_eq h1 h2]
    · rw [if_neg e] at h1
      rw [if_neg (Ne.symm e)] at h2
      exact absurd (compareInt_anti h1 h2) e
theorem cmpZ_step (x y : List Int) {k : Nat} (hx : k < x.length) (hy : k < y.length) : cmpZ (x.drop k) (y.drop k) = if x[k] = y[k] then cmpZ (x.drop (k + 1)) (y.drop (k + 1)) else Lib.compareInt x[k] y[k] := by
  rw [List.drop_eq_getElem_cons hx, List.drop_eq_getElem_cons hy, cmpZ]
theorem cmpZ_long (x y : List Int) {k : Nat} (hx : k < x.length) (hy : y.length ≤ k) : cmpZ (x.drop k) (y.drop k) = 1 := by
  rw [List.drop_eq_getElem_cons hx, List.drop_eq_nil_of_le hy, cmpZ]
theorem cmpZ_end (x y : List Int) : cmpZ (x.drop x.length) (y.drop x.length) = if x.length < y.length then -1 else 0 := by
  rw [List.drop_eq_nil_of_le (Nat.le_refl _)]
  by_cases h : x.length < y.length
  · rw [List.drop_eq_getElem_cons h, if_pos h, cmpZ]
  · rw [List.drop_eq_nil_of_le (by omega), if_neg h, cmpZ]

set_option maxRecDepth 100000 in
set_option maxHeartbeats 4000000 in
theorem compare_any (w : World) (x y : List Int) (A B : Option Addr) (c d : Nat) (hA : Ints w A x) (hB : Ints w B y) :
    Calls Tryz.prog 49 #[.slice A x.length c, .slice B y.length d] w fun e w' => e = .returned (.int .i64 (cmpZ x y)) ∧ w' = w := by
  have HA := Lib.hid hA
  have HB := Lib.hid hB
  have hal := hA.len
  have hbl := hB.len
  have HST := Lib.hid (fun (k : Nat) (hx : k < x.length) (hy : k < y.length) => cmpZ_step x y hx hy)
  have HLO := Lib.hid (fun (k : Nat) (hx : k < x.length) (hy : y.length ≤ k) => cmpZ_long x y hx hy)
  have HEN := Lib.hid (cmpZ_end x y)
  have HC0 := Lib.hid (show cmpZ x y = cmpZ (x.drop 0) (y.drop 0) by rw [List.drop_zero, List.drop_zero])
  clear hA hB
  obtain ⟨r, hr⟩ : ∃ r, cmpZ x y = r := ⟨_, rfl⟩
  rw [hr] at HC0 ⊢
  clear hr
  go_enter Tryz.func49, Tryz.ntmps49
  go_wp2_with fail
  go_loopw [11] (fun i wr => ∃ k : Nat, i = .int .i64 k ∧ k ≤ x.length ∧ wr = w ∧ Hid (r = cmpZ (x.drop k) (y.drop k))) (fun i _ => x.length - (intOf i).toNat)
  case atStart => exact ⟨0, rfl, by omega, rfl, HC0⟩
  case round =>
    obtain ⟨k, rfl, hk, rfl, HK⟩ := hrel
    by_cases hkn : k < x.length
    · have hdec : decide (k < x.length) = true := decide_eq_true hkn
      by_cases hky : k < y.length
      · have hge : decide (y.length ≤ k) = false := decide_eq_false (by omega)
        obtain ⟨bx, ox, rfl, -, hx⟩ := HA.out.at hkn
        obtain ⟨bY, oY, rfl, -, hy⟩ := HB.out.at hky
        have x0 := hx k hkn
        have y0 := hy k hky
        have HR : Hid (r = if x[k] = y[k] then cmpZ (x.drop (k + 1)) (y.drop (k + 1)) else Lib.compareInt x[k] y[k]) := Lib.hid (HK.out.trans (HST.out k hkn hky))
        have i1 : (0 : Int) ≤ (k : Int) ∧ (k : Int) < (x.length : Int) := by omega
        have i2 : (0 : Int) ≤ (k : Int) ∧ (k : Int) < (y.length : Int) := by omega
        clear hx hy
        generalize x[k] = u at *
        generalize y[k] = v at *
        have HC := Lib.hid (cmp96_any u v wr)
        by_cases huv : u = v
        · have hq : Lib.compareInt u v = 0 := compareInt_zero.2 huv
          rw [hq] at HC
          have HN2 := Lib.hid (show r = cmpZ (x.drop (k + 1)) (y.drop (k + 1)) by rw [HR.out, if_pos huv])
          clear huv HR hq
          go_wp2_with (go_at_call 96; refine HC.out.mono ?_; rintro e w5 ⟨rfl, rfl⟩)
          exact ⟨⟨k + 1, by go_num, by omega, by trivial, HN2⟩, by simp [intOf]; omega⟩
        · have HRR := Lib.hid (show r = Lib.compareInt u v by rw [HR.out, if_neg huv])
          have hqn : (Lib.compareInt u v != 0) = true := by
            simp only [bne_iff_ne, ne_eq]
            exact fun e => huv (compareInt_zero.1 e)
          clear huv HR
          generalize Lib.compareInt u v = q at *
          go_wp2_with (go_at_call 96; refine HC.out.mono ?_; rintro e w5 ⟨rfl, rfl⟩)
          go_ret
          exact ⟨by rw [HRR.out]; rfl, rfl⟩
      · have hge : decide (y.length ≤ k) = true := decide_eq_true (by omega)
        obtain ⟨bx, ox, rfl, -, hx⟩ := HA.out.at hkn
        have x0 := hx k hkn
        have HR := Lib.hid (HK.out.trans (HLO.out k hkn (by omega)))
        have i1 : (0 : Int) ≤ (k : Int) ∧ (k : Int) < (x.length : Int) := by omega
        clear hx hky
        go_wp2_with fail
        go_ret
        exact ⟨by rw [HR.out]; rfl, rfl⟩
    · have hdec : decide (k < x.length) = false := decide_eq_false hkn
      obtain rfl : x.length = k := by omega
      have HR := Lib.hid (HK.out.trans HEN.out)
      clear hkn
      by_cases hxy : x.length < y.length
      · have t1 : decide (x.length < y.length) = true := decide_eq_true hxy
        have HR2 := Lib.hid (show r = -1 by rw [HR.out, if_pos hxy])
        clear hxy HR
        go_wp2_with fail
        go_ret
        exact ⟨by rw [HR2.out]; rfl, rfl⟩
      · have t1 : decide (x.length < y.length) = false := decide_eq_false hxy
        have HR2 := Lib.hid (show r = 0 by rw [HR.out, if_neg hxy])
        clear hxy HR
        go_wp2_with fail
        go_ret
        exact ⟨by rw [HR2.out]; rfl, rfl⟩
end Go.Proofs
end

section
namespace Go.Proofs
open Go.RowKit
open Court (refL begF noS struckB nextR strikeL canB coverB grow)
attribute [local go_sem] Oper.semAt_some

set_option maxRecDepth 100000 in
set_option maxHeartbeats 2000000 in
theorem full_any (w0 w : World) (d M N : Nat) (C : CaseL) (a1 a2 : Option Addr) (c1 c2 : Nat) (ref : Int → Bool) (f r : Int → Nat) (hD : DeskAt w0 w d C a1 a2 c1 c2 ref noS f r) (hN : C.claims = N) (hN14 : N ≤ 14) (hS : ∀ s ∈ C.strikes, 0 ≤ s.1 ∧ s.1 < 14) (hM : M ≤ 1000000) :
    Calls Tryz.prog 74 #[.pointer (some ⟨d, 0, none⟩), .int .i64 M] w fun e w' => ∃ v, e = .returned v ∧ Outs w' w.heap.size v ((grow C.strikes ref N N 0 []).take M) ∧ Aft w w' := by
  have H1 : Hid (∀ W, GI w w.heap.size d M [] W → Calls Tryz.prog 105 #[.int .i64 0, .slice none 0 0, .pointer (some ⟨w.heap.size + 1 + 1, 0, none⟩), .pointer (some ⟨w.heap.size + 1, 0, none⟩), .pointer (some ⟨w.heap.size, 0, none⟩), .pointer (some ⟨w.heap.size + 1 + 1 + 1, 0, none⟩)] W (GrowR w w.heap.size d M ((grow C.strikes ref N N 0 []).take M) W)) := Lib.hid fun W h =>
    grow_any w0 w w.heap.size d M N C a1 a2 c1 c2 ref f r (fun W h => hD.later h) hN hN14 hS hM N 0 [] (.slice none 0 0) [] W (by omega) (fun x hx => by cases hx) (by simp) (World.ownsRow_nil _ _ 3 1) h (by simp)
  clear hD hN hS
  generalize ((grow C.strikes ref N N 0 []).take M) = T at *
  go_enter Tryz.func74, Tryz.ntmps74
  go_upto_region 4 with (fail)
  have HG : Hid (GI w w.heap.size d M [] ((((w.alloc (.cells #[.pointer (some ⟨d, 0, none⟩)] 95)).alloc (.cells #[.int .i64 M] 3)).alloc (.cells #[.slice none 0 0] 23)).alloc (.cells #[.func (.func 105) #[] #[.pointer (some ⟨w.heap.size + 1 + 1, 0, none⟩), .pointer (some ⟨w.heap.size + 1, 0, none⟩), .pointer (some ⟨w.heap.size, 0, none⟩), .pointer (some ⟨w.heap.size + 1 + 1 + 1, 0, none⟩)]] 132))) := Lib.hid (by
    have q1 : (w.alloc (.cells #[.pointer (some ⟨d, 0, none⟩)] 95)).heap.size = w.heap.size + 1 := by simp
    have q2 : ((w.alloc (.cells #[.pointer (some ⟨d, 0, none⟩)] 95)).alloc (.cells #[.int .i64 M] 3)).heap.size = w.heap.size + 1 + 1 := by simp
    have q3 : (((w.alloc (.cells #[.pointer (some ⟨d, 0, none⟩)] 95)).alloc (.cells #[.int .i64 M] 3)).alloc (.cells #[.slice none 0 0] 23)).heap.size = w.heap.size + 1 + 1 + 1 := by simp
    refine ⟨(((Aft.alloc w _).then_alloc _).then_alloc _).then_alloc _, rfl, (((Blk.new w 95 _).alloc _).alloc _).alloc _, ?_, ⟨_, ?_, Outs.nil _ _⟩, ?_⟩
    · have := ((Blk.new (w.alloc (.cells #[.pointer (some ⟨d, 0, none⟩)] 95)) 3 #[.int .i64 M]).alloc (.cells #[.slice none 0 0] 23)).alloc (.cells #[.func (.func 105) #[] #[.pointer (some ⟨w.heap.size + 1 + 1, 0, none⟩), .pointer (some ⟨w.heap.size + 1, 0, none⟩), .pointer (some ⟨w.heap.size, 0, none⟩), .pointer (some ⟨w.heap.size + 1 + 1 + 1, 0, none⟩)]] 132)
      rwa [q1] at this
    · have := (Blk.new ((w.alloc (.cells #[.pointer (some ⟨d, 0, none⟩)] 95)).alloc (.cells #[.int .i64 M] 3)) 23 #[.slice none 0 0]).alloc (.cells #[.func (.func 105) #[] #[.pointer (some ⟨w.heap.size + 1 + 1, 0, none⟩), .pointer (some ⟨w.heap.size + 1, 0, none⟩), .pointer (some ⟨w.heap.size, 0, none⟩), .pointer (some ⟨w.heap.size + 1 + 1 + 1, 0, none⟩)]] 132)
      rwa [q2] at this
    · have := Blk.new (((w.alloc (.cells #[.pointer (some ⟨d, 0, none⟩)] 95)).alloc (.cells #[.int .i64 M] 3)).alloc (.cells #[.slice none 0 0] 23)) 132 #[.func (.func 105) #[] #[.pointer (some ⟨w.heap.size + 1 + 1, 0, none⟩), .pointer (some ⟨w.heap.size + 1, 0, none⟩), .pointer (some ⟨w.heap.size, 0, none⟩), .pointer (some ⟨w.heap.size + 1 + 1 + 1, 0, none⟩)]]
      rwa [q3] at this)
  generalize ((((w.alloc (.cells #[.pointer (some ⟨d, 0, none⟩)] 95)).alloc (.cells #[.int .i64 M] 3)).alloc (.cells #[.slice none 0 0] 23)).alloc (.cells #[.func (.func 105) #[] #[.pointer (some ⟨w.heap.size + 1 + 1, 0, none⟩), .pointer (some ⟨w.heap.size + 1, 0, none⟩), .pointer (some ⟨w.heap.size, 0, none⟩), .pointer (some ⟨w.heap.size + 1 + 1 + 1, 0, none⟩)]] 132)) = W0 at *
  have z1 : W0.cell? ⟨w.heap.size + 1 + 1 + 1, 0, none⟩ = some (.func (.func 105) #[] #[.pointer (some ⟨w.heap.size + 1 + 1, 0, none⟩), .pointer (some ⟨w.heap.size + 1, 0, none⟩), .pointer (some ⟨w.heap.size, 0, none⟩), .pointer (some ⟨w.heap.size + 1 + 1 + 1, 0, none⟩)]) := HG.out.b3.cell 0
  have z2 := HG.out.b3.lt
  have HI := Lib.hid (H1.out W0 HG.out)
  clear H1
  go_wp2_with (go_at_call 105; refine HI.out.mono ?_; rintro e w9 ⟨⟨v9, rfl⟩, hg9, -⟩; obtain ⟨v, hbv, hov⟩ := hg9.b2; have y1 : w9.cell? ⟨w.heap.size + 1 + 1, 0, none⟩ = some v := hbv.cell 0; have y2 := hbv.lt; obtain ⟨A9, c9, rfl⟩ := hov.form; have HOV := Lib.hid hov; have HA9 := Lib.hid hg9.aft; clear hbv hov hg9)
  go_ret
  exact ⟨_, rfl, HOV.out, HA9.out⟩
end Go.Proofs
end

section
namespace Go.Proofs
open Go.RowKit Go.Sort Go.Shelf

theorem grownBy_sortedV {α : Type} [Inhabited α] {enc : α → Value} {w : World} {g n : Nat} {os : Array Obj} (d : Array α) : w.grownBy (sortWorld enc w g 0 n d os) (some g) := by
  unfold sortWorld
  refine ⟨rfl, rfl, rfl, by simp, fun k hk hne => ?_⟩
  rw [heap_grow_old _ _ (by simpa using hk)]
  have : g ≠ k := fun e => hne (by rw [e])
  simp [putRow, mapBlock, Sort.ahead, Array.getElem?_modify, this]
theorem ints_grown {w w' : World} {A : Option Addr} {l : List Int} {row : Option Nat} (h : Ints w A l) (hg : w.grownBy w' row) (hr : ∀ b o, A = some ⟨b, o, none⟩ → some b ≠ row) : Ints w' A l := by
  refine ⟨h.1, ?_⟩
  rcases h.2 with h | ⟨b, o, rfl, hb, hc⟩
  · exact .inl h
  · refine .inr ⟨b, o, rfl, Nat.lt_of_lt_of_le hb hg.size, fun i hi => ?_⟩
    obtain ⟨vs, h1, h2, h3⟩ := hc i hi
    exact ⟨vs, h1, h2, fun j hj => (World.cell?_of_block (hg.block b hb (hr b o rfl))).trans (h3 j hj)⟩
theorem swo_cmpZ (row : Nat → List Int) : SWO (ltOf fun i j => cmpZ (row i) (row j)) := by
  have e : ∀ x y, ltOf (fun i j => cmpZ (row i) (row j)) x y = decide (cmpZ (row x) (row y) < 0) := fun x y => rfl
  refine ⟨fun x => by rw [e, cmpZ_same]; rfl, fun x y z h1 h2 => ?_, fun x y z h1 h2 => ?_⟩
  · rw [e] at *
    exact decide_eq_true (cmpZ_trans (of_decide_eq_true h1) (of_decide_eq_true h2))
  · rw [e] at *
    exact decide_eq_false (cmpZ_ge (of_decide_eq_false h1) (of_decide_eq_false h2))
def SortedZ (L : List (List Int)) : Prop := L.Pairwise fun x y => ¬ cmpZ y x < 0
theorem sortedZ_eq : ∀ {L L' : List (List Int)}, L.Perm L' → SortedZ L → SortedZ L' → L = L'
  | L, L', hp, h1, h2 => hp.eq_of_pairwise (fun a b _ _ h h' => cmpZ_eq h' h) h1 h2

set_option maxHeartbeats 1000000 in
theorem sort_lists (W : World) (b : Nat) {g cap : Nat} {vs : List Value} {L : List (List Int)} (hO : OutsV W b (.slice (some ⟨g, 0, none⟩) L.length cap) vs L) (h0 : 0 < L.length) (hl : L.length ≤ 1000) (hlen : ∀ x ∈ L, x.length ≤ 1000) :
    Calls Tryz.prog 75 #[.slice (some ⟨g, 0, none⟩) L.length cap, .func (.func 49) #[] #[]] W fun e w' => e = .returned (.tuple #[]) ∧ W.grownBy w' (some g) ∧ ∃ L', L'.Perm L ∧ SortedZ L' ∧ Lists w' (some ⟨g, 0, none⟩) L' := by
  obtain ⟨hown, hrows⟩ := hO
  have hvl : vs.length = L.length := by simpa using hown.1
  obtain ⟨cs33, hg33⟩ := own33_block hown (g := g) rfl
  let cl : Nat → Nat := fun i => if i < L.length then i else 0
  have hcl : ∀ i, cl i < L.length := fun i => by simp only [cl]; split <;> omega
  let enc : Nat → Value := fun i => vs.getD (cl i) (.slice none 0 0)
  let row : Nat → List Int := fun i => L.getD (cl i) []
  have hrow : ∀ i, row i = L[cl i]'(hcl i) := fun i => by simp only [row]; rw [List.getD_eq_getElem?_getD, List.getElem?_eq_getElem (hcl i)]; rfl
  have henc : ∀ i, ∃ A c, enc i = .slice A (row i).length c ∧ Ints W A (row i) ∧ ∀ b o, A = some ⟨b, o, none⟩ → g ≠ b := fun i => by
    have hi := hcl i
    have hiv : cl i < vs.length := by omega
    have hr := hrows (cl i) hi hiv
    obtain ⟨A, c, e1, _, h2⟩ := own_ints hr (by have := hlen _ (List.getElem_mem hi); omega)
    refine ⟨A, c, ?_, by rw [hrow]; exact h2, fun b' o e => ?_⟩
    · simp only [enc]
      rw [List.getD_eq_getElem?_getD, List.getElem?_eq_getElem hiv, hrow]
      exact e1
    · subst e
      rintro rfl
      rw [e1] at hr
      rcases hr.2 with ⟨h, _⟩ | ⟨g', cap', cur, h, _, hh, _⟩
      · cases h
      · cases h
        rw [hg33] at hh
        cases hh
  have h1 : OneCell enc := fun i => by obtain ⟨A, c, e, _⟩ := henc i; rw [e]; rfl
  have hgb : g < W.heap.size := (hown.lt g rfl).2
  have hH : Holds enc W g 0 (Array.range L.length) := fun j hj => by
    have hj' : j < L.length := by simpa using hj
    have e1 : (Array.range L.length)[j]! = j := by rw [getElem!_pos _ j hj]; simp
    refine ⟨?_, hown.frozenAt _⟩
    rw [e1]
    have := hown.cells (g := g) rfl j (enc j) (by simp only [enc, cl, if_pos hj']; rw [List.getD_eq_getElem?_getD, List.getElem?_eq_getElem (by omega)]; rfl)
    rw [Addr.add_lit] at this
    exact this
  have hcmp : CmpReads Tryz.prog 49 #[] enc (fun i j => cmpZ (row i) (row j)) g 0 (Array.range L.length).size W := fun k os dk _ x y => by
    obtain ⟨A, c, e1, i1, n1⟩ := henc x
    obtain ⟨B, d, e2, i2, n2⟩ := henc y
    have hg := grownBy_sortedV (enc := enc) (w := W) (g := g) (n := k) (os := os) dk
    have := compare_any (sortWorld enc W g 0 k dk os) (row x) (row y) A B c d (ints_grown i1 hg fun b o e h => (n1 b o e) (by injection h with h; exact h.symm)) (ints_grown i2 hg fun b o e h => (n2 b o e) (by injection h with h; exact h.symm))
    rw [← e1, ← e2] at this
    exact this.mono fun e w' ⟨h, h'⟩ => ⟨h, 0, h'⟩
  have hs := Any.slices_SortFunc laySort enc h1 (fun i j => cmpZ (row i) (row j)) (swo_cmpZ row) 49 #[] g 0 cap (Array.range L.length) W (fun args w => by simp [go_sem]) hcmp.lays hH hgb (by simp; omega)
  rw [Array.size_range] at hs
  refine hs.mono ?_
  rintro e w' ⟨he, d', k, os, ⟨hsz, -, hperm⟩, hsrt, rfl⟩
  rw [Array.size_range] at hsz
  have hg := grownBy_sortedV (enc := enc) (w := W) (g := g) (n := k) (os := os) d'
  have hp : d'.toList.Perm (List.range L.length) := by
    have e1 : (d'.extract 0 L.length).toList = d'.toList := by rw [← hsz]; simp
    have e2 : ((Array.range L.length).extract 0 L.length).toList = List.range L.length := by
      have : (Array.range L.length).extract 0 L.length = Array.range L.length := by
        have h := Array.extract_size (xs := Array.range L.length)
        rwa [Array.size_range] at h
      rw [this]; simp
    rw [e1, e2] at hperm
    exact hperm
  have hmap : (List.range L.length).map row = L := by
    apply List.ext_getElem (by simp)
    intro i h1 h2
    simp only [List.getElem_map, List.getElem_range]
    rw [hrow]
    simp only [cl, if_pos h2]
  have hL' : (d'.toList.map row).Perm L := by have := hp.map row; rwa [hmap] at this
  have hget : ∀ j, (hj : j < L.length) → d'[j]! = d'.toList[j]'(by simpa [hsz] using hj) := fun j hj => by rw [getElem!_pos _ j (by omega)]; simp
  refine ⟨he, hg, d'.toList.map row, hL', ?_, ?_⟩
  · unfold SortedZ
    rw [List.pairwise_iff_getElem]
    intro i j hi hj hij
    simp only [List.length_map, Array.length_toList, hsz] at hi hj
    simp only [List.getElem_map]
    have h := hsrt i j (Nat.zero_le _) hij hj
    rw [hget i hi, hget j hj] at h
    exact of_decide_eq_false h
  · refine ⟨by simp [hsz]; omega, .inr ⟨g, 0, rfl, Nat.lt_of_lt_of_le hgb hg.size, fun i hi => ?_⟩⟩
    have hi' : i < L.length := by simpa [hsz] using hi
    have hil : i < d'.toList.length := by simpa [hsz] using hi'
    obtain ⟨A, c, e1, i1, n1⟩ := henc (d'.toList[i]'(by simpa [hsz] using hi'))
    have hc := cell?_putRow enc (Sort.ahead W k) g 0 (Array.range L.length) d' hH (by simp [hsz]) i (by omega)
    refine ⟨[enc d'.toList[i]], rfl, ⟨A, c, ?_, ?_⟩, fun j hj => ?_⟩
    · rw [e1]; simp
    · simp only [List.getElem_map]
      exact ints_grown i1 hg fun b o e h => (n1 b o e) (by injection h with h; exact h.symm)
    · have : j = 0 := by simpa using hj
      subst this
      rw [hget i hi'] at hc
      show (sortWorld enc W g 0 k d' os).cell? ⟨g, 0 + i * 1 + 0, none⟩ = some (enc _)
      unfold sortWorld
      rw [cell?_grow _ _ _ (by simpa [putRow, mapBlock, Sort.ahead] using hgb)]
      simpa using hc
theorem insertion_none (p : Option Addr) (cap : Nat) (fv : Value) (w : World) :
    Calls Tryz.prog 119 #[.slice p 0 cap, .int .i64 0, .int .i64 0, fv] w fun e w' => e = .returned (.tuple #[]) ∧ w' = w := by
  go_enter Tryz.func119, Tryz.ntmps119
  go_wp2
  refine wp_loop_rounds 1 ?_
  rw [rounds_succ]
  go_wp2
  go_end0
  exact ⟨rfl, rfl⟩
theorem pdq_none (p : Option Addr) (cap : Nat) (lim : Int) (fv : Value) (w : World) :
    Calls Tryz.prog 107 #[.slice p 0 cap, .int .i64 0, .int .i64 0, .int .i64 lim, fv] w fun e w' => e = .returned (.tuple #[]) ∧ w' = w := by
  have hi := fun W => insertion_none p cap fv W
  go_enter Tryz.func107, Tryz.ntmps107
  go_wp2
  refine wp_loop_rounds 1 ?_
  rw [rounds_succ]
  go_wp2_with (go_at_call 119; refine (hi _).mono ?_; rintro e w' ⟨rfl, rfl⟩)
  (try simp only [Exit.inBlock, Exit.then]); refine bodyPost_ret (results_none rfl _ _ _) rfl ?_
  exact ⟨rfl, rfl⟩
theorem sort_none (p : Option Addr) (cap : Nat) (fv : Value) (w : World) :
    Calls Tryz.prog 75 #[.slice p 0 cap, fv] w fun e w' => e = .returned (.tuple #[]) ∧ w' = w := by
  have hp := fun lim W => pdq_none p cap lim fv W
  have hl : ∀ W, Calls Tryz.prog 108 #[.int .u64 0] W fun e w' => e = .returned (.int .i64 (Lib.bitLen 0 : Nat)) ∧ w' = W := fun W => by
    have h := Any.bits_Len (SlLaysF0.n15.bits (P := Tryz.prog) (ρ := renSort) { laySort with }) 0 W (by omega) (by omega)
    exact h
  go_enter Tryz.func75, Tryz.ntmps75
  go_wp2_with (first | (go_at_call 108; refine (hl _).mono ?_; rintro e w' ⟨rfl, rfl⟩) | (go_at_call 107; refine (hp _ _).mono ?_; rintro e w' ⟨rfl, rfl⟩))
  go_end0
  exact ⟨rfl, rfl⟩
end Go.Proofs
end
