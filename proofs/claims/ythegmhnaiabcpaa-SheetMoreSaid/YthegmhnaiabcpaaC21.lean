/- Own texts, merged: Ve Vh0 Vh1. -/
import Derived.Test.YthegmhnaiabcpaaC20
import Derived.BigGuard
set_option linter.unusedSimpArgs false
set_option linter.unusedVariables false
set_option linter.unnecessarySimpa false
section
/- Walks: Made. -/
namespace Go.Proofs
open Go.RowKit
attribute [local go_sem] Oper.semAt_some

/-- The true shifts as they are handed out. -/
def trJ (X Y : List Int) (i : Nat) : Q4 := ⟨X.getD i 0, 1, Y.getD i 0, 1⟩
/-- What Made makes. -/
def MadeR (w0 : World) (most play : Int) (w : World) (e : Ending) (w' : World) : Prop :=
  ∃ (n : Nat) (X Y : List Int) (J : List Q4) (vJ vT : Value), e = .returned (.tuple #[.agg #[.int .i64 (n : Nat), vJ], vT]) ∧ 2 ≤ n ∧ (n : Int) ≤ most ∧ X.length = n ∧ Y.length = n ∧ (∀ x ∈ X, -200 ≤ x ∧ x ≤ 200) ∧ (∀ x ∈ Y, -200 ≤ x ∧ x ≤ 200) ∧ (∀ j ∈ J, JOk n play X Y j) ∧ 1 ≤ J.length ∧ J.length ≤ 16 ∧
    w'.ownsRow w.heap.size 35 4 vJ J.length (J.flatMap enc4) ∧ w'.ownsRow w.heap.size 93 4 vT ((List.range n).map (trJ X Y)).length (((List.range n).map (trJ X Y)).flatMap enc4) ∧ Aft w0 w'

set_option maxRecDepth 100000 in
set_option maxHeartbeats 4000000 in
theorem made_any (w0 : World) (d : Nat) (A : Option Addr) (l : List Int) (c m : Nat) (most play : Int) (w : World) (hd : DeckAt w0 d A l c m w) (hm : m ≤ 100000) (hm1 : 2 ≤ most) (hm2 : most ≤ 9) (hp1 : 0 ≤ play) (hp2 : play ≤ 12) :
    Calls Try.prog 7 #[.pointer (some ⟨d, 0, none⟩), .int .i64 most, .int .i64 play] w (MadeR w0 most play w) := by
  have hdl := hd.lt
  have HB := Lib.hid (between_any w0 d A l c m 2 most (w.alloc (.cells #[.int .i64 0, .slice none 0 0] 25)) (hd.aft (Aft.alloc _ _)) (by omega) (by omega) (by omega) (by omega))
  clear hd
  go_enter Try.func7, Try.ntmps7
  go_upto_region 2 with (go_at_call 41; refine HB.out.mono ?_; rintro e w1 ⟨x, rfl, hx0, hx1, hd1, hg1⟩; obtain ⟨n, rfl⟩ := Int.eq_ofNat_of_zero_le (show 0 ≤ x by omega); have HD1 := Lib.hid hd1; have HG1 := Lib.hid hg1; clear hd1 hg1)
  obtain ⟨b8, hb8⟩ : ∃ b8, w1.heap.size = b8 := ⟨_, rfl⟩
  have hn2 : 2 ≤ n := by omega
  have hnm : (n : Int) ≤ most := by omega
  have hge8 : w.heap.size < b8 := by have := HG1.out.size; rw [World.size_alloc] at this; omega
  obtain ⟨W2, hW2⟩ : ∃ W2, w1.alloc (.cells #[.int .i64 (n : Nat), .slice none 0 0] 25) = W2 := ⟨_, rfl⟩
  have HM0 : Hid (MdX w0 d A l c (m + 1) w b8 n 0 0 (.slice none 0 0) (.slice none 0 0) [] [] W2) := Lib.hid (by
    have hA : Aft w1 W2 := hW2 ▸ Aft.alloc w1 _
    refine ⟨HD1.out.aft hA, only_aft (World.grownBy.trans (only_of_aft (Aft.alloc w _) _) HG1.out) hA, hdl, hge8, by rw [← hW2, World.size_alloc]; omega, ?_, by rw [← hW2, ← hb8]; exact Blk.new w1 25 _, World.ownsRow_nil _ _ 3 1, World.ownsRow_nil _ _ 3 1, (fun q h => by cases h), rfl, rfl, (fun x h => by cases h), (fun x h => by cases h)⟩
    exact ((Blk.new w 25 _).grown HG1.out (fun e => by have e : w.heap.size = d := Option.some.inj e; omega)).aft hA)
  clear hx0 hx1 HB HD1 HG1
  rw [hW2, hb8]
  clear hW2 hb8
  have c0 : W2.cell? ⟨b8, 0, none⟩ = some (.int .i64 (n : Nat)) := HM0.out.k8.cell 0
  have c1 := HM0.out.k8.lt
  go_upto_block 0 with fail
  clear c0 c1
  refine wp_block ?_
  go_loopw [9, 10, 21] (fun vx vy i wr => ∃ (k : Nat) (X Y : List Int), i = .int .i64 (k : Nat) ∧ k ≤ n ∧ MdX w0 d A l c (m + 1 + 2 * k) w b8 n k k vx vy X Y wr) (fun _ _ i _ => n - (intOf i).toNat)
  case atStart => exact ⟨0, [], [], rfl, Nat.zero_le _, HM0.out⟩
  case round =>
    obtain ⟨k, X, Y, rfl, hk, hm0⟩ := hrel
    have HM := Lib.hid hm0
    clear hm0 HM0
    by_cases hkn : k < n
    · have t1 : decide (k < n) = true := by simpa using hkn
      have HB1 := Lib.hid (between_any w0 d A l c (m + 1 + 2 * k) (-200) 200 wr HM.out.deck (by omega) (by omega) (by omega) (by omega))
      have hgo : ∀ (w2 : World) (m' : Nat), DeckAt w0 d A l c m' w2 → m' ≤ 200000 → Calls Try.prog 41 #[.pointer (some ⟨d, 0, none⟩), .int .i64 (-200), .int .i64 200] w2 (DealtB w0 d A l c m' (-200) 200 w2) := fun w2 m' h h2 => between_any w0 d A l c m' (-200) 200 w2 h (by omega) (by omega) (by omega) (by omega)
      have HGO := Lib.hid hgo
      clear hgo
      go_upto_region 5 with fail
      apply wp_region_lit
      (repeat ((fail_if_success at_builtin); first | go_big_skip | go_big_want | go_big_move | go_big_op | go_step | go_upon | go_back))
      go_at_call 41
      refine HB1.out.mono ?_
      rintro e w2 ⟨x, rfl, hx0, hx1, hd2, hg2⟩
      dsimp only
      have HM2 := Lib.hid (HM.out.deal hd2 hg2)
      have HX2 := Lib.hid (And.intro hx0 hx1)
      clear HB1 hd2 hg2 hx0 hx1
      (repeat ((fail_if_success at_builtin); first | go_big_skip | go_big_want | go_big_move | go_big_op | go_step | go_upon | go_back))
      obtain ⟨v3, w3, hr3, ho3, hg3, hb3⟩ := app_int (HM2.out.aft (Aft.alloc w2 (.cells #[.int .i64 x] 3))).ox (HM2.out.aft (Aft.alloc w2 (.cells #[.int .i64 x] 3))).sz x (c := 1) ((Blk.new w2 3 #[.int .i64 x]).cell 0) (by have := HM2.out.lx; omega)
      refine wpList_val rfl (exec_append rfl rfl rfl hr3) ?_
      have HM3 := Lib.hid ((HM2.out.aft (Aft.alloc w2 (.cells #[.int .i64 x] 3))).pushX hg3 ho3 hb3 HX2.out)
      have HC3 := Lib.hid (HGO.out w3 _ HM3.out.deck (by omega))
      clear hr3 ho3 hg3 hb3 HM2 HX2 HGO
      (repeat ((fail_if_success at_builtin); first | go_big_skip | go_big_want | go_big_move | go_big_op | go_step | go_upon | go_back))
      go_at_call 41
      refine HC3.out.mono ?_
      rintro e w4 ⟨y, rfl, hy0, hy1, hd4, hg4⟩
      dsimp only
      have HM4 := Lib.hid (HM3.out.deal hd4 hg4).turn
      have HY4 := Lib.hid (And.intro hy0 hy1)
      clear HC3 HM3 hd4 hg4 hy0 hy1
      (repeat ((fail_if_success at_builtin); first | go_big_skip | go_big_want | go_big_move | go_big_op | go_step | go_upon | go_back))
      obtain ⟨v5, w5, hr5, ho5, hg5, hb5⟩ := app_int (HM4.out.aft (Aft.alloc w4 (.cells #[.int .i64 y] 3))).ox (HM4.out.aft (Aft.alloc w4 (.cells #[.int .i64 y] 3))).sz y (c := 1) ((Blk.new w4 3 #[.int .i64 y]).cell 0) (by have := HM4.out.lx; omega)
      refine wpList_val rfl (exec_append rfl rfl rfl hr5) ?_
      have HM5 := Lib.hid ((HM4.out.aft (Aft.alloc w4 (.cells #[.int .i64 y] 3))).pushX hg5 ho5 hb5 HY4.out).turn
      clear hr5 ho5 hg5 hb5 HM4 HY4
      go_wp2_with fail
      refine ⟨⟨k + 1, X ++ [x], Y ++ [y], by go_num, by omega, ?_⟩, by simp [intOf]; omega⟩
      rw [show m + 1 + 2 * (k + 1) = m + 1 + 2 * k + 1 + 1 by omega]
      exact HM5.out
    · have t1 : decide (k < n) = false := by simpa using hkn
      obtain rfl : k = n := by omega
      obtain ⟨Ax, cx, rfl, hcx, -⟩ := own_ints HM.out.ox (by have := HM.out.lx; omega)
      obtain ⟨Ay, cy, rfl, hcy, -⟩ := own_ints HM.out.oy (by have := HM.out.ly; omega)
      have HJ0 : Hid (MdJ w0 d A l c (m + 1 + 2 * k) w b8 k (.slice Ax X.length cx) (.slice Ay Y.length cy) (.slice none 0 0) X Y [] wr) := Lib.hid ⟨HM.out.deck, HM.out.grown, HM.out.dlt, HM.out.ge, HM.out.sz, HM.out.k6, HM.out.k8, HM.out.ox, HM.out.oy, World.ownsRow_nil _ _ 35 4, HM.out.lx, HM.out.ly, HM.out.bx, HM.out.by_⟩
      have hk9 : k ≤ 9 := by omega
      have HBK := Lib.hid (between_any w0 d A l c (m + 1 + 2 * k) 1 16 wr HM.out.deck (by omega) (by omega) (by omega) (by omega))
      have hlx := HM.out.lx
      have hly := HM.out.ly
      rw [hlx, hly] at HJ0
      rw [hlx, hly]
      have HLX := Lib.hid hlx
      have HLY := Lib.hid hly
      clear hcx hcy hlx hly hkn hk
      clear HM
      go_upto_block 2 with (go_at_call 41; refine HBK.out.mono ?_; rintro e w2 ⟨x, rfl, hx0, hx1, hd2, hg2⟩; obtain ⟨KJ, rfl⟩ := Int.eq_ofNat_of_zero_le (show 0 ≤ x by omega); have HJ1 := Lib.hid (HJ0.out.deal hd2 hg2); clear HBK hd2 hg2)
      have hK1 : 1 ≤ KJ := by omega
      have hK16 : KJ ≤ 16 := by omega
      clear hx0 hx1 HJ0 t1
      refine wp_block ?_
      obtain ⟨p1, hp1⟩ : ∃ p1, k = p1 + 1 := ⟨k - 1, by omega⟩
      have HP1 := Lib.hid hp1
      have hpi : (k : Int) - 1 = (p1 : Int) := by omega
      have HPI := Lib.hid hpi
      obtain ⟨np, hnp⟩ : ∃ np, -play = np := ⟨_, rfl⟩
      have HNP := Lib.hid hnp
      clear hp1 hpi hnp
      go_loopw [11, 12, 36] (fun _ _ i wr => ∃ (q : Nat) (J : List Q4) (vJ : Value), i = .int .i64 (q : Nat) ∧ q ≤ KJ ∧ MdJ w0 d A l c (m + 1 + 2 * k + 1 + 4 * q) w b8 k (.slice Ax k cx) (.slice Ay k cy) vJ X Y J wr ∧ J.length = q ∧ ∀ j ∈ J, JOk k play X Y j) (fun _ _ i _ => KJ - (intOf i).toNat)
      case atStart => exact ⟨0, [], _, rfl, Nat.zero_le _, HJ1.out, rfl, fun j h => by cases h⟩
      case round =>
        obtain ⟨q, J, vJ, rfl, hq, hj, hjl, hjo⟩ := hrel
        have HJ := Lib.hid hj
        have HJL := Lib.hid hjl
        have HJO := Lib.hid hjo
        clear hj hjl hjo HJ1
        by_cases hqk : q < KJ
        · have t1 : decide (q < KJ) = true := by simpa using hqk
          have HDR := Lib.hid (draw_any w0 d A l c (m + 1 + 2 * k + 1 + 4 * q) k wr HJ.out.deck (by omega) (by omega) (by omega))
          have c0 : wr.cell? ⟨b8, 0, none⟩ = some (.int .i64 (k : Nat)) := HJ.out.k8.cell 0
          have c1 := HJ.out.k8.lt
          go_upto_region 10 with (go_at_call 32; refine HDR.out.mono ?_; rintro e w3 ⟨x, rfl, hx0, hx1, hd3, hg3⟩; obtain ⟨a0, rfl⟩ := Int.eq_ofNat_of_zero_le hx0; have HJ3 := Lib.hid (HJ.out.deal hd3 hg3); clear HDR hd3 hg3)
          have ha0 : a0 < k := by omega
          clear hx0 hx1 c0 c1 HJ
          have H32 : Hid (∀ W mm, DeckAt w0 d A l c mm W → mm ≤ 200000 → Calls Try.prog 32 #[.pointer (some ⟨d, 0, none⟩), .int .i64 (p1 : Nat)] W (Dealt w0 d A l c mm p1 W)) := Lib.hid fun W mm h h2 => draw_any w0 d A l c mm p1 W h (by omega) (by have := HP1.out; omega) (by have := HP1.out; omega)
          have HMW : Hid (∀ W, w3.grownBy W (some d) → W.cell? ⟨b8, 0, none⟩ = some (.int .i64 (k : Nat)) ∧ b8 < W.heap.size) := Lib.hid fun W h => by
            have hb := HJ3.out.k8.grown h (fun e => by have e : b8 = d := Option.some.inj e; have := HJ3.out.ge; omega)
            exact ⟨hb.cell 0, hb.lt⟩
          refine wp_region_valsU (by kernel_rfl) 11 114 rfl (by kernel_rfl) (by kernel_rfl) [some (.int .i64 (a0 : Nat)), some (.int .i64 ((a0 : Int) + 1)), some (.pointer (some ⟨d, 0, none⟩)), some (.pointer (some ⟨b8, 0, none⟩)), some (.int .i64 (k : Nat)), some (.int .i64 (p1 : Nat)), none, none, some (.pointer (some ⟨b8, 0, none⟩)), some (.int .i64 (k : Nat)), none] (by kernel_rfl) rfl (Deal1 w0 d A l c (m + 1 + 2 * k + 1 + 4 * q + 1) w3 k a0) (Deal1.start HJ3.out.deck) ?st1 ?fi1
          case st1 =>
            intro i o v ho hv
            match i, ho, hv with
            | 0, ho, hv =>
              cases ho; cases hv
              refine .inl ⟨rfl, fun done a W hz hd hp hk hw K hK => ?_⟩
              have e11 := hk.same 11 (by decide)
              exact op_val (v := .int .i64 (a0 : Nat)) (by simp [go_sem, ev' e11]) (hK _ _ (fun u hu => by cases hu; rfl) (hw.keep (by decide) (by decide)))
            | 1, ho, hv =>
              cases ho; cases hv
              refine .inl ⟨rfl, fun done a W hz hd hp hk hw K hK => ?_⟩
              have e42 := hk.at_ 0 _ 42 _ rfl (by decide) _ rfl rfl rfl
              exact op_val (v := .int .i64 ((a0 : Int) + 1)) (by simp [go_sem, ev' e42, IntWalk.i64_in ((a0 : Int) + 1) (by omega)]) (hK _ _ (fun u hu => by cases hu; rfl) (hw.keep (by decide) (by decide)))
            | 2, ho, hv =>
              cases ho; cases hv
              refine .inl ⟨rfl, fun done a W hz hd hp hk hw K hK => ?_⟩
              have e0 := hk.same 0 (by decide)
              exact op_val (v := .pointer (some ⟨d, 0, none⟩)) (by simp [go_sem, ev' e0]) (hK _ _ (fun u hu => by cases hu; rfl) (hw.keep (by decide) (by decide)))
            | 3, ho, hv =>
              cases ho; cases hv
              refine .inl ⟨rfl, fun done a W hz hd hp hk hw K hK => ?_⟩
              have e8 := hk.same 8 (by decide)
              exact op_val (v := .pointer (some ⟨b8, 0, none⟩)) (by simp [go_sem, ev' e8]) (hK _ _ (fun u hu => by cases hu; rfl) (hw.keep (by decide) (by decide)))
            | 4, ho, hv =>
              cases ho; cases hv
              refine .inl ⟨rfl, fun done a W hz hd hp hk hw K hK => ?_⟩
              have e45 := hk.at_ 3 _ 45 _ rfl (by decide) _ rfl rfl rfl
              exact op_val (v := .int .i64 (k : Nat)) (by simp [go_sem, ev' e45, (HMW.out W hw.grown).1]) (hK _ _ (fun u hu => by cases hu; rfl) (hw.keep (by decide) (by decide)))
            | 5, ho, hv =>
              cases ho; cases hv
              refine .inl ⟨rfl, fun done a W hz hd hp hk hw K hK => ?_⟩
              have e46 := hk.at_ 4 _ 46 _ rfl (by decide) _ rfl rfl rfl
              refine op_val (v := .int .i64 (p1 : Nat)) ?_ (hK _ _ (fun u hu => by cases hu; rfl) (hw.keep (by decide) (by decide)))
              rw [← HPI.out]
              simp [go_sem, ev' e46, IntWalk.i64_in ((k : Int) - 1) (by omega)]
            | 6, ho, hv =>
              cases ho; cases hv
              refine .inl ⟨rfl, fun done a W hz hd hp hk hw K hK => ?_⟩
              have e44 := hk.at_ 2 _ 44 _ rfl (by decide) _ rfl rfl rfl
              have e47 := hk.at_ 5 _ 47 _ rfl (by decide) _ rfl rfl rfl
              have hdk := hw.deck
              refine op_callN rfl rfl rfl _ rfl (vs := #[.pointer (some ⟨d, 0, none⟩), .int .i64 (p1 : Nat)]) (by simp [e44, e47]) (H32.out W _ hdk (by cases done 6 <;> simp [n1] <;> omega)) fun e w' h => ?_
              obtain ⟨x, rfl, hx0, hx1, hd2, hg2⟩ := h
              obtain ⟨X, rfl⟩ := Int.eq_ofNat_of_zero_le hx0
              exact ⟨_, rfl, hK _ _ (fun u hu => by cases hu) (hw.step6 hd (by have := HP1.out; omega) hd2 hg2 (by rw [hz]; decide))⟩
            | 7, ho, hv =>
              cases ho; cases hv
              refine .inl ⟨rfl, fun done a W hz hd hp hk hw K hK => ?_⟩
              have e43 := hk.at_ 1 _ 43 _ rfl (by decide) _ rfl rfl rfl
              obtain ⟨r, er, hr⟩ := hw.v6 (hp 6 (by decide))
              exact op_val (v := .int .i64 ((a0 : Int) + 1 + (r : Nat))) (by simp [go_sem, ev' e43, ev' er, IntWalk.i64_in ((a0 : Int) + 1 + (r : Nat)) (by omega)]) (hK _ _ (fun u hu => by cases hu) (hw.step7 hr (by rw [hz]; decide)))
            | 8, ho, hv =>
              cases ho; cases hv
              refine .inl ⟨rfl, fun done a W hz hd hp hk hw K hK => ?_⟩
              have e8 := hk.same 8 (by decide)
              exact op_val (v := .pointer (some ⟨b8, 0, none⟩)) (by simp [go_sem, ev' e8]) (hK _ _ (fun u hu => by cases hu; rfl) (hw.keep (by decide) (by decide)))
            | 9, ho, hv =>
              cases ho; cases hv
              refine .inl ⟨rfl, fun done a W hz hd hp hk hw K hK => ?_⟩
              have e50 := hk.at_ 8 _ 50 _ rfl (by decide) _ rfl rfl rfl
              exact op_val (v := .int .i64 (k : Nat)) (by simp [go_sem, ev' e50, (HMW.out W hw.grown).1]) (hK _ _ (fun u hu => by cases hu; rfl) (hw.keep (by decide) (by decide)))
            | 10, ho, hv =>
              cases ho; cases hv
              refine .inl ⟨rfl, fun done a W hz hd hp hk hw K hK => ?_⟩
              have e51 := hk.at_ 9 _ 51 _ rfl (by decide) _ rfl rfl rfl
              obtain ⟨r, er, hr⟩ := hw.v7 (hp 7 (by decide))
              refine op_val (v := .int .i64 (((a0 + 1 + r) % k : Nat) : Int)) ?_ (hK _ _ (fun u hu => by cases hu) (hw.step10 hr (by rw [hz]; decide)))
              obtain ⟨y9, hy9⟩ : ∃ y9 : Nat, (a0 + 1 + r) % k = y9 := ⟨_, rfl⟩
              have ht : ((a0 : Int) + 1 + (r : Nat)).tmod (k : Nat) = (y9 : Nat) := by (rw [Int.tmod_eq_emod_of_nonneg (by omega), ← hy9]; rfl)
              have hk0 : ¬ (k = 0) := by omega
              rw [hy9]
              simp [go_sem, ev' er, ev' e51, ht, hk0]
            | _ + 11, _, hv => cases hv
          intro done us W hus hd hw
          obtain ⟨x1, x2, x3, rfl⟩ := list3 hus
          obtain ⟨r, e52, hr⟩ := hw.v10 (hd 10 (by decide))
          have e52' : x3 = .int .i64 (((a0 + 1 + r) % k : Nat) : Int) := by simpa [fill, putAll, Act.put, Act.eval] using e52
          subst e52'
          have hdk := hw.deck
          rw [hd 6 (by decide), n1_t] at hdk
          have HJ4 := Lib.hid (HJ3.out.deal hdk hw.grown)
          obtain ⟨hb0k, hb0n⟩ := turn_ne ha0 hr
          simp only [fill, List.drop_succ_cons, List.drop_zero, List.zip_cons_cons, List.zip_nil_right, putAll]
          simp only [Act.put, List.setIfInBounds_toArray, List.set]
          obtain ⟨b0, hb0⟩ : ∃ b0, (a0 + 1 + r) % k = b0 := ⟨_, rfl⟩
          rw [hb0] at hb0k hb0n ⊢
          clear hw hd hus hdk e52 HJ3 HMW H32 hr hb0
          go_upto_region 11 with fail
          obtain ⟨AJ, qJ, cJ, rfl, -⟩ := own_form HJ4.out.oj
          obtain ⟨bx, ox, rfl, hbx, hcx⟩ := (own_ints_at HJ4.out.ox (by rw [HLX.out]; omega)).at (k := a0) (by rw [HLX.out]; exact ha0)
          obtain ⟨by_, oy, rfl, hby, hcy⟩ := (own_ints_at HJ4.out.oy (by rw [HLY.out]; omega)).at (k := a0) (by rw [HLY.out]; exact ha0)
          have gX : ∀ i, (hi : i < k) → W.cell? ⟨bx, ox + i, none⟩ = some (.int .i64 (X.getD i 0)) := fun i hi => by
            rw [hcx i (by rw [HLX.out]; exact hi), List.getD_eq_getElem?_getD, List.getElem?_eq_getElem (by rw [HLX.out]; exact hi)]
            rfl
          have gY : ∀ i, (hi : i < k) → W.cell? ⟨by_, oy + i, none⟩ = some (.int .i64 (Y.getD i 0)) := fun i hi => by
            rw [hcy i (by rw [HLY.out]; exact hi), List.getD_eq_getElem?_getD, List.getElem?_eq_getElem (by rw [HLY.out]; exact hi)]
            rfl
          have rX : ∀ i, i < k → -200 ≤ X.getD i 0 ∧ X.getD i 0 ≤ 200 := fun i hi => by
            rw [List.getD_eq_getElem?_getD, List.getElem?_eq_getElem (by rw [HLX.out]; exact hi)]
            exact HJ4.out.bx _ (List.getElem_mem _)
          have rY : ∀ i, i < k → -200 ≤ Y.getD i 0 ∧ Y.getD i 0 ≤ 200 := fun i hi => by
            rw [List.getD_eq_getElem?_getD, List.getElem?_eq_getElem (by rw [HLY.out]; exact hi)]
            exact HJ4.out.by_ _ (List.getElem_mem _)
          have HGX : Hid (∀ Z, W.grownBy Z (some d) → ∀ i, i < k → Z.cell? ⟨bx, ox + i, none⟩ = some (.int .i64 (X.getD i 0))) := Lib.hid fun Z h i hi => (cell_grown h hbx (fun e => own_deck HJ4.out.ox HJ4.out.dlt HJ4.out.ge e)).trans (gX i hi)
          have HGY : Hid (∀ Z, W.grownBy Z (some d) → ∀ i, i < k → Z.cell? ⟨by_, oy + i, none⟩ = some (.int .i64 (Y.getD i 0))) := Lib.hid fun Z h i hi => (cell_grown h hby (fun e => own_deck HJ4.out.oy HJ4.out.dlt HJ4.out.ge e)).trans (gY i hi)
          have HG8 : Hid (∀ Z, W.grownBy Z (some d) → Blk Z b8 25 #[.int .i64 (k : Nat), .slice AJ qJ cJ]) := Lib.hid fun Z h => HJ4.out.k8.grown h (fun e => by have e : b8 = d := Option.some.inj e; have := HJ4.out.ge; omega)
          have H41 : Hid (∀ Z mm, DeckAt w0 d A l c mm Z → mm ≤ 200000 → Calls Try.prog 41 #[.pointer (some ⟨d, 0, none⟩), .int .i64 np, .int .i64 play] Z (DealtB w0 d A l c mm np play Z)) := Lib.hid fun Z mm h h2 => between_any w0 d A l c mm np play Z h (by omega) (by have := HNP.out; omega) (by have := HNP.out; omega) (by omega)
          have xa := rX a0 ha0
          have xb := rX b0 hb0k
          have ya := rY a0 ha0
          have yb := rY b0 hb0k
          obtain ⟨Xa, hXa⟩ : ∃ v, X.getD a0 0 = v := ⟨_, rfl⟩
          obtain ⟨Xb, hXb⟩ : ∃ v, X.getD b0 0 = v := ⟨_, rfl⟩
          obtain ⟨Ya, hYa⟩ : ∃ v, Y.getD a0 0 = v := ⟨_, rfl⟩
          obtain ⟨Yb, hYb⟩ : ∃ v, Y.getD b0 0 = v := ⟨_, rfl⟩
          have fXa := fun Z h => (HGX.out Z h a0 ha0).trans (by rw [hXa])
          have fXb := fun Z h => (HGX.out Z h b0 hb0k).trans (by rw [hXb])
          have fYa := fun Z h => (HGY.out Z h a0 ha0).trans (by rw [hYa])
          have fYb := fun Z h => (HGY.out Z h b0 hb0k).trans (by rw [hYb])
          have FXA : Hid (∀ Z, W.grownBy Z (some d) → Z.cell? ⟨bx, ox + a0, none⟩ = some (.int .i64 Xa)) := Lib.hid fXa
          have FXB : Hid (∀ Z, W.grownBy Z (some d) → Z.cell? ⟨bx, ox + b0, none⟩ = some (.int .i64 Xb)) := Lib.hid fXb
          have FYA : Hid (∀ Z, W.grownBy Z (some d) → Z.cell? ⟨by_, oy + a0, none⟩ = some (.int .i64 Ya)) := Lib.hid fYa
          have FYB : Hid (∀ Z, W.grownBy Z (some d) → Z.cell? ⟨by_, oy + b0, none⟩ = some (.int .i64 Yb)) := Lib.hid fYb
          rw [hXa] at xa
          rw [hXb] at xb
          rw [hYa] at ya
          rw [hYb] at yb
          have HXE := Lib.hid (And.intro hXa (And.intro hXb (And.intro hYa hYb)))
          obtain ⟨dx, hdx⟩ : ∃ dx, Xb - Xa = dx := ⟨_, rfl⟩
          obtain ⟨dy, hdy⟩ : ∃ dy, Yb - Ya = dy := ⟨_, rfl⟩
          have wdx : IntKind.i64.wrap (Xb - Xa) = dx := by rw [hdx]; exact IntWalk.i64_in _ (by omega)
          have wdy : IntKind.i64.wrap (Yb - Ya) = dy := by rw [hdy]; exact IntWalk.i64_in _ (by omega)
          have hdxb : -400 ≤ dx ∧ dx ≤ 400 := by omega
          have hdyb : -400 ≤ dy ∧ dy ≤ 400 := by omega
          have HDE := Lib.hid (And.intro hdx hdy)
          have wnp : IntKind.i64.wrap (-play) = np := by rw [HNP.out]; exact IntWalk.i64_in _ (by have := HNP.out; omega)
          have ia : (0 : Int) ≤ (a0 : Int) ∧ (a0 : Int) < (k : Int) := by omega
          have ib : (0 : Int) ≤ (b0 : Int) ∧ (b0 : Int) < (k : Int) := by omega
          clear hcx hcy gX gY rX rY HGX HGY fXa fXb fYa fYb hXa hXb hYa hYb hdx hdy
          refine wp_region_valsU (by kernel_rfl) 36 114 rfl (by kernel_rfl) (by kernel_rfl) [some (.pointer (some ⟨b8, 1, none⟩)), some (.slice AJ qJ cJ), some (.int .i64 (a0 : Nat)), some (.int .i64 (b0 : Nat)), some (.slice (some ⟨bx, ox, none⟩) k cx), some (.int .i64 (b0 : Nat)), some (.pointer (some ⟨bx, ox + b0, none⟩)), some (.int .i64 Xb), some (.slice (some ⟨bx, ox, none⟩) k cx), some (.int .i64 (a0 : Nat)), some (.pointer (some ⟨bx, ox + a0, none⟩)), some (.int .i64 Xa), some (.int .i64 dx), some (.pointer (some ⟨d, 0, none⟩)), some (.int .i64 play), some (.int .i64 np), some (.int .i64 play), none, none, some (.slice (some ⟨by_, oy, none⟩) k cy), some (.int .i64 (b0 : Nat)), some (.pointer (some ⟨by_, oy + b0, none⟩)), some (.int .i64 Yb), some (.slice (some ⟨by_, oy, none⟩) k cy), some (.int .i64 (a0 : Nat)), some (.pointer (some ⟨by_, oy + a0, none⟩)), some (.int .i64 Ya), some (.int .i64 dy), some (.pointer (some ⟨d, 0, none⟩)), some (.int .i64 play), some (.int .i64 np), some (.int .i64 play), none, none, none, none] (by kernel_rfl) rfl (Deal2 w0 d A l c (m + 1 + 2 * k + 1 + 4 * q + 1 + 1) W play (a0 : Nat) (b0 : Nat) dx dy) (Deal2.start HJ4.out.deck) ?st2 ?fi2
          case st2 =>
            intro i o v ho hv
            match i, ho, hv with
            | 0, ho, hv =>
              cases ho; cases hv
              refine .inl ⟨rfl, fun done a W hz hd hp hk hw K hK => ?_⟩
              have e8 := hk.same 8 (by decide)
              exact op_val (v := .pointer (some ⟨b8, 1, none⟩)) (by simp [go_sem, ev' e8]) (hK _ _ (fun u hu => by cases hu; rfl) (hw.keep (by decide) (by decide)))
            | 1, ho, hv =>
              cases ho; cases hv
              refine .inl ⟨rfl, fun done a W hz hd hp hk hw K hK => ?_⟩
              have e53 := hk.at_ 0 _ 53 _ rfl (by decide) _ rfl rfl rfl
              exact op_val (v := .slice AJ qJ cJ) (by simp [go_sem, ev' e53, (HG8.out W hw.grown).cell 1]) (hK _ _ (fun u hu => by cases hu; rfl) (hw.keep (by decide) (by decide)))
            | 2, ho, hv =>
              cases ho; cases hv
              refine .inl ⟨rfl, fun done a W hz hd hp hk hw K hK => ?_⟩
              have e11 := hk.same 11 (by decide)
              exact op_val (v := .int .i64 (a0 : Nat)) (by simp [go_sem, ev' e11]) (hK _ _ (fun u hu => by cases hu; rfl) (hw.keep (by decide) (by decide)))
            | 3, ho, hv =>
              cases ho; cases hv
              refine .inl ⟨rfl, fun done a W hz hd hp hk hw K hK => ?_⟩
              have e12 := hk.same 12 (by decide)
              exact op_val (v := .int .i64 (b0 : Nat)) (by simp [go_sem, ev' e12]) (hK _ _ (fun u hu => by cases hu; rfl) (hw.keep (by decide) (by decide)))
            | 4, ho, hv =>
              cases ho; cases hv
              refine .inl ⟨rfl, fun done a W hz hd hp hk hw K hK => ?_⟩
              have e9 := hk.same 9 (by decide)
              exact op_val (v := .slice (some ⟨bx, ox, none⟩) k cx) (by simp [go_sem, ev' e9]) (hK _ _ (fun u hu => by cases hu; rfl) (hw.keep (by decide) (by decide)))
            | 5, ho, hv =>
              cases ho; cases hv
              refine .inl ⟨rfl, fun done a W hz hd hp hk hw K hK => ?_⟩
              have e12 := hk.same 12 (by decide)
              exact op_val (v := .int .i64 (b0 : Nat)) (by simp [go_sem, ev' e12]) (hK _ _ (fun u hu => by cases hu; rfl) (hw.keep (by decide) (by decide)))
            | 6, ho, hv =>
              cases ho; cases hv
              refine .inl ⟨rfl, fun done a W hz hd hp hk hw K hK => ?_⟩
              have e57 := hk.at_ 4 _ 57 _ rfl (by decide) _ rfl rfl rfl
              have e58 := hk.at_ 5 _ 58 _ rfl (by decide) _ rfl rfl rfl
              exact op_val (v := .pointer (some ⟨bx, ox + b0, none⟩)) (by simp [go_sem, ev' e57, ev' e58, ib]) (hK _ _ (fun u hu => by cases hu; rfl) (hw.keep (by decide) (by decide)))
            | 7, ho, hv =>
              cases ho; cases hv
              refine .inl ⟨rfl, fun done a W hz hd hp hk hw K hK => ?_⟩
              have e59 := hk.at_ 6 _ 59 _ rfl (by decide) _ rfl rfl rfl
              exact op_val (v := .int .i64 Xb) (by simp [go_sem, ev' e59, FXB.out W hw.grown]) (hK _ _ (fun u hu => by cases hu; rfl) (hw.keep (by decide) (by decide)))
            | 8, ho, hv =>
              cases ho; cases hv
              refine .inl ⟨rfl, fun done a W hz hd hp hk hw K hK => ?_⟩
              have e9 := hk.same 9 (by decide)
              exact op_val (v := .slice (some ⟨bx, ox, none⟩) k cx) (by simp [go_sem, ev' e9]) (hK _ _ (fun u hu => by cases hu; rfl) (hw.keep (by decide) (by decide)))
            | 9, ho, hv =>
              cases ho; cases hv
              refine .inl ⟨rfl, fun done a W hz hd hp hk hw K hK => ?_⟩
              have e11 := hk.same 11 (by decide)
              exact op_val (v := .int .i64 (a0 : Nat)) (by simp [go_sem, ev' e11]) (hK _ _ (fun u hu => by cases hu; rfl) (hw.keep (by decide) (by decide)))
            | 10, ho, hv =>
              cases ho; cases hv
              refine .inl ⟨rfl, fun done a W hz hd hp hk hw K hK => ?_⟩
              have e61 := hk.at_ 8 _ 61 _ rfl (by decide) _ rfl rfl rfl
              have e62 := hk.at_ 9 _ 62 _ rfl (by decide) _ rfl rfl rfl
              exact op_val (v := .pointer (some ⟨bx, ox + a0, none⟩)) (by simp [go_sem, ev' e61, ev' e62, ia]) (hK _ _ (fun u hu => by cases hu; rfl) (hw.keep (by decide) (by decide)))
            | 11, ho, hv =>
              cases ho; cases hv
              refine .inl ⟨rfl, fun done a W hz hd hp hk hw K hK => ?_⟩
              have e63 := hk.at_ 10 _ 63 _ rfl (by decide) _ rfl rfl rfl
              exact op_val (v := .int .i64 Xa) (by simp [go_sem, ev' e63, FXA.out W hw.grown]) (hK _ _ (fun u hu => by cases hu; rfl) (hw.keep (by decide) (by decide)))
            | 12, ho, hv =>
              cases ho; cases hv
              refine .inl ⟨rfl, fun done a W hz hd hp hk hw K hK => ?_⟩
              have e60 := hk.at_ 7 _ 60 _ rfl (by decide) _ rfl rfl rfl
              have e64 := hk.at_ 11 _ 64 _ rfl (by decide) _ rfl rfl rfl
              exact op_val (v := .int .i64 dx) (by simp [go_sem, ev' e60, ev' e64, wdx]) (hK _ _ (fun u hu => by cases hu; rfl) (hw.keep (by decide) (by decide)))
            | 13, ho, hv =>
              cases ho; cases hv
              refine .inl ⟨rfl, fun done a W hz hd hp hk hw K hK => ?_⟩
              have e0 := hk.same 0 (by decide)
              exact op_val (v := .pointer (some ⟨d, 0, none⟩)) (by simp [go_sem, ev' e0]) (hK _ _ (fun u hu => by cases hu; rfl) (hw.keep (by decide) (by decide)))
            | 14, ho, hv =>
              cases ho; cases hv
              refine .inl ⟨rfl, fun done a W hz hd hp hk hw K hK => ?_⟩
              have e2 := hk.same 2 (by decide)
              exact op_val (v := .int .i64 play) (by simp [go_sem, ev' e2]) (hK _ _ (fun u hu => by cases hu; rfl) (hw.keep (by decide) (by decide)))
            | 15, ho, hv =>
              cases ho; cases hv
              refine .inl ⟨rfl, fun done a W hz hd hp hk hw K hK => ?_⟩
              have e67 := hk.at_ 14 _ 67 _ rfl (by decide) _ rfl rfl rfl
              exact op_val (v := .int .i64 np) (by simp [go_sem, ev' e67, wnp]) (hK _ _ (fun u hu => by cases hu; rfl) (hw.keep (by decide) (by decide)))
            | 16, ho, hv =>
              cases ho; cases hv
              refine .inl ⟨rfl, fun done a W hz hd hp hk hw K hK => ?_⟩
              have e2 := hk.same 2 (by decide)
              exact op_val (v := .int .i64 play) (by simp [go_sem, ev' e2]) (hK _ _ (fun u hu => by cases hu; rfl) (hw.keep (by decide) (by decide)))
            | 17, ho, hv =>
              cases ho; cases hv
              refine .inl ⟨rfl, fun done a W hz hd hp hk hw K hK => ?_⟩
              have e66 := hk.at_ 13 _ 66 _ rfl (by decide) _ rfl rfl rfl
              have e68 := hk.at_ 15 _ 68 _ rfl (by decide) _ rfl rfl rfl
              have e69 := hk.at_ 16 _ 69 _ rfl (by decide) _ rfl rfl rfl
              have hdk := hw.deck
              refine op_callN rfl rfl rfl _ rfl (vs := #[.pointer (some ⟨d, 0, none⟩), .int .i64 np, .int .i64 play]) (by simp [e66, e68, e69]) (H41.out W _ hdk (by cases done 17 <;> cases done 32 <;> simp [n1] <;> omega)) fun e w' h => ?_
              obtain ⟨x, rfl, hx0, hx1, hd2, hg2⟩ := h
              exact ⟨_, rfl, hK _ _ (fun u hu => by cases hu) (hw.deal (.inl ⟨rfl, rfl⟩) hd ⟨by rw [HNP.out]; exact hx0, hx1⟩ hd2 hg2 (by rw [hz]; decide))⟩
            | 18, ho, hv =>
              cases ho; cases hv
              refine .inl ⟨rfl, fun done a W hz hd hp hk hw K hK => ?_⟩
              have e65 := hk.at_ 12 _ 65 _ rfl (by decide) _ rfl rfl rfl
              obtain ⟨r, er, hr⟩ := hw.v17 (hp 17 (by decide))
              exact op_val (v := .int .i64 (dx + r)) (by simp [go_sem, ev' e65, ev' er, IntWalk.i64_in (dx + r) (by omega)]) (hK _ _ (fun u hu => by cases hu) (hw.s18 hr (by rw [hz]; decide)))
            | 19, ho, hv =>
              cases ho; cases hv
              refine .inl ⟨rfl, fun done a W hz hd hp hk hw K hK => ?_⟩
              have e10 := hk.same 10 (by decide)
              exact op_val (v := .slice (some ⟨by_, oy, none⟩) k cy) (by simp [go_sem, ev' e10]) (hK _ _ (fun u hu => by cases hu; rfl) (hw.keep (by decide) (by decide)))
            | 20, ho, hv =>
              cases ho; cases hv
              refine .inl ⟨rfl, fun done a W hz hd hp hk hw K hK => ?_⟩
              have e12 := hk.same 12 (by decide)
              exact op_val (v := .int .i64 (b0 : Nat)) (by simp [go_sem, ev' e12]) (hK _ _ (fun u hu => by cases hu; rfl) (hw.keep (by decide) (by decide)))
            | 21, ho, hv =>
              cases ho; cases hv
              refine .inl ⟨rfl, fun done a W hz hd hp hk hw K hK => ?_⟩
              have e72 := hk.at_ 19 _ 72 _ rfl (by decide) _ rfl rfl rfl
              have e73 := hk.at_ 20 _ 73 _ rfl (by decide) _ rfl rfl rfl
              exact op_val (v := .pointer (some ⟨by_, oy + b0, none⟩)) (by simp [go_sem, ev' e72, ev' e73, ib]) (hK _ _ (fun u hu => by cases hu; rfl) (hw.keep (by decide) (by decide)))
            | 22, ho, hv =>
              cases ho; cases hv
              refine .inl ⟨rfl, fun done a W hz hd hp hk hw K hK => ?_⟩
              have e74 := hk.at_ 21 _ 74 _ rfl (by decide) _ rfl rfl rfl
              exact op_val (v := .int .i64 Yb) (by simp [go_sem, ev' e74, FYB.out W hw.grown]) (hK _ _ (fun u hu => by cases hu; rfl) (hw.keep (by decide) (by decide)))
            | 23, ho, hv =>
              cases ho; cases hv
              refine .inl ⟨rfl, fun done a W hz hd hp hk hw K hK => ?_⟩
              have e10 := hk.same 10 (by decide)
              exact op_val (v := .slice (some ⟨by_, oy, none⟩) k cy) (by simp [go_sem, ev' e10]) (hK _ _ (fun u hu => by cases hu; rfl) (hw.keep (by decide) (by decide)))
            | 24, ho, hv =>
              cases ho; cases hv
              refine .inl ⟨rfl, fun done a W hz hd hp hk hw K hK => ?_⟩
              have e11 := hk.same 11 (by decide)
              exact op_val (v := .int .i64 (a0 : Nat)) (by simp [go_sem, ev' e11]) (hK _ _ (fun u hu => by cases hu; rfl) (hw.keep (by decide) (by decide)))
            | 25, ho, hv =>
              cases ho; cases hv
              refine .inl ⟨rfl, fun done a W hz hd hp hk hw K hK => ?_⟩
              have e76 := hk.at_ 23 _ 76 _ rfl (by decide) _ rfl rfl rfl
              have e77 := hk.at_ 24 _ 77 _ rfl (by decide) _ rfl rfl rfl
              exact op_val (v := .pointer (some ⟨by_, oy + a0, none⟩)) (by simp [go_sem, ev' e76, ev' e77, ia]) (hK _ _ (fun u hu => by cases hu; rfl) (hw.keep (by decide) (by decide)))
            | 26, ho, hv =>
              cases ho; cases hv
              refine .inl ⟨rfl, fun done a W hz hd hp hk hw K hK => ?_⟩
              have e78 := hk.at_ 25 _ 78 _ rfl (by decide) _ rfl rfl rfl
              exact op_val (v := .int .i64 Ya) (by simp [go_sem, ev' e78, FYA.out W hw.grown]) (hK _ _ (fun u hu => by cases hu; rfl) (hw.keep (by decide) (by decide)))
            | 27, ho, hv =>
              cases ho; cases hv
              refine .inl ⟨rfl, fun done a W hz hd hp hk hw K hK => ?_⟩
              have e75 := hk.at_ 22 _ 75 _ rfl (by decide) _ rfl rfl rfl
              have e79 := hk.at_ 26 _ 79 _ rfl (by decide) _ rfl rfl rfl
              exact op_val (v := .int .i64 dy) (by simp [go_sem, ev' e75, ev' e79, wdy]) (hK _ _ (fun u hu => by cases hu; rfl) (hw.keep (by decide) (by decide)))
            | 28, ho, hv =>
              cases ho; cases hv
              refine .inl ⟨rfl, fun done a W hz hd hp hk hw K hK => ?_⟩
              have e0 := hk.same 0 (by decide)
              exact op_val (v := .pointer (some ⟨d, 0, none⟩)) (by simp [go_sem, ev' e0]) (hK _ _ (fun u hu => by cases hu; rfl) (hw.keep (by decide) (by decide)))
            | 29, ho, hv =>
              cases ho; cases hv
              refine .inl ⟨rfl, fun done a W hz hd hp hk hw K hK => ?_⟩
              have e2 := hk.same 2 (by decide)
              exact op_val (v := .int .i64 play) (by simp [go_sem, ev' e2]) (hK _ _ (fun u hu => by cases hu; rfl) (hw.keep (by decide) (by decide)))
            | 30, ho, hv =>
              cases ho; cases hv
              refine .inl ⟨rfl, fun done a W hz hd hp hk hw K hK => ?_⟩
              have e82 := hk.at_ 29 _ 82 _ rfl (by decide) _ rfl rfl rfl
              exact op_val (v := .int .i64 np) (by simp [go_sem, ev' e82, wnp]) (hK _ _ (fun u hu => by cases hu; rfl) (hw.keep (by decide) (by decide)))
            | 31, ho, hv =>
              cases ho; cases hv
              refine .inl ⟨rfl, fun done a W hz hd hp hk hw K hK => ?_⟩
              have e2 := hk.same 2 (by decide)
              exact op_val (v := .int .i64 play) (by simp [go_sem, ev' e2]) (hK _ _ (fun u hu => by cases hu; rfl) (hw.keep (by decide) (by decide)))
            | 32, ho, hv =>
              cases ho; cases hv
              refine .inl ⟨rfl, fun done a W hz hd hp hk hw K hK => ?_⟩
              have e81 := hk.at_ 28 _ 81 _ rfl (by decide) _ rfl rfl rfl
              have e83 := hk.at_ 30 _ 83 _ rfl (by decide) _ rfl rfl rfl
              have e84 := hk.at_ 31 _ 84 _ rfl (by decide) _ rfl rfl rfl
              have hdk := hw.deck
              refine op_callN rfl rfl rfl _ rfl (vs := #[.pointer (some ⟨d, 0, none⟩), .int .i64 np, .int .i64 play]) (by simp [e81, e83, e84]) (H41.out W _ hdk (by cases done 17 <;> cases done 32 <;> simp [n1] <;> omega)) fun e w' h => ?_
              obtain ⟨x, rfl, hx0, hx1, hd2, hg2⟩ := h
              exact ⟨_, rfl, hK _ _ (fun u hu => by cases hu) (hw.deal (.inr ⟨rfl, rfl⟩) hd ⟨by rw [HNP.out]; exact hx0, hx1⟩ hd2 hg2 (by rw [hz]; decide))⟩
            | 33, ho, hv =>
              cases ho; cases hv
              refine .inl ⟨rfl, fun done a W hz hd hp hk hw K hK => ?_⟩
              have e80 := hk.at_ 27 _ 80 _ rfl (by decide) _ rfl rfl rfl
              obtain ⟨r, er, hr⟩ := hw.v32 (hp 32 (by decide))
              exact op_val (v := .int .i64 (dy + r)) (by simp [go_sem, ev' e80, ev' er, IntWalk.i64_in (dy + r) (by omega)]) (hK _ _ (fun u hu => by cases hu) (hw.s33 hr (by rw [hz]; decide)))
            | 34, ho, hv =>
              cases ho; cases hv
              refine .inl ⟨rfl, fun done a W hz hd hp hk hw K hK => ?_⟩
              have e55 := hk.at_ 2 _ 55 _ rfl (by decide) _ rfl rfl rfl
              have e56 := hk.at_ 3 _ 56 _ rfl (by decide) _ rfl rfl rfl
              obtain ⟨r, er, hr⟩ := hw.v18 (hp 18 (by decide))
              obtain ⟨r2, er2, hr2⟩ := hw.v33 (hp 33 (by decide))
              exact op_val (v := .agg #[.int .i64 (a0 : Nat), .int .i64 (b0 : Nat), .int .i64 (dx + r), .int .i64 (dy + r2)]) (by simp [go_sem, ev' e55, ev' e56, ev' er, ev' er2]) (hK _ _ (fun u hu => by cases hu) (hw.s34 hr hr2 (by rw [hz]; decide)))
            | 35, ho, hv =>
              cases ho; cases hv
              refine .inl ⟨rfl, fun done a W hz hd hp hk hw K hK => ?_⟩
              obtain ⟨r, r2, er, hr, hr2⟩ := hw.v34 (hp 34 (by decide))
              exact op_valW (w' := W.alloc (.cells #[.int .i64 (a0 : Nat), .int .i64 (b0 : Nat), .int .i64 (dx + r), .int .i64 (dy + r2)] 35)) (v := .slice (some ⟨W.heap.size, 0, none⟩) 1 1) (by simp [go_sem, ev' er]) (hK _ _ (fun u hu => by cases hu) (hw.s35 hr hr2 (by rw [hz]; decide)))
            | _ + 36, _, hv => cases hv
          intro done us W hus hd hw
          obtain ⟨x1, x2, x3, x4, x5, x6, rfl⟩ := list6 hus
          obtain ⟨g, e1, e2, e88, hg0, hbg, he1, he2⟩ := hw.v35 (hd 35 (by decide))
          have e88' : x6 = .slice (some ⟨g, 0, none⟩) 1 1 := by simpa [fill, putAll, Act.put, Act.eval] using e88
          subst e88'
          have hdk := hw.deck
          rw [hd 17 (by decide), hd 32 (by decide), n1_t] at hdk
          have HJ5 := Lib.hid (HJ4.out.deal hdk hw.grown)
          have HBG := Lib.hid hbg
          simp only [fill, List.drop_succ_cons, List.drop_zero, List.zip_cons_cons, List.zip_nil_right, putAll]
          simp only [Act.put, List.setIfInBounds_toArray, List.set]
          clear hw hd hus hdk e88 hbg HJ4 HG8 H41 FXA FXB FYA FYB
          obtain ⟨v7, w7, hr7, ho7, hg7, -⟩ := app_rec (enc := enc4) ty23 HJ5.out.oj HJ5.out.sz (⟨a0, b0, dx + e1, dy + e2⟩ : Q4) (c := 1) rfl (src_blk HBG.out) (fun u hu => by simp [enc4] at hu; rcases hu with rfl | rfl | rfl | rfl <;> rfl) (by rw [HJL.out]; omega) (by decide) (by decide)
          obtain ⟨A7, q7, c7, rfl, -⟩ := own_form ho7
          refine wpList_val rfl (exec_append rfl rfl rfl hr7) ?_
          have k8 : Blk w7 b8 25 #[.int .i64 (k : Nat), .slice AJ qJ cJ] := HJ5.out.k8.grown hg7 (fun e => by have := own_ge HJ5.out.oj b8 e.symm; omega)
          have HJ6 := Lib.hid (HJ5.out.push hg7 ho7)
          have c0 : w7.cell? ⟨b8, 1, none⟩ = some (.slice AJ qJ cJ) := k8.cell 1
          have c1 := k8.frozen 1
          have c2 := k8.lt
          have HOK : Hid (JOk k play X Y ⟨a0, b0, dx + e1, dy + e2⟩) := Lib.hid (by
            obtain ⟨q1, q2, q3, q4⟩ := HXE.out
            obtain ⟨q5, q6⟩ := HDE.out
            refine ⟨ia, ib, by dsimp only; omega, ?_, ?_⟩
            · dsimp only
              rw [Int.toNat_natCast, Int.toNat_natCast, q1, q2]
              omega
            · dsimp only
              rw [Int.toNat_natCast, Int.toNat_natCast, q3, q4]
              omega)
          clear hr7 ho7 hg7 k8 HJ5 HBG HXE HDE wdx wdy wnp
          go_wp2_with fail
          refine ⟨⟨q + 1, J ++ [⟨a0, b0, dx + e1, dy + e2⟩], .slice A7 q7 c7, by go_num, by omega, ?_, by simp [HJL.out], fun j hj => ?_⟩, by simp [intOf]; omega⟩
          · rw [show m + 1 + 2 * k + 1 + 4 * (q + 1) = m + 1 + 2 * k + 1 + 4 * q + 1 + 1 + 1 + 1 by omega]
            exact HJ6.out
          · rcases List.mem_append.1 hj with hj | hj
            · exact HJO.out j hj
            · rw [List.mem_singleton] at hj
              subst hj
              exact HOK.out
        · have t1 : decide (q < KJ) = false := by simpa using hqk
          obtain rfl : q = KJ := by omega
          have hJ16 : J.length ≤ 16 := by rw [HJL.out]; omega
          clear hqk hq
          go_upto_block 4 with fail
          refine wp_block ?_
          clear t1
          go_loopw [13, 14, 94] (fun vT _ i wr' => ∃ (f : Nat), i = .int .i64 (f : Nat) ∧ f ≤ k ∧ MdJ w0 d A l c (m + 1 + 2 * k + 1 + 4 * q) w b8 k (.slice Ax k cx) (.slice Ay k cy) vJ X Y J wr' ∧ wr'.ownsRow (b8 + 1) 93 4 vT ((List.range f).map (trJ X Y)).length (((List.range f).map (trJ X Y)).flatMap enc4)) (fun _ _ i _ => k - (intOf i).toNat)
          case atStart => exact ⟨0, rfl, Nat.zero_le _, HJ.out, World.ownsRow_nil _ _ 93 4⟩
          case round =>
            obtain ⟨f, rfl, hf, hj2, ho2⟩ := hrel
            have HJ2 := Lib.hid hj2
            have HO2 := Lib.hid ho2
            clear hj2 ho2 HJ
            by_cases hfk : f < k
            · have t1 : decide (f < k) = true := by simpa using hfk
              go_upto_region 17 with fail
              obtain ⟨AT, qT, cT, rfl, -⟩ := own_form HO2.out
              obtain ⟨bx, ox, rfl, hbx, hcx⟩ := (own_ints_at HJ2.out.ox (by rw [HLX.out]; omega)).at (k := f) (by rw [HLX.out]; exact hfk)
              obtain ⟨by_, oy, rfl, hby, hcy⟩ := (own_ints_at HJ2.out.oy (by rw [HLY.out]; omega)).at (k := f) (by rw [HLY.out]; exact hfk)
              have gX := hcx f (by rw [HLX.out]; exact hfk)
              have gY := hcy f (by rw [HLY.out]; exact hfk)
              have eX : X[f]'(by rw [HLX.out]; exact hfk) = X.getD f 0 := by rw [List.getD_eq_getElem?_getD, List.getElem?_eq_getElem (by rw [HLX.out]; exact hfk)]; rfl
              have eY : Y[f]'(by rw [HLY.out]; exact hfk) = Y.getD f 0 := by rw [List.getD_eq_getElem?_getD, List.getElem?_eq_getElem (by rw [HLY.out]; exact hfk)]; rfl
              rw [eX] at gX
              rw [eY] at gY
              obtain ⟨Xf, hXf⟩ : ∃ v, X.getD f 0 = v := ⟨_, rfl⟩
              obtain ⟨Yf, hYf⟩ : ∃ v, Y.getD f 0 = v := ⟨_, rfl⟩
              rw [hXf] at gX
              rw [hYf] at gY
              have GX := Lib.hid gX
              have GY := Lib.hid gY
              have HXY := Lib.hid (And.intro hXf hYf)
              have hif : (0 : Int) ≤ (f : Int) ∧ (f : Int) < (k : Int) := by omega
              clear hcx hcy gX gY eX eY hXf hYf
              refine wp_region_valsU (by kernel_rfl) 13 114 rfl (by kernel_rfl) (by kernel_rfl) [some (.slice AT qT cT), some (.slice (some ⟨bx, ox, none⟩) k cx), some (.int .i64 (f : Nat)), some (.pointer (some ⟨bx, ox + f, none⟩)), some (.int .i64 Xf), some (.agg #[.int .i64 Xf, .int .i64 1]), some (.slice (some ⟨by_, oy, none⟩) k cy), some (.int .i64 (f : Nat)), some (.pointer (some ⟨by_, oy + f, none⟩)), some (.int .i64 Yf), some (.agg #[.int .i64 Yf, .int .i64 1]), some (.agg #[.int .i64 Xf, .int .i64 1, .int .i64 Yf, .int .i64 1]), none] (by kernel_rfl) rfl (Sft (.slice AT qT cT) wr Xf Yf) (Sft.start rfl) ?st3 ?fi3
              case st3 =>
                intro i o v ho hv
                match i, ho, hv with
                | 0, ho, hv =>
                  cases ho; cases hv
                  refine .inl ⟨rfl, fun done a W hz hd hp hk hw K hK => ?_⟩
                  have e13 := hw.s13
                  exact op_val (v := .slice AT qT cT) (by simp [go_sem, ev' e13]) (hK _ _ (fun u hu => by cases hu; rfl) (hw.keep (Aft.refl _) (by decide) (by decide)))
                | 1, ho, hv =>
                  cases ho; cases hv
                  refine .inl ⟨rfl, fun done a W hz hd hp hk hw K hK => ?_⟩
                  have e9 := hk.same 9 (by decide)
                  exact op_val (v := .slice (some ⟨bx, ox, none⟩) k cx) (by simp [go_sem, ev' e9]) (hK _ _ (fun u hu => by cases hu; rfl) (hw.keep (Aft.refl _) (by decide) (by decide)))
                | 2, ho, hv =>
                  cases ho; cases hv
                  refine .inl ⟨rfl, fun done a W hz hd hp hk hw K hK => ?_⟩
                  have e14 := hk.same 14 (by decide)
                  exact op_val (v := .int .i64 (f : Nat)) (by simp [go_sem, ev' e14]) (hK _ _ (fun u hu => by cases hu; rfl) (hw.keep (Aft.refl _) (by decide) (by decide)))
                | 3, ho, hv =>
                  cases ho; cases hv
                  refine .inl ⟨rfl, fun done a W hz hd hp hk hw K hK => ?_⟩
                  have e98 := hk.at_ 1 _ 98 _ rfl (by decide) _ rfl rfl rfl
                  have e99 := hk.at_ 2 _ 99 _ rfl (by decide) _ rfl rfl rfl
                  exact op_val (v := .pointer (some ⟨bx, ox + f, none⟩)) (by simp [go_sem, ev' e98, ev' e99, hif]) (hK _ _ (fun u hu => by cases hu; rfl) (hw.keep (Aft.refl _) (by decide) (by decide)))
                | 4, ho, hv =>
                  cases ho; cases hv
                  refine .inl ⟨rfl, fun done a W hz hd hp hk hw K hK => ?_⟩
                  have e100 := hk.at_ 3 _ 100 _ rfl (by decide) _ rfl rfl rfl
                  exact op_val (v := .int .i64 Xf) (by simp [go_sem, ev' e100, cellA GX.out hbx hw.aft]) (hK _ _ (fun u hu => by cases hu; rfl) (hw.keep (Aft.refl _) (by decide) (by decide)))
                | 5, ho, hv =>
                  cases ho; cases hv
                  refine .inl ⟨rfl, fun done a W hz hd hp hk hw K hK => ?_⟩
                  have e101 := hk.at_ 4 _ 101 _ rfl (by decide) _ rfl rfl rfl
                  refine op_callN rfl rfl rfl _ rfl (vs := #[.int .i64 Xf, .int .i64 1]) (by simp [e101, show ∀ v, a.eval (.const v) = v from fun _ => rfl]) (ratioL_any Xf 1 W) ?_
                  rintro e w7 ⟨rfl, hw7⟩
                  exact ⟨_, rfl, hK _ _ (fun u hu => by cases hu; rfl) (hw.keep hw7 (by decide) (by decide))⟩
                | 6, ho, hv =>
                  cases ho; cases hv
                  refine .inl ⟨rfl, fun done a W hz hd hp hk hw K hK => ?_⟩
                  have e10 := hk.same 10 (by decide)
                  exact op_val (v := .slice (some ⟨by_, oy, none⟩) k cy) (by simp [go_sem, ev' e10]) (hK _ _ (fun u hu => by cases hu; rfl) (hw.keep (Aft.refl _) (by decide) (by decide)))
                | 7, ho, hv =>
                  cases ho; cases hv
                  refine .inl ⟨rfl, fun done a W hz hd hp hk hw K hK => ?_⟩
                  have e14 := hk.same 14 (by decide)
                  exact op_val (v := .int .i64 (f : Nat)) (by simp [go_sem, ev' e14]) (hK _ _ (fun u hu => by cases hu; rfl) (hw.keep (Aft.refl _) (by decide) (by decide)))
                | 8, ho, hv =>
                  cases ho; cases hv
                  refine .inl ⟨rfl, fun done a W hz hd hp hk hw K hK => ?_⟩
                  have e103 := hk.at_ 6 _ 103 _ rfl (by decide) _ rfl rfl rfl
                  have e104 := hk.at_ 7 _ 104 _ rfl (by decide) _ rfl rfl rfl
                  exact op_val (v := .pointer (some ⟨by_, oy + f, none⟩)) (by simp [go_sem, ev' e103, ev' e104, hif]) (hK _ _ (fun u hu => by cases hu; rfl) (hw.keep (Aft.refl _) (by decide) (by decide)))
                | 9, ho, hv =>
                  cases ho; cases hv
                  refine .inl ⟨rfl, fun done a W hz hd hp hk hw K hK => ?_⟩
                  have e105 := hk.at_ 8 _ 105 _ rfl (by decide) _ rfl rfl rfl
                  exact op_val (v := .int .i64 Yf) (by simp [go_sem, ev' e105, cellA GY.out hby hw.aft]) (hK _ _ (fun u hu => by cases hu; rfl) (hw.keep (Aft.refl _) (by decide) (by decide)))
                | 10, ho, hv =>
                  cases ho; cases hv
                  refine .inl ⟨rfl, fun done a W hz hd hp hk hw K hK => ?_⟩
                  have e106 := hk.at_ 9 _ 106 _ rfl (by decide) _ rfl rfl rfl
                  refine op_callN rfl rfl rfl _ rfl (vs := #[.int .i64 Yf, .int .i64 1]) (by simp [e106, show ∀ v, a.eval (.const v) = v from fun _ => rfl]) (ratioL_any Yf 1 W) ?_
                  rintro e w7 ⟨rfl, hw7⟩
                  exact ⟨_, rfl, hK _ _ (fun u hu => by cases hu; rfl) (hw.keep hw7 (by decide) (by decide))⟩
                | 11, ho, hv =>
                  cases ho; cases hv
                  refine .inl ⟨rfl, fun done a W hz hd hp hk hw K hK => ?_⟩
                  have e102 := hk.at_ 5 _ 102 _ rfl (by decide) _ rfl rfl rfl
                  have e107 := hk.at_ 10 _ 107 _ rfl (by decide) _ rfl rfl rfl
                  exact op_val (v := .agg #[.int .i64 Xf, .int .i64 1, .int .i64 Yf, .int .i64 1]) (by simp [go_sem, ev' e102, ev' e107]) (hK _ _ (fun u hu => by cases hu; rfl) (hw.keep (Aft.refl _) (by decide) (by decide)))
                | 12, ho, hv =>
                  cases ho; cases hv
                  refine .inl ⟨rfl, fun done a W hz hd hp hk hw K hK => ?_⟩
                  have e108 := hk.at_ 11 _ 108 _ rfl (by decide) _ rfl rfl rfl
                  exact op_valW (w' := W.alloc (.cells #[.int .i64 Xf, .int .i64 1, .int .i64 Yf, .int .i64 1] 93)) (v := .slice (some ⟨W.heap.size, 0, none⟩) 1 1) (by simp [go_sem, ev' e108]) (hK _ _ (fun u hu => by cases hu) (hw.step (by rw [hz]; decide)))
                | _ + 13, _, hv => cases hv
              intro done us W hus hd hw
              obtain ⟨x1, rfl⟩ := list1 hus
              obtain ⟨g, e109, hbg⟩ := hw.v12 (hd 12 (by decide))
              have e109' : x1 = .slice (some ⟨g, 0, none⟩) 1 1 := by simpa [fill, putAll, Act.put, Act.eval] using e109
              subst e109'
              have HJ5 := Lib.hid (HJ2.out.aft hw.aft)
              have HO5 := Lib.hid (own_aft HO2.out hw.aft)
              have HBG := Lib.hid hbg
              simp only [fill, List.drop_succ_cons, List.drop_zero, List.zip_cons_cons, List.zip_nil_right, putAll]
              simp only [Act.put, List.setIfInBounds_toArray, List.set]
              clear hw hd hus e109 hbg HJ2 HO2 GX GY
              have hTL : ((List.range f).map (trJ X Y)).length ≤ 1000 := by simp; omega
              obtain ⟨v7, w7, hr7, ho7, hg7, -⟩ := app_rec (enc := enc4) ty26 HO5.out HJ5.out.sz (⟨Xf, 1, Yf, 1⟩ : Q4) (c := 1) rfl (src_blk HBG.out) (fun u hu => by simp [enc4] at hu; rcases hu with rfl | rfl | rfl | rfl <;> rfl) hTL (by decide) (by decide)
              refine wpList_val rfl (exec_append rfl rfl rfl hr7) ?_
              have HJ6 := Lib.hid (HJ5.out.row hg7 (own_ge HO5.out) (own_apart HJ5.out.ox HO5.out (by decide) hg7) (own_apart HJ5.out.oy HO5.out (by decide) hg7) (own_apart HJ5.out.oj HO5.out (by decide) hg7))
              have HTR : Hid ((List.range (f + 1)).map (trJ X Y) = (List.range f).map (trJ X Y) ++ [⟨Xf, 1, Yf, 1⟩]) := Lib.hid (by
                rw [List.range_succ, List.map_append, List.map_singleton]
                have : trJ X Y f = ⟨Xf, 1, Yf, 1⟩ := by unfold trJ; rw [HXY.out.1, HXY.out.2]
                rw [this])
              have HO7 := Lib.hid ho7
              clear hr7 ho7 hg7 HJ5 HO5 HBG hTL
              go_wp2_with fail
              refine ⟨⟨f + 1, by go_num, by omega, HJ6.out, ?_⟩, by simp [intOf]; omega⟩
              rw [HTR.out]
              exact HO7.out
            · have t1 : decide (f < k) = false := by simpa using hfk
              obtain rfl : f = k := by omega
              obtain ⟨AJ, qJ, cJ, rfl, -⟩ := own_form HJ2.out.oj
              have c0 : wr.cell? ⟨b8, 0, none⟩ = some (.int .i64 (f : Nat)) := HJ2.out.k8.cell 0
              have c1 : wr.cell? ⟨b8, 1, none⟩ = some (.slice AJ qJ cJ) := HJ2.out.k8.cell 1
              have c2 := HJ2.out.k8.lt
              have d0 : wr.cell? ⟨w.heap.size, 0, none⟩ = some (.int .i64 0) := HJ2.out.k6.cell 0
              have d1 : wr.cell? ⟨w.heap.size, 1, none⟩ = some (.slice none 0 0) := HJ2.out.k6.cell 1
              have d2 := HJ2.out.k6.lt
              have d3 := HJ2.out.k6.frozen 0
              have d4 := HJ2.out.k6.frozen 1
              clear hfk hf
              go_wp2_with fail
              have hset : wr.grownBy ((wr.setCell ⟨w.heap.size, 0, none⟩ (.int .i64 (f : Nat))).setCell ⟨w.heap.size, 1, none⟩ (.slice AJ qJ cJ)) (some w.heap.size) := only_setCell (only_setCell (only_refl _ _) (p := ⟨w.heap.size, 0, none⟩) (.inl rfl) _) (p := ⟨w.heap.size, 1, none⟩) (.inl rfl) _
              have B2 := (HJ2.out.k6.store 0 (.int .i64 (f : Nat))).store 1 (.slice AJ qJ cJ)
              have hge := HJ2.out.ge
              have hww : w0.heap.size ≤ w.heap.size := by have := HJ2.out.deck.dge; omega
              have A2 := (HJ2.out.deck.aft0.then_setCell (p := ⟨w.heap.size, 0, none⟩) hww (.int .i64 (f : Nat))).then_setCell (p := ⟨w.heap.size, 1, none⟩) hww (.slice AJ qJ cJ)
              have O1 := own_low HJ2.out.oj hset (by omega)
              have O2 := own_low HO2.out hset (by omega)
              generalize (wr.setCell ⟨w.heap.size, 0, none⟩ (.int .i64 (f : Nat))).setCell ⟨w.heap.size, 1, none⟩ (.slice AJ qJ cJ) = X9 at *
              have z0 : X9.cell? ⟨w.heap.size, 0, none⟩ = some (.int .i64 (f : Nat)) := B2.cell 0
              have z1 : X9.cell? ⟨w.heap.size, 1, none⟩ = some (.slice AJ qJ cJ) := B2.cell 1
              refine bodyPost_ret (v := .tuple #[.agg #[.int .i64 (f : Nat), .slice AJ qJ cJ], _]) (by simp [results, Try.results7, go_sem, z0, z1]) rfl ⟨f, X, Y, J, _, _, rfl, hn2, hnm, HLX.out, HLY.out, HJ2.out.bx, HJ2.out.by_, HJO.out, by rw [HJL.out]; exact hK1, hJ16, O1.mono (by omega), O2.mono (by omega), A2⟩
end Go.Proofs
end

section
/- Plain: what SheetBetween asks of a set that was made. -/
namespace Go.Proofs
open Go.RowKit
attribute [local go_sem] Oper.semAt_some

def xOf (X : List Int) (i : Nat) : Int := X.getD i 0
theorem xOf_le {X : List Int} (h : ∀ x ∈ X, -200 ≤ x ∧ x ≤ 200) (i : Nat) : -200 ≤ xOf X i ∧ xOf X i ≤ 200 := by
  unfold xOf
  rw [List.getD_eq_getElem?_getD]
  by_cases hi : i < X.length
  · rw [List.getElem?_eq_getElem hi]
    exact h _ (List.getElem_mem hi)
  · rw [List.getElem?_eq_none (by omega)]
    decide
theorem made_setE {n : Nat} {play : Int} {X Y : List Int} {J : List Q4} (hn1 : 1 ≤ n) (hn2 : n ≤ 12) (hp : play ≤ 12) (hJ : ∀ j ∈ J, JOk n play X Y j) (hl : J.length ≤ 17) (hX : ∀ x ∈ X, -200 ≤ x ∧ x ≤ 200) (hY : ∀ x ∈ Y, -200 ≤ x ∧ x ≤ 200) : setE ⟨n, J⟩ = 0 := by
  unfold setE
  have h1 : fromB (n : Int) 1 12 = true := by rw [fromB_iff]; omega
  have h2 : decide (40 < J.length) = false := by simp; omega
  have h3 : J.all (okJ n) = true := List.all_eq_true.2 fun j hj => by
    have := hJ j hj
    unfold okJ
    simp only [Bool.and_eq_true, fromB_iff, bne_iff_ne]
    have a1 := this.a
    have a2 := this.b
    exact ⟨⟨by omega, by omega⟩, this.ne⟩
  have h4 : J.all numJ = true := List.all_eq_true.2 fun j hj => by
    have := hJ j hj
    unfold numJ
    simp only [Bool.and_eq_true, fromB_iff]
    have a1 := this.x
    have a2 := this.y
    have x1 := xOf_le hX j.b.toNat
    have x2 := xOf_le hX j.a.toNat
    have y1 := xOf_le hY j.b.toNat
    have y2 := xOf_le hY j.a.toNat
    unfold xOf at x1 x2 y1 y2
    omega
  dsimp only
  rw [h1, h2, h3, h4]
  rfl
/-- Fold, where what it answers is known. -/
theorem fold_at (v : Int) (n u : Nat) (w : World) (h1 : 1 ≤ n) (h2 : n ≤ 1000000) (hu : (v.tmod n + n).tmod n = (u : Nat)) : Calls Try.prog 9 #[.int .i64 v, .int .i64 (n : Nat)] w fun e w' => e = .returned (.int .i64 (u : Nat)) ∧ w = w' := by
  have t1 : decide (n ≤ 0) = false := by simp; omega
  have t1b : decide ((n : Int) ≤ 0) = false := by simp; omega
  have hb : -(n : Int) < v.tmod n ∧ v.tmod n < n := ⟨Int.lt_tmod_of_pos v (show (0 : Int) < n by omega), Int.tmod_lt_of_pos v (show (0 : Int) < n by omega)⟩
  obtain ⟨x, hx⟩ : ∃ x, v.tmod (n : Int) = x := ⟨_, rfl⟩
  rw [hx] at hb hu
  have e2 : IntKind.i64.wrap (x + (n : Int)) = x + n := IntWalk.i64_in _ (by omega)
  have hn0 : ¬ (n = 0) := by omega
  clear hb h1 h2
  go_enter Try.func9, Try.ntmps9
  go_wp2_with fail
  go_ret
  exact ⟨rfl, rfl⟩
theorem fold_ex (v : Int) (n : Nat) (h1 : 1 ≤ n) : ∃ u : Nat, (v.tmod n + n).tmod n = (u : Nat) ∧ u < n := by
  have hb : -(n : Int) < v.tmod n := Int.lt_tmod_of_pos v (show (0 : Int) < n by omega)
  rw [Int.tmod_eq_emod_of_nonneg (by omega)]
  have hy := Int.emod_lt_of_pos (v.tmod n + (n : Int)) (show (0 : Int) < n by omega)
  have hy0 := Int.emod_nonneg (v.tmod n + (n : Int)) (show (n : Int) ≠ 0 by omega)
  obtain ⟨r, hr⟩ := Int.eq_ofNat_of_zero_le hy0
  exact ⟨r, hr, by rw [hr] at hy; omega⟩
/-- Between for a play that is enough. -/
theorem bt_any {S : SetL} (hE : setE S = 0) {N D : Int} (hp : PlayOk N D) (hm : ∀ north, Sheet.AtMost (Sheet.legs (joOf north S.J)) N D) {A : Option Addr} {c : Nat} {w : World} (hA : Quads w A S.J) {a b : Nat} (ha : a < S.n.toNat) (hb : b < S.n.toNat) :
    Calls Try.prog 14 #[.agg #[.int .i64 S.n, .slice A S.J.length c], .int .i64 (a : Nat), .int .i64 (b : Nat), .agg #[.int .i64 N, .int .i64 D]] w fun e w' => ∃ t0 t1, BtOk S N D a b t0 t1 w e w' :=
  Calls.mono (between_good S A c a b N D w hA hE ha hb hp) fun _ _ h => h.most hm
/-- Tables for a play, both ways. -/
structure Tabs (S : SetL) (N D : Int) (t0 t1 : Nat → Nat → Int) : Prop where
  x : Sheet.Calms S.n.toNat (joOf false S.J) D N t0
  y : Sheet.Calms S.n.toNat (joOf true S.J) D N t1
theorem Tabs.far_y {S : SetL} {N D : Int} {t0 t1 : Nat → Nat → Int} (h : Tabs S N D t0 t1) {a b : Nat} (ha : a < S.n.toNat) (hf : t0 a b ≠ Sheet.far) : t1 a b ≠ Sheet.far := Sheet.far_ways h.x h.y (legs_ways S.J false true) ha hf
end Go.Proofs
end

section
/- Plain: the fractions that SheetBetween compares. -/
namespace Go.Proofs
open Go.RowKit
attribute [local go_sem] Oper.semAt_some

/-- A fraction of so many parts, within bounds. -/
structure Fb (B C D n x y : Int) : Prop where
  fr : Sheet.Frac D n x y
  lo : -B ≤ x
  hi : x ≤ B
  yc : y ≤ C
theorem Fb.low {D n : Int} (hD : 0 < D) (hD12 : D ≤ 12) (h : -24000000000 ≤ n ∧ n ≤ 24000000000) : Fb 24000000000 12 D n (Sheet.low n D).1 (Sheet.low n D).2 := by
  have h3 := Sheet.low_pos (n := n) hD
  exact ⟨.low hD, by omega, by omega, by omega⟩
theorem mul_in {x y B C : Int} (h1 : -B ≤ x) (h2 : x ≤ B) (hB : 0 ≤ B) (hy : 0 ≤ y) (hc : y ≤ C) : -(B * C) ≤ x * y ∧ x * y ≤ B * C := by
  have h3 := Int.mul_le_mul_of_nonneg_right h2 hy
  have h4 := Int.mul_le_mul_of_nonneg_left hc hB
  have h5 := Int.mul_le_mul_of_nonneg_right h1 hy
  rw [Int.neg_mul] at h5
  omega
theorem Fb.less {B C B' C' D n x y n' x' y' : Int} (hD : 0 < D) (h : Fb B C D n x y) (h' : Fb B' C' D n' x' y') (hn : n ≤ n') (hB : 0 ≤ B) (hB' : 0 ≤ B') (hm : B * C' ≤ 1000000000000000) (hm' : B' * C ≤ 1000000000000000) (w : World) :
    Calls Try.prog 13 #[.agg #[.int .i64 x, .int .i64 y], .agg #[.int .i64 x', .int .i64 y']] w fun e w' => e = .returned (.bool true) ∧ Aft w w' := by
  have a1 := mul_in h.lo h.hi hB (Int.le_of_lt h'.fr.pos) h'.yc
  have a2 := mul_in h'.lo h'.hi hB' (Int.le_of_lt h.fr.pos) h.yc
  have h3 := less_any x y x' y' w ⟨by omega, by omega⟩ ⟨by omega, by omega⟩
  rwa [decide_eq_true (h.fr.le hD h'.fr hn)] at h3
/-- The bounds of a table's numbers. -/
theorem Tabs.fx {S : SetL} (hS : SetOk S) {N D : Int} (hp : PlayOk N D) {t0 t1 : Nat → Nat → Int} (h : Tabs S N D t0 t1) {a b : Nat} (ha : a < S.n.toNat) (hf : t0 a b ≠ Sheet.far) : (-24000000000 ≤ t0 a b ∧ t0 a b ≤ 24000000000) ∧ (-24000000000 ≤ t1 a b ∧ t1 a b ≤ 24000000000) :=
  ⟨tab_small hS hp h.x ha hf, tab_small hS hp h.y ha (h.far_y ha hf)⟩
theorem Tabs.back {S : SetL} {N D : Int} {t0 t1 : Nat → Nat → Int} (h : Tabs S N D t0 t1) {a b : Nat} (ha : a < S.n.toNat) (hb : b < S.n.toNat) (h1 : t0 a b ≠ Sheet.far) : t0 b a ≠ Sheet.far := Sheet.far_back h.x ha hb h1
/-- What Between answers, in fractions. -/
structure BtF (S : SetL) (N D : Int) (a b : Nat) (t0 t1 : Nat → Nat → Int) (e1 e2 e3 e4 e5 e6 e7 e8 : Int) : Prop where
  tab : Tabs S N D t0 t1
  ne : t0 a b ≠ Sheet.far
  f1 : Fb 24000000000 12 D (-(t0 b a)) e1 e2
  f2 : Fb 24000000000 12 D (t0 a b) e3 e4
  f3 : Fb 24000000000 12 D (-(t1 b a)) e5 e6
  f4 : Fb 24000000000 12 D (t1 a b) e7 e8
section
variable {W0 W W' : World} {done : Nat → Bool} {a : Act}
end
end Go.Proofs
end
