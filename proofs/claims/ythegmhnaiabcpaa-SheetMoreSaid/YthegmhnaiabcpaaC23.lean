/- Own texts, merged: Vj. -/
import Derived.Test.YthegmhnaiabcpaaC22
import Derived.BigGuard
set_option linter.unusedSimpArgs false
set_option linter.unusedVariables false
set_option linter.unnecessarySimpa false
section
/- Walks: SheetMore. -/
namespace Go.Proofs
open Go.RowKit
attribute [local go_sem] Oper.semAt_some

set_option maxRecDepth 100000 in
set_option maxHeartbeats 8000000 in
theorem moreLaw_any (A : Option Addr) (l : List Int) (c : Nat) (ka kb kc : Int) (w : World) (hB : Bytes w A l) :
    Calls Try.prog 3 #[.slice A l.length c, .int .i64 ka, .int .i64 kb, .int .i64 kc] w fun e w' => e = .returned (.bool true) ∧ Aft w w' := by
  have HBY := Lib.hid hB
  clear hB
  go_enter Try.func3, Try.ntmps3
  (repeat (first | go_big_skip | go_big_want | go_big_move | go_big_op | go_step | go_upon | go_back))
  go_at_call 8
  refine (of_any A l c w HBY.out).mono ?_
  rintro e x1 ⟨rfl, hd⟩
  dsimp only
  have hmade := made_any w w.heap.size A l c 0 8 5 x1 hd (by decide) (by decide) (by decide) (by decide) (by decide)
  have HMD := Lib.hid hmade
  clear hd hmade HBY
  (repeat (first | go_big_skip | go_big_want | go_big_move | go_big_op | go_step | go_upon | go_back))
  go_at_call 7
  refine HMD.out.mono ?_
  rintro e x2 ⟨n, X, Y, J, vJ, vT, rfl, hn2, hn8, hlx, hly, hX, hY, hJ, hl1, hl16, oJ, oT, ha⟩
  obtain ⟨AJ, cJ, rfl, -, hq, -⟩ := own_flat (enc := enc4) (fun _ => rfl) oJ (by omega)
  obtain ⟨AT, cT, rfl, -, ht, -⟩ := own_flat (enc := enc4) (fun _ => rfl) oT (by simp; omega)
  have hTn : ((List.range n).map (trJ X Y)).length = n := by simp
  rw [hTn]
  dsimp only
  have HQ : Hid (Quads x2 AJ J) := Lib.hid hq
  have HA := Lib.hid ha
  have hjb : ∀ j ∈ J, JB n 412 j := fun j hj => (hJ j hj).jb (by decide) hX hY
  have HJB := Lib.hid hjb
  have hE : setE ⟨n, J⟩ = 0 := made_setE (play := 5) (by omega) (by omega) (by decide) hJ (by omega) hX hY
  have HE := Lib.hid hE
  have HSO := Lib.hid (setE_ok hE)
  have n1 : 1 ≤ n := by omega
  have n8 : n ≤ 8 := by omega
  obtain ⟨kk, hK0⟩ : ∃ kk, J.length = kk := ⟨_, rfl⟩
  have K1 : 1 ≤ kk := by omega
  have K16 : kk ≤ 17 := by omega
  have HK := Lib.hid hK0
  clear hlx hly hX hY hJ hl1 oJ oT ha hq ht hE hTn HMD hn2 hn8 hjb hl16
  rw [hK0]
  clear hK0
  go_upto_region 2 with fail
  obtain ⟨p9, hs_p9⟩ : ∃ p9, x2.heap.size = p9 := ⟨_, rfl⟩
  have HBp9 : Hid (Blk (x2.alloc (.cells #[.int .i64 (n : Nat), .slice AJ kk cJ] 25)) (p9) 25 #[.int .i64 (n : Nat), .slice AJ kk cJ]) := Lib.hid (by
    have q := Blk.new x2 25 #[.int .i64 (n : Nat), .slice AJ kk cJ]
    try simp only [World.size_alloc] at q
    rw [hs_p9] at q
    exact q)
  replace HQ := Lib.hid (HQ.out.aft (Aft.alloc x2 (.cells #[.int .i64 (n : Nat), .slice AJ kk cJ] 25)))
  replace HA := Lib.hid (HA.out.trans (Aft.alloc x2 (.cells #[.int .i64 (n : Nat), .slice AJ kk cJ] 25)))
  rw [hs_p9]
  generalize x2.alloc (.cells #[.int .i64 (n : Nat), .slice AJ kk cJ] 25) = y1 at *
  clear hs_p9
  obtain ⟨i, hi, hiK⟩ := fold_ex ka kk K1
  obtain ⟨u, hu, hun⟩ := fold_ex kb n n1
  obtain ⟨v, hv, hvn⟩ := fold_ex kc n n1
  have HFI := Lib.hid fun W => fold_at ka kk i W K1 (by omega) hi
  have HFU := Lib.hid fun W => fold_at kb n u W n1 (by omega) hu
  have HFV := Lib.hid fun W => fold_at kc n v W n1 (by omega) hv
  clear hi hu hv
  have c0 := HBp9.out.cell 0
  have c1 := HBp9.out.cell 1
  have c2 := HBp9.out.lt
  simp only [List.getElem?_toArray, List.getElem?_cons_zero, List.getElem?_cons_succ] at c0 c1
  (repeat (first | go_big_skip | go_big_want | go_big_move | go_big_op | go_step | go_upon | go_back))
  go_at_call 9
  refine (HFI.out _).mono ?_
  rintro e w9 ⟨rfl, rfl⟩
  dsimp only
  clear c0 c1 c2 HFI
  go_upto_region 3 with fail
  refine wp_region_valsT (by kernel_rfl) 9 287 rfl (by kernel_rfl) (by kernel_rfl) (by kernel_rfl) [.int .i64 kb, .pointer (some ⟨p9, 0, none⟩), .int .i64 (n : Nat), .int .i64 (u : Nat), .int .i64 kc, .pointer (some ⟨p9, 0, none⟩), .int .i64 (n : Nat), .int .i64 (v : Nat), .int .i64 (u : Nat)] rfl (fun _ W => Aft y1 W) (Aft.drew _) ?st1 ?fi1
  case st1 =>
    intro i o v ho hv
    match i, ho, hv with
    | 0, ho, hv =>
      cases ho; cases hv
      refine .inl ⟨rfl, fun done a W hd hp hk hw K hK => ?_⟩
      have e2 := hk.same 2 (by decide)
      exact op_val (by simp [go_sem, ev' e2]) (hK _ hw)
    | 1, ho, hv =>
      cases ho; cases hv
      refine .inl ⟨rfl, fun done a W hd hp hk hw K hK => ?_⟩
      have e9 := hk.same 9 (by decide)
      exact op_val (by simp [go_sem, ev' e9]) (hK _ hw)
    | 2, ho, hv =>
      cases ho; cases hv
      refine .inl ⟨rfl, fun done a W hd hp hk hw K hK => ?_⟩
      have e47 := hk.at_ 1 _ 47 _ rfl (by decide) _ rfl rfl rfl
      exact op_val (by simp [go_sem, ev' e47, (HBp9.out.aft hw).cell 0]) (hK _ hw)
    | 3, ho, hv =>
      cases ho; cases hv
      refine .inl ⟨rfl, fun done a W hd hp hk hw K hK => ?_⟩
      have e46 := hk.at_ 0 _ 46 _ rfl (by decide) _ rfl rfl rfl
      have e48 := hk.at_ 2 _ 48 _ rfl (by decide) _ rfl rfl rfl
      refine op_callN rfl rfl rfl _ rfl (vs := #[.int .i64 kb, .int .i64 (n : Nat)]) (by simp [e46, e48]) (HFU.out W) ?_
      rintro e w7 ⟨rfl, rfl⟩
      exact ⟨_, rfl, hK _ hw⟩
    | 4, ho, hv =>
      cases ho; cases hv
      refine .inl ⟨rfl, fun done a W hd hp hk hw K hK => ?_⟩
      have e3 := hk.same 3 (by decide)
      exact op_val (by simp [go_sem, ev' e3]) (hK _ hw)
    | 5, ho, hv =>
      cases ho; cases hv
      refine .inl ⟨rfl, fun done a W hd hp hk hw K hK => ?_⟩
      have e9 := hk.same 9 (by decide)
      exact op_val (by simp [go_sem, ev' e9]) (hK _ hw)
    | 6, ho, hv =>
      cases ho; cases hv
      refine .inl ⟨rfl, fun done a W hd hp hk hw K hK => ?_⟩
      have e51 := hk.at_ 5 _ 51 _ rfl (by decide) _ rfl rfl rfl
      exact op_val (by simp [go_sem, ev' e51, (HBp9.out.aft hw).cell 0]) (hK _ hw)
    | 7, ho, hv =>
      cases ho; cases hv
      refine .inl ⟨rfl, fun done a W hd hp hk hw K hK => ?_⟩
      have e50 := hk.at_ 4 _ 50 _ rfl (by decide) _ rfl rfl rfl
      have e52 := hk.at_ 6 _ 52 _ rfl (by decide) _ rfl rfl rfl
      refine op_callN rfl rfl rfl _ rfl (vs := #[.int .i64 kc, .int .i64 (n : Nat)]) (by simp [e50, e52]) (HFV.out W) ?_
      rintro e w7 ⟨rfl, rfl⟩
      exact ⟨_, rfl, hK _ hw⟩
    | 8, ho, hv =>
      cases ho; cases hv
      refine .inl ⟨rfl, fun done a W hd hp hk hw K hK => ?_⟩
      have e49 := hk.at_ 3 _ 49 _ rfl (by decide) _ rfl rfl rfl
      exact op_val (by simp [go_sem, ev' e49]) (hK _ hw)
    | _ + 9, _, hv => cases hv
  intro done W hd hw
  simp only [List.drop_succ_cons, List.drop_zero, List.zip_cons_cons, List.zip_nil_right, putAll]
  simp only [Act.put, List.setIfInBounds_toArray, List.set]
  clear hd
  replace HQ := Lib.hid (HQ.out.aft (hw))
  replace HBp9 := Lib.hid (HBp9.out.aft (hw))
  replace HA := Lib.hid (HA.out.trans (hw))
  clear hw HFU HFV
  go_upto_region 4 with fail
  obtain ⟨y2, hY⟩ : ∃ Y, Y = W := ⟨_, rfl⟩
  rw [← hY] at HQ HBp9 HA ⊢
  clear hY
  have HCL : Hid (∀ W, Quads W AJ J → Calls Try.prog 10 #[.agg #[.int .i64 (n : Nat), .slice AJ kk cJ]] W fun e w' => ∃ g cap, e = .returned (.agg #[.int .i64 (n : Nat), .slice (some ⟨g, 0, none⟩) J.length cap]) ∧ QO w' W.heap.size g cap J ∧ Aft W w') := Lib.hid fun W h => by
    have := clone_any (n : Nat) AJ J cJ W h (by rw [HK.out]; exact K1)
    rw [HK.out] at this ⊢
    exact this
  refine wp_region_valsU (by kernel_rfl) 15 287 rfl (by kernel_rfl) (by kernel_rfl) [some (.agg #[.int .i64 (n : Nat), .slice AJ kk cJ]), none, some (.agg #[.int .i64 (n : Nat), .slice AJ kk cJ]), none, some (.agg #[.int .i64 (n : Nat), .slice AJ kk cJ]), none, some (.agg #[.int .i64 (n : Nat), .slice AJ kk cJ]), none, none, none, none, none, some undef, some undef, some undef] (by kernel_rfl) rfl (Cl4 y2 (n : Nat) J) (Cl4.start) ?st2 ?fi2
  case st2 =>
    intro i o v ho hv
    match i, ho, hv with
    | 0, ho, hv =>
      cases ho; cases hv
      refine .inl ⟨rfl, fun done a W hz hd hp hk hw K hK => ?_⟩
      have e9 := hk.same 9 (by decide)
      exact op_val (v := .agg #[.int .i64 (n : Nat), .slice AJ kk cJ]) (by simp [go_sem, ev' e9, (HBp9.out.aft hw.aft).cell 0, (HBp9.out.aft hw.aft).cell 1]) (hK _ _ (fun u hu => by cases hu; rfl) (hw.keep (by decide) (by decide)))
    | 1, ho, hv =>
      cases ho; cases hv
      refine .inl ⟨rfl, fun done a W hz hd hp hk hw K hK => ?_⟩
      have e54 := hk.at_ 0 _ 54 _ rfl (by decide) _ rfl rfl rfl
      refine op_callN rfl rfl rfl _ rfl (vs := #[.agg #[.int .i64 (n : Nat), .slice AJ kk cJ]]) (by simp [e54]) (HCL.out W (HQ.out.aft hw.aft)) fun e w' h => ?_
      obtain ⟨g, cap, rfl, hq, ha⟩ := h
      exact ⟨_, rfl, hK _ _ (fun u hu => by cases hu) (hw.call' (k := 0) ha (by decide) hd hq (by rw [hz]; decide))⟩
    | 2, ho, hv =>
      cases ho; cases hv
      refine .inl ⟨rfl, fun done a W hz hd hp hk hw K hK => ?_⟩
      have e9 := hk.same 9 (by decide)
      exact op_val (v := .agg #[.int .i64 (n : Nat), .slice AJ kk cJ]) (by simp [go_sem, ev' e9, (HBp9.out.aft hw.aft).cell 0, (HBp9.out.aft hw.aft).cell 1]) (hK _ _ (fun u hu => by cases hu; rfl) (hw.keep (by decide) (by decide)))
    | 3, ho, hv =>
      cases ho; cases hv
      refine .inl ⟨rfl, fun done a W hz hd hp hk hw K hK => ?_⟩
      have e56 := hk.at_ 2 _ 56 _ rfl (by decide) _ rfl rfl rfl
      refine op_callN rfl rfl rfl _ rfl (vs := #[.agg #[.int .i64 (n : Nat), .slice AJ kk cJ]]) (by simp [e56]) (HCL.out W (HQ.out.aft hw.aft)) fun e w' h => ?_
      obtain ⟨g, cap, rfl, hq, ha⟩ := h
      exact ⟨_, rfl, hK _ _ (fun u hu => by cases hu) (hw.call' (k := 1) ha (by decide) hd hq (by rw [hz]; decide))⟩
    | 4, ho, hv =>
      cases ho; cases hv
      refine .inl ⟨rfl, fun done a W hz hd hp hk hw K hK => ?_⟩
      have e9 := hk.same 9 (by decide)
      exact op_val (v := .agg #[.int .i64 (n : Nat), .slice AJ kk cJ]) (by simp [go_sem, ev' e9, (HBp9.out.aft hw.aft).cell 0, (HBp9.out.aft hw.aft).cell 1]) (hK _ _ (fun u hu => by cases hu; rfl) (hw.keep (by decide) (by decide)))
    | 5, ho, hv =>
      cases ho; cases hv
      refine .inl ⟨rfl, fun done a W hz hd hp hk hw K hK => ?_⟩
      have e58 := hk.at_ 4 _ 58 _ rfl (by decide) _ rfl rfl rfl
      refine op_callN rfl rfl rfl _ rfl (vs := #[.agg #[.int .i64 (n : Nat), .slice AJ kk cJ]]) (by simp [e58]) (HCL.out W (HQ.out.aft hw.aft)) fun e w' h => ?_
      obtain ⟨g, cap, rfl, hq, ha⟩ := h
      exact ⟨_, rfl, hK _ _ (fun u hu => by cases hu) (hw.call' (k := 2) ha (by decide) hd hq (by rw [hz]; decide))⟩
    | 6, ho, hv =>
      cases ho; cases hv
      refine .inl ⟨rfl, fun done a W hz hd hp hk hw K hK => ?_⟩
      have e9 := hk.same 9 (by decide)
      exact op_val (v := .agg #[.int .i64 (n : Nat), .slice AJ kk cJ]) (by simp [go_sem, ev' e9, (HBp9.out.aft hw.aft).cell 0, (HBp9.out.aft hw.aft).cell 1]) (hK _ _ (fun u hu => by cases hu; rfl) (hw.keep (by decide) (by decide)))
    | 7, ho, hv =>
      cases ho; cases hv
      refine .inl ⟨rfl, fun done a W hz hd hp hk hw K hK => ?_⟩
      have e60 := hk.at_ 6 _ 60 _ rfl (by decide) _ rfl rfl rfl
      refine op_callN rfl rfl rfl _ rfl (vs := #[.agg #[.int .i64 (n : Nat), .slice AJ kk cJ]]) (by simp [e60]) (HCL.out W (HQ.out.aft hw.aft)) fun e w' h => ?_
      obtain ⟨g, cap, rfl, hq, ha⟩ := h
      exact ⟨_, rfl, hK _ _ (fun u hu => by cases hu) (hw.call' (k := 3) ha (by decide) hd hq (by rw [hz]; decide))⟩
    | 8, ho, hv =>
      cases ho; cases hv
      refine .inl ⟨rfl, fun done a W hz hd hp hk hw K hK => ?_⟩
      exact op_valW (w' := W.alloc (.cells zS 25)) (v := .pointer (some ⟨W.heap.size, 0, none⟩)) (by simp [go_sem, zS]) (hK _ _ (fun u hu => by cases hu) (hw.lay (k := 0) (by decide) hd (by rw [hz]; decide)))
    | 9, ho, hv =>
      cases ho; cases hv
      refine .inl ⟨rfl, fun done a W hz hd hp hk hw K hK => ?_⟩
      exact op_valW (w' := W.alloc (.cells zS 25)) (v := .pointer (some ⟨W.heap.size, 0, none⟩)) (by simp [go_sem, zS]) (hK _ _ (fun u hu => by cases hu) (hw.lay (k := 1) (by decide) hd (by rw [hz]; decide)))
    | 10, ho, hv =>
      cases ho; cases hv
      refine .inl ⟨rfl, fun done a W hz hd hp hk hw K hK => ?_⟩
      exact op_valW (w' := W.alloc (.cells zS 25)) (v := .pointer (some ⟨W.heap.size, 0, none⟩)) (by simp [go_sem, zS]) (hK _ _ (fun u hu => by cases hu) (hw.lay (k := 2) (by decide) hd (by rw [hz]; decide)))
    | 11, ho, hv =>
      cases ho; cases hv
      refine .inl ⟨rfl, fun done a W hz hd hp hk hw K hK => ?_⟩
      exact op_valW (w' := W.alloc (.cells zS 25)) (v := .pointer (some ⟨W.heap.size, 0, none⟩)) (by simp [go_sem, zS]) (hK _ _ (fun u hu => by cases hu) (hw.lay (k := 3) (by decide) hd (by rw [hz]; decide)))
    | 12, ho, hv =>
      cases ho; cases hv
      refine .inl ⟨rfl, fun done a W hz hd hp hk hw K hK => ?_⟩
      obtain ⟨b, cs, eb, hbs, hbk, hzs, -, -⟩ := hw.b 0 (by decide) (hp 8 (by decide))
      obtain ⟨g, cap, ex, -⟩ := hw.v 0 (by decide) (hp 1 (by decide))
      have h12 : done 12 = false := hd
      have hcs := hzs h12
      subst hcs
      have c0 := hbk.cell 0
      have c1 := hbk.cell 1
      have c2 := hbk.frozen 0
      have c3 := hbk.frozen 1
      have c4 := hbk.lt
      simp only [zS, List.getElem?_toArray, List.getElem?_cons_zero, List.getElem?_cons_succ] at c0 c1
      exact op_skipW (w' := (W.setCell ⟨b, 0, none⟩ (.int .i64 (n : Nat))).setCell ⟨b, 1, none⟩ (.slice (some ⟨g, 0, none⟩) J.length cap)) (by simp [go_sem, ev' eb, ev' ex, c0, c1, c2, c3, c4]) (hK _ _ (fun u hu => by cases hu; rfl) (hw.put (k := 0) (by decide) (hp 8 (by decide)) (hp 1 (by decide)) eb ex h12 (by decide)))
    | 13, ho, hv =>
      cases ho; cases hv
      refine .inl ⟨rfl, fun done a W hz hd hp hk hw K hK => ?_⟩
      obtain ⟨b, cs, eb, hbs, hbk, hzs, -, -⟩ := hw.b 1 (by decide) (hp 9 (by decide))
      obtain ⟨g, cap, ex, -⟩ := hw.v 1 (by decide) (hp 3 (by decide))
      have h12 : done 13 = false := hd
      have hcs := hzs h12
      subst hcs
      have c0 := hbk.cell 0
      have c1 := hbk.cell 1
      have c2 := hbk.frozen 0
      have c3 := hbk.frozen 1
      have c4 := hbk.lt
      simp only [zS, List.getElem?_toArray, List.getElem?_cons_zero, List.getElem?_cons_succ] at c0 c1
      exact op_skipW (w' := (W.setCell ⟨b, 0, none⟩ (.int .i64 (n : Nat))).setCell ⟨b, 1, none⟩ (.slice (some ⟨g, 0, none⟩) J.length cap)) (by simp [go_sem, ev' eb, ev' ex, c0, c1, c2, c3, c4]) (hK _ _ (fun u hu => by cases hu; rfl) (hw.put (k := 1) (by decide) (hp 9 (by decide)) (hp 3 (by decide)) eb ex h12 (by decide)))
    | 14, ho, hv =>
      cases ho; cases hv
      refine .inl ⟨rfl, fun done a W hz hd hp hk hw K hK => ?_⟩
      obtain ⟨b, cs, eb, hbs, hbk, hzs, -, -⟩ := hw.b 2 (by decide) (hp 10 (by decide))
      obtain ⟨g, cap, ex, -⟩ := hw.v 2 (by decide) (hp 5 (by decide))
      have h12 : done 14 = false := hd
      have hcs := hzs h12
      subst hcs
      have c0 := hbk.cell 0
      have c1 := hbk.cell 1
      have c2 := hbk.frozen 0
      have c3 := hbk.frozen 1
      have c4 := hbk.lt
      simp only [zS, List.getElem?_toArray, List.getElem?_cons_zero, List.getElem?_cons_succ] at c0 c1
      exact op_skipW (w' := (W.setCell ⟨b, 0, none⟩ (.int .i64 (n : Nat))).setCell ⟨b, 1, none⟩ (.slice (some ⟨g, 0, none⟩) J.length cap)) (by simp [go_sem, ev' eb, ev' ex, c0, c1, c2, c3, c4]) (hK _ _ (fun u hu => by cases hu; rfl) (hw.put (k := 2) (by decide) (hp 10 (by decide)) (hp 5 (by decide)) eb ex h12 (by decide)))
    | _ + 15, _, hv => cases hv
  intro done us W hus hd hw
  obtain ⟨o1, o2, o3, o4, o5, o6, o7, o8, rfl⟩ := list8 hus
  obtain ⟨g0, cap0, ev0, hq0, hg0⟩ := hw.v 0 (by decide) (hd 1 (by decide))
  obtain ⟨b0, cs0, eb0, hbg0, hbk0, hbz0, hbs0, hbn0⟩ := hw.b 0 (by decide) (hd 8 (by decide))
  obtain ⟨g1, cap1, ev1, hq1, hg1⟩ := hw.v 1 (by decide) (hd 3 (by decide))
  obtain ⟨b1, cs1, eb1, hbg1, hbk1, hbz1, hbs1, hbn1⟩ := hw.b 1 (by decide) (hd 9 (by decide))
  obtain ⟨g2, cap2, ev2, hq2, hg2⟩ := hw.v 2 (by decide) (hd 5 (by decide))
  obtain ⟨b2, cs2, eb2, hbg2, hbk2, hbz2, hbs2, hbn2⟩ := hw.b 2 (by decide) (hd 10 (by decide))
  obtain ⟨g3, cap3, ev3, hq3, hg3⟩ := hw.v 3 (by decide) (hd 7 (by decide))
  obtain ⟨b3, cs3, eb3, hbg3, hbk3, hbz3, hbs3, hbn3⟩ := hw.b 3 (by decide) (hd 11 (by decide))
  have n01 : g1 ≠ g0 := hg0 1 (by decide) (by decide) (hd 3 (by decide)) _ _ ev1
  have n02 : g2 ≠ g0 := hg0 2 (by decide) (by decide) (hd 5 (by decide)) _ _ ev2
  have n03 : g3 ≠ g0 := hg0 3 (by decide) (by decide) (hd 7 (by decide)) _ _ ev3
  have n12 : g2 ≠ g1 := hg1 2 (by decide) (by decide) (hd 5 (by decide)) _ _ ev2
  have n13 : g3 ≠ g1 := hg1 3 (by decide) (by decide) (hd 7 (by decide)) _ _ ev3
  have n23 : g3 ≠ g2 := hg2 3 (by decide) (by decide) (hd 7 (by decide)) _ _ ev3
  have m01 : b1 ≠ b0 := fun e => hbn0 1 (by decide) (by decide) (hd 9 (by decide)) (by rw [← e]; exact eb1)
  have m02 : b2 ≠ b0 := fun e => hbn0 2 (by decide) (by decide) (hd 10 (by decide)) (by rw [← e]; exact eb2)
  have m03 : b3 ≠ b0 := fun e => hbn0 3 (by decide) (by decide) (hd 11 (by decide)) (by rw [← e]; exact eb3)
  have m12 : b2 ≠ b1 := fun e => hbn1 2 (by decide) (by decide) (hd 10 (by decide)) (by rw [← e]; exact eb2)
  have m13 : b3 ≠ b1 := fun e => hbn1 3 (by decide) (by decide) (hd 11 (by decide)) (by rw [← e]; exact eb3)
  have m23 : b3 ≠ b2 := fun e => hbn2 3 (by decide) (by decide) (hd 11 (by decide)) (by rw [← e]; exact eb3)
  have hc0 := (hbs0 (hd 12 (by decide))).2 _ ev0
  have hc1 := (hbs1 (hd 13 (by decide))).2 _ ev1
  have hc2 := (hbs2 (hd 14 (by decide))).2 _ ev2
  have hc3 := hbz3 hw.no
  subst hc0 hc1 hc2 hc3
  have hwa := hw.aft
  have hv0 : o1 = .agg #[.int .i64 (n : Nat), .slice (some ⟨g0, 0, none⟩) J.length cap0] := by simpa [fill, putAll, Act.put, Act.eval] using ev0
  have hv1 : o2 = .agg #[.int .i64 (n : Nat), .slice (some ⟨g1, 0, none⟩) J.length cap1] := by simpa [fill, putAll, Act.put, Act.eval] using ev1
  have hv2 : o3 = .agg #[.int .i64 (n : Nat), .slice (some ⟨g2, 0, none⟩) J.length cap2] := by simpa [fill, putAll, Act.put, Act.eval] using ev2
  have hv3 : o4 = .agg #[.int .i64 (n : Nat), .slice (some ⟨g3, 0, none⟩) J.length cap3] := by simpa [fill, putAll, Act.put, Act.eval] using ev3
  have hb0 : o5 = .pointer (some ⟨b0, 0, none⟩) := by simpa [fill, putAll, Act.put, Act.eval] using eb0
  have hb1 : o6 = .pointer (some ⟨b1, 0, none⟩) := by simpa [fill, putAll, Act.put, Act.eval] using eb1
  have hb2 : o7 = .pointer (some ⟨b2, 0, none⟩) := by simpa [fill, putAll, Act.put, Act.eval] using eb2
  have hb3 : o8 = .pointer (some ⟨b3, 0, none⟩) := by simpa [fill, putAll, Act.put, Act.eval] using eb3
  clear hw hd hus ev0 eb0 hg0 hbn0 hbz0 hbs0 ev1 eb1 hg1 hbn1 hbz1 hbs1 ev2 eb2 hg2 hbn2 hbz2 hbs2 ev3 eb3 hg3 hbn3 hbz3 hbs3
  subst hv0 hv1 hv2 hv3 hb0 hb1 hb2 hb3
  simp only [fill, List.drop_succ_cons, List.drop_zero, List.zip_cons_cons, List.zip_nil_right, putAll]
  simp only [Act.put, List.setIfInBounds_toArray, List.set]
  have c0 := hbk3.cell 0
  have c1 := hbk3.cell 1
  have c2 := hbk3.frozen 0
  have c3 := hbk3.frozen 1
  have c4 := hbk3.lt
  simp only [zS, List.getElem?_toArray, List.getElem?_cons_zero, List.getElem?_cons_succ] at c0 c1
  obtain ⟨X4, hX⟩ : ∃ X, X = (W.setCell ⟨b3, 0, none⟩ (.int .i64 (n : Nat))).setCell ⟨b3, 1, none⟩ (.slice (some ⟨g3, 0, none⟩) J.length cap3) := ⟨_, rfl⟩
  have hs3 := (hbk3.store 0 (.int .i64 (n : Nat))).store 1 (.slice (some ⟨g3, 0, none⟩) J.length cap3)
  have hs30 := hbk3.store 0 (.int .i64 (n : Nat))
  rw [← hX] at hs3
  have S3 : Hid (SBox X4 y2.heap.size b3 g3 cap3 (n : Nat) J) := Lib.hid ⟨hbg3, hs3, hX ▸ (hq3.box hbk3 0 _).box hs30 1 _⟩
  have S0 : Hid (SBox X4 y2.heap.size b0 g0 cap0 (n : Nat) J) := Lib.hid ⟨hbg0, hX ▸ (hbk0.far (p := ⟨b3, 0, none⟩) m03.symm _).far (p := ⟨b3, 1, none⟩) m03.symm _, hX ▸ (hq0.box hbk3 0 _).box hs30 1 _⟩
  have S1 : Hid (SBox X4 y2.heap.size b1 g1 cap1 (n : Nat) J) := Lib.hid ⟨hbg1, hX ▸ (hbk1.far (p := ⟨b3, 0, none⟩) m13.symm _).far (p := ⟨b3, 1, none⟩) m13.symm _, hX ▸ (hq1.box hbk3 0 _).box hs30 1 _⟩
  have S2 : Hid (SBox X4 y2.heap.size b2 g2 cap2 (n : Nat) J) := Lib.hid ⟨hbg2, hX ▸ (hbk2.far (p := ⟨b3, 0, none⟩) m23.symm _).far (p := ⟨b3, 1, none⟩) m23.symm _, hX ▸ (hq2.box hbk3 0 _).box hs30 1 _⟩
  have HY : Hid (Aft y2 X4) := Lib.hid (hX ▸ (hwa.then_setCell (p := ⟨b3, 0, none⟩) hbg3 _).then_setCell (p := ⟨b3, 1, none⟩) hbg3 _)
  have HN : Hid ((g1 ≠ g0 ∧ g2 ≠ g0 ∧ g3 ≠ g0 ∧ g2 ≠ g1 ∧ g3 ≠ g1 ∧ g3 ≠ g2) ∧ (b1 ≠ b0 ∧ b2 ≠ b0 ∧ b3 ≠ b0 ∧ b2 ≠ b1 ∧ b3 ≠ b1 ∧ b3 ≠ b2)) := Lib.hid ⟨⟨n01, n02, n03, n12, n13, n23⟩, m01, m02, m03, m12, m13, m23⟩
  have HXX := Lib.hid hX
  clear hX hs3 hs30 hwa n01 n02 n03 n12 n13 n23 m01 m02 m03 m12 m13 m23 hbk0 hbk1 hbk2 hbk3 hq0 hq1 hq2 hq3 hbg0 hbg1 hbg2 hbg3 HCL
  go_upto_region 5 with fail
  rw [← HXX.out]
  clear HXX c0 c1 c2 c3 c4
  have c0 := S0.out.blk.cell 0
  have c1 := S0.out.blk.cell 1
  have c2 := S0.out.blk.frozen 1
  have c3 := S0.out.blk.lt
  simp only [List.getElem?_toArray, List.getElem?_cons_zero, List.getElem?_cons_succ] at c0 c1
  obtain ⟨cs0, hcs0, hqb0⟩ := S0.out.qo.qb
  have hi0 : i < J.length := by rw [HK.out]; exact hiK
  have hdel := delete_blk X4 g0 cap0 35 cs0 J i hqb0 hi0 (by rw [HK.out]; omega) S0.out.qo.le
  have HDEL := Lib.hid hdel
  have HCS := Lib.hid hcs0
  have HI0 := Lib.hid hi0
  clear hdel hcs0 hqb0 hi0
  have wi : IntKind.i64.wrap ((i : Int) + 1) = (i : Int) + 1 := IntWalk.i64_in _ (by omega)
  (repeat (first | go_big_skip | go_big_want | go_big_move | go_big_op | go_step | go_upon | go_back))
  go_at_call 11
  refine HDEL.out.mono ?_
  rintro e w5 ⟨rfl, hg5, cs5, hs5, hq5⟩
  dsimp only
  clear c0 c1 c2 c3 wi HDEL
  have N1 : b0 ≠ g0 := (S0.out.other S0.out).symm
  have N2 : b1 ≠ g0 := (S0.out.other S1.out).symm
  have N3 : b2 ≠ g0 := (S0.out.other S2.out).symm
  have N4 : b3 ≠ g0 := (S0.out.other S3.out).symm
  have B5 := Lib.hid (S0.out.blk.grown hg5 (fun e => N1 (Option.some.inj e)))
  have c1 := B5.out.cell 1
  have c2 := B5.out.frozen 1
  have c3 := B5.out.lt
  simp only [List.getElem?_toArray, List.getElem?_cons_zero, List.getElem?_cons_succ] at c1
  obtain ⟨X5, hX⟩ : ∃ X, X = w5.setCell ⟨b0, 1, none⟩ (.slice (some ⟨g0, 0, none⟩) (J.length - 1) cap0) := ⟨_, rfl⟩
  have T0 : Hid (SBox X5 y2.heap.size b0 g0 cap0 (n : Nat) (J.eraseIdx i)) := Lib.hid (hX ▸ S0.out.cut HI0.out hg5 (hs5.trans HCS.out) hq5 N1)
  have T1 : Hid (SBox X5 y2.heap.size b1 g1 cap1 (n : Nat) J) := Lib.hid (hX ▸ (S1.out.grown hg5 N2 HN.out.1.1).far1 B5.out HN.out.2.1 _)
  have T2 : Hid (SBox X5 y2.heap.size b2 g2 cap2 (n : Nat) J) := Lib.hid (hX ▸ (S2.out.grown hg5 N3 HN.out.1.2.1).far1 B5.out HN.out.2.2.1 _)
  have T3 : Hid (SBox X5 y2.heap.size b3 g3 cap3 (n : Nat) J) := Lib.hid (hX ▸ (S3.out.grown hg5 N4 HN.out.1.2.2.1).far1 B5.out HN.out.2.2.2.1 _)
  have HY5 : Hid (Aft y2 X5) := Lib.hid (hX ▸ (HY.out.grown hg5 (fun k e => by cases e; exact S0.out.qo.ge)).then_setCell (p := ⟨b0, 1, none⟩) S0.out.ge _)
  have HXX := Lib.hid hX
  clear hX hg5 hs5 hq5 N1 N2 N3 N4 HCS HY S0 S1 S2 S3 B5
  go_upto_region 6 with fail
  rw [← HXX.out]
  clear HXX c1 c2 c3
  obtain ⟨⟨ja, jb, jx, jy⟩, ej⟩ : ∃ j, J[i]'HI0.out = j := ⟨_, rfl⟩
  obtain ⟨bJ, oJ, rfl, hbJ, hcJ⟩ := (HQ.out.aft HY5.out).at (k := i) HI0.out
  have hj := hcJ i HI0.out
  rw [ej] at hj
  obtain ⟨d0, d1, d2, d3⟩ := hj
  dsimp only at d0 d1 d2 d3
  have HEJ := Lib.hid ej
  have HB9 := Lib.hid (HBp9.out.aft HY5.out)
  have c1 := HB9.out.cell 1
  have c2 := HB9.out.lt
  simp only [List.getElem?_toArray, List.getElem?_cons_zero, List.getElem?_cons_succ] at c1
  clear hcJ ej
  go_upto_region 7 with fail
  obtain ⟨p18, hs_p18⟩ : ∃ p18, X5.heap.size = p18 := ⟨_, rfl⟩
  have HBp18 : Hid (Blk (X5.alloc (.cells #[.int .i64 ja, .int .i64 jb, .int .i64 jx, .int .i64 jy] 35)) (p18) 35 #[.int .i64 ja, .int .i64 jb, .int .i64 jx, .int .i64 jy]) := Lib.hid (by
    have q := Blk.new X5 35 #[.int .i64 ja, .int .i64 jb, .int .i64 jx, .int .i64 jy]
    try simp only [World.size_alloc] at q
    rw [hs_p18] at q
    exact q)
  replace T0 := Lib.hid (T0.out.aft (Aft.alloc X5 (.cells #[.int .i64 ja, .int .i64 jb, .int .i64 jx, .int .i64 jy] 35)))
  replace T1 := Lib.hid (T1.out.aft (Aft.alloc X5 (.cells #[.int .i64 ja, .int .i64 jb, .int .i64 jx, .int .i64 jy] 35)))
  replace T2 := Lib.hid (T2.out.aft (Aft.alloc X5 (.cells #[.int .i64 ja, .int .i64 jb, .int .i64 jx, .int .i64 jy] 35)))
  replace T3 := Lib.hid (T3.out.aft (Aft.alloc X5 (.cells #[.int .i64 ja, .int .i64 jb, .int .i64 jx, .int .i64 jy] 35)))
  replace HY5 := Lib.hid (HY5.out.trans (Aft.alloc X5 (.cells #[.int .i64 ja, .int .i64 jb, .int .i64 jx, .int .i64 jy] 35)))
  rw [hs_p18]
  generalize X5.alloc (.cells #[.int .i64 ja, .int .i64 jb, .int .i64 jx, .int .i64 jy] 35) = y3 at *
  clear hs_p18
  clear c1 c2 d0 d1 d2 d3 hbJ HB9
  have hjb := HJB.out _ (List.getElem_mem HI0.out)
  rw [HEJ.out] at hjb
  obtain ⟨njx, ejx⟩ : ∃ z, -jx = z := ⟨_, rfl⟩
  obtain ⟨njy, ejy⟩ : ∃ z, -jy = z := ⟨_, rfl⟩
  have hx1 := hjb.x
  have hy1 := hjb.y
  dsimp only at hx1 hy1
  have wx : IntKind.i64.wrap (-jx) = njx := by rw [ejx]; exact IntWalk.i64_in _ (by omega)
  have wy : IntKind.i64.wrap (-jy) = njy := by rw [ejy]; exact IntWalk.i64_in _ (by omega)
  have HNJ := Lib.hid (And.intro ejx ejy)
  clear hjb hx1 hy1 ejx ejy
  have c0 := HBp18.out.cell 0
  have c1 := HBp18.out.cell 1
  have c2 := HBp18.out.cell 2
  have c3 := HBp18.out.cell 3
  have c4 := HBp18.out.lt
  have d1 := T1.out.blk.cell 1
  have d2 := T1.out.blk.lt
  simp only [List.getElem?_toArray, List.getElem?_cons_zero, List.getElem?_cons_succ] at c0 c1 c2 c3 d1
  (repeat ((fail_if_success at_builtin); first | go_big_skip | go_big_want | go_big_move | go_big_op | go_step | go_upon | go_back))
  clear c0 c1 c2 c3 c4 d1 d2 wx wy
  obtain ⟨s7, hs7⟩ : ∃ s7, y3.heap.size = s7 := ⟨_, rfl⟩
  have hg7 := Blk.new y3 35 #[.int .i64 jb, .int .i64 ja, .int .i64 njx, .int .i64 njy]
  have HP7 : Hid (Aft y3 (y3.alloc (.cells #[.int .i64 jb, .int .i64 ja, .int .i64 njx, .int .i64 njy] 35))) := Lib.hid (Aft.alloc _ _)
  rw [hs7] at hg7 ⊢
  generalize y3.alloc (.cells #[.int .i64 jb, .int .i64 ja, .int .i64 njx, .int .i64 njy] 35) = P7 at *
  have hto : turnJ (J[i]'HI0.out) = ⟨jb, ja, njx, njy⟩ := by
    rw [HEJ.out]
    unfold turnJ
    rw [← HNJ.out.1, ← HNJ.out.2]
  obtain ⟨v7, w7, hr7, ho7, hw7, hob⟩ := app_rec (enc := enc4) ty23 (qo_own (T1.out.qo.aft HP7.out)) (HY5.out.trans HP7.out).size (⟨jb, ja, njx, njy⟩ : Q4) (c := 1) rfl (src_blk hg7) (fun u hu => by simp [enc4] at hu; rcases hu with rfl | rfl | rfl | rfl <;> rfl) (by rw [HK.out]; omega) (by decide) (by decide)
  rw [← hto] at ho7
  obtain ⟨g7, cap7, rfl, hq7⟩ := own_qo ho7 (by simp)
  refine wpList_val rfl (exec_append rfl rfl rfl hr7) ?_
  have hw7 : P7.grownBy w7 (some g1) := hw7
  have N0 : b0 ≠ g1 := (T1.out.other T0.out).symm
  have N1 : b1 ≠ g1 := (T1.out.other T1.out).symm
  have N2 : b2 ≠ g1 := (T1.out.other T2.out).symm
  have N3 : b3 ≠ g1 := (T1.out.other T3.out).symm
  have U0 := T0.out.aft HP7.out
  have U1 := T1.out.aft HP7.out
  have U2 := T2.out.aft HP7.out
  have U3 := T3.out.aft HP7.out
  have hn7 : g2 ≠ g7 ∧ g3 ≠ g7 := by
    have k2 := U2.qo.lt
    have k3 := U3.qo.lt
    rcases hob with e | e
    · have e : g7 = g1 := Option.some.inj e
      rw [e]
      exact ⟨HN.out.1.2.2.2.1, HN.out.1.2.2.2.2.1⟩
    · have e : g7 = P7.heap.size := Option.some.inj e
      omega
  have HN7 := Lib.hid hn7
  have hst7 := U1.blk.grown hw7 (fun e => N1 (Option.some.inj e))
  have c1 := hst7.cell 1
  have c2 := hst7.frozen 1
  have c3 := hst7.lt
  simp only [List.getElem?_toArray, List.getElem?_cons_zero, List.getElem?_cons_succ] at c1
  obtain ⟨X7, hX⟩ : ∃ X, X = w7.setCell ⟨b1, 1, none⟩ (.slice (some ⟨g7, 0, none⟩) (J ++ [turnJ (J[i]'HI0.out)]).length cap7) := ⟨_, rfl⟩
  have V0 : Hid (SBox X7 y2.heap.size b0 g0 cap0 (n : Nat) (J.eraseIdx i)) := Lib.hid (hX ▸ (U0.grown hw7 N0 HN.out.1.1.symm).far1 hst7 HN.out.2.1.symm _)
  have V1 : Hid (SBox X7 y2.heap.size b1 g7 cap7 (n : Nat) (J ++ [turnJ (J[i]'HI0.out)])) := Lib.hid ⟨U1.ge, hX ▸ hst7.store 1 _, hX ▸ hq7.box hst7 1 _⟩
  have V2 : Hid (SBox X7 y2.heap.size b2 g2 cap2 (n : Nat) J) := Lib.hid (hX ▸ (U2.grown hw7 N2 HN.out.1.2.2.2.1).far1 hst7 HN.out.2.2.2.2.1 _)
  have V3 : Hid (SBox X7 y2.heap.size b3 g3 cap3 (n : Nat) J) := Lib.hid (hX ▸ (U3.grown hw7 N3 HN.out.1.2.2.2.2.1).far1 hst7 HN.out.2.2.2.2.2.1 _)
  have HY7 : Hid (Aft y2 X7) := Lib.hid (hX ▸ ((HY5.out.trans HP7.out).grown hw7 (fun k e => by cases e; exact U1.qo.ge)).then_setCell (p := ⟨b1, 1, none⟩) U1.ge _)
  have HXX := Lib.hid hX
  clear hX hw7 N0 N1 N2 N3 U0 U1 U2 U3 hn7 hst7 HP7 HY5 T0 T1 T2 T3 HBp18 hq7 hr7 ho7 hg7 hs7 hob hto HNJ
  go_upto_region 8 with fail
  have hXX := HXX.out
  simp only [List.length_append, List.length_cons, List.length_nil, Nat.zero_add] at hXX
  rw [← hXX]
  clear hXX HXX c1 c2 c3
  obtain ⟨Jf, ejf⟩ : ∃ l, J.eraseIdx i = l := ⟨_, rfl⟩
  obtain ⟨Jt, ejt⟩ : ∃ l, (J ++ [turnJ (J[i]'HI0.out)]) = l := ⟨_, rfl⟩
  rw [ejf] at V0
  rw [ejt] at V1
  have HJL := Lib.hid (And.intro ejf ejt)
  have hmi : MoreI y2 b0 g0 cap0 b1 g7 cap7 b2 g2 cap2 b3 g3 cap3 (n : Nat) Jf Jt J 0 0 X7 := ⟨HY7.out, V0.out, V1.out, by rw [mixJ_zero]; exact V2.out, by rw [mixJ_zero]; exact V3.out, HN.out.1.2.1.symm, HN.out.1.2.2.1.symm, HN7.out.1.symm, HN7.out.2.symm, HN.out.1.2.2.2.2.2.symm⟩
  have HMI := Lib.hid hmi
  clear hmi V0 V1 V2 V3 HY7 ejf ejt HN HN7
  have c1 := (HBp9.out.aft HMI.out.aft).cell 1
  have c2 := (HBp9.out.aft HMI.out.aft).lt
  simp only [List.getElem?_toArray, List.getElem?_cons_zero, List.getElem?_cons_succ] at c1
  go_upto_block 0 with fail
  clear c1 c2
  refine wp_block ?_
  go_loopw [93] (fun i wr => ∃ k : Nat, i = .int .i64 (k : Nat) ∧ k ≤ kk ∧ MoreI y2 b0 g0 cap0 b1 g7 cap7 b2 g2 cap2 b3 g3 cap3 (n : Nat) Jf Jt J k k wr) (fun i _ => kk - (intOf i).toNat)
  case atStart => exact ⟨0, rfl, by omega, HMI.out⟩
  case round =>
    obtain ⟨k, rfl, hk1, hI⟩ := hrel
    have HI := Lib.hid hI
    clear hI HMI
    by_cases hkl : k < kk
    · have t1 : decide (k < kk) = true := by simpa using hkl
      have hkJ : k < J.length := by rw [HK.out]; exact hkl
      obtain ⟨⟨qa, qb, qx, qy⟩, hj⟩ : ∃ j, J[k] = j := ⟨_, rfl⟩
      obtain ⟨bJ', oJ', eJ, hbJ, hcJ⟩ := (HQ.out.aft HI.out.aft).at (k := k) hkJ
      cases eJ
      obtain ⟨x0, x1, x2, x3⟩ := hcJ k hkJ
      rw [hj] at x0 x1 x2 x3
      dsimp only at x0 x1 x2 x3
      have hjb := HJB.out _ (List.getElem_mem hkJ)
      rw [hj] at hjb
      have hx1 := hjb.x
      have hy1 := hjb.y
      dsimp only at hx1 hy1
      obtain ⟨sx, esx⟩ : ∃ z, 7 * qx = z := ⟨_, rfl⟩
      obtain ⟨sy, esy⟩ : ∃ z, 7 * qy = z := ⟨_, rfl⟩
      obtain ⟨nx, enx⟩ : ∃ z, -qx = z := ⟨_, rfl⟩
      have HWX : Hid (IntKind.i64.wrap (7 * qx) = sx) := Lib.hid (by rw [esx]; exact IntWalk.i64_in _ (by omega))
      have HWY : Hid (IntKind.i64.wrap (7 * qy) = sy) := Lib.hid (by rw [esy]; exact IntWalk.i64_in _ (by omega))
      have HWN : Hid (IntKind.i64.wrap (-qx) = nx) := Lib.hid (by rw [enx]; exact IntWalk.i64_in _ (by omega))
      have HES := Lib.hid (And.intro esx (And.intro esy enx))
      have HJ := Lib.hid hj
      clear hcJ hjb hx1 hy1 esx esy enx hj
      obtain ⟨zj, hzj⟩ : ∃ zj, wr.heap.size = zj := ⟨_, rfl⟩
      obtain ⟨W5, hW5⟩ : ∃ W5, wr.alloc (.cells #[.int .i64 qa, .int .i64 qb, .int .i64 qx, .int .i64 qy] 35) = W5 := ⟨_, rfl⟩
      have ha5 := hW5 ▸ Aft.alloc wr (.cells #[.int .i64 qa, .int .i64 qb, .int .i64 qx, .int .i64 qy] 35)
      have HB5 : Hid (Blk W5 zj 35 #[.int .i64 qa, .int .i64 qb, .int .i64 qx, .int .i64 qy]) := Lib.hid (by rw [← hW5, ← hzj]; exact Blk.new wr 35 _)
      have HM5 := Lib.hid (HI.out.later ha5)
      have HZ : Hid (zj ≠ g2 ∧ zj ≠ g3) := Lib.hid (by
        have k2 := HI.out.sev.qo.lt
        have k3 := HI.out.rot.qo.lt
        omega)
      go_upto_region 11 with fail
      try rw [hW5]
      try rw [hzj]
      clear hW5 hzj x0 x1 x2 x3 ha5 hbJ HI t1
      have HC : Hid (∀ (c : Bool) W, W = (if c = true then W5.drew.setCell ⟨g2, k * 4 + 2, none⟩ (.int .i64 sx) else W5.drew) → W.cell? ⟨b2, 1, none⟩ = some (.slice (some ⟨g2, 0, none⟩) kk cap2) ∧ W.cell? ⟨zj, 2, none⟩ = some (.int .i64 qx) ∧ W.cell? ⟨zj, 3, none⟩ = some (.int .i64 qy)) := Lib.hid fun c W h => by
        have m := (HM5.out.later (Aft.drew _)).sev.mix HK.out hkl (.int .i64 sx)
        have j5 := HB5.out.aft (Aft.drew _)
        have hne := HZ.out.1
        cases c
        · subst h
          exact ⟨m.1.1, j5.cell 2, j5.cell 3⟩
        · subst h
          exact ⟨m.1.2, (j5.far (p := ⟨g2, k * 4 + 2, none⟩) hne _).cell 2, (j5.far (p := ⟨g2, k * 4 + 2, none⟩) hne _).cell 3⟩
      obtain ⟨-, ⟨u2, m2⟩, m3, ⟨u4, m4⟩, m5, m6, m7⟩ := (HM5.out.later (Aft.drew _)).sev.mix HK.out hkl (.int .i64 sx)
      refine wp_region_valsT (by kernel_rfl) 17 287 rfl (by kernel_rfl) (by kernel_rfl) (by kernel_rfl) [.pointer (some ⟨b2, 1, none⟩), .slice (some ⟨g2, 0, none⟩) kk cap2, .int .i64 (k : Nat), .pointer (some ⟨b2, 1, none⟩), .slice (some ⟨g2, 0, none⟩) kk cap2, .int .i64 (k : Nat), .pointer (some ⟨zj, 2, none⟩), .int .i64 qx, .int .i64 sx, .pointer (some ⟨zj, 3, none⟩), .int .i64 qy, .int .i64 sy, .pointer (some ⟨g2, k * 4, none⟩), .pointer (some ⟨g2, k * 4 + 2, none⟩), undef, .pointer (some ⟨g2, k * 4, none⟩), .pointer (some ⟨g2, k * 4 + 3, none⟩)] rfl (fun done W => W = if done 14 = true then W5.drew.setCell ⟨g2, k * 4 + 2, none⟩ (.int .i64 sx) else W5.drew) (by simp) ?st3 ?fi3
      case st3 =>
        intro i o v ho hv
        match i, ho, hv with
        | 0, ho, hv =>
          cases ho; cases hv
          refine .inl ⟨rfl, fun done a W hd hp hk hw K hK => ?_⟩
          have e16 := hk.same 16 (by decide)
          exact op_val (by simp [go_sem, ev' e16]) (hK _ (by rw [upd_ne' (by decide)]; exact hw))
        | 1, ho, hv =>
          cases ho; cases hv
          refine .inl ⟨rfl, fun done a W hd hp hk hw K hK => ?_⟩
          have e98 := hk.at_ 0 _ 98 _ rfl (by decide) _ rfl rfl rfl
          exact op_val (by simp [go_sem, ev' e98, (HC.out _ _ hw).1]) (hK _ (by rw [upd_ne' (by decide)]; exact hw))
        | 2, ho, hv =>
          cases ho; cases hv
          refine .inl ⟨rfl, fun done a W hd hp hk hw K hK => ?_⟩
          have e19 := hk.same 19 (by decide)
          exact op_val (by simp [go_sem, ev' e19]) (hK _ (by rw [upd_ne' (by decide)]; exact hw))
        | 3, ho, hv =>
          cases ho; cases hv
          refine .inl ⟨rfl, fun done a W hd hp hk hw K hK => ?_⟩
          have e16 := hk.same 16 (by decide)
          exact op_val (by simp [go_sem, ev' e16]) (hK _ (by rw [upd_ne' (by decide)]; exact hw))
        | 4, ho, hv =>
          cases ho; cases hv
          refine .inl ⟨rfl, fun done a W hd hp hk hw K hK => ?_⟩
          have e101 := hk.at_ 3 _ 101 _ rfl (by decide) _ rfl rfl rfl
          exact op_val (by simp [go_sem, ev' e101, (HC.out _ _ hw).1]) (hK _ (by rw [upd_ne' (by decide)]; exact hw))
        | 5, ho, hv =>
          cases ho; cases hv
          refine .inl ⟨rfl, fun done a W hd hp hk hw K hK => ?_⟩
          have e19 := hk.same 19 (by decide)
          exact op_val (by simp [go_sem, ev' e19]) (hK _ (by rw [upd_ne' (by decide)]; exact hw))
        | 6, ho, hv =>
          cases ho; cases hv
          refine .inl ⟨rfl, fun done a W hd hp hk hw K hK => ?_⟩
          have e20 := hk.same 20 (by decide)
          exact op_val (by simp [go_sem, ev' e20]) (hK _ (by rw [upd_ne' (by decide)]; exact hw))
        | 7, ho, hv =>
          cases ho; cases hv
          refine .inl ⟨rfl, fun done a W hd hp hk hw K hK => ?_⟩
          have e104 := hk.at_ 6 _ 104 _ rfl (by decide) _ rfl rfl rfl
          exact op_val (by simp [go_sem, ev' e104, (HC.out _ _ hw).2.1]) (hK _ (by rw [upd_ne' (by decide)]; exact hw))
        | 8, ho, hv =>
          cases ho; cases hv
          refine .inl ⟨rfl, fun done a W hd hp hk hw K hK => ?_⟩
          have e105 := hk.at_ 7 _ 105 _ rfl (by decide) _ rfl rfl rfl
          exact op_val (by simp [go_sem, ev' e105, HWX.out]) (hK _ (by rw [upd_ne' (by decide)]; exact hw))
        | 9, ho, hv =>
          cases ho; cases hv
          refine .inl ⟨rfl, fun done a W hd hp hk hw K hK => ?_⟩
          have e20 := hk.same 20 (by decide)
          exact op_val (by simp [go_sem, ev' e20]) (hK _ (by rw [upd_ne' (by decide)]; exact hw))
        | 10, ho, hv =>
          cases ho; cases hv
          refine .inl ⟨rfl, fun done a W hd hp hk hw K hK => ?_⟩
          have e107 := hk.at_ 9 _ 107 _ rfl (by decide) _ rfl rfl rfl
          exact op_val (by simp [go_sem, ev' e107, (HC.out _ _ hw).2.2]) (hK _ (by rw [upd_ne' (by decide)]; exact hw))
        | 11, ho, hv =>
          cases ho; cases hv
          refine .inl ⟨rfl, fun done a W hd hp hk hw K hK => ?_⟩
          have e108 := hk.at_ 10 _ 108 _ rfl (by decide) _ rfl rfl rfl
          exact op_val (by simp [go_sem, ev' e108, HWY.out]) (hK _ (by rw [upd_ne' (by decide)]; exact hw))
        | 12, ho, hv =>
          cases ho; cases hv
          refine .inl ⟨rfl, fun done a W hd hp hk hw K hK => ?_⟩
          have e99 := hk.at_ 1 _ 99 _ rfl (by decide) _ rfl rfl rfl
          have e100 := hk.at_ 2 _ 100 _ rfl (by decide) _ rfl rfl rfl
          exact op_val (by simp [go_sem, ev' e99, ev' e100, hkl]) (hK _ (by rw [upd_ne' (by decide)]; exact hw))
        | 13, ho, hv =>
          cases ho; cases hv
          refine .inl ⟨rfl, fun done a W hd hp hk hw K hK => ?_⟩
          have e110 := hk.at_ 12 _ 110 _ rfl (by decide) _ rfl rfl rfl
          exact op_val (by simp [go_sem, ev' e110]) (hK _ (by rw [upd_ne' (by decide)]; exact hw))
        | 14, ho, hv =>
          cases ho; cases hv
          refine .inl ⟨rfl, fun done a W hd hp hk hw K hK => ?_⟩
          have e106 := hk.at_ 8 _ 106 _ rfl (by decide) _ rfl rfl rfl
          have e111 := hk.at_ 13 _ 111 _ rfl (by decide) _ rfl rfl rfl
          have h2 := hw
          rw [hd] at h2
          simp only [Bool.false_eq_true, if_false] at h2
          subst h2
          exact op_skipW (w' := W5.drew.setCell ⟨g2, k * 4 + 2, none⟩ (.int .i64 sx)) (by simp [go_sem, ev' e111, ev' e106, m2, m3, m6]) (hK _ (by rw [upd_same', if_pos rfl]))
        | 15, ho, hv =>
          cases ho; cases hv
          refine .inl ⟨rfl, fun done a W hd hp hk hw K hK => ?_⟩
          have e102 := hk.at_ 4 _ 102 _ rfl (by decide) _ rfl rfl rfl
          have e103 := hk.at_ 5 _ 103 _ rfl (by decide) _ rfl rfl rfl
          exact op_val (by simp [go_sem, ev' e102, ev' e103, hkl]) (hK _ (by rw [upd_ne' (by decide)]; exact hw))
        | 16, ho, hv =>
          cases ho; cases hv
          refine .inl ⟨rfl, fun done a W hd hp hk hw K hK => ?_⟩
          have e112 := hk.at_ 15 _ 112 _ rfl (by decide) _ rfl rfl rfl
          exact op_val (by simp [go_sem, ev' e112]) (hK _ (by rw [upd_ne' (by decide)]; exact hw))
        | _ + 17, _, hv => cases hv
      intro done W hd hw
      simp only [List.drop_succ_cons, List.drop_zero, List.zip_cons_cons, List.zip_nil_right, putAll]
      simp only [Act.put, List.setIfInBounds_toArray, List.set]
      rw [if_pos (hd 14 (by decide))] at hw
      obtain ⟨P, hP⟩ : ∃ P, P = W5.drew.setCell ⟨g2, k * 4 + 2, none⟩ (.int .i64 sx) := ⟨_, rfl⟩
      rw [← hP] at hw m4 m5 m7
      subst hw
      clear hd HC m2 m3 m6
      obtain ⟨W6, hW6⟩ : ∃ X, X = W.setCell ⟨g2, k * 4 + 3, none⟩ (.int .i64 sy) := ⟨_, rfl⟩
      have HM6 := Lib.hid ((HM5.out.later (Aft.drew _)).sevs hkJ HJ.out HES.out.1 HES.out.2.1)
      have HB6 := Lib.hid (((HB5.out.aft (Aft.drew _)).far (p := ⟨g2, k * 4 + 2, none⟩) HZ.out.1 (.int .i64 sx)).far (p := ⟨g2, k * 4 + 3, none⟩) HZ.out.1 (.int .i64 sy))
      rw [← hP, ← hW6] at HM6 HB6
      clear hP
      go_upto_region 12 with fail
      rw [← hW6]
      clear hW6 m4 m5 m7 HB5 HM5 HWX HWY
      have HC : Hid (∀ (c : Bool) W, W = (if c = true then W6.drew.setCell ⟨g3, k * 4 + 2, none⟩ (.int .i64 qy) else W6.drew) → W.cell? ⟨b3, 1, none⟩ = some (.slice (some ⟨g3, 0, none⟩) kk cap3) ∧ W.cell? ⟨zj, 2, none⟩ = some (.int .i64 qx) ∧ W.cell? ⟨zj, 3, none⟩ = some (.int .i64 qy)) := Lib.hid fun c W h => by
        have m := (HM6.out.later (Aft.drew _)).rot.mix HK.out hkl (.int .i64 qy)
        have j5 := HB6.out.aft (Aft.drew _)
        have hne := HZ.out.2
        cases c
        · subst h
          exact ⟨m.1.1, j5.cell 2, j5.cell 3⟩
        · subst h
          exact ⟨m.1.2, (j5.far (p := ⟨g3, k * 4 + 2, none⟩) hne _).cell 2, (j5.far (p := ⟨g3, k * 4 + 2, none⟩) hne _).cell 3⟩
      obtain ⟨-, ⟨u2, m2⟩, m3, ⟨u4, m4⟩, m5, m6, m7⟩ := (HM6.out.later (Aft.drew _)).rot.mix HK.out hkl (.int .i64 qy)
      refine wp_region_valsT (by kernel_rfl) 16 287 rfl (by kernel_rfl) (by kernel_rfl) (by kernel_rfl) [.pointer (some ⟨b3, 1, none⟩), .slice (some ⟨g3, 0, none⟩) kk cap3, .int .i64 (k : Nat), .pointer (some ⟨b3, 1, none⟩), .slice (some ⟨g3, 0, none⟩) kk cap3, .int .i64 (k : Nat), .pointer (some ⟨zj, 3, none⟩), .int .i64 qy, .pointer (some ⟨zj, 2, none⟩), .int .i64 qx, .int .i64 nx, .pointer (some ⟨g3, k * 4, none⟩), .pointer (some ⟨g3, k * 4 + 2, none⟩), undef, .pointer (some ⟨g3, k * 4, none⟩), .pointer (some ⟨g3, k * 4 + 3, none⟩)] rfl (fun done W => W = if done 13 = true then W6.drew.setCell ⟨g3, k * 4 + 2, none⟩ (.int .i64 qy) else W6.drew) (by simp) ?st4 ?fi4
      case st4 =>
        intro i o v ho hv
        match i, ho, hv with
        | 0, ho, hv =>
          cases ho; cases hv
          refine .inl ⟨rfl, fun done a W hd hp hk hw K hK => ?_⟩
          have e17 := hk.same 17 (by decide)
          exact op_val (by simp [go_sem, ev' e17]) (hK _ (by rw [upd_ne' (by decide)]; exact hw))
        | 1, ho, hv =>
          cases ho; cases hv
          refine .inl ⟨rfl, fun done a W hd hp hk hw K hK => ?_⟩
          have e114 := hk.at_ 0 _ 114 _ rfl (by decide) _ rfl rfl rfl
          exact op_val (by simp [go_sem, ev' e114, (HC.out _ _ hw).1]) (hK _ (by rw [upd_ne' (by decide)]; exact hw))
        | 2, ho, hv =>
          cases ho; cases hv
          refine .inl ⟨rfl, fun done a W hd hp hk hw K hK => ?_⟩
          have e19 := hk.same 19 (by decide)
          exact op_val (by simp [go_sem, ev' e19]) (hK _ (by rw [upd_ne' (by decide)]; exact hw))
        | 3, ho, hv =>
          cases ho; cases hv
          refine .inl ⟨rfl, fun done a W hd hp hk hw K hK => ?_⟩
          have e17 := hk.same 17 (by decide)
          exact op_val (by simp [go_sem, ev' e17]) (hK _ (by rw [upd_ne' (by decide)]; exact hw))
        | 4, ho, hv =>
          cases ho; cases hv
          refine .inl ⟨rfl, fun done a W hd hp hk hw K hK => ?_⟩
          have e117 := hk.at_ 3 _ 117 _ rfl (by decide) _ rfl rfl rfl
          exact op_val (by simp [go_sem, ev' e117, (HC.out _ _ hw).1]) (hK _ (by rw [upd_ne' (by decide)]; exact hw))
        | 5, ho, hv =>
          cases ho; cases hv
          refine .inl ⟨rfl, fun done a W hd hp hk hw K hK => ?_⟩
          have e19 := hk.same 19 (by decide)
          exact op_val (by simp [go_sem, ev' e19]) (hK _ (by rw [upd_ne' (by decide)]; exact hw))
        | 6, ho, hv =>
          cases ho; cases hv
          refine .inl ⟨rfl, fun done a W hd hp hk hw K hK => ?_⟩
          have e20 := hk.same 20 (by decide)
          exact op_val (by simp [go_sem, ev' e20]) (hK _ (by rw [upd_ne' (by decide)]; exact hw))
        | 7, ho, hv =>
          cases ho; cases hv
          refine .inl ⟨rfl, fun done a W hd hp hk hw K hK => ?_⟩
          have e120 := hk.at_ 6 _ 120 _ rfl (by decide) _ rfl rfl rfl
          exact op_val (by simp [go_sem, ev' e120, (HC.out _ _ hw).2.2]) (hK _ (by rw [upd_ne' (by decide)]; exact hw))
        | 8, ho, hv =>
          cases ho; cases hv
          refine .inl ⟨rfl, fun done a W hd hp hk hw K hK => ?_⟩
          have e20 := hk.same 20 (by decide)
          exact op_val (by simp [go_sem, ev' e20]) (hK _ (by rw [upd_ne' (by decide)]; exact hw))
        | 9, ho, hv =>
          cases ho; cases hv
          refine .inl ⟨rfl, fun done a W hd hp hk hw K hK => ?_⟩
          have e122 := hk.at_ 8 _ 122 _ rfl (by decide) _ rfl rfl rfl
          exact op_val (by simp [go_sem, ev' e122, (HC.out _ _ hw).2.1]) (hK _ (by rw [upd_ne' (by decide)]; exact hw))
        | 10, ho, hv =>
          cases ho; cases hv
          refine .inl ⟨rfl, fun done a W hd hp hk hw K hK => ?_⟩
          have e123 := hk.at_ 9 _ 123 _ rfl (by decide) _ rfl rfl rfl
          exact op_val (by simp [go_sem, ev' e123, HWN.out]) (hK _ (by rw [upd_ne' (by decide)]; exact hw))
        | 11, ho, hv =>
          cases ho; cases hv
          refine .inl ⟨rfl, fun done a W hd hp hk hw K hK => ?_⟩
          have e115 := hk.at_ 1 _ 115 _ rfl (by decide) _ rfl rfl rfl
          have e116 := hk.at_ 2 _ 116 _ rfl (by decide) _ rfl rfl rfl
          exact op_val (by simp [go_sem, ev' e115, ev' e116, hkl]) (hK _ (by rw [upd_ne' (by decide)]; exact hw))
        | 12, ho, hv =>
          cases ho; cases hv
          refine .inl ⟨rfl, fun done a W hd hp hk hw K hK => ?_⟩
          have e125 := hk.at_ 11 _ 125 _ rfl (by decide) _ rfl rfl rfl
          exact op_val (by simp [go_sem, ev' e125]) (hK _ (by rw [upd_ne' (by decide)]; exact hw))
        | 13, ho, hv =>
          cases ho; cases hv
          refine .inl ⟨rfl, fun done a W hd hp hk hw K hK => ?_⟩
          have e121 := hk.at_ 7 _ 121 _ rfl (by decide) _ rfl rfl rfl
          have e126 := hk.at_ 12 _ 126 _ rfl (by decide) _ rfl rfl rfl
          have h2 := hw
          rw [hd] at h2
          simp only [Bool.false_eq_true, if_false] at h2
          subst h2
          exact op_skipW (w' := W6.drew.setCell ⟨g3, k * 4 + 2, none⟩ (.int .i64 qy)) (by simp [go_sem, ev' e126, ev' e121, m2, m3, m6]) (hK _ (by rw [upd_same', if_pos rfl]))
        | 14, ho, hv =>
          cases ho; cases hv
          refine .inl ⟨rfl, fun done a W hd hp hk hw K hK => ?_⟩
          have e118 := hk.at_ 4 _ 118 _ rfl (by decide) _ rfl rfl rfl
          have e119 := hk.at_ 5 _ 119 _ rfl (by decide) _ rfl rfl rfl
          exact op_val (by simp [go_sem, ev' e118, ev' e119, hkl]) (hK _ (by rw [upd_ne' (by decide)]; exact hw))
        | 15, ho, hv =>
          cases ho; cases hv
          refine .inl ⟨rfl, fun done a W hd hp hk hw K hK => ?_⟩
          have e127 := hk.at_ 14 _ 127 _ rfl (by decide) _ rfl rfl rfl
          exact op_val (by simp [go_sem, ev' e127]) (hK _ (by rw [upd_ne' (by decide)]; exact hw))
        | _ + 16, _, hv => cases hv
      intro done W hd hw
      simp only [List.drop_succ_cons, List.drop_zero, List.zip_cons_cons, List.zip_nil_right, putAll]
      simp only [Act.put, List.setIfInBounds_toArray, List.set]
      rw [if_pos (hd 13 (by decide))] at hw
      obtain ⟨P, hP⟩ : ∃ P, P = W6.drew.setCell ⟨g3, k * 4 + 2, none⟩ (.int .i64 qy) := ⟨_, rfl⟩
      rw [← hP] at hw m4 m5 m7
      subst hw
      clear hd HC m2 m3 m6
      obtain ⟨W7, hW7⟩ : ∃ X, X = W.setCell ⟨g3, k * 4 + 3, none⟩ (.int .i64 nx) := ⟨_, rfl⟩
      have HM7 := Lib.hid ((HM6.out.later (Aft.drew _)).rots hkJ HJ.out rfl HES.out.2.2)
      rw [← hP, ← hW7] at HM7
      clear hP
      go_wp2_with fail
      try rw [← hW7]
      clear hW7 m4 m5 m7 HB6 HM6 HWN
      refine ⟨⟨k + 1, by go_num, by omega, HM7.out⟩, by simp [intOf]; omega⟩
    · have t1 : decide (k < kk) = false := by simpa using hkl
      have hm := HI.out
      have ek : k = kk := by omega
      rw [ek] at hm
      clear HI ek
      have V0 := Lib.hid hm.few
      have V1 := Lib.hid hm.twice
      have v2 := hm.sev
      have v3 := hm.rot
      rw [← HK.out, mixJ_all] at v2 v3
      obtain ⟨Js, ejs⟩ : ∃ l, J.map sevJ = l := ⟨_, rfl⟩
      obtain ⟨Jr, ejr⟩ : ∃ l, J.map rotJ = l := ⟨_, rfl⟩
      rw [ejs] at v2
      rw [ejr] at v3
      have V2 := Lib.hid v2
      have V3 := Lib.hid v3
      have HJS := Lib.hid (And.intro ejs ejr)
      replace HA := Lib.hid (HA.out.trans hm.aft)
      replace HQ := Lib.hid (HQ.out.aft hm.aft)
      replace HBp9 := Lib.hid (HBp9.out.aft hm.aft)
      have hk17 : J.length ≤ 17 := by rw [HK.out]; exact K16
      have HLN : Hid (Jf.length ≤ 1000 ∧ Jt.length ≤ 1000 ∧ Js.length ≤ 1000 ∧ Jr.length ≤ 1000) := Lib.hid (by
        have h1 := List.length_eraseIdx_le J i
        rw [← HJL.out.1, ← HJL.out.2, ← HJS.out.1, ← HJS.out.2]
        simp only [List.length_append, List.length_cons, List.length_nil, List.length_map]
        omega)
      have HEF : Hid (setE ⟨(n : Nat), Jf⟩ = 0) := Lib.hid (by rw [← HJL.out.1]; exact few_setE n1 (by omega) hk17 HJB.out)
      have HET : Hid (setE ⟨(n : Nat), Jt⟩ = 0) := Lib.hid (by rw [← HJL.out.2]; exact twice_setE (List.getElem_mem HI0.out) n1 (by omega) hk17 HJB.out)
      have HES2 : Hid (setE ⟨(n : Nat), Js⟩ = 0) := Lib.hid (by rw [← HJS.out.1]; exact sev_setE n1 (by omega) hk17 HJB.out)
      have HER : Hid (setE ⟨(n : Nat), Jr⟩ = 0) := Lib.hid (by rw [← HJS.out.2]; exact rot_setE n1 (by omega) hk17 HJB.out)
      clear hm v2 v3 ejs ejr hk17 hk1 hkl HJB HEJ
      go_upto_region 14 with fail
      clear t1
      have c0 := HBp9.out.cell 0
      have c1 := HBp9.out.cell 1
      have c8 := HBp9.out.lt
      simp only [List.getElem?_toArray, List.getElem?_cons_zero, List.getElem?_cons_succ] at c0 c1
      have HPC : Hid (∀ W, Quads W (some ⟨bJ, oJ, none⟩) J → Calls Try.prog 12 #[.agg #[.int .i64 (n : Nat), .slice (some ⟨bJ, oJ, none⟩) kk cJ]] W fun e w' => ∃ p : Int × Int, e = .returned (.tuple #[.agg #[.int .i64 p.1, .int .i64 p.2], .int .i64 0]) ∧ PlayOf ⟨(n : Nat), J⟩ p ∧ Aft W w') := Lib.hid fun W h => by
        have h2 := play_good ⟨(n : Nat), J⟩ _ cJ W h HE.out
        dsimp only at h2
        rw [HK.out] at h2
        exact h2
      apply wp_region_lit
      (repeat (first | go_big_skip | go_big_want | go_big_move | go_big_op | go_step | go_upon | go_back))
      go_at_call 12
      refine (HPC.out _ HQ.out).mono ?_
      rintro e x9 ⟨⟨pN, pD⟩, rfl, hpl, ha⟩
      dsimp only
      clear HPC
      replace HQ := Lib.hid (HQ.out.aft (ha))
      replace HBp9 := Lib.hid (HBp9.out.aft (ha))
      replace V0 := Lib.hid (V0.out.aft (ha))
      replace V1 := Lib.hid (V1.out.aft (ha))
      replace V2 := Lib.hid (V2.out.aft (ha))
      replace V3 := Lib.hid (V3.out.aft (ha))
      replace HA := Lib.hid (HA.out.trans (ha))
      clear ha
      clear c0 c1 c8
      have HPp : Hid (PlayOf ⟨(n : Nat), J⟩ (pN, pD)) := Lib.hid hpl
      clear hpl
      go_upto_region 15 with fail
      obtain ⟨p21, hs_p21⟩ : ∃ p21, x9.heap.size = p21 := ⟨_, rfl⟩
      have HBp21 : Hid (Blk (x9.alloc (.cells #[.int .i64 pN, .int .i64 pD] 37)) (p21) 37 #[.int .i64 pN, .int .i64 pD]) := Lib.hid (by
        have q := Blk.new x9 37 #[.int .i64 pN, .int .i64 pD]
        try simp only [World.size_alloc] at q
        rw [hs_p21] at q
        exact q)
      replace HQ := Lib.hid (HQ.out.aft (Aft.alloc x9 (.cells #[.int .i64 pN, .int .i64 pD] 37)))
      replace HBp9 := Lib.hid (HBp9.out.aft (Aft.alloc x9 (.cells #[.int .i64 pN, .int .i64 pD] 37)))
      replace V0 := Lib.hid (V0.out.aft (Aft.alloc x9 (.cells #[.int .i64 pN, .int .i64 pD] 37)))
      replace V1 := Lib.hid (V1.out.aft (Aft.alloc x9 (.cells #[.int .i64 pN, .int .i64 pD] 37)))
      replace V2 := Lib.hid (V2.out.aft (Aft.alloc x9 (.cells #[.int .i64 pN, .int .i64 pD] 37)))
      replace V3 := Lib.hid (V3.out.aft (Aft.alloc x9 (.cells #[.int .i64 pN, .int .i64 pD] 37)))
      replace HA := Lib.hid (HA.out.trans (Aft.alloc x9 (.cells #[.int .i64 pN, .int .i64 pD] 37)))
      rw [hs_p21]
      generalize x9.alloc (.cells #[.int .i64 pN, .int .i64 pD] 37) = y10 at *
      clear hs_p21
      have c0 := V0.out.blk.cell 0
      have c1 := V0.out.blk.cell 1
      have c8 := V0.out.blk.lt
      simp only [List.getElem?_toArray, List.getElem?_cons_zero, List.getElem?_cons_succ] at c0 c1
      have HPC : Hid (∀ W, Quads W (some ⟨g0, 0, none⟩) Jf → Calls Try.prog 12 #[.agg #[.int .i64 (n : Nat), .slice (some ⟨g0, 0, none⟩) Jf.length cap0]] W fun e w' => ∃ p : Int × Int, e = .returned (.tuple #[.agg #[.int .i64 p.1, .int .i64 p.2], .int .i64 0]) ∧ PlayOf ⟨(n : Nat), Jf⟩ p ∧ Aft W w') := Lib.hid fun W h => by
        have h2 := play_good ⟨(n : Nat), Jf⟩ _ cap0 W h HEF.out
        exact h2
      apply wp_region_lit
      (repeat (first | go_big_skip | go_big_want | go_big_move | go_big_op | go_step | go_upon | go_back))
      go_at_call 12
      refine (HPC.out _ (V0.out.qo.quads HLN.out.1)).mono ?_
      rintro e x11 ⟨⟨qN, qD⟩, rfl, hpl, ha⟩
      dsimp only
      clear HPC
      replace HQ := Lib.hid (HQ.out.aft (ha))
      replace HBp9 := Lib.hid (HBp9.out.aft (ha))
      replace V0 := Lib.hid (V0.out.aft (ha))
      replace V1 := Lib.hid (V1.out.aft (ha))
      replace V2 := Lib.hid (V2.out.aft (ha))
      replace V3 := Lib.hid (V3.out.aft (ha))
      replace HBp21 := Lib.hid (HBp21.out.aft (ha))
      replace HA := Lib.hid (HA.out.trans (ha))
      clear ha
      clear c0 c1 c8
      have HPq : Hid (PlayOf ⟨(n : Nat), Jf⟩ (qN, qD)) := Lib.hid hpl
      clear hpl
      go_upto_region 16 with fail
      obtain ⟨p23, hs_p23⟩ : ∃ p23, x11.heap.size = p23 := ⟨_, rfl⟩
      have HBp23 : Hid (Blk (x11.alloc (.cells #[.int .i64 qN, .int .i64 qD] 37)) (p23) 37 #[.int .i64 qN, .int .i64 qD]) := Lib.hid (by
        have q := Blk.new x11 37 #[.int .i64 qN, .int .i64 qD]
        try simp only [World.size_alloc] at q
        rw [hs_p23] at q
        exact q)
      replace HQ := Lib.hid (HQ.out.aft (Aft.alloc x11 (.cells #[.int .i64 qN, .int .i64 qD] 37)))
      replace HBp9 := Lib.hid (HBp9.out.aft (Aft.alloc x11 (.cells #[.int .i64 qN, .int .i64 qD] 37)))
      replace V0 := Lib.hid (V0.out.aft (Aft.alloc x11 (.cells #[.int .i64 qN, .int .i64 qD] 37)))
      replace V1 := Lib.hid (V1.out.aft (Aft.alloc x11 (.cells #[.int .i64 qN, .int .i64 qD] 37)))
      replace V2 := Lib.hid (V2.out.aft (Aft.alloc x11 (.cells #[.int .i64 qN, .int .i64 qD] 37)))
      replace V3 := Lib.hid (V3.out.aft (Aft.alloc x11 (.cells #[.int .i64 qN, .int .i64 qD] 37)))
      replace HBp21 := Lib.hid (HBp21.out.aft (Aft.alloc x11 (.cells #[.int .i64 qN, .int .i64 qD] 37)))
      replace HA := Lib.hid (HA.out.trans (Aft.alloc x11 (.cells #[.int .i64 qN, .int .i64 qD] 37)))
      rw [hs_p23]
      generalize x11.alloc (.cells #[.int .i64 qN, .int .i64 qD] 37) = y12 at *
      clear hs_p23
      have c0 := V1.out.blk.cell 0
      have c1 := V1.out.blk.cell 1
      have c8 := V1.out.blk.lt
      simp only [List.getElem?_toArray, List.getElem?_cons_zero, List.getElem?_cons_succ] at c0 c1
      have HPC : Hid (∀ W, Quads W (some ⟨g7, 0, none⟩) Jt → Calls Try.prog 12 #[.agg #[.int .i64 (n : Nat), .slice (some ⟨g7, 0, none⟩) Jt.length cap7]] W fun e w' => ∃ p : Int × Int, e = .returned (.tuple #[.agg #[.int .i64 p.1, .int .i64 p.2], .int .i64 0]) ∧ PlayOf ⟨(n : Nat), Jt⟩ p ∧ Aft W w') := Lib.hid fun W h => by
        have h2 := play_good ⟨(n : Nat), Jt⟩ _ cap7 W h HET.out
        exact h2
      apply wp_region_lit
      (repeat (first | go_big_skip | go_big_want | go_big_move | go_big_op | go_step | go_upon | go_back))
      go_at_call 12
      refine (HPC.out _ (V1.out.qo.quads HLN.out.2.1)).mono ?_
      rintro e x13 ⟨⟨rN, rD⟩, rfl, hpl, ha⟩
      dsimp only
      clear HPC
      replace HQ := Lib.hid (HQ.out.aft (ha))
      replace HBp9 := Lib.hid (HBp9.out.aft (ha))
      replace V0 := Lib.hid (V0.out.aft (ha))
      replace V1 := Lib.hid (V1.out.aft (ha))
      replace V2 := Lib.hid (V2.out.aft (ha))
      replace V3 := Lib.hid (V3.out.aft (ha))
      replace HBp21 := Lib.hid (HBp21.out.aft (ha))
      replace HBp23 := Lib.hid (HBp23.out.aft (ha))
      replace HA := Lib.hid (HA.out.trans (ha))
      clear ha
      clear c0 c1 c8
      obtain ⟨es1, es2⟩ : pN = rN ∧ pD = rD := by
        rw [← HJL.out.2] at hpl
        have h := twice_same (S := ⟨(n : Nat), J⟩) (List.getElem_mem HI0.out) HPp.out hpl
        exact ⟨(congrArg Prod.fst h).symm, (congrArg Prod.snd h).symm⟩
      subst es1 es2
      clear hpl
      go_upto_region 17 with fail
      obtain ⟨p25, hs_p25⟩ : ∃ p25, x13.heap.size = p25 := ⟨_, rfl⟩
      have HBp25 : Hid (Blk (x13.alloc (.cells #[.int .i64 pN, .int .i64 pD] 37)) (p25) 37 #[.int .i64 pN, .int .i64 pD]) := Lib.hid (by
        have q := Blk.new x13 37 #[.int .i64 pN, .int .i64 pD]
        try simp only [World.size_alloc] at q
        rw [hs_p25] at q
        exact q)
      replace HQ := Lib.hid (HQ.out.aft (Aft.alloc x13 (.cells #[.int .i64 pN, .int .i64 pD] 37)))
      replace HBp9 := Lib.hid (HBp9.out.aft (Aft.alloc x13 (.cells #[.int .i64 pN, .int .i64 pD] 37)))
      replace V0 := Lib.hid (V0.out.aft (Aft.alloc x13 (.cells #[.int .i64 pN, .int .i64 pD] 37)))
      replace V1 := Lib.hid (V1.out.aft (Aft.alloc x13 (.cells #[.int .i64 pN, .int .i64 pD] 37)))
      replace V2 := Lib.hid (V2.out.aft (Aft.alloc x13 (.cells #[.int .i64 pN, .int .i64 pD] 37)))
      replace V3 := Lib.hid (V3.out.aft (Aft.alloc x13 (.cells #[.int .i64 pN, .int .i64 pD] 37)))
      replace HBp21 := Lib.hid (HBp21.out.aft (Aft.alloc x13 (.cells #[.int .i64 pN, .int .i64 pD] 37)))
      replace HBp23 := Lib.hid (HBp23.out.aft (Aft.alloc x13 (.cells #[.int .i64 pN, .int .i64 pD] 37)))
      replace HA := Lib.hid (HA.out.trans (Aft.alloc x13 (.cells #[.int .i64 pN, .int .i64 pD] 37)))
      rw [hs_p25]
      generalize x13.alloc (.cells #[.int .i64 pN, .int .i64 pD] 37) = y14 at *
      clear hs_p25
      have c0 := V2.out.blk.cell 0
      have c1 := V2.out.blk.cell 1
      have c8 := V2.out.blk.lt
      simp only [List.getElem?_toArray, List.getElem?_cons_zero, List.getElem?_cons_succ] at c0 c1
      have HPC : Hid (∀ W, Quads W (some ⟨g2, 0, none⟩) Js → Calls Try.prog 12 #[.agg #[.int .i64 (n : Nat), .slice (some ⟨g2, 0, none⟩) Js.length cap2]] W fun e w' => ∃ p : Int × Int, e = .returned (.tuple #[.agg #[.int .i64 p.1, .int .i64 p.2], .int .i64 0]) ∧ PlayOf ⟨(n : Nat), Js⟩ p ∧ Aft W w') := Lib.hid fun W h => by
        have h2 := play_good ⟨(n : Nat), Js⟩ _ cap2 W h HES2.out
        exact h2
      apply wp_region_lit
      (repeat (first | go_big_skip | go_big_want | go_big_move | go_big_op | go_step | go_upon | go_back))
      go_at_call 12
      refine (HPC.out _ (V2.out.qo.quads HLN.out.2.2.1)).mono ?_
      rintro e x15 ⟨⟨tN, tD⟩, rfl, hpl, ha⟩
      dsimp only
      clear HPC
      replace HQ := Lib.hid (HQ.out.aft (ha))
      replace HBp9 := Lib.hid (HBp9.out.aft (ha))
      replace V0 := Lib.hid (V0.out.aft (ha))
      replace V1 := Lib.hid (V1.out.aft (ha))
      replace V2 := Lib.hid (V2.out.aft (ha))
      replace V3 := Lib.hid (V3.out.aft (ha))
      replace HBp21 := Lib.hid (HBp21.out.aft (ha))
      replace HBp23 := Lib.hid (HBp23.out.aft (ha))
      replace HBp25 := Lib.hid (HBp25.out.aft (ha))
      replace HA := Lib.hid (HA.out.trans (ha))
      clear ha
      clear c0 c1 c8
      have HPt : Hid (tN * pD = 7 * pN * tD ∧ PlayOf ⟨(n : Nat), Js⟩ (tN, tD)) := Lib.hid ⟨by
        rw [← HJS.out.1] at hpl
        exact sev_same (S := ⟨(n : Nat), J⟩) HPp.out hpl, hpl⟩
      clear hpl
      go_upto_region 18 with fail
      obtain ⟨p27, hs_p27⟩ : ∃ p27, x15.heap.size = p27 := ⟨_, rfl⟩
      have HBp27 : Hid (Blk (x15.alloc (.cells #[.int .i64 tN, .int .i64 tD] 37)) (p27) 37 #[.int .i64 tN, .int .i64 tD]) := Lib.hid (by
        have q := Blk.new x15 37 #[.int .i64 tN, .int .i64 tD]
        try simp only [World.size_alloc] at q
        rw [hs_p27] at q
        exact q)
      replace HQ := Lib.hid (HQ.out.aft (Aft.alloc x15 (.cells #[.int .i64 tN, .int .i64 tD] 37)))
      replace HBp9 := Lib.hid (HBp9.out.aft (Aft.alloc x15 (.cells #[.int .i64 tN, .int .i64 tD] 37)))
      replace V0 := Lib.hid (V0.out.aft (Aft.alloc x15 (.cells #[.int .i64 tN, .int .i64 tD] 37)))
      replace V1 := Lib.hid (V1.out.aft (Aft.alloc x15 (.cells #[.int .i64 tN, .int .i64 tD] 37)))
      replace V2 := Lib.hid (V2.out.aft (Aft.alloc x15 (.cells #[.int .i64 tN, .int .i64 tD] 37)))
      replace V3 := Lib.hid (V3.out.aft (Aft.alloc x15 (.cells #[.int .i64 tN, .int .i64 tD] 37)))
      replace HBp21 := Lib.hid (HBp21.out.aft (Aft.alloc x15 (.cells #[.int .i64 tN, .int .i64 tD] 37)))
      replace HBp23 := Lib.hid (HBp23.out.aft (Aft.alloc x15 (.cells #[.int .i64 tN, .int .i64 tD] 37)))
      replace HBp25 := Lib.hid (HBp25.out.aft (Aft.alloc x15 (.cells #[.int .i64 tN, .int .i64 tD] 37)))
      replace HA := Lib.hid (HA.out.trans (Aft.alloc x15 (.cells #[.int .i64 tN, .int .i64 tD] 37)))
      rw [hs_p27]
      generalize x15.alloc (.cells #[.int .i64 tN, .int .i64 tD] 37) = y16 at *
      clear hs_p27
      have c0 := V3.out.blk.cell 0
      have c1 := V3.out.blk.cell 1
      have c8 := V3.out.blk.lt
      simp only [List.getElem?_toArray, List.getElem?_cons_zero, List.getElem?_cons_succ] at c0 c1
      have HPC : Hid (∀ W, Quads W (some ⟨g3, 0, none⟩) Jr → Calls Try.prog 12 #[.agg #[.int .i64 (n : Nat), .slice (some ⟨g3, 0, none⟩) Jr.length cap3]] W fun e w' => ∃ p : Int × Int, e = .returned (.tuple #[.agg #[.int .i64 p.1, .int .i64 p.2], .int .i64 0]) ∧ PlayOf ⟨(n : Nat), Jr⟩ p ∧ Aft W w') := Lib.hid fun W h => by
        have h2 := play_good ⟨(n : Nat), Jr⟩ _ cap3 W h HER.out
        exact h2
      apply wp_region_lit
      (repeat (first | go_big_skip | go_big_want | go_big_move | go_big_op | go_step | go_upon | go_back))
      go_at_call 12
      refine (HPC.out _ (V3.out.qo.quads HLN.out.2.2.2)).mono ?_
      rintro e x17 ⟨⟨oN, oD⟩, rfl, hpl, ha⟩
      dsimp only
      clear HPC
      replace HQ := Lib.hid (HQ.out.aft (ha))
      replace HBp9 := Lib.hid (HBp9.out.aft (ha))
      replace V0 := Lib.hid (V0.out.aft (ha))
      replace V1 := Lib.hid (V1.out.aft (ha))
      replace V2 := Lib.hid (V2.out.aft (ha))
      replace V3 := Lib.hid (V3.out.aft (ha))
      replace HBp21 := Lib.hid (HBp21.out.aft (ha))
      replace HBp23 := Lib.hid (HBp23.out.aft (ha))
      replace HBp25 := Lib.hid (HBp25.out.aft (ha))
      replace HBp27 := Lib.hid (HBp27.out.aft (ha))
      replace HA := Lib.hid (HA.out.trans (ha))
      clear ha
      clear c0 c1 c8
      obtain ⟨es1, es2⟩ : pN = oN ∧ pD = oD := by
        rw [← HJS.out.2] at hpl
        have h := rot_same (S := ⟨(n : Nat), J⟩) HPp.out hpl
        exact ⟨(congrArg Prod.fst h).symm, (congrArg Prod.snd h).symm⟩
      subst es1 es2
      clear hpl
      go_upto_region 19 with fail
      obtain ⟨p29, hs_p29⟩ : ∃ p29, x17.heap.size = p29 := ⟨_, rfl⟩
      have HBp29 : Hid (Blk (x17.alloc (.cells #[.int .i64 pN, .int .i64 pD] 37)) (p29) 37 #[.int .i64 pN, .int .i64 pD]) := Lib.hid (by
        have q := Blk.new x17 37 #[.int .i64 pN, .int .i64 pD]
        try simp only [World.size_alloc] at q
        rw [hs_p29] at q
        exact q)
      replace HQ := Lib.hid (HQ.out.aft (Aft.alloc x17 (.cells #[.int .i64 pN, .int .i64 pD] 37)))
      replace HBp9 := Lib.hid (HBp9.out.aft (Aft.alloc x17 (.cells #[.int .i64 pN, .int .i64 pD] 37)))
      replace V0 := Lib.hid (V0.out.aft (Aft.alloc x17 (.cells #[.int .i64 pN, .int .i64 pD] 37)))
      replace V1 := Lib.hid (V1.out.aft (Aft.alloc x17 (.cells #[.int .i64 pN, .int .i64 pD] 37)))
      replace V2 := Lib.hid (V2.out.aft (Aft.alloc x17 (.cells #[.int .i64 pN, .int .i64 pD] 37)))
      replace V3 := Lib.hid (V3.out.aft (Aft.alloc x17 (.cells #[.int .i64 pN, .int .i64 pD] 37)))
      replace HBp21 := Lib.hid (HBp21.out.aft (Aft.alloc x17 (.cells #[.int .i64 pN, .int .i64 pD] 37)))
      replace HBp23 := Lib.hid (HBp23.out.aft (Aft.alloc x17 (.cells #[.int .i64 pN, .int .i64 pD] 37)))
      replace HBp25 := Lib.hid (HBp25.out.aft (Aft.alloc x17 (.cells #[.int .i64 pN, .int .i64 pD] 37)))
      replace HBp27 := Lib.hid (HBp27.out.aft (Aft.alloc x17 (.cells #[.int .i64 pN, .int .i64 pD] 37)))
      replace HA := Lib.hid (HA.out.trans (Aft.alloc x17 (.cells #[.int .i64 pN, .int .i64 pD] 37)))
      rw [hs_p29]
      generalize x17.alloc (.cells #[.int .i64 pN, .int .i64 pD] 37) = y18 at *
      clear hs_p29
      clear V1 V2 V3 HET HES2 HER HJS
      have hps := HPp.out.small
      have hqs := HPq.out.small
      have hts := HPt.out.2.small
      have hpk := HPp.out.ok
      have hqk := HPq.out.ok
      have htk := HPt.out.2.ok
      have hpN0 : 0 ≤ pN := hpk.n1
      have hpD1 : 1 ≤ pD := hpk.d1
      have hpD12 : pD ≤ 12 := hps.1
      have hpN12 : pN ≤ 12000000 := hps.2
      have hqD1 : 1 ≤ qD := hqk.d1
      have htD1 : 1 ≤ tD := htk.d1
      have htD12 : tD ≤ 12 := hts.1
      have htN0 : 0 ≤ tN := htk.n1
      have htN12 : tN ≤ 12000000 := hts.2
      have m1 := mul_in (x := tN) (y := pD) (B := 12000000) (C := 12) (by omega) (by omega) (by decide) (by omega) (by omega)
      have m2 := mul_in (x := 7 * pN) (y := tD) (B := 84000000) (C := 12) (by omega) (by omega) (by decide) (by omega) (by omega)
      have em := HPt.out.1
      obtain ⟨z1, ez1⟩ : ∃ z, tN * pD = z := ⟨_, rfl⟩
      obtain ⟨z2, ez2⟩ : ∃ z, 7 * pN = z := ⟨_, rfl⟩
      rw [ez2] at em m2
      rw [ez1] at em m1
      have wz1 : IntKind.i64.wrap (tN * pD) = z1 := by rw [ez1]; exact IntWalk.i64_in _ (by omega)
      have wz2 : IntKind.i64.wrap (7 * pN) = z2 := by rw [ez2]; exact IntWalk.i64_in _ (by omega)
      have wz3 : IntKind.i64.wrap (z2 * tD) = z1 := by rw [← em]; exact IntWalk.i64_in _ (by omega)
      have HWZ := Lib.hid (And.intro wz1 (And.intro wz2 wz3))
      have HPO : Hid (PlayOk pN pD) := Lib.hid hpk
      have HLE : Hid (∀ W, Calls Try.prog 13 #[.agg #[.int .i64 qN, .int .i64 qD], .agg #[.int .i64 pN, .int .i64 pD]] W fun e w' => e = .returned (.bool true) ∧ Aft W w') := Lib.hid fun W => by
        have h := HPq.out
        rw [← HJL.out.1] at h
        exact play_less HPp.out h (few_less (S := ⟨(n : Nat), J⟩) HPp.out h) W
      have t1 : decide (pD < 1) = false := decide_eq_false (by omega)
      have t2 : decide (qD < 1) = false := decide_eq_false (by omega)
      have t3 : decide (tD < 1) = false := decide_eq_false (by omega)
      clear hps hqs hts hpk hqk htk m1 m2 em ez1 ez2 wz1 wz2 wz3
      have da0 := HBp21.out.cell 0
      have da1 := HBp21.out.cell 1
      have da8 := HBp21.out.lt
      simp only [List.getElem?_toArray, List.getElem?_cons_zero, List.getElem?_cons_succ] at da0 da1
      have db0 := HBp23.out.cell 0
      have db1 := HBp23.out.cell 1
      have db8 := HBp23.out.lt
      simp only [List.getElem?_toArray, List.getElem?_cons_zero, List.getElem?_cons_succ] at db0 db1
      have dd0 := HBp27.out.cell 0
      have dd1 := HBp27.out.cell 1
      have dd8 := HBp27.out.lt
      simp only [List.getElem?_toArray, List.getElem?_cons_zero, List.getElem?_cons_succ] at dd0 dd1
      (repeat (first | go_big_skip | go_big_want | go_big_move | go_big_op | go_step | go_upon | go_back))
      go_at_call 13
      refine (HLE.out _).mono ?_
      rintro e x19 ⟨rfl, ha⟩
      dsimp only
      clear da0 da1 da8
      clear db0 db1 db8
      clear dd0 dd1 dd8
      replace HQ := Lib.hid (HQ.out.aft (ha))
      replace HBp9 := Lib.hid (HBp9.out.aft (ha))
      replace V0 := Lib.hid (V0.out.aft (ha))
      replace HBp21 := Lib.hid (HBp21.out.aft (ha))
      replace HBp23 := Lib.hid (HBp23.out.aft (ha))
      replace HBp25 := Lib.hid (HBp25.out.aft (ha))
      replace HBp27 := Lib.hid (HBp27.out.aft (ha))
      replace HBp29 := Lib.hid (HBp29.out.aft (ha))
      replace HA := Lib.hid (HA.out.trans (ha))
      clear ha HLE t1 t2 t3
      have da0 := HBp21.out.cell 0
      have da1 := HBp21.out.cell 1
      have da8 := HBp21.out.lt
      simp only [List.getElem?_toArray, List.getElem?_cons_zero, List.getElem?_cons_succ] at da0 da1
      have db0 := HBp25.out.cell 0
      have db1 := HBp25.out.cell 1
      have db8 := HBp25.out.lt
      simp only [List.getElem?_toArray, List.getElem?_cons_zero, List.getElem?_cons_succ] at db0 db1
      have dd0 := HBp27.out.cell 0
      have dd1 := HBp27.out.cell 1
      have dd8 := HBp27.out.lt
      simp only [List.getElem?_toArray, List.getElem?_cons_zero, List.getElem?_cons_succ] at dd0 dd1
      have de0 := HBp29.out.cell 0
      have de1 := HBp29.out.cell 1
      have de8 := HBp29.out.lt
      simp only [List.getElem?_toArray, List.getElem?_cons_zero, List.getElem?_cons_succ] at de0 de1
      have wz1 := HWZ.out.1
      have wz2 := HWZ.out.2.1
      have wz3 := HWZ.out.2.2
      go_upto_region 21 with fail
      clear wz1 wz2 wz3 HWZ
      clear da0 da1 da8
      clear db0 db1 db8
      clear dd0 dd1 dd8
      clear de0 de1 de8
      clear HBp23 HBp25 HBp27 HBp29 HPt HPq htD1 htD12 htN0 htN12 hqD1
      have HFM : Hid (∀ north, Sheet.AtMost (Sheet.legs (joOf north Jf)) pN pD) := Lib.hid fun north => by
        rw [← HJL.out.1]
        exact (HPp.out.most north).mono (few_sub north J i)
      have HB1 : Hid (∀ W, Quads W (some ⟨bJ, oJ, none⟩) J → Calls Try.prog 14 #[.agg #[.int .i64 (n : Nat), .slice (some ⟨bJ, oJ, none⟩) kk cJ], .int .i64 (u : Nat), .int .i64 (v : Nat), .agg #[.int .i64 pN, .int .i64 pD]] W (BtTwo ⟨(n : Nat), J⟩ pN pD u v W)) := Lib.hid fun W h => by
        have h2 := bt_two (S := ⟨(n : Nat), J⟩) (c := cJ) HE.out HPO.out hpD12 (fun north => HPp.out.most north) h hun hvn
        dsimp only at h2
        rw [HK.out] at h2
        exact h2
      have HB2 : Hid (∀ W, Quads W (some ⟨g0, 0, none⟩) Jf → Calls Try.prog 14 #[.agg #[.int .i64 (n : Nat), .slice (some ⟨g0, 0, none⟩) Jf.length cap0], .int .i64 (u : Nat), .int .i64 (v : Nat), .agg #[.int .i64 pN, .int .i64 pD]] W (BtTwo ⟨(n : Nat), Jf⟩ pN pD u v W)) := Lib.hid fun W h => by
        have h2 := bt_two (S := ⟨(n : Nat), Jf⟩) (c := cap0) HEF.out HPO.out hpD12 (fun north => HFM.out north) h hun hvn
        exact h2
      have c0 := HBp9.out.cell 0
      have c1 := HBp9.out.cell 1
      have c8 := HBp9.out.lt
      simp only [List.getElem?_toArray, List.getElem?_cons_zero, List.getElem?_cons_succ] at c0 c1
      have d0 := HBp21.out.cell 0
      have d1 := HBp21.out.cell 1
      have d8 := HBp21.out.lt
      simp only [List.getElem?_toArray, List.getElem?_cons_zero, List.getElem?_cons_succ] at d0 d1
      (repeat (first | go_big_skip | go_big_want | go_big_move | go_big_op | go_step | go_upon | go_back))
      go_at_call 14
      refine (HB1.out _ HQ.out).mono ?_
      rintro e x20 ⟨ha, t0, t1, htab, hcase⟩
      clear HB1
      replace HQ := Lib.hid (HQ.out.aft (ha))
      replace HBp9 := Lib.hid (HBp9.out.aft (ha))
      replace V0 := Lib.hid (V0.out.aft (ha))
      replace HBp21 := Lib.hid (HBp21.out.aft (ha))
      replace HA := Lib.hid (HA.out.trans (ha))
      clear ha
      clear c0 c1 c8
      clear d0 d1 d8
      have HT0 := Lib.hid htab
      have HCA := Lib.hid hcase
      clear htab hcase
      rcases HCA.out with ⟨hf, rfl⟩ | ⟨e1, e2, e3, e4, e5, e6, e7, e8, rfl, hbf⟩
      · clear HCA HQ HBp9
        dsimp only
        go_upto_region 22 with fail
        obtain ⟨p31, hs_p31⟩ : ∃ p31, x20.heap.size = p31 := ⟨_, rfl⟩
        have HBp31 : Hid (Blk ((x20.alloc (.cells #[.int .i64 0, .int .i64 0, .int .i64 0, .int .i64 0] 43)).alloc (.cells #[.int .i64 0, .int .i64 0, .int .i64 0, .int .i64 0] 43)) (p31) 43 #[.int .i64 0, .int .i64 0, .int .i64 0, .int .i64 0]) := Lib.hid (by
          have q := (Blk.new x20 43 #[.int .i64 0, .int .i64 0, .int .i64 0, .int .i64 0]).alloc (.cells #[.int .i64 0, .int .i64 0, .int .i64 0, .int .i64 0] 43)
          try simp only [World.size_alloc] at q
          rw [hs_p31] at q
          exact q)
        have HBp32 : Hid (Blk ((x20.alloc (.cells #[.int .i64 0, .int .i64 0, .int .i64 0, .int .i64 0] 43)).alloc (.cells #[.int .i64 0, .int .i64 0, .int .i64 0, .int .i64 0] 43)) (p31 + 1) 43 #[.int .i64 0, .int .i64 0, .int .i64 0, .int .i64 0]) := Lib.hid (by
          have q := Blk.new (x20.alloc (.cells #[.int .i64 0, .int .i64 0, .int .i64 0, .int .i64 0] 43)) 43 #[.int .i64 0, .int .i64 0, .int .i64 0, .int .i64 0]
          try simp only [World.size_alloc] at q
          rw [hs_p31] at q
          exact q)
        replace V0 := Lib.hid (V0.out.aft ((Aft.alloc x20 (.cells #[.int .i64 0, .int .i64 0, .int .i64 0, .int .i64 0] 43)).then_alloc (.cells #[.int .i64 0, .int .i64 0, .int .i64 0, .int .i64 0] 43)))
        replace HBp21 := Lib.hid (HBp21.out.aft ((Aft.alloc x20 (.cells #[.int .i64 0, .int .i64 0, .int .i64 0, .int .i64 0] 43)).then_alloc (.cells #[.int .i64 0, .int .i64 0, .int .i64 0, .int .i64 0] 43)))
        replace HA := Lib.hid (HA.out.trans ((Aft.alloc x20 (.cells #[.int .i64 0, .int .i64 0, .int .i64 0, .int .i64 0] 43)).then_alloc (.cells #[.int .i64 0, .int .i64 0, .int .i64 0, .int .i64 0] 43)))
        rw [hs_p31]
        generalize (x20.alloc (.cells #[.int .i64 0, .int .i64 0, .int .i64 0, .int .i64 0] 43)).alloc (.cells #[.int .i64 0, .int .i64 0, .int .i64 0, .int .i64 0] 43) = y21 at *
        clear hs_p31
        have c0 := V0.out.blk.cell 0
        have c1 := V0.out.blk.cell 1
        have c8 := V0.out.blk.lt
        simp only [List.getElem?_toArray, List.getElem?_cons_zero, List.getElem?_cons_succ] at c0 c1
        have d0 := HBp21.out.cell 0
        have d1 := HBp21.out.cell 1
        have d8 := HBp21.out.lt
        simp only [List.getElem?_toArray, List.getElem?_cons_zero, List.getElem?_cons_succ] at d0 d1
        (repeat (first | go_big_skip | go_big_want | go_big_move | go_big_op | go_step | go_upon | go_back))
        go_at_call 14
        refine (HB2.out _ (V0.out.qo.quads HLN.out.1)).mono ?_
        rintro e x22 ⟨ha, s0, s1, htab2, hcase2⟩
        clear HB2
        replace V0 := Lib.hid (V0.out.aft (ha))
        replace HBp21 := Lib.hid (HBp21.out.aft (ha))
        replace HBp31 := Lib.hid (HBp31.out.aft (ha))
        replace HBp32 := Lib.hid (HBp32.out.aft (ha))
        replace HA := Lib.hid (HA.out.trans (ha))
        clear ha
        clear c0 c1 c8
        clear d0 d1 d8
        have HC2 := Lib.hid hcase2
        clear hcase2
        rcases HC2.out with ⟨-, rfl⟩ | ⟨l1, l2, l3, l4, l5, l6, l7, l8, -, hbg⟩
        rotate_left
        · exact absurd hf (Tabs.few (i := i) HT0.out (by rw [HJL.out.1]; exact htab2) hun hbg.ne).1
        clear HC2 htab2
        dsimp only
        go_upto_region 23 with fail
        obtain ⟨p33, hs_p33⟩ : ∃ p33, x22.heap.size = p33 := ⟨_, rfl⟩
        have HBp33 : Hid (Blk ((x22.alloc (.cells #[.int .i64 0, .int .i64 0, .int .i64 0, .int .i64 0] 43)).alloc (.cells #[.int .i64 0, .int .i64 0, .int .i64 0, .int .i64 0] 43)) (p33) 43 #[.int .i64 0, .int .i64 0, .int .i64 0, .int .i64 0]) := Lib.hid (by
          have q := (Blk.new x22 43 #[.int .i64 0, .int .i64 0, .int .i64 0, .int .i64 0]).alloc (.cells #[.int .i64 0, .int .i64 0, .int .i64 0, .int .i64 0] 43)
          try simp only [World.size_alloc] at q
          rw [hs_p33] at q
          exact q)
        have HBp34 : Hid (Blk ((x22.alloc (.cells #[.int .i64 0, .int .i64 0, .int .i64 0, .int .i64 0] 43)).alloc (.cells #[.int .i64 0, .int .i64 0, .int .i64 0, .int .i64 0] 43)) (p33 + 1) 43 #[.int .i64 0, .int .i64 0, .int .i64 0, .int .i64 0]) := Lib.hid (by
          have q := Blk.new (x22.alloc (.cells #[.int .i64 0, .int .i64 0, .int .i64 0, .int .i64 0] 43)) 43 #[.int .i64 0, .int .i64 0, .int .i64 0, .int .i64 0]
          try simp only [World.size_alloc] at q
          rw [hs_p33] at q
          exact q)
        replace V0 := Lib.hid (V0.out.aft ((Aft.alloc x22 (.cells #[.int .i64 0, .int .i64 0, .int .i64 0, .int .i64 0] 43)).then_alloc (.cells #[.int .i64 0, .int .i64 0, .int .i64 0, .int .i64 0] 43)))
        replace HBp21 := Lib.hid (HBp21.out.aft ((Aft.alloc x22 (.cells #[.int .i64 0, .int .i64 0, .int .i64 0, .int .i64 0] 43)).then_alloc (.cells #[.int .i64 0, .int .i64 0, .int .i64 0, .int .i64 0] 43)))
        replace HBp31 := Lib.hid (HBp31.out.aft ((Aft.alloc x22 (.cells #[.int .i64 0, .int .i64 0, .int .i64 0, .int .i64 0] 43)).then_alloc (.cells #[.int .i64 0, .int .i64 0, .int .i64 0, .int .i64 0] 43)))
        replace HBp32 := Lib.hid (HBp32.out.aft ((Aft.alloc x22 (.cells #[.int .i64 0, .int .i64 0, .int .i64 0, .int .i64 0] 43)).then_alloc (.cells #[.int .i64 0, .int .i64 0, .int .i64 0, .int .i64 0] 43)))
        replace HA := Lib.hid (HA.out.trans ((Aft.alloc x22 (.cells #[.int .i64 0, .int .i64 0, .int .i64 0, .int .i64 0] 43)).then_alloc (.cells #[.int .i64 0, .int .i64 0, .int .i64 0, .int .i64 0] 43)))
        rw [hs_p33]
        generalize (x22.alloc (.cells #[.int .i64 0, .int .i64 0, .int .i64 0, .int .i64 0] 43)).alloc (.cells #[.int .i64 0, .int .i64 0, .int .i64 0, .int .i64 0] 43) = y23 at *
        clear hs_p33
        (repeat (first | go_big_skip | go_big_want | go_big_move | go_big_op | go_step | go_upon | go_back))
        go_at_call 15
        refine (awake_any _).mono ?_
        rintro e x24 ⟨rfl, ha⟩
        dsimp only
        have HAW := Lib.hid (HA.out.trans ha)
        clear ha
        (repeat (first | go_big_skip | go_big_want | go_big_move | go_big_op | go_step | go_upon | go_back))
        go_ret
        exact ⟨rfl, HAW.out⟩
      · clear HCA HQ HBp9
        have HBF := Lib.hid hbf
        clear hbf
        dsimp only
        go_upto_region 22 with fail
        obtain ⟨p31, hs_p31⟩ : ∃ p31, x20.heap.size = p31 := ⟨_, rfl⟩
        have HBp31 : Hid (Blk ((x20.alloc (.cells #[.int .i64 e1, .int .i64 e2, .int .i64 e3, .int .i64 e4] 43)).alloc (.cells #[.int .i64 e5, .int .i64 e6, .int .i64 e7, .int .i64 e8] 43)) (p31) 43 #[.int .i64 e1, .int .i64 e2, .int .i64 e3, .int .i64 e4]) := Lib.hid (by
          have q := (Blk.new x20 43 #[.int .i64 e1, .int .i64 e2, .int .i64 e3, .int .i64 e4]).alloc (.cells #[.int .i64 e5, .int .i64 e6, .int .i64 e7, .int .i64 e8] 43)
          try simp only [World.size_alloc] at q
          rw [hs_p31] at q
          exact q)
        have HBp32 : Hid (Blk ((x20.alloc (.cells #[.int .i64 e1, .int .i64 e2, .int .i64 e3, .int .i64 e4] 43)).alloc (.cells #[.int .i64 e5, .int .i64 e6, .int .i64 e7, .int .i64 e8] 43)) (p31 + 1) 43 #[.int .i64 e5, .int .i64 e6, .int .i64 e7, .int .i64 e8]) := Lib.hid (by
          have q := Blk.new (x20.alloc (.cells #[.int .i64 e1, .int .i64 e2, .int .i64 e3, .int .i64 e4] 43)) 43 #[.int .i64 e5, .int .i64 e6, .int .i64 e7, .int .i64 e8]
          try simp only [World.size_alloc] at q
          rw [hs_p31] at q
          exact q)
        replace V0 := Lib.hid (V0.out.aft ((Aft.alloc x20 (.cells #[.int .i64 e1, .int .i64 e2, .int .i64 e3, .int .i64 e4] 43)).then_alloc (.cells #[.int .i64 e5, .int .i64 e6, .int .i64 e7, .int .i64 e8] 43)))
        replace HBp21 := Lib.hid (HBp21.out.aft ((Aft.alloc x20 (.cells #[.int .i64 e1, .int .i64 e2, .int .i64 e3, .int .i64 e4] 43)).then_alloc (.cells #[.int .i64 e5, .int .i64 e6, .int .i64 e7, .int .i64 e8] 43)))
        replace HA := Lib.hid (HA.out.trans ((Aft.alloc x20 (.cells #[.int .i64 e1, .int .i64 e2, .int .i64 e3, .int .i64 e4] 43)).then_alloc (.cells #[.int .i64 e5, .int .i64 e6, .int .i64 e7, .int .i64 e8] 43)))
        rw [hs_p31]
        generalize (x20.alloc (.cells #[.int .i64 e1, .int .i64 e2, .int .i64 e3, .int .i64 e4] 43)).alloc (.cells #[.int .i64 e5, .int .i64 e6, .int .i64 e7, .int .i64 e8] 43) = y45 at *
        clear hs_p31
        have c0 := V0.out.blk.cell 0
        have c1 := V0.out.blk.cell 1
        have c8 := V0.out.blk.lt
        simp only [List.getElem?_toArray, List.getElem?_cons_zero, List.getElem?_cons_succ] at c0 c1
        have d0 := HBp21.out.cell 0
        have d1 := HBp21.out.cell 1
        have d8 := HBp21.out.lt
        simp only [List.getElem?_toArray, List.getElem?_cons_zero, List.getElem?_cons_succ] at d0 d1
        (repeat (first | go_big_skip | go_big_want | go_big_move | go_big_op | go_step | go_upon | go_back))
        go_at_call 14
        refine (HB2.out _ (V0.out.qo.quads HLN.out.1)).mono ?_
        rintro e x46 ⟨ha, s0, s1, htab2, hcase2⟩
        clear HB2
        replace V0 := Lib.hid (V0.out.aft (ha))
        replace HBp21 := Lib.hid (HBp21.out.aft (ha))
        replace HBp31 := Lib.hid (HBp31.out.aft (ha))
        replace HBp32 := Lib.hid (HBp32.out.aft (ha))
        replace HA := Lib.hid (HA.out.trans (ha))
        clear ha
        clear c0 c1 c8
        clear d0 d1 d8
        have HC2 := Lib.hid hcase2
        have HT2 := Lib.hid htab2
        clear hcase2 htab2
        rcases HC2.out with ⟨-, rfl⟩ | ⟨l1, l2, l3, l4, l5, l6, l7, l8, rfl, hbg⟩
        · clear HC2 V0
          dsimp only
          go_upto_region 23 with fail
          obtain ⟨p33, hs_p33⟩ : ∃ p33, x46.heap.size = p33 := ⟨_, rfl⟩
          have HBp33 : Hid (Blk ((x46.alloc (.cells #[.int .i64 0, .int .i64 0, .int .i64 0, .int .i64 0] 43)).alloc (.cells #[.int .i64 0, .int .i64 0, .int .i64 0, .int .i64 0] 43)) (p33) 43 #[.int .i64 0, .int .i64 0, .int .i64 0, .int .i64 0]) := Lib.hid (by
            have q := (Blk.new x46 43 #[.int .i64 0, .int .i64 0, .int .i64 0, .int .i64 0]).alloc (.cells #[.int .i64 0, .int .i64 0, .int .i64 0, .int .i64 0] 43)
            try simp only [World.size_alloc] at q
            rw [hs_p33] at q
            exact q)
          have HBp34 : Hid (Blk ((x46.alloc (.cells #[.int .i64 0, .int .i64 0, .int .i64 0, .int .i64 0] 43)).alloc (.cells #[.int .i64 0, .int .i64 0, .int .i64 0, .int .i64 0] 43)) (p33 + 1) 43 #[.int .i64 0, .int .i64 0, .int .i64 0, .int .i64 0]) := Lib.hid (by
            have q := Blk.new (x46.alloc (.cells #[.int .i64 0, .int .i64 0, .int .i64 0, .int .i64 0] 43)) 43 #[.int .i64 0, .int .i64 0, .int .i64 0, .int .i64 0]
            try simp only [World.size_alloc] at q
            rw [hs_p33] at q
            exact q)
          replace HBp21 := Lib.hid (HBp21.out.aft ((Aft.alloc x46 (.cells #[.int .i64 0, .int .i64 0, .int .i64 0, .int .i64 0] 43)).then_alloc (.cells #[.int .i64 0, .int .i64 0, .int .i64 0, .int .i64 0] 43)))
          replace HBp31 := Lib.hid (HBp31.out.aft ((Aft.alloc x46 (.cells #[.int .i64 0, .int .i64 0, .int .i64 0, .int .i64 0] 43)).then_alloc (.cells #[.int .i64 0, .int .i64 0, .int .i64 0, .int .i64 0] 43)))
          replace HBp32 := Lib.hid (HBp32.out.aft ((Aft.alloc x46 (.cells #[.int .i64 0, .int .i64 0, .int .i64 0, .int .i64 0] 43)).then_alloc (.cells #[.int .i64 0, .int .i64 0, .int .i64 0, .int .i64 0] 43)))
          replace HA := Lib.hid (HA.out.trans ((Aft.alloc x46 (.cells #[.int .i64 0, .int .i64 0, .int .i64 0, .int .i64 0] 43)).then_alloc (.cells #[.int .i64 0, .int .i64 0, .int .i64 0, .int .i64 0] 43)))
          rw [hs_p33]
          generalize (x46.alloc (.cells #[.int .i64 0, .int .i64 0, .int .i64 0, .int .i64 0] 43)).alloc (.cells #[.int .i64 0, .int .i64 0, .int .i64 0, .int .i64 0] 43) = y47 at *
          clear hs_p33
          (repeat (first | go_big_skip | go_big_want | go_big_move | go_big_op | go_step | go_upon | go_back))
          go_at_call 15
          refine (awake_any _).mono ?_
          rintro e x48 ⟨rfl, ha⟩
          dsimp only
          have HAW := Lib.hid (HA.out.trans ha)
          clear ha
          (repeat (first | go_big_skip | go_big_want | go_big_move | go_big_op | go_step | go_upon | go_back))
          go_ret
          exact ⟨rfl, HAW.out⟩
        · clear HC2 V0
          have HBG := Lib.hid hbg
          clear hbg
          dsimp only
          go_upto_region 23 with fail
          obtain ⟨p33, hs_p33⟩ : ∃ p33, x46.heap.size = p33 := ⟨_, rfl⟩
          have HBp33 : Hid (Blk ((x46.alloc (.cells #[.int .i64 l1, .int .i64 l2, .int .i64 l3, .int .i64 l4] 43)).alloc (.cells #[.int .i64 l5, .int .i64 l6, .int .i64 l7, .int .i64 l8] 43)) (p33) 43 #[.int .i64 l1, .int .i64 l2, .int .i64 l3, .int .i64 l4]) := Lib.hid (by
            have q := (Blk.new x46 43 #[.int .i64 l1, .int .i64 l2, .int .i64 l3, .int .i64 l4]).alloc (.cells #[.int .i64 l5, .int .i64 l6, .int .i64 l7, .int .i64 l8] 43)
            try simp only [World.size_alloc] at q
            rw [hs_p33] at q
            exact q)
          have HBp34 : Hid (Blk ((x46.alloc (.cells #[.int .i64 l1, .int .i64 l2, .int .i64 l3, .int .i64 l4] 43)).alloc (.cells #[.int .i64 l5, .int .i64 l6, .int .i64 l7, .int .i64 l8] 43)) (p33 + 1) 43 #[.int .i64 l5, .int .i64 l6, .int .i64 l7, .int .i64 l8]) := Lib.hid (by
            have q := Blk.new (x46.alloc (.cells #[.int .i64 l1, .int .i64 l2, .int .i64 l3, .int .i64 l4] 43)) 43 #[.int .i64 l5, .int .i64 l6, .int .i64 l7, .int .i64 l8]
            try simp only [World.size_alloc] at q
            rw [hs_p33] at q
            exact q)
          replace HBp21 := Lib.hid (HBp21.out.aft ((Aft.alloc x46 (.cells #[.int .i64 l1, .int .i64 l2, .int .i64 l3, .int .i64 l4] 43)).then_alloc (.cells #[.int .i64 l5, .int .i64 l6, .int .i64 l7, .int .i64 l8] 43)))
          replace HBp31 := Lib.hid (HBp31.out.aft ((Aft.alloc x46 (.cells #[.int .i64 l1, .int .i64 l2, .int .i64 l3, .int .i64 l4] 43)).then_alloc (.cells #[.int .i64 l5, .int .i64 l6, .int .i64 l7, .int .i64 l8] 43)))
          replace HBp32 := Lib.hid (HBp32.out.aft ((Aft.alloc x46 (.cells #[.int .i64 l1, .int .i64 l2, .int .i64 l3, .int .i64 l4] 43)).then_alloc (.cells #[.int .i64 l5, .int .i64 l6, .int .i64 l7, .int .i64 l8] 43)))
          replace HA := Lib.hid (HA.out.trans ((Aft.alloc x46 (.cells #[.int .i64 l1, .int .i64 l2, .int .i64 l3, .int .i64 l4] 43)).then_alloc (.cells #[.int .i64 l5, .int .i64 l6, .int .i64 l7, .int .i64 l8] 43)))
          rw [hs_p33]
          generalize (x46.alloc (.cells #[.int .i64 l1, .int .i64 l2, .int .i64 l3, .int .i64 l4] 43)).alloc (.cells #[.int .i64 l5, .int .i64 l6, .int .i64 l7, .int .i64 l8] 43) = y69 at *
          clear hs_p33
          have ht2 := HT2.out
          rw [← HJL.out.1] at ht2
          have hmo := Tabs.few HT0.out ht2 hun HBG.out.ne
          have hmb := Tabs.few HT0.out ht2 hvn (HBG.out.tab.back hun hvn HBG.out.ne)
          have HL1 : Hid (∀ W, Calls Try.prog 13 #[.agg #[.int .i64 l1, .int .i64 l2], .agg #[.int .i64 e1, .int .i64 e2]] W fun e w' => e = .returned (.bool true) ∧ Aft W w') := Lib.hid (Fb.less (by omega) HBG.out.f1 HBF.out.f1 (by omega) (by decide) (by decide) (by decide) (by decide))
          have HL2 : Hid (∀ W, Calls Try.prog 13 #[.agg #[.int .i64 e3, .int .i64 e4], .agg #[.int .i64 l3, .int .i64 l4]] W fun e w' => e = .returned (.bool true) ∧ Aft W w') := Lib.hid (Fb.less (by omega) HBF.out.f2 HBG.out.f2 (by omega) (by decide) (by decide) (by decide) (by decide))
          have HL3 : Hid (∀ W, Calls Try.prog 13 #[.agg #[.int .i64 l5, .int .i64 l6], .agg #[.int .i64 e5, .int .i64 e6]] W fun e w' => e = .returned (.bool true) ∧ Aft W w') := Lib.hid (Fb.less (by omega) HBG.out.f3 HBF.out.f3 (by omega) (by decide) (by decide) (by decide) (by decide))
          have HL4 : Hid (∀ W, Calls Try.prog 13 #[.agg #[.int .i64 e7, .int .i64 e8], .agg #[.int .i64 l7, .int .i64 l8]] W fun e w' => e = .returned (.bool true) ∧ Aft W w') := Lib.hid (Fb.less (by omega) HBF.out.f4 HBG.out.f4 (by omega) (by decide) (by decide) (by decide) (by decide))
          clear ht2 hmo hmb HBG HBF HT0 HT2
          have ya0 := HBp33.out.cell 0
          have ya1 := HBp33.out.cell 1
          have ya2 := HBp33.out.cell 2
          have ya3 := HBp33.out.cell 3
          have ya8 := HBp33.out.lt
          simp only [List.getElem?_toArray, List.getElem?_cons_zero, List.getElem?_cons_succ] at ya0 ya1 ya2 ya3
          have yb0 := HBp31.out.cell 0
          have yb1 := HBp31.out.cell 1
          have yb2 := HBp31.out.cell 2
          have yb3 := HBp31.out.cell 3
          have yb8 := HBp31.out.lt
          simp only [List.getElem?_toArray, List.getElem?_cons_zero, List.getElem?_cons_succ] at yb0 yb1 yb2 yb3
          (repeat (first | go_big_skip | go_big_want | go_big_move | go_big_op | go_step | go_upon | go_back))
          go_at_call 13
          refine (HL1.out _).mono ?_
          rintro e x70 ⟨rfl, ha⟩
          dsimp only
          clear ya0 ya1 ya2 ya3 ya8
          clear yb0 yb1 yb2 yb3 yb8
          replace HBp21 := Lib.hid (HBp21.out.aft (ha))
          replace HBp31 := Lib.hid (HBp31.out.aft (ha))
          replace HBp32 := Lib.hid (HBp32.out.aft (ha))
          replace HBp33 := Lib.hid (HBp33.out.aft (ha))
          replace HBp34 := Lib.hid (HBp34.out.aft (ha))
          replace HA := Lib.hid (HA.out.trans (ha))
          clear ha HL1
          have ya0 := HBp31.out.cell 0
          have ya1 := HBp31.out.cell 1
          have ya2 := HBp31.out.cell 2
          have ya3 := HBp31.out.cell 3
          have ya8 := HBp31.out.lt
          simp only [List.getElem?_toArray, List.getElem?_cons_zero, List.getElem?_cons_succ] at ya0 ya1 ya2 ya3
          have yb0 := HBp33.out.cell 0
          have yb1 := HBp33.out.cell 1
          have yb2 := HBp33.out.cell 2
          have yb3 := HBp33.out.cell 3
          have yb8 := HBp33.out.lt
          simp only [List.getElem?_toArray, List.getElem?_cons_zero, List.getElem?_cons_succ] at yb0 yb1 yb2 yb3
          (repeat (first | go_big_skip | go_big_want | go_big_move | go_big_op | go_step | go_upon | go_back))
          go_at_call 13
          refine (HL2.out _).mono ?_
          rintro e x71 ⟨rfl, ha⟩
          dsimp only
          clear ya0 ya1 ya2 ya3 ya8
          clear yb0 yb1 yb2 yb3 yb8
          replace HBp21 := Lib.hid (HBp21.out.aft (ha))
          replace HBp31 := Lib.hid (HBp31.out.aft (ha))
          replace HBp32 := Lib.hid (HBp32.out.aft (ha))
          replace HBp33 := Lib.hid (HBp33.out.aft (ha))
          replace HBp34 := Lib.hid (HBp34.out.aft (ha))
          replace HA := Lib.hid (HA.out.trans (ha))
          clear ha HL2
          have ya0 := HBp34.out.cell 0
          have ya1 := HBp34.out.cell 1
          have ya2 := HBp34.out.cell 2
          have ya3 := HBp34.out.cell 3
          have ya8 := HBp34.out.lt
          simp only [List.getElem?_toArray, List.getElem?_cons_zero, List.getElem?_cons_succ] at ya0 ya1 ya2 ya3
          have yb0 := HBp32.out.cell 0
          have yb1 := HBp32.out.cell 1
          have yb2 := HBp32.out.cell 2
          have yb3 := HBp32.out.cell 3
          have yb8 := HBp32.out.lt
          simp only [List.getElem?_toArray, List.getElem?_cons_zero, List.getElem?_cons_succ] at yb0 yb1 yb2 yb3
          (repeat (first | go_big_skip | go_big_want | go_big_move | go_big_op | go_step | go_upon | go_back))
          go_at_call 13
          refine (HL3.out _).mono ?_
          rintro e x72 ⟨rfl, ha⟩
          dsimp only
          clear ya0 ya1 ya2 ya3 ya8
          clear yb0 yb1 yb2 yb3 yb8
          replace HBp21 := Lib.hid (HBp21.out.aft (ha))
          replace HBp31 := Lib.hid (HBp31.out.aft (ha))
          replace HBp32 := Lib.hid (HBp32.out.aft (ha))
          replace HBp33 := Lib.hid (HBp33.out.aft (ha))
          replace HBp34 := Lib.hid (HBp34.out.aft (ha))
          replace HA := Lib.hid (HA.out.trans (ha))
          clear ha HL3
          have ya0 := HBp32.out.cell 0
          have ya1 := HBp32.out.cell 1
          have ya2 := HBp32.out.cell 2
          have ya3 := HBp32.out.cell 3
          have ya8 := HBp32.out.lt
          simp only [List.getElem?_toArray, List.getElem?_cons_zero, List.getElem?_cons_succ] at ya0 ya1 ya2 ya3
          have yb0 := HBp34.out.cell 0
          have yb1 := HBp34.out.cell 1
          have yb2 := HBp34.out.cell 2
          have yb3 := HBp34.out.cell 3
          have yb8 := HBp34.out.lt
          simp only [List.getElem?_toArray, List.getElem?_cons_zero, List.getElem?_cons_succ] at yb0 yb1 yb2 yb3
          (repeat (first | go_big_skip | go_big_want | go_big_move | go_big_op | go_step | go_upon | go_back))
          go_at_call 13
          refine (HL4.out _).mono ?_
          rintro e x73 ⟨rfl, ha⟩
          dsimp only
          clear ya0 ya1 ya2 ya3 ya8
          clear yb0 yb1 yb2 yb3 yb8
          replace HBp21 := Lib.hid (HBp21.out.aft (ha))
          replace HBp31 := Lib.hid (HBp31.out.aft (ha))
          replace HBp32 := Lib.hid (HBp32.out.aft (ha))
          replace HBp33 := Lib.hid (HBp33.out.aft (ha))
          replace HBp34 := Lib.hid (HBp34.out.aft (ha))
          replace HA := Lib.hid (HA.out.trans (ha))
          clear ha HL4
          (repeat (first | go_big_skip | go_big_want | go_big_move | go_big_op | go_step | go_upon | go_back))
          go_at_call 15
          refine (awake_any _).mono ?_
          rintro e x74 ⟨rfl, ha⟩
          dsimp only
          have HAW := Lib.hid (HA.out.trans ha)
          clear ha
          (repeat (first | go_big_skip | go_big_want | go_big_move | go_big_op | go_step | go_upon | go_back))
          go_ret
          exact ⟨rfl, HAW.out⟩
end Go.Proofs
end
