/- Own texts, merged: Vh. -/
import Derived.Test.YthegmhnaiabcpaaB25
import Derived.BigGuard
set_option linter.unusedSimpArgs false
set_option linter.unusedVariables false
set_option linter.unnecessarySimpa false
section
/- Walks: SheetBetween. -/
namespace Go.Proofs
open Go.RowKit
attribute [local go_sem] Oper.semAt_some

set_option maxRecDepth 100000 in
set_option maxHeartbeats 8000000 in
theorem betweenLaw_any (A : Option Addr) (l : List Int) (c : Nat) (ka kb kc km : Int) (w : World) (hB : Bytes w A l) :
    Calls Try.prog 6 #[.slice A l.length c, .int .i64 ka, .int .i64 kb, .int .i64 kc, .int .i64 km] w fun e w' => e = .returned (.bool true) ∧ Aft w w' := by
  have HBY := Lib.hid hB
  clear hB
  go_enter Try.func6, Try.ntmps6
  (repeat (first | go_big_skip | go_big_want | go_big_move | go_big_op | go_step | go_upon | go_back))
  go_at_call 8
  refine (of_any A l c w HBY.out).mono ?_
  rintro e x1 ⟨rfl, hd⟩
  dsimp only
  have hmade := made_any w w.heap.size A l c 0 8 5 x1 hd (by decide) (by decide) (by decide) (by decide) (by decide)
  have HMD := Lib.hid hmade
  have H01 := Lib.hid hd.aft0
  clear hd hmade HBY
  (repeat (first | go_big_skip | go_big_want | go_big_move | go_big_op | go_step | go_upon | go_back))
  go_at_call 7
  refine HMD.out.mono ?_
  rintro e x2 ⟨n, X, Y, J, vJ, vT, rfl, hn2, hn8, hlx, hly, hX, hY, hJ, hl1, hl16, oJ, oT, ha⟩
  obtain ⟨AJ, cJ, rfl, -, hq, -⟩ := own_flat (enc := enc4) (fun _ => rfl) oJ (by omega)
  obtain ⟨AT, cT, rfl, -, ht, -⟩ := own_flat (enc := enc4) (fun _ => rfl) oT (by simp; omega)
  have hTn : ((List.range n).map (trJ X Y)).length = n := by simp
  rw [hTn]
  dsimp only
  have HQ : Hid (Quads x2 AJ J) := Lib.hid hq
  have HT : Hid (Quads x2 AT ((List.range n).map (trJ X Y))) := Lib.hid ht
  have HA := Lib.hid ha
  have hE : setE ⟨n, J⟩ = 0 := made_setE (play := 5) (by omega) (by omega) (by decide) hJ (by omega) hX hY
  have HE := Lib.hid hE
  have HNE := Lib.hid (made_needsE hE hX hY)
  obtain ⟨M, hM, hM0, hM5, hTW⟩ := made_needsP (X := X) (Y := Y) (play := 5) hE (by decide) hJ
  have HNP := Lib.hid hM
  have HTW := Lib.hid hTW
  have HX := Lib.hid hX
  have HY := Lib.hid hY
  have HSO := Lib.hid (setE_ok hE)
  have n1 : 1 ≤ n := by omega
  have n8 : n ≤ 8 := by omega
  clear hlx hly hX hY hJ hl1 oJ oT ha hq ht hE hM hTW hTn H01 HMD hn2 hn8
  go_upto_region 2 with fail
  obtain ⟨p11, hs_p11⟩ : ∃ p11, x2.heap.size = p11 := ⟨_, rfl⟩
  have p11ge : w.heap.size ≤ p11 := by rw [← hs_p11]; exact HA.out.size
  have HBp11 : Hid (Blk (x2.alloc (.cells #[.int .i64 (n : Nat), .slice AJ J.length cJ] 25)) (p11) 25 #[.int .i64 (n : Nat), .slice AJ J.length cJ]) := Lib.hid (by
    have q := Blk.new x2 25 #[.int .i64 (n : Nat), .slice AJ J.length cJ]
    try simp only [World.size_alloc] at q
    rw [hs_p11] at q
    exact q)
  replace HQ := Lib.hid (HQ.out.aft (Aft.alloc x2 (.cells #[.int .i64 (n : Nat), .slice AJ J.length cJ] 25)))
  replace HT := Lib.hid (HT.out.aft (Aft.alloc x2 (.cells #[.int .i64 (n : Nat), .slice AJ J.length cJ] 25)))
  replace HA := Lib.hid (HA.out.trans (Aft.alloc x2 (.cells #[.int .i64 (n : Nat), .slice AJ J.length cJ] 25)))
  rw [hs_p11]
  generalize x2.alloc (.cells #[.int .i64 (n : Nat), .slice AJ J.length cJ] 25) = y1 at *
  clear hs_p11
  obtain ⟨W1, hW1⟩ : ∃ W1, W1 = y1 := ⟨_, rfl⟩
  have H1 : Hid (Aft W1 y1) := Lib.hid (hW1 ▸ Aft.refl _)
  clear hW1
  obtain ⟨u, hu, hun⟩ := fold_ex ka n n1
  obtain ⟨v, hv, hvn⟩ := fold_ex kb n n1
  obtain ⟨t, ht, htn⟩ := fold_ex kc n n1
  have HFU := Lib.hid fun W => fold_at ka n u W n1 (by omega) hu
  have HFV := Lib.hid fun W => fold_at kb n v W n1 (by omega) hv
  have HFT := Lib.hid fun W => fold_at kc n t W n1 (by omega) ht
  clear hu hv ht
  refine wp_region_valsT (by kernel_rfl) 12 369 rfl (by kernel_rfl) (by kernel_rfl) (by kernel_rfl) [.int .i64 ka, .pointer (some ⟨p11, 0, none⟩), .int .i64 (n : Nat), .int .i64 (u : Nat), .int .i64 kb, .pointer (some ⟨p11, 0, none⟩), .int .i64 (n : Nat), .int .i64 (v : Nat), .int .i64 kc, .pointer (some ⟨p11, 0, none⟩), .int .i64 (n : Nat), .int .i64 (t : Nat)] rfl (fun _ W => Aft y1 W) (Aft.drew _) ?st1 ?fi1
  case st1 =>
    intro i o v ho hv
    match i, ho, hv with
    | 0, ho, hv =>
      cases ho; cases hv
      refine .inl ⟨rfl, fun done a W hd hp hk hw K hK => ?_⟩
      have e1 := hk.same 1 (by decide)
      exact op_val (by simp [go_sem, ev' e1]) (hK _ hw)
    | 1, ho, hv =>
      cases ho; cases hv
      refine .inl ⟨rfl, fun done a W hd hp hk hw K hK => ?_⟩
      have e11 := hk.same 11 (by decide)
      exact op_val (by simp [go_sem, ev' e11]) (hK _ hw)
    | 2, ho, hv =>
      cases ho; cases hv
      refine .inl ⟨rfl, fun done a W hd hp hk hw K hK => ?_⟩
      have e47 := hk.at_ 1 _ 47 _ rfl (by decide) _ rfl rfl rfl
      exact op_val (by simp [go_sem, ev' e47, (HBp11.out.aft hw).cell 0]) (hK _ hw)
    | 3, ho, hv =>
      cases ho; cases hv
      refine .inl ⟨rfl, fun done a W hd hp hk hw K hK => ?_⟩
      have e46 := hk.at_ 0 _ 46 _ rfl (by decide) _ rfl rfl rfl
      have e48 := hk.at_ 2 _ 48 _ rfl (by decide) _ rfl rfl rfl
      refine op_callN rfl rfl rfl _ rfl (vs := #[.int .i64 ka, .int .i64 (n : Nat)]) (by simp [e46, e48]) (HFU.out W) ?_
      rintro e w7 ⟨rfl, rfl⟩
      exact ⟨_, rfl, hK _ hw⟩
    | 4, ho, hv =>
      cases ho; cases hv
      refine .inl ⟨rfl, fun done a W hd hp hk hw K hK => ?_⟩
      have e2 := hk.same 2 (by decide)
      exact op_val (by simp [go_sem, ev' e2]) (hK _ hw)
    | 5, ho, hv =>
      cases ho; cases hv
      refine .inl ⟨rfl, fun done a W hd hp hk hw K hK => ?_⟩
      have e11 := hk.same 11 (by decide)
      exact op_val (by simp [go_sem, ev' e11]) (hK _ hw)
    | 6, ho, hv =>
      cases ho; cases hv
      refine .inl ⟨rfl, fun done a W hd hp hk hw K hK => ?_⟩
      have e51 := hk.at_ 5 _ 51 _ rfl (by decide) _ rfl rfl rfl
      exact op_val (by simp [go_sem, ev' e51, (HBp11.out.aft hw).cell 0]) (hK _ hw)
    | 7, ho, hv =>
      cases ho; cases hv
      refine .inl ⟨rfl, fun done a W hd hp hk hw K hK => ?_⟩
      have e50 := hk.at_ 4 _ 50 _ rfl (by decide) _ rfl rfl rfl
      have e52 := hk.at_ 6 _ 52 _ rfl (by decide) _ rfl rfl rfl
      refine op_callN rfl rfl rfl _ rfl (vs := #[.int .i64 kb, .int .i64 (n : Nat)]) (by simp [e50, e52]) (HFV.out W) ?_
      rintro e w7 ⟨rfl, rfl⟩
      exact ⟨_, rfl, hK _ hw⟩
    | 8, ho, hv =>
      cases ho; cases hv
      refine .inl ⟨rfl, fun done a W hd hp hk hw K hK => ?_⟩
      have e3 := hk.same 3 (by decide)
      exact op_val (by simp [go_sem, ev' e3]) (hK _ hw)
    | 9, ho, hv =>
      cases ho; cases hv
      refine .inl ⟨rfl, fun done a W hd hp hk hw K hK => ?_⟩
      have e11 := hk.same 11 (by decide)
      exact op_val (by simp [go_sem, ev' e11]) (hK _ hw)
    | 10, ho, hv =>
      cases ho; cases hv
      refine .inl ⟨rfl, fun done a W hd hp hk hw K hK => ?_⟩
      have e55 := hk.at_ 9 _ 55 _ rfl (by decide) _ rfl rfl rfl
      exact op_val (by simp [go_sem, ev' e55, (HBp11.out.aft hw).cell 0]) (hK _ hw)
    | 11, ho, hv =>
      cases ho; cases hv
      refine .inl ⟨rfl, fun done a W hd hp hk hw K hK => ?_⟩
      have e54 := hk.at_ 8 _ 54 _ rfl (by decide) _ rfl rfl rfl
      have e56 := hk.at_ 10 _ 56 _ rfl (by decide) _ rfl rfl rfl
      refine op_callN rfl rfl rfl _ rfl (vs := #[.int .i64 kc, .int .i64 (n : Nat)]) (by simp [e54, e56]) (HFT.out W) ?_
      rintro e w7 ⟨rfl, rfl⟩
      exact ⟨_, rfl, hK _ hw⟩
    | _ + 12, _, hv => cases hv
  intro done W hd hw
  simp only [List.drop_succ_cons, List.drop_zero, List.zip_cons_cons, List.zip_nil_right, putAll]
  simp only [Act.put, List.setIfInBounds_toArray, List.set]
  clear hd
  replace HQ := Lib.hid (HQ.out.aft (hw))
  replace HT := Lib.hid (HT.out.aft (hw))
  replace HBp11 := Lib.hid (HBp11.out.aft (hw))
  replace HA := Lib.hid (HA.out.trans (hw))
  replace H1 := Lib.hid (H1.out.trans (hw))
  clear hw HFU HFV HFT
  go_upto_region 3 with fail
  have c0 := HBp11.out.cell 0
  have c1 := HBp11.out.cell 1
  have c2 := HBp11.out.lt
  simp only [List.getElem?_toArray, List.getElem?_cons_zero, List.getElem?_cons_succ] at c0 c1
  apply wp_region_lit
  (repeat (first | go_big_skip | go_big_want | go_big_move | go_big_op | go_step | go_upon | go_back))
  go_at_call 35
  refine (tied_good ⟨(n : Nat), J⟩ AJ cJ _ HQ.out HE.out).mono ?_
  rintro e x2 ⟨g16, c16, f, rfl, hg16, hf16, hti, ha⟩
  dsimp only
  have HFI : Hid (FI x2 g16 n f) := Lib.hid hf16
  have HTI : Hid (Sheet.TiedIs (Sheet.legs (joOf false J)) n f) := Lib.hid hti
  replace HQ := Lib.hid (HQ.out.aft (ha))
  replace HT := Lib.hid (HT.out.aft (ha))
  replace HBp11 := Lib.hid (HBp11.out.aft (ha))
  replace HA := Lib.hid (HA.out.trans (ha))
  replace H1 := Lib.hid (H1.out.trans (ha))
  clear ha hf16 hti hg16 c0 c1 c2
  rw [show (⟨(n : Nat), J⟩ : SetL).n.toNat = n from rfl]
  go_upto_region 4 with fail
  have c0 := HBp11.out.cell 0
  have c1 := HBp11.out.cell 1
  have c2 := HBp11.out.lt
  simp only [List.getElem?_toArray, List.getElem?_cons_zero, List.getElem?_cons_succ] at c0 c1
  apply wp_region_lit
  (repeat (first | go_big_skip | go_big_want | go_big_move | go_big_op | go_step | go_upon | go_back))
  go_at_call 12
  refine (play_good ⟨(n : Nat), J⟩ AJ cJ _ HQ.out HE.out).mono ?_
  rintro e x3 ⟨⟨pN, pD⟩, rfl, hpl, ha⟩
  dsimp only
  have HPL : Hid (PlayOf ⟨(n : Nat), J⟩ (pN, pD)) := Lib.hid hpl
  replace HQ := Lib.hid (HQ.out.aft (ha))
  replace HT := Lib.hid (HT.out.aft (ha))
  replace HBp11 := Lib.hid (HBp11.out.aft (ha))
  replace HFI := Lib.hid (HFI.out.aft (ha))
  replace HA := Lib.hid (HA.out.trans (ha))
  replace H1 := Lib.hid (H1.out.trans (ha))
  clear ha hpl c0 c1 c2
  go_upto_region 5 with fail
  obtain ⟨p18, hs_p18⟩ : ∃ p18, x3.heap.size = p18 := ⟨_, rfl⟩
  have p18ge : w.heap.size ≤ p18 := by rw [← hs_p18]; exact HA.out.size
  have p18g1 : W1.heap.size ≤ p18 := by rw [← hs_p18]; exact H1.out.size
  have HBp18 : Hid (Blk (x3.alloc (.cells #[.int .i64 pN, .int .i64 pD] 37)) (p18) 37 #[.int .i64 pN, .int .i64 pD]) := Lib.hid (by
    have q := Blk.new x3 37 #[.int .i64 pN, .int .i64 pD]
    try simp only [World.size_alloc] at q
    rw [hs_p18] at q
    exact q)
  replace HQ := Lib.hid (HQ.out.aft (Aft.alloc x3 (.cells #[.int .i64 pN, .int .i64 pD] 37)))
  replace HT := Lib.hid (HT.out.aft (Aft.alloc x3 (.cells #[.int .i64 pN, .int .i64 pD] 37)))
  replace HBp11 := Lib.hid (HBp11.out.aft (Aft.alloc x3 (.cells #[.int .i64 pN, .int .i64 pD] 37)))
  replace HFI := Lib.hid (HFI.out.aft (Aft.alloc x3 (.cells #[.int .i64 pN, .int .i64 pD] 37)))
  replace HA := Lib.hid (HA.out.trans (Aft.alloc x3 (.cells #[.int .i64 pN, .int .i64 pD] 37)))
  replace H1 := Lib.hid (H1.out.trans (Aft.alloc x3 (.cells #[.int .i64 pN, .int .i64 pD] 37)))
  rw [hs_p18]
  generalize x3.alloc (.cells #[.int .i64 pN, .int .i64 pD] 37) = y4 at *
  clear hs_p18
  have hp := HPL.out.small
  have hp0 := HPL.out.ok
  have hpN0 : 0 ≤ pN := hp0.n1
  have hpD1 : 1 ≤ pD := hp0.d1
  have hpD12 : pD ≤ 12 := hp.1
  have hpN12 : pN ≤ 12000000 := hp.2
  clear hp hp0
  have c0 := HBp11.out.cell 0
  have c1 := HBp11.out.cell 1
  have c2 := HBp11.out.lt
  simp only [List.getElem?_toArray, List.getElem?_cons_zero, List.getElem?_cons_succ] at c0 c1
  apply wp_region_lit
  (repeat (first | go_big_skip | go_big_want | go_big_move | go_big_op | go_step | go_upon | go_back))
  go_at_call 36
  refine (shifts_good ⟨(n : Nat), J⟩ AJ cJ _ HQ.out HE.out).mono ?_
  rintro e x5 ⟨g20, c20, ⟨rN, rD⟩, f2, s0, s1, hpl2, hti2, hc0, hc1, rfl, hg20, hfq, ha⟩
  dsimp only
  obtain ⟨rfl, rfl⟩ : rN = pN ∧ rD = pD := by
    have := hpl2.same HPL.out
    exact ⟨congrArg Prod.fst this, congrArg Prod.snd this⟩
  have HTS : Hid (Tabs ⟨(n : Nat), J⟩ rN rD s0 s1) := Lib.hid ⟨hc0, hc1⟩
  have HF2 : Hid (∀ i, i < n → f2 i = f i) := Lib.hid fun i hi => Sheet.TiedIs.same hti2 HTI.out hi
  have HFQ : Hid (FQ x5 g20 n (fun i => ⟨(shR rD s0 f2 i).1, (shR rD s0 f2 i).2, (shR rD s1 f2 i).1, (shR rD s1 f2 i).2⟩)) := Lib.hid hfq
  replace HQ := Lib.hid (HQ.out.aft (ha))
  replace HT := Lib.hid (HT.out.aft (ha))
  replace HBp11 := Lib.hid (HBp11.out.aft (ha))
  replace HFI := Lib.hid (HFI.out.aft (ha))
  replace HBp18 := Lib.hid (HBp18.out.aft (ha))
  replace HA := Lib.hid (HA.out.trans (ha))
  replace H1 := Lib.hid (H1.out.trans (ha))
  clear ha hfq hpl2 hti2 hc0 hc1 hg20 c0 c1 c2
  rw [show (⟨(n : Nat), J⟩ : SetL).n.toNat = n from rfl]
  go_upto_region 6 with fail
  have c0 := HBp11.out.cell 0
  have c1 := HBp11.out.cell 1
  have c2 := HBp11.out.lt
  simp only [List.getElem?_toArray, List.getElem?_cons_zero, List.getElem?_cons_succ] at c0 c1
  have HND : Hid (∀ W, Quads W AJ J → Quads W AT ((List.range n).map (trJ X Y)) → Calls Try.prog 37 #[.agg #[.int .i64 (n : Nat), .slice AJ J.length cJ], .slice AT n cT] W fun e w' => e = .returned (.tuple #[.agg #[.int .i64 M, .int .i64 1], .int .i64 0]) ∧ Aft W w') := Lib.hid fun W h1 h2 => by
    have := needs_good ⟨(n : Nat), J⟩ AJ cJ ((List.range n).map (trJ X Y)) AT cT W h1 h2 HNE.out
    rw [HNP.out] at this
    simpa using this
  apply wp_region_lit
  (repeat (first | go_big_skip | go_big_want | go_big_move | go_big_op | go_step | go_upon | go_back))
  go_at_call 37
  refine (HND.out _ HQ.out HT.out).mono ?_
  rintro e x6 ⟨rfl, ha⟩
  dsimp only
  replace HQ := Lib.hid (HQ.out.aft (ha))
  replace HT := Lib.hid (HT.out.aft (ha))
  replace HBp11 := Lib.hid (HBp11.out.aft (ha))
  replace HFI := Lib.hid (HFI.out.aft (ha))
  replace HBp18 := Lib.hid (HBp18.out.aft (ha))
  replace HFQ := Lib.hid (HFQ.out.aft (ha))
  replace HA := Lib.hid (HA.out.trans (ha))
  replace H1 := Lib.hid (H1.out.trans (ha))
  clear ha HND c0 c1 c2
  go_upto_region 7 with fail
  obtain ⟨p22, hs_p22⟩ : ∃ p22, x6.heap.size = p22 := ⟨_, rfl⟩
  have p22ge : w.heap.size ≤ p22 := by rw [← hs_p22]; exact HA.out.size
  have p22g1 : W1.heap.size ≤ p22 := by rw [← hs_p22]; exact H1.out.size
  have HBp22 : Hid (Blk (x6.alloc (.cells #[.int .i64 M, .int .i64 1] 37)) (p22) 37 #[.int .i64 M, .int .i64 1]) := Lib.hid (by
    have q := Blk.new x6 37 #[.int .i64 M, .int .i64 1]
    try simp only [World.size_alloc] at q
    rw [hs_p22] at q
    exact q)
  replace HQ := Lib.hid (HQ.out.aft (Aft.alloc x6 (.cells #[.int .i64 M, .int .i64 1] 37)))
  replace HT := Lib.hid (HT.out.aft (Aft.alloc x6 (.cells #[.int .i64 M, .int .i64 1] 37)))
  replace HBp11 := Lib.hid (HBp11.out.aft (Aft.alloc x6 (.cells #[.int .i64 M, .int .i64 1] 37)))
  replace HFI := Lib.hid (HFI.out.aft (Aft.alloc x6 (.cells #[.int .i64 M, .int .i64 1] 37)))
  replace HBp18 := Lib.hid (HBp18.out.aft (Aft.alloc x6 (.cells #[.int .i64 M, .int .i64 1] 37)))
  replace HFQ := Lib.hid (HFQ.out.aft (Aft.alloc x6 (.cells #[.int .i64 M, .int .i64 1] 37)))
  replace HA := Lib.hid (HA.out.trans (Aft.alloc x6 (.cells #[.int .i64 M, .int .i64 1] 37)))
  replace H1 := Lib.hid (H1.out.trans (Aft.alloc x6 (.cells #[.int .i64 M, .int .i64 1] 37)))
  rw [hs_p22]
  generalize x6.alloc (.cells #[.int .i64 M, .int .i64 1] 37) = y7 at *
  clear hs_p22
  have c0 := HBp11.out.cell 0
  have c1 := HBp11.out.cell 1
  have c2 := HBp11.out.lt
  simp only [List.getElem?_toArray, List.getElem?_cons_zero, List.getElem?_cons_succ] at c0 c1
  have d0 := HBp18.out.cell 0
  have d1 := HBp18.out.cell 1
  have d2 := HBp18.out.lt
  have m0 := HBp22.out.cell 0
  have m1 := HBp22.out.cell 1
  have m2 := HBp22.out.lt
  simp only [List.getElem?_toArray, List.getElem?_cons_zero, List.getElem?_cons_succ] at d0 d1 m0 m1
  have t1 : decide (rD < 1) = false := by simp; omega
  have t2 : decide (1000 < rD) = false := by simp; omega
  go_upto_region 9 with fail
  clear c0 c1 c2 d0 d1 d2 m0 m1 m2 t1 t2
  obtain ⟨W2, hW2⟩ : ∃ W2, W2 = y7 := ⟨_, rfl⟩
  have H2 : Hid (Aft W2 y7) := Lib.hid (hW2 ▸ Aft.refl _)
  have KQ := HQ
  have KBp11 := HBp11
  have KFI := HFI
  have KBp18 := HBp18
  have KFQ := HFQ
  have KA := HA
  rw [← hW2] at KQ KBp11 KFI KBp18 KFQ KA
  clear hW2
  have hpM : PlayOk M 1 := ⟨by decide, by decide, hM0, by omega⟩
  have HPM := Lib.hid hpM
  clear hpM
  have c0 := HBp11.out.cell 0
  have c1 := HBp11.out.cell 1
  have c2 := HBp11.out.lt
  simp only [List.getElem?_toArray, List.getElem?_cons_zero, List.getElem?_cons_succ] at c0 c1
  have m0 := HBp22.out.cell 0
  have m1 := HBp22.out.cell 1
  have m2 := HBp22.out.lt
  simp only [List.getElem?_toArray, List.getElem?_cons_zero, List.getElem?_cons_succ] at m0 m1
  (repeat (first | go_big_skip | go_big_want | go_big_move | go_big_op | go_step | go_upon | go_back))
  go_at_call 14
  refine (bt_any (S := ⟨(n : Nat), J⟩) HE.out HPM.out (fun north => HTW.out.most north) HQ.out hun hvn).mono ?_
  rintro e x8 ⟨t0, t1, ha, hc0, hc1, hh⟩
  have HTT : Hid (Tabs ⟨(n : Nat), J⟩ M 1 t0 t1) := Lib.hid ⟨hc0, hc1⟩
  clear hc0 hc1 c0 c1 c2 m0 m1 m2
  replace HQ := Lib.hid (HQ.out.aft (ha))
  replace HT := Lib.hid (HT.out.aft (ha))
  replace HBp11 := Lib.hid (HBp11.out.aft (ha))
  replace HFI := Lib.hid (HFI.out.aft (ha))
  replace HBp18 := Lib.hid (HBp18.out.aft (ha))
  replace HFQ := Lib.hid (HFQ.out.aft (ha))
  replace HBp22 := Lib.hid (HBp22.out.aft (ha))
  replace HA := Lib.hid (HA.out.trans (ha))
  replace H1 := Lib.hid (H1.out.trans (ha))
  replace H2 := Lib.hid (H2.out.trans (ha))
  clear ha
  have hfi := HTT.out.x.far_iff HTI.out hun hvn
  have HHH := Lib.hid hh
  clear hh
  rcases HHH.out with ⟨hf, rfl⟩ | ⟨hf, rfl⟩
  · clear HHH
    have hne := hfi.1 hf
    clear hfi
    dsimp only
    go_upto_region 10 with fail
    obtain ⟨p24, hs_p24⟩ : ∃ p24, x8.heap.size = p24 := ⟨_, rfl⟩
    have p24ge : w.heap.size ≤ p24 := by rw [← hs_p24]; exact HA.out.size
    have p24g1 : W1.heap.size ≤ p24 := by rw [← hs_p24]; exact H1.out.size
    have p24g2 : W2.heap.size ≤ p24 := by rw [← hs_p24]; exact H2.out.size
    have HBp24 : Hid (Blk ((x8.alloc (.cells #[.int .i64 0, .int .i64 0, .int .i64 0, .int .i64 0] 43)).alloc (.cells #[.int .i64 0, .int .i64 0, .int .i64 0, .int .i64 0] 43)) (p24) 43 #[.int .i64 0, .int .i64 0, .int .i64 0, .int .i64 0]) := Lib.hid (by
      have q := (Blk.new x8 43 #[.int .i64 0, .int .i64 0, .int .i64 0, .int .i64 0]).alloc (.cells #[.int .i64 0, .int .i64 0, .int .i64 0, .int .i64 0] 43)
      try simp only [World.size_alloc] at q
      rw [hs_p24] at q
      exact q)
    have HBp25 : Hid (Blk ((x8.alloc (.cells #[.int .i64 0, .int .i64 0, .int .i64 0, .int .i64 0] 43)).alloc (.cells #[.int .i64 0, .int .i64 0, .int .i64 0, .int .i64 0] 43)) (p24 + 1) 43 #[.int .i64 0, .int .i64 0, .int .i64 0, .int .i64 0]) := Lib.hid (by
      have q := Blk.new (x8.alloc (.cells #[.int .i64 0, .int .i64 0, .int .i64 0, .int .i64 0] 43)) 43 #[.int .i64 0, .int .i64 0, .int .i64 0, .int .i64 0]
      try simp only [World.size_alloc] at q
      rw [hs_p24] at q
      exact q)
    replace HQ := Lib.hid (HQ.out.aft ((Aft.alloc x8 (.cells #[.int .i64 0, .int .i64 0, .int .i64 0, .int .i64 0] 43)).then_alloc (.cells #[.int .i64 0, .int .i64 0, .int .i64 0, .int .i64 0] 43)))
    replace HT := Lib.hid (HT.out.aft ((Aft.alloc x8 (.cells #[.int .i64 0, .int .i64 0, .int .i64 0, .int .i64 0] 43)).then_alloc (.cells #[.int .i64 0, .int .i64 0, .int .i64 0, .int .i64 0] 43)))
    replace HBp11 := Lib.hid (HBp11.out.aft ((Aft.alloc x8 (.cells #[.int .i64 0, .int .i64 0, .int .i64 0, .int .i64 0] 43)).then_alloc (.cells #[.int .i64 0, .int .i64 0, .int .i64 0, .int .i64 0] 43)))
    replace HFI := Lib.hid (HFI.out.aft ((Aft.alloc x8 (.cells #[.int .i64 0, .int .i64 0, .int .i64 0, .int .i64 0] 43)).then_alloc (.cells #[.int .i64 0, .int .i64 0, .int .i64 0, .int .i64 0] 43)))
    replace HBp18 := Lib.hid (HBp18.out.aft ((Aft.alloc x8 (.cells #[.int .i64 0, .int .i64 0, .int .i64 0, .int .i64 0] 43)).then_alloc (.cells #[.int .i64 0, .int .i64 0, .int .i64 0, .int .i64 0] 43)))
    replace HFQ := Lib.hid (HFQ.out.aft ((Aft.alloc x8 (.cells #[.int .i64 0, .int .i64 0, .int .i64 0, .int .i64 0] 43)).then_alloc (.cells #[.int .i64 0, .int .i64 0, .int .i64 0, .int .i64 0] 43)))
    replace HBp22 := Lib.hid (HBp22.out.aft ((Aft.alloc x8 (.cells #[.int .i64 0, .int .i64 0, .int .i64 0, .int .i64 0] 43)).then_alloc (.cells #[.int .i64 0, .int .i64 0, .int .i64 0, .int .i64 0] 43)))
    replace HA := Lib.hid (HA.out.trans ((Aft.alloc x8 (.cells #[.int .i64 0, .int .i64 0, .int .i64 0, .int .i64 0] 43)).then_alloc (.cells #[.int .i64 0, .int .i64 0, .int .i64 0, .int .i64 0] 43)))
    replace H1 := Lib.hid (H1.out.trans ((Aft.alloc x8 (.cells #[.int .i64 0, .int .i64 0, .int .i64 0, .int .i64 0] 43)).then_alloc (.cells #[.int .i64 0, .int .i64 0, .int .i64 0, .int .i64 0] 43)))
    replace H2 := Lib.hid (H2.out.trans ((Aft.alloc x8 (.cells #[.int .i64 0, .int .i64 0, .int .i64 0, .int .i64 0] 43)).then_alloc (.cells #[.int .i64 0, .int .i64 0, .int .i64 0, .int .i64 0] 43)))
    rw [hs_p24]
    generalize (x8.alloc (.cells #[.int .i64 0, .int .i64 0, .int .i64 0, .int .i64 0] 43)).alloc (.cells #[.int .i64 0, .int .i64 0, .int .i64 0, .int .i64 0] 43) = y9 at *
    clear hs_p24
    refine wp_region_valsT (by kernel_rfl) 8 369 rfl (by kernel_rfl) (by kernel_rfl) (by kernel_rfl) [.slice (some ⟨g16, 0, none⟩) n c16, .int .i64 (u : Nat), .pointer (some ⟨g16, u, none⟩), .int .i64 (f u : Nat), .slice (some ⟨g16, 0, none⟩) n c16, .int .i64 (v : Nat), .pointer (some ⟨g16, v, none⟩), .int .i64 (f v : Nat)] rfl (fun _ W => Aft y9 W) (Aft.drew _) ?st2 ?fi2
    case st2 =>
      intro i o v ho hv
      match i, ho, hv with
      | 0, ho, hv =>
        cases ho; cases hv
        refine .inl ⟨rfl, fun done a W hd hp hk hw K hK => ?_⟩
        have e16 := hk.same 16 (by decide)
        exact op_val (by simp [go_sem, ev' e16]) (hK _ hw)
      | 1, ho, hv =>
        cases ho; cases hv
        refine .inl ⟨rfl, fun done a W hd hp hk hw K hK => ?_⟩
        have e13 := hk.same 13 (by decide)
        exact op_val (by simp [go_sem, ev' e13]) (hK _ hw)
      | 2, ho, hv =>
        cases ho; cases hv
        refine .inl ⟨rfl, fun done a W hd hp hk hw K hK => ?_⟩
        have e131 := hk.at_ 0 _ 131 _ rfl (by decide) _ rfl rfl rfl
        have e132 := hk.at_ 1 _ 132 _ rfl (by decide) _ rfl rfl rfl
        exact op_val (by simp [go_sem, ev' e131, ev' e132, hun]) (hK _ hw)
      | 3, ho, hv =>
        cases ho; cases hv
        refine .inl ⟨rfl, fun done a W hd hp hk hw K hK => ?_⟩
        have e133 := hk.at_ 2 _ 133 _ rfl (by decide) _ rfl rfl rfl
        exact op_val (by simp [go_sem, ev' e133, (HFI.out.aft hw).cell hun]) (hK _ hw)
      | 4, ho, hv =>
        cases ho; cases hv
        refine .inl ⟨rfl, fun done a W hd hp hk hw K hK => ?_⟩
        have e16 := hk.same 16 (by decide)
        exact op_val (by simp [go_sem, ev' e16]) (hK _ hw)
      | 5, ho, hv =>
        cases ho; cases hv
        refine .inl ⟨rfl, fun done a W hd hp hk hw K hK => ?_⟩
        have e14 := hk.same 14 (by decide)
        exact op_val (by simp [go_sem, ev' e14]) (hK _ hw)
      | 6, ho, hv =>
        cases ho; cases hv
        refine .inl ⟨rfl, fun done a W hd hp hk hw K hK => ?_⟩
        have e135 := hk.at_ 4 _ 135 _ rfl (by decide) _ rfl rfl rfl
        have e136 := hk.at_ 5 _ 136 _ rfl (by decide) _ rfl rfl rfl
        exact op_val (by simp [go_sem, ev' e135, ev' e136, hvn]) (hK _ hw)
      | 7, ho, hv =>
        cases ho; cases hv
        refine .inl ⟨rfl, fun done a W hd hp hk hw K hK => ?_⟩
        have e137 := hk.at_ 6 _ 137 _ rfl (by decide) _ rfl rfl rfl
        exact op_val (by simp [go_sem, ev' e137, (HFI.out.aft hw).cell hvn]) (hK _ hw)
      | _ + 8, _, hv => cases hv
    intro done W hd hw
    simp only [List.drop_succ_cons, List.drop_zero, List.zip_cons_cons, List.zip_nil_right, putAll]
    simp only [Act.put, List.setIfInBounds_toArray, List.set]
    clear hd
    have tne : (((f u : Nat) : Int) != ((f v : Nat) : Int)) = true := bne_iff_ne.2 (by omega)
    clear hne
    replace HQ := Lib.hid (HQ.out.aft (hw))
    replace HT := Lib.hid (HT.out.aft (hw))
    replace HBp11 := Lib.hid (HBp11.out.aft (hw))
    replace HFI := Lib.hid (HFI.out.aft (hw))
    replace HBp18 := Lib.hid (HBp18.out.aft (hw))
    replace HFQ := Lib.hid (HFQ.out.aft (hw))
    replace HBp22 := Lib.hid (HBp22.out.aft (hw))
    replace HBp24 := Lib.hid (HBp24.out.aft (hw))
    replace HBp25 := Lib.hid (HBp25.out.aft (hw))
    replace HA := Lib.hid (HA.out.trans (hw))
    replace H1 := Lib.hid (H1.out.trans (hw))
    replace H2 := Lib.hid (H2.out.trans (hw))
    clear hw
    (repeat (first | go_big_skip | go_big_want | go_big_move | go_big_op | go_step | go_upon | go_back))
    go_at_call 15
    refine (awake_any _).mono ?_
    rintro e x10 ⟨rfl, ha⟩
    dsimp only
    have HAW := Lib.hid (HA.out.trans ha)
    clear ha
    (repeat (first | go_big_skip | go_big_want | go_big_move | go_big_op | go_step | go_upon | go_back))
    go_ret
    exact ⟨rfl, HAW.out⟩
  · clear HHH
    have heq : f u = f v := Classical.byContradiction fun h => hf (hfi.2 h)
    clear hfi
    rw [bt4_one, bt4_one]
    unfold encS
    dsimp only
    have hbk : t0 v u ≠ Sheet.far := HTT.out.back hun hvn hf
    have hb1 := HTT.out.fx HSO.out HPM.out hun hf
    have hb2 := HTT.out.fx HSO.out HPM.out hvn hbk
    have hq1 := HTT.out.pot HTW.out hun hf
    have hq2 := HTT.out.pot HTW.out hvn hbk
    have hx1 := xOf_le HX.out u
    have hx2 := xOf_le HX.out v
    have hy1 := xOf_le HY.out u
    have hy2 := xOf_le HY.out v
    obtain ⟨a0, ea0⟩ : ∃ z, t0 u v = z := ⟨_, rfl⟩
    obtain ⟨a1, ea1⟩ : ∃ z, t1 u v = z := ⟨_, rfl⟩
    obtain ⟨b0, eb0⟩ : ∃ z, t0 v u = z := ⟨_, rfl⟩
    obtain ⟨b1, eb1⟩ : ∃ z, t1 v u = z := ⟨_, rfl⟩
    obtain ⟨nb0, enb0⟩ : ∃ z, -b0 = z := ⟨_, rfl⟩
    obtain ⟨nb1, enb1⟩ : ∃ z, -b1 = z := ⟨_, rfl⟩
    obtain ⟨na0, ena0⟩ : ∃ z, -a0 = z := ⟨_, rfl⟩
    obtain ⟨na1, ena1⟩ : ∃ z, -a1 = z := ⟨_, rfl⟩
    obtain ⟨xu, exu⟩ : ∃ z, xOf X u = z := ⟨_, rfl⟩
    obtain ⟨xv, exv⟩ : ∃ z, xOf X v = z := ⟨_, rfl⟩
    obtain ⟨yu, eyu⟩ : ∃ z, xOf Y u = z := ⟨_, rfl⟩
    obtain ⟨yv, eyv⟩ : ∃ z, xOf Y v = z := ⟨_, rfl⟩
    rw [ea0, ea1, exu, exv, eyu, eyv] at hq1
    rw [eb0, eb1, exu, exv, eyu, eyv] at hq2
    rw [ea0, ea1] at hb1
    rw [eb0, eb1] at hb2
    rw [exu] at hx1
    rw [exv] at hx2
    rw [eyu] at hy1
    rw [eyv] at hy2
    rw [ea0, ea1, eb0, eb1, enb0, enb1]
    have hwa0 : Hid (IntKind.i64.wrap (-a0) = na0) := Lib.hid (by rw [ena0]; exact IntWalk.i64_in _ (by omega))
    have hwa1 : Hid (IntKind.i64.wrap (-a1) = na1) := Lib.hid (by rw [ena1]; exact IntWalk.i64_in _ (by omega))
    have hwb0 : Hid (IntKind.i64.wrap (-nb0) = b0) := Lib.hid (by rw [show -nb0 = b0 by omega]; exact IntWalk.i64_in _ (by omega))
    have hwb1 : Hid (IntKind.i64.wrap (-nb1) = b1) := Lib.hid (by rw [show -nb1 = b1 by omega]; exact IntWalk.i64_in _ (by omega))
    have HLI : Hid (∀ W, Calls Try.prog 39 #[.agg #[.int .i64 xu, .int .i64 1, .int .i64 yu, .int .i64 1], .agg #[.int .i64 xv, .int .i64 1, .int .i64 yv, .int .i64 1], .agg #[.int .i64 nb0, .int .i64 1, .int .i64 a0, .int .i64 1], .agg #[.int .i64 nb1, .int .i64 1, .int .i64 a1, .int .i64 1]] W fun e w' => e = .returned (.bool true) ∧ Aft W w') := Lib.hid (lies_fs (D := 1) (by decide) (.one ⟨by omega, by omega⟩) (.one ⟨by omega, by omega⟩) (.one ⟨by omega, by omega⟩) (.one ⟨by omega, by omega⟩) (.one ⟨by omega, by omega⟩) (.one ⟨by omega, by omega⟩) (.one ⟨by omega, by omega⟩) (.one ⟨by omega, by omega⟩) (by omega) (by omega) (by omega) (by omega))
    have HB2 : Hid (∀ W, Quads W AJ J → Calls Try.prog 14 #[.agg #[.int .i64 (n : Nat), .slice AJ J.length cJ], .int .i64 (v : Nat), .int .i64 (u : Nat), .agg #[.int .i64 M, .int .i64 1]] W fun e w' => e = .returned (.tuple #[.agg #[.int .i64 na0, .int .i64 1, .int .i64 b0, .int .i64 1], .agg #[.int .i64 na1, .int .i64 1, .int .i64 b1, .int .i64 1], .int .i64 0]) ∧ Aft W w') := Lib.hid fun W h => bt_at (S := ⟨(n : Nat), J⟩) HE.out HPM.out (fun north => HTW.out.most north) HTT.out h hvn hun hbk (q0 := ⟨na0, 1, b0, 1⟩) (q1 := ⟨na1, 1, b1, 1⟩) (by rw [bt4_one, ea0, eb0, ena0]) (by rw [bt4_one, ea1, eb1, ena1])
    have HEX : Hid (xOf X u = xu ∧ xOf X v = xv ∧ xOf Y u = yu ∧ xOf Y v = yv) := Lib.hid ⟨exu, exv, eyu, eyv⟩
    clear hbk hb1 hb2 hq1 hq2 hx1 hx2 hy1 hy2 ea0 ea1 eb0 eb1 enb0 enb1 ena0 ena1 exu exv eyu eyv hf HTT
    go_upto_region 10 with fail
    obtain ⟨p24, hs_p24⟩ : ∃ p24, x8.heap.size = p24 := ⟨_, rfl⟩
    have p24ge : w.heap.size ≤ p24 := by rw [← hs_p24]; exact HA.out.size
    have p24g1 : W1.heap.size ≤ p24 := by rw [← hs_p24]; exact H1.out.size
    have p24g2 : W2.heap.size ≤ p24 := by rw [← hs_p24]; exact H2.out.size
    have HBp24 : Hid (Blk ((x8.alloc (.cells #[.int .i64 nb0, .int .i64 1, .int .i64 a0, .int .i64 1] 43)).alloc (.cells #[.int .i64 nb1, .int .i64 1, .int .i64 a1, .int .i64 1] 43)) (p24) 43 #[.int .i64 nb0, .int .i64 1, .int .i64 a0, .int .i64 1]) := Lib.hid (by
      have q := (Blk.new x8 43 #[.int .i64 nb0, .int .i64 1, .int .i64 a0, .int .i64 1]).alloc (.cells #[.int .i64 nb1, .int .i64 1, .int .i64 a1, .int .i64 1] 43)
      try simp only [World.size_alloc] at q
      rw [hs_p24] at q
      exact q)
    have HBp25 : Hid (Blk ((x8.alloc (.cells #[.int .i64 nb0, .int .i64 1, .int .i64 a0, .int .i64 1] 43)).alloc (.cells #[.int .i64 nb1, .int .i64 1, .int .i64 a1, .int .i64 1] 43)) (p24 + 1) 43 #[.int .i64 nb1, .int .i64 1, .int .i64 a1, .int .i64 1]) := Lib.hid (by
      have q := Blk.new (x8.alloc (.cells #[.int .i64 nb0, .int .i64 1, .int .i64 a0, .int .i64 1] 43)) 43 #[.int .i64 nb1, .int .i64 1, .int .i64 a1, .int .i64 1]
      try simp only [World.size_alloc] at q
      rw [hs_p24] at q
      exact q)
    replace HQ := Lib.hid (HQ.out.aft ((Aft.alloc x8 (.cells #[.int .i64 nb0, .int .i64 1, .int .i64 a0, .int .i64 1] 43)).then_alloc (.cells #[.int .i64 nb1, .int .i64 1, .int .i64 a1, .int .i64 1] 43)))
    replace HT := Lib.hid (HT.out.aft ((Aft.alloc x8 (.cells #[.int .i64 nb0, .int .i64 1, .int .i64 a0, .int .i64 1] 43)).then_alloc (.cells #[.int .i64 nb1, .int .i64 1, .int .i64 a1, .int .i64 1] 43)))
    replace HBp11 := Lib.hid (HBp11.out.aft ((Aft.alloc x8 (.cells #[.int .i64 nb0, .int .i64 1, .int .i64 a0, .int .i64 1] 43)).then_alloc (.cells #[.int .i64 nb1, .int .i64 1, .int .i64 a1, .int .i64 1] 43)))
    replace HFI := Lib.hid (HFI.out.aft ((Aft.alloc x8 (.cells #[.int .i64 nb0, .int .i64 1, .int .i64 a0, .int .i64 1] 43)).then_alloc (.cells #[.int .i64 nb1, .int .i64 1, .int .i64 a1, .int .i64 1] 43)))
    replace HBp18 := Lib.hid (HBp18.out.aft ((Aft.alloc x8 (.cells #[.int .i64 nb0, .int .i64 1, .int .i64 a0, .int .i64 1] 43)).then_alloc (.cells #[.int .i64 nb1, .int .i64 1, .int .i64 a1, .int .i64 1] 43)))
    replace HFQ := Lib.hid (HFQ.out.aft ((Aft.alloc x8 (.cells #[.int .i64 nb0, .int .i64 1, .int .i64 a0, .int .i64 1] 43)).then_alloc (.cells #[.int .i64 nb1, .int .i64 1, .int .i64 a1, .int .i64 1] 43)))
    replace HBp22 := Lib.hid (HBp22.out.aft ((Aft.alloc x8 (.cells #[.int .i64 nb0, .int .i64 1, .int .i64 a0, .int .i64 1] 43)).then_alloc (.cells #[.int .i64 nb1, .int .i64 1, .int .i64 a1, .int .i64 1] 43)))
    replace HA := Lib.hid (HA.out.trans ((Aft.alloc x8 (.cells #[.int .i64 nb0, .int .i64 1, .int .i64 a0, .int .i64 1] 43)).then_alloc (.cells #[.int .i64 nb1, .int .i64 1, .int .i64 a1, .int .i64 1] 43)))
    replace H1 := Lib.hid (H1.out.trans ((Aft.alloc x8 (.cells #[.int .i64 nb0, .int .i64 1, .int .i64 a0, .int .i64 1] 43)).then_alloc (.cells #[.int .i64 nb1, .int .i64 1, .int .i64 a1, .int .i64 1] 43)))
    replace H2 := Lib.hid (H2.out.trans ((Aft.alloc x8 (.cells #[.int .i64 nb0, .int .i64 1, .int .i64 a0, .int .i64 1] 43)).then_alloc (.cells #[.int .i64 nb1, .int .i64 1, .int .i64 a1, .int .i64 1] 43)))
    rw [hs_p24]
    generalize (x8.alloc (.cells #[.int .i64 nb0, .int .i64 1, .int .i64 a0, .int .i64 1] 43)).alloc (.cells #[.int .i64 nb1, .int .i64 1, .int .i64 a1, .int .i64 1] 43) = y16 at *
    clear hs_p24
    refine wp_region_valsT (by kernel_rfl) 8 369 rfl (by kernel_rfl) (by kernel_rfl) (by kernel_rfl) [.slice (some ⟨g16, 0, none⟩) n c16, .int .i64 (u : Nat), .pointer (some ⟨g16, u, none⟩), .int .i64 (f u : Nat), .slice (some ⟨g16, 0, none⟩) n c16, .int .i64 (v : Nat), .pointer (some ⟨g16, v, none⟩), .int .i64 (f v : Nat)] rfl (fun _ W => Aft y16 W) (Aft.drew _) ?st3 ?fi3
    case st3 =>
      intro i o v ho hv
      match i, ho, hv with
      | 0, ho, hv =>
        cases ho; cases hv
        refine .inl ⟨rfl, fun done a W hd hp hk hw K hK => ?_⟩
        have e16 := hk.same 16 (by decide)
        exact op_val (by simp [go_sem, ev' e16]) (hK _ hw)
      | 1, ho, hv =>
        cases ho; cases hv
        refine .inl ⟨rfl, fun done a W hd hp hk hw K hK => ?_⟩
        have e13 := hk.same 13 (by decide)
        exact op_val (by simp [go_sem, ev' e13]) (hK _ hw)
      | 2, ho, hv =>
        cases ho; cases hv
        refine .inl ⟨rfl, fun done a W hd hp hk hw K hK => ?_⟩
        have e131 := hk.at_ 0 _ 131 _ rfl (by decide) _ rfl rfl rfl
        have e132 := hk.at_ 1 _ 132 _ rfl (by decide) _ rfl rfl rfl
        exact op_val (by simp [go_sem, ev' e131, ev' e132, hun]) (hK _ hw)
      | 3, ho, hv =>
        cases ho; cases hv
        refine .inl ⟨rfl, fun done a W hd hp hk hw K hK => ?_⟩
        have e133 := hk.at_ 2 _ 133 _ rfl (by decide) _ rfl rfl rfl
        exact op_val (by simp [go_sem, ev' e133, (HFI.out.aft hw).cell hun]) (hK _ hw)
      | 4, ho, hv =>
        cases ho; cases hv
        refine .inl ⟨rfl, fun done a W hd hp hk hw K hK => ?_⟩
        have e16 := hk.same 16 (by decide)
        exact op_val (by simp [go_sem, ev' e16]) (hK _ hw)
      | 5, ho, hv =>
        cases ho; cases hv
        refine .inl ⟨rfl, fun done a W hd hp hk hw K hK => ?_⟩
        have e14 := hk.same 14 (by decide)
        exact op_val (by simp [go_sem, ev' e14]) (hK _ hw)
      | 6, ho, hv =>
        cases ho; cases hv
        refine .inl ⟨rfl, fun done a W hd hp hk hw K hK => ?_⟩
        have e135 := hk.at_ 4 _ 135 _ rfl (by decide) _ rfl rfl rfl
        have e136 := hk.at_ 5 _ 136 _ rfl (by decide) _ rfl rfl rfl
        exact op_val (by simp [go_sem, ev' e135, ev' e136, hvn]) (hK _ hw)
      | 7, ho, hv =>
        cases ho; cases hv
        refine .inl ⟨rfl, fun done a W hd hp hk hw K hK => ?_⟩
        have e137 := hk.at_ 6 _ 137 _ rfl (by decide) _ rfl rfl rfl
        exact op_val (by simp [go_sem, ev' e137, (HFI.out.aft hw).cell hvn]) (hK _ hw)
      | _ + 8, _, hv => cases hv
    intro done W hd hw
    simp only [List.drop_succ_cons, List.drop_zero, List.zip_cons_cons, List.zip_nil_right, putAll]
    simp only [Act.put, List.setIfInBounds_toArray, List.set]
    clear hd
    have teq : (((f u : Nat) : Int) != ((f v : Nat) : Int)) = false := by rw [heq]; exact bne_self_eq_false _
    replace HQ := Lib.hid (HQ.out.aft (hw))
    replace HT := Lib.hid (HT.out.aft (hw))
    replace HBp11 := Lib.hid (HBp11.out.aft (hw))
    replace HFI := Lib.hid (HFI.out.aft (hw))
    replace HBp18 := Lib.hid (HBp18.out.aft (hw))
    replace HFQ := Lib.hid (HFQ.out.aft (hw))
    replace HBp22 := Lib.hid (HBp22.out.aft (hw))
    replace HBp24 := Lib.hid (HBp24.out.aft (hw))
    replace HBp25 := Lib.hid (HBp25.out.aft (hw))
    replace HA := Lib.hid (HA.out.trans (hw))
    replace H1 := Lib.hid (H1.out.trans (hw))
    replace H2 := Lib.hid (H2.out.trans (hw))
    clear hw
    go_upto_region 12 with fail
    clear teq
    have c0 := HBp11.out.cell 0
    have c1 := HBp11.out.cell 1
    have c2 := HBp11.out.lt
    simp only [List.getElem?_toArray, List.getElem?_cons_zero, List.getElem?_cons_succ] at c0 c1
    have m0 := HBp22.out.cell 0
    have m1 := HBp22.out.cell 1
    have m2 := HBp22.out.lt
    simp only [List.getElem?_toArray, List.getElem?_cons_zero, List.getElem?_cons_succ] at m0 m1
    (repeat (first | go_big_skip | go_big_want | go_big_move | go_big_op | go_step | go_upon | go_back))
    go_at_call 14
    refine (HB2.out _ HQ.out).mono ?_
    rintro e x17 ⟨rfl, ha⟩
    dsimp only
    clear c0 c1 c2 m0 m1 m2 HB2
    replace HQ := Lib.hid (HQ.out.aft (ha))
    replace HT := Lib.hid (HT.out.aft (ha))
    replace HBp11 := Lib.hid (HBp11.out.aft (ha))
    replace HFI := Lib.hid (HFI.out.aft (ha))
    replace HBp18 := Lib.hid (HBp18.out.aft (ha))
    replace HFQ := Lib.hid (HFQ.out.aft (ha))
    replace HBp22 := Lib.hid (HBp22.out.aft (ha))
    replace HBp24 := Lib.hid (HBp24.out.aft (ha))
    replace HBp25 := Lib.hid (HBp25.out.aft (ha))
    replace HA := Lib.hid (HA.out.trans (ha))
    replace H1 := Lib.hid (H1.out.trans (ha))
    replace H2 := Lib.hid (H2.out.trans (ha))
    clear ha
    go_upto_region 13 with fail
    obtain ⟨p26, hs_p26⟩ : ∃ p26, x17.heap.size = p26 := ⟨_, rfl⟩
    have p26ge : w.heap.size ≤ p26 := by rw [← hs_p26]; exact HA.out.size
    have p26g1 : W1.heap.size ≤ p26 := by rw [← hs_p26]; exact H1.out.size
    have HBp26 : Hid (Blk ((x17.alloc (.cells #[.int .i64 na0, .int .i64 1, .int .i64 b0, .int .i64 1] 43)).alloc (.cells #[.int .i64 na1, .int .i64 1, .int .i64 b1, .int .i64 1] 43)) (p26) 43 #[.int .i64 na0, .int .i64 1, .int .i64 b0, .int .i64 1]) := Lib.hid (by
      have q := (Blk.new x17 43 #[.int .i64 na0, .int .i64 1, .int .i64 b0, .int .i64 1]).alloc (.cells #[.int .i64 na1, .int .i64 1, .int .i64 b1, .int .i64 1] 43)
      try simp only [World.size_alloc] at q
      rw [hs_p26] at q
      exact q)
    have HBp27 : Hid (Blk ((x17.alloc (.cells #[.int .i64 na0, .int .i64 1, .int .i64 b0, .int .i64 1] 43)).alloc (.cells #[.int .i64 na1, .int .i64 1, .int .i64 b1, .int .i64 1] 43)) (p26 + 1) 43 #[.int .i64 na1, .int .i64 1, .int .i64 b1, .int .i64 1]) := Lib.hid (by
      have q := Blk.new (x17.alloc (.cells #[.int .i64 na0, .int .i64 1, .int .i64 b0, .int .i64 1] 43)) 43 #[.int .i64 na1, .int .i64 1, .int .i64 b1, .int .i64 1]
      try simp only [World.size_alloc] at q
      rw [hs_p26] at q
      exact q)
    replace HQ := Lib.hid (HQ.out.aft ((Aft.alloc x17 (.cells #[.int .i64 na0, .int .i64 1, .int .i64 b0, .int .i64 1] 43)).then_alloc (.cells #[.int .i64 na1, .int .i64 1, .int .i64 b1, .int .i64 1] 43)))
    replace HT := Lib.hid (HT.out.aft ((Aft.alloc x17 (.cells #[.int .i64 na0, .int .i64 1, .int .i64 b0, .int .i64 1] 43)).then_alloc (.cells #[.int .i64 na1, .int .i64 1, .int .i64 b1, .int .i64 1] 43)))
    replace HBp11 := Lib.hid (HBp11.out.aft ((Aft.alloc x17 (.cells #[.int .i64 na0, .int .i64 1, .int .i64 b0, .int .i64 1] 43)).then_alloc (.cells #[.int .i64 na1, .int .i64 1, .int .i64 b1, .int .i64 1] 43)))
    replace HFI := Lib.hid (HFI.out.aft ((Aft.alloc x17 (.cells #[.int .i64 na0, .int .i64 1, .int .i64 b0, .int .i64 1] 43)).then_alloc (.cells #[.int .i64 na1, .int .i64 1, .int .i64 b1, .int .i64 1] 43)))
    replace HBp18 := Lib.hid (HBp18.out.aft ((Aft.alloc x17 (.cells #[.int .i64 na0, .int .i64 1, .int .i64 b0, .int .i64 1] 43)).then_alloc (.cells #[.int .i64 na1, .int .i64 1, .int .i64 b1, .int .i64 1] 43)))
    replace HFQ := Lib.hid (HFQ.out.aft ((Aft.alloc x17 (.cells #[.int .i64 na0, .int .i64 1, .int .i64 b0, .int .i64 1] 43)).then_alloc (.cells #[.int .i64 na1, .int .i64 1, .int .i64 b1, .int .i64 1] 43)))
    replace HBp22 := Lib.hid (HBp22.out.aft ((Aft.alloc x17 (.cells #[.int .i64 na0, .int .i64 1, .int .i64 b0, .int .i64 1] 43)).then_alloc (.cells #[.int .i64 na1, .int .i64 1, .int .i64 b1, .int .i64 1] 43)))
    replace HBp24 := Lib.hid (HBp24.out.aft ((Aft.alloc x17 (.cells #[.int .i64 na0, .int .i64 1, .int .i64 b0, .int .i64 1] 43)).then_alloc (.cells #[.int .i64 na1, .int .i64 1, .int .i64 b1, .int .i64 1] 43)))
    replace HBp25 := Lib.hid (HBp25.out.aft ((Aft.alloc x17 (.cells #[.int .i64 na0, .int .i64 1, .int .i64 b0, .int .i64 1] 43)).then_alloc (.cells #[.int .i64 na1, .int .i64 1, .int .i64 b1, .int .i64 1] 43)))
    replace HA := Lib.hid (HA.out.trans ((Aft.alloc x17 (.cells #[.int .i64 na0, .int .i64 1, .int .i64 b0, .int .i64 1] 43)).then_alloc (.cells #[.int .i64 na1, .int .i64 1, .int .i64 b1, .int .i64 1] 43)))
    replace H1 := Lib.hid (H1.out.trans ((Aft.alloc x17 (.cells #[.int .i64 na0, .int .i64 1, .int .i64 b0, .int .i64 1] 43)).then_alloc (.cells #[.int .i64 na1, .int .i64 1, .int .i64 b1, .int .i64 1] 43)))
    replace H2 := Lib.hid (H2.out.trans ((Aft.alloc x17 (.cells #[.int .i64 na0, .int .i64 1, .int .i64 b0, .int .i64 1] 43)).then_alloc (.cells #[.int .i64 na1, .int .i64 1, .int .i64 b1, .int .i64 1] 43)))
    rw [hs_p26]
    generalize (x17.alloc (.cells #[.int .i64 na0, .int .i64 1, .int .i64 b0, .int .i64 1] 43)).alloc (.cells #[.int .i64 na1, .int .i64 1, .int .i64 b1, .int .i64 1] 43) = y18 at *
    clear hs_p26
    obtain ⟨bT, oT, rfl, -, -⟩ := HT.out.at (k := u) (by simpa using hun)
    have HCT : Hid (∀ W, Quads W (some ⟨bT, oT, none⟩) ((List.range n).map (trJ X Y)) → (W.cell? ⟨bT, oT + u * 4, none⟩ = some (.int .i64 xu) ∧ W.cell? ⟨bT, oT + u * 4 + 1, none⟩ = some (.int .i64 1) ∧ W.cell? ⟨bT, oT + u * 4 + 2, none⟩ = some (.int .i64 yu) ∧ W.cell? ⟨bT, oT + u * 4 + 3, none⟩ = some (.int .i64 1)) ∧ (W.cell? ⟨bT, oT + v * 4, none⟩ = some (.int .i64 xv) ∧ W.cell? ⟨bT, oT + v * 4 + 1, none⟩ = some (.int .i64 1) ∧ W.cell? ⟨bT, oT + v * 4 + 2, none⟩ = some (.int .i64 yv) ∧ W.cell? ⟨bT, oT + v * 4 + 3, none⟩ = some (.int .i64 1))) := Lib.hid fun W h => by
      obtain ⟨e1, e2, e3, e4⟩ := HEX.out
      have h1 := tr_cells h hun
      have h2 := tr_cells h hvn
      rw [e1, e3] at h1
      rw [e2, e4] at h2
      exact ⟨h1, h2⟩
    clear HEX
    refine wp_region_valsT (by kernel_rfl) 58 369 rfl (by kernel_rfl) (by kernel_rfl) (by kernel_rfl) [.int .i64 0, .bool false, .bool false, .int .i64 0, .bool false, .bool false, .bool false, .pointer (some ⟨p26, 0, none⟩), .agg #[.int .i64 na0, .int .i64 1], .pointer (some ⟨p24, 2, none⟩), .pointer (some ⟨p24, 2, none⟩), .int .i64 a0, .int .i64 na0, .pointer (some ⟨p24, 2, none⟩), .pointer (some ⟨p24, 3, none⟩), .int .i64 1, .agg #[.int .i64 na0, .int .i64 1], .bool false, .bool false, .bool false, .pointer (some ⟨p26, 2, none⟩), .agg #[.int .i64 b0, .int .i64 1], .pointer (some ⟨p24, 0, none⟩), .pointer (some ⟨p24, 0, none⟩), .int .i64 nb0, .int .i64 b0, .pointer (some ⟨p24, 0, none⟩), .pointer (some ⟨p24, 1, none⟩), .int .i64 1, .agg #[.int .i64 b0, .int .i64 1], .bool false, .bool false, .bool false, .pointer (some ⟨p26 + 1, 0, none⟩), .agg #[.int .i64 na1, .int .i64 1], .pointer (some ⟨p24 + 1, 2, none⟩), .pointer (some ⟨p24 + 1, 2, none⟩), .int .i64 a1, .int .i64 na1, .pointer (some ⟨p24 + 1, 2, none⟩), .pointer (some ⟨p24 + 1, 3, none⟩), .int .i64 1, .agg #[.int .i64 na1, .int .i64 1], .bool false, .bool false, .bool false, .slice (some ⟨bT, oT, none⟩) n cT, .int .i64 (u : Nat), .pointer (some ⟨bT, oT + u * 4, none⟩), .agg #[.int .i64 xu, .int .i64 1, .int .i64 yu, .int .i64 1], .slice (some ⟨bT, oT, none⟩) n cT, .int .i64 (v : Nat), .pointer (some ⟨bT, oT + v * 4, none⟩), .agg #[.int .i64 xv, .int .i64 1, .int .i64 yv, .int .i64 1], .agg #[.int .i64 nb0, .int .i64 1, .int .i64 a0, .int .i64 1], .agg #[.int .i64 nb1, .int .i64 1, .int .i64 a1, .int .i64 1], .bool true, .bool false] rfl (fun _ W => Aft y18 W) (Aft.drew _) ?st4 ?fi4
    case st4 =>
      intro i o v ho hv
      match i, ho, hv with
      | 0, ho, hv =>
        cases ho; cases hv
        refine .inl ⟨rfl, fun done a W hd hp hk hw K hK => ?_⟩
        have e17 := hk.same 17 (by decide)
        exact op_val (by simp [go_sem, ev' e17]) (hK _ hw)
      | 1, ho, hv =>
        cases ho; cases hv
        refine .inl ⟨rfl, fun done a W hd hp hk hw K hK => ?_⟩
        have e154 := hk.at_ 0 _ 154 _ rfl (by decide) _ rfl rfl rfl
        exact op_val (by simp [go_sem, ev' e154]) (hK _ hw)
      | 2, ho, hv =>
        cases ho; cases hv
        refine .inl ⟨rfl, fun done a W hd hp hk hw K hK => ?_⟩
        have e155 := hk.at_ 1 _ 155 _ rfl (by decide) _ rfl rfl rfl
        exact op_val (by simp [go_sem, ev' e155]) (hK _ hw)
      | 3, ho, hv =>
        cases ho; cases hv
        refine .inl ⟨rfl, fun done a W hd hp hk hw K hK => ?_⟩
        have e19 := hk.same 19 (by decide)
        exact op_val (by simp [go_sem, ev' e19]) (hK _ hw)
      | 4, ho, hv =>
        cases ho; cases hv
        refine .inl ⟨rfl, fun done a W hd hp hk hw K hK => ?_⟩
        have e157 := hk.at_ 3 _ 157 _ rfl (by decide) _ rfl rfl rfl
        exact op_val (by simp [go_sem, ev' e157]) (hK _ hw)
      | 5, ho, hv =>
        cases ho; cases hv
        refine .inl ⟨rfl, fun done a W hd hp hk hw K hK => ?_⟩
        have e156 := hk.at_ 2 _ 156 _ rfl (by decide) _ rfl rfl rfl
        have e158 := hk.at_ 4 _ 158 _ rfl (by decide) _ rfl rfl rfl
        exact op_val (by simp [go_sem, ev' e156, ev' e158]) (hK _ hw)
      | 6, ho, hv =>
        cases ho; cases hv
        refine .inl ⟨rfl, fun done a W hd hp hk hw K hK => ?_⟩
        have e159 := hk.at_ 5 _ 159 _ rfl (by decide) _ rfl rfl rfl
        exact op_val (by simp [go_sem, ev' e159]) (hK _ hw)
      | 7, ho, hv =>
        cases ho; cases hv
        refine .inl ⟨rfl, fun done a W hd hp hk hw K hK => ?_⟩
        have e26 := hk.same 26 (by decide)
        exact op_val (by simp [go_sem, ev' e26]) (hK _ hw)
      | 8, ho, hv =>
        cases ho; cases hv
        refine .inl ⟨rfl, fun done a W hd hp hk hw K hK => ?_⟩
        have e161 := hk.at_ 7 _ 161 _ rfl (by decide) _ rfl rfl rfl
        exact op_val (by simp [go_sem, ev' e161, (HBp26.out.aft hw).cell 0, (HBp26.out.aft hw).cell 1]) (hK _ hw)
      | 9, ho, hv =>
        cases ho; cases hv
        refine .inl ⟨rfl, fun done a W hd hp hk hw K hK => ?_⟩
        have e24 := hk.same 24 (by decide)
        exact op_val (by simp [go_sem, ev' e24]) (hK _ hw)
      | 10, ho, hv =>
        cases ho; cases hv
        refine .inl ⟨rfl, fun done a W hd hp hk hw K hK => ?_⟩
        have e163 := hk.at_ 9 _ 163 _ rfl (by decide) _ rfl rfl rfl
        exact op_val (by simp [go_sem, ev' e163]) (hK _ hw)
      | 11, ho, hv =>
        cases ho; cases hv
        refine .inl ⟨rfl, fun done a W hd hp hk hw K hK => ?_⟩
        have e164 := hk.at_ 10 _ 164 _ rfl (by decide) _ rfl rfl rfl
        exact op_val (by simp [go_sem, ev' e164, (HBp24.out.aft hw).cell 2]) (hK _ hw)
      | 12, ho, hv =>
        cases ho; cases hv
        refine .inl ⟨rfl, fun done a W hd hp hk hw K hK => ?_⟩
        have e165 := hk.at_ 11 _ 165 _ rfl (by decide) _ rfl rfl rfl
        exact op_val (by simp [go_sem, ev' e165, hwa0.out]) (hK _ hw)
      | 13, ho, hv =>
        cases ho; cases hv
        refine .inl ⟨rfl, fun done a W hd hp hk hw K hK => ?_⟩
        have e24 := hk.same 24 (by decide)
        exact op_val (by simp [go_sem, ev' e24]) (hK _ hw)
      | 14, ho, hv =>
        cases ho; cases hv
        refine .inl ⟨rfl, fun done a W hd hp hk hw K hK => ?_⟩
        have e167 := hk.at_ 13 _ 167 _ rfl (by decide) _ rfl rfl rfl
        exact op_val (by simp [go_sem, ev' e167]) (hK _ hw)
      | 15, ho, hv =>
        cases ho; cases hv
        refine .inl ⟨rfl, fun done a W hd hp hk hw K hK => ?_⟩
        have e168 := hk.at_ 14 _ 168 _ rfl (by decide) _ rfl rfl rfl
        exact op_val (by simp [go_sem, ev' e168, (HBp24.out.aft hw).cell 3]) (hK _ hw)
      | 16, ho, hv =>
        cases ho; cases hv
        refine .inl ⟨rfl, fun done a W hd hp hk hw K hK => ?_⟩
        have e166 := hk.at_ 12 _ 166 _ rfl (by decide) _ rfl rfl rfl
        have e169 := hk.at_ 15 _ 169 _ rfl (by decide) _ rfl rfl rfl
        refine op_callN rfl rfl rfl _ rfl (vs := #[.int .i64 na0, .int .i64 1]) (by simp [e166, e169]) (ratioL_any na0 1 W) ?_
        rintro e w7 ⟨rfl, hw7⟩
        exact ⟨_, rfl, hK _ (hw.trans hw7)⟩
      | 17, ho, hv =>
        cases ho; cases hv
        refine .inl ⟨rfl, fun done a W hd hp hk hw K hK => ?_⟩
        have e162 := hk.at_ 8 _ 162 _ rfl (by decide) _ rfl rfl rfl
        have e170 := hk.at_ 16 _ 170 _ rfl (by decide) _ rfl rfl rfl
        exact op_val (by simp [go_sem, ev' e162, ev' e170]) (hK _ hw)
      | 18, ho, hv =>
        cases ho; cases hv
        refine .inl ⟨rfl, fun done a W hd hp hk hw K hK => ?_⟩
        have e160 := hk.at_ 6 _ 160 _ rfl (by decide) _ rfl rfl rfl
        have e171 := hk.at_ 17 _ 171 _ rfl (by decide) _ rfl rfl rfl
        exact op_val (by simp [go_sem, ev' e160, ev' e171]) (hK _ hw)
      | 19, ho, hv =>
        cases ho; cases hv
        refine .inl ⟨rfl, fun done a W hd hp hk hw K hK => ?_⟩
        have e172 := hk.at_ 18 _ 172 _ rfl (by decide) _ rfl rfl rfl
        exact op_val (by simp [go_sem, ev' e172]) (hK _ hw)
      | 20, ho, hv =>
        cases ho; cases hv
        refine .inl ⟨rfl, fun done a W hd hp hk hw K hK => ?_⟩
        have e26 := hk.same 26 (by decide)
        exact op_val (by simp [go_sem, ev' e26]) (hK _ hw)
      | 21, ho, hv =>
        cases ho; cases hv
        refine .inl ⟨rfl, fun done a W hd hp hk hw K hK => ?_⟩
        have e174 := hk.at_ 20 _ 174 _ rfl (by decide) _ rfl rfl rfl
        exact op_val (by simp [go_sem, ev' e174, (HBp26.out.aft hw).cell 2, (HBp26.out.aft hw).cell 3]) (hK _ hw)
      | 22, ho, hv =>
        cases ho; cases hv
        refine .inl ⟨rfl, fun done a W hd hp hk hw K hK => ?_⟩
        have e24 := hk.same 24 (by decide)
        exact op_val (by simp [go_sem, ev' e24]) (hK _ hw)
      | 23, ho, hv =>
        cases ho; cases hv
        refine .inl ⟨rfl, fun done a W hd hp hk hw K hK => ?_⟩
        have e176 := hk.at_ 22 _ 176 _ rfl (by decide) _ rfl rfl rfl
        exact op_val (by simp [go_sem, ev' e176]) (hK _ hw)
      | 24, ho, hv =>
        cases ho; cases hv
        refine .inl ⟨rfl, fun done a W hd hp hk hw K hK => ?_⟩
        have e177 := hk.at_ 23 _ 177 _ rfl (by decide) _ rfl rfl rfl
        exact op_val (by simp [go_sem, ev' e177, (HBp24.out.aft hw).cell 0]) (hK _ hw)
      | 25, ho, hv =>
        cases ho; cases hv
        refine .inl ⟨rfl, fun done a W hd hp hk hw K hK => ?_⟩
        have e178 := hk.at_ 24 _ 178 _ rfl (by decide) _ rfl rfl rfl
        exact op_val (by simp [go_sem, ev' e178, hwb0.out]) (hK _ hw)
      | 26, ho, hv =>
        cases ho; cases hv
        refine .inl ⟨rfl, fun done a W hd hp hk hw K hK => ?_⟩
        have e24 := hk.same 24 (by decide)
        exact op_val (by simp [go_sem, ev' e24]) (hK _ hw)
      | 27, ho, hv =>
        cases ho; cases hv
        refine .inl ⟨rfl, fun done a W hd hp hk hw K hK => ?_⟩
        have e180 := hk.at_ 26 _ 180 _ rfl (by decide) _ rfl rfl rfl
        exact op_val (by simp [go_sem, ev' e180]) (hK _ hw)
      | 28, ho, hv =>
        cases ho; cases hv
        refine .inl ⟨rfl, fun done a W hd hp hk hw K hK => ?_⟩
        have e181 := hk.at_ 27 _ 181 _ rfl (by decide) _ rfl rfl rfl
        exact op_val (by simp [go_sem, ev' e181, (HBp24.out.aft hw).cell 1]) (hK _ hw)
      | 29, ho, hv =>
        cases ho; cases hv
        refine .inl ⟨rfl, fun done a W hd hp hk hw K hK => ?_⟩
        have e179 := hk.at_ 25 _ 179 _ rfl (by decide) _ rfl rfl rfl
        have e182 := hk.at_ 28 _ 182 _ rfl (by decide) _ rfl rfl rfl
        refine op_callN rfl rfl rfl _ rfl (vs := #[.int .i64 b0, .int .i64 1]) (by simp [e179, e182]) (ratioL_any b0 1 W) ?_
        rintro e w7 ⟨rfl, hw7⟩
        exact ⟨_, rfl, hK _ (hw.trans hw7)⟩
      | 30, ho, hv =>
        cases ho; cases hv
        refine .inl ⟨rfl, fun done a W hd hp hk hw K hK => ?_⟩
        have e175 := hk.at_ 21 _ 175 _ rfl (by decide) _ rfl rfl rfl
        have e183 := hk.at_ 29 _ 183 _ rfl (by decide) _ rfl rfl rfl
        exact op_val (by simp [go_sem, ev' e175, ev' e183]) (hK _ hw)
      | 31, ho, hv =>
        cases ho; cases hv
        refine .inl ⟨rfl, fun done a W hd hp hk hw K hK => ?_⟩
        have e173 := hk.at_ 19 _ 173 _ rfl (by decide) _ rfl rfl rfl
        have e184 := hk.at_ 30 _ 184 _ rfl (by decide) _ rfl rfl rfl
        exact op_val (by simp [go_sem, ev' e173, ev' e184]) (hK _ hw)
      | 32, ho, hv =>
        cases ho; cases hv
        refine .inl ⟨rfl, fun done a W hd hp hk hw K hK => ?_⟩
        have e185 := hk.at_ 31 _ 185 _ rfl (by decide) _ rfl rfl rfl
        exact op_val (by simp [go_sem, ev' e185]) (hK _ hw)
      | 33, ho, hv =>
        cases ho; cases hv
        refine .inl ⟨rfl, fun done a W hd hp hk hw K hK => ?_⟩
        have e27 := hk.same 27 (by decide)
        exact op_val (by simp [go_sem, ev' e27]) (hK _ hw)
      | 34, ho, hv =>
        cases ho; cases hv
        refine .inl ⟨rfl, fun done a W hd hp hk hw K hK => ?_⟩
        have e187 := hk.at_ 33 _ 187 _ rfl (by decide) _ rfl rfl rfl
        exact op_val (by simp [go_sem, ev' e187, (HBp27.out.aft hw).cell 0, (HBp27.out.aft hw).cell 1]) (hK _ hw)
      | 35, ho, hv =>
        cases ho; cases hv
        refine .inl ⟨rfl, fun done a W hd hp hk hw K hK => ?_⟩
        have e25 := hk.same 25 (by decide)
        exact op_val (by simp [go_sem, ev' e25]) (hK _ hw)
      | 36, ho, hv =>
        cases ho; cases hv
        refine .inl ⟨rfl, fun done a W hd hp hk hw K hK => ?_⟩
        have e189 := hk.at_ 35 _ 189 _ rfl (by decide) _ rfl rfl rfl
        exact op_val (by simp [go_sem, ev' e189]) (hK _ hw)
      | 37, ho, hv =>
        cases ho; cases hv
        refine .inl ⟨rfl, fun done a W hd hp hk hw K hK => ?_⟩
        have e190 := hk.at_ 36 _ 190 _ rfl (by decide) _ rfl rfl rfl
        exact op_val (by simp [go_sem, ev' e190, (HBp25.out.aft hw).cell 2]) (hK _ hw)
      | 38, ho, hv =>
        cases ho; cases hv
        refine .inl ⟨rfl, fun done a W hd hp hk hw K hK => ?_⟩
        have e191 := hk.at_ 37 _ 191 _ rfl (by decide) _ rfl rfl rfl
        exact op_val (by simp [go_sem, ev' e191, hwa1.out]) (hK _ hw)
      | 39, ho, hv =>
        cases ho; cases hv
        refine .inl ⟨rfl, fun done a W hd hp hk hw K hK => ?_⟩
        have e25 := hk.same 25 (by decide)
        exact op_val (by simp [go_sem, ev' e25]) (hK _ hw)
      | 40, ho, hv =>
        cases ho; cases hv
        refine .inl ⟨rfl, fun done a W hd hp hk hw K hK => ?_⟩
        have e193 := hk.at_ 39 _ 193 _ rfl (by decide) _ rfl rfl rfl
        exact op_val (by simp [go_sem, ev' e193]) (hK _ hw)
      | 41, ho, hv =>
        cases ho; cases hv
        refine .inl ⟨rfl, fun done a W hd hp hk hw K hK => ?_⟩
        have e194 := hk.at_ 40 _ 194 _ rfl (by decide) _ rfl rfl rfl
        exact op_val (by simp [go_sem, ev' e194, (HBp25.out.aft hw).cell 3]) (hK _ hw)
      | 42, ho, hv =>
        cases ho; cases hv
        refine .inl ⟨rfl, fun done a W hd hp hk hw K hK => ?_⟩
        have e192 := hk.at_ 38 _ 192 _ rfl (by decide) _ rfl rfl rfl
        have e195 := hk.at_ 41 _ 195 _ rfl (by decide) _ rfl rfl rfl
        refine op_callN rfl rfl rfl _ rfl (vs := #[.int .i64 na1, .int .i64 1]) (by simp [e192, e195]) (ratioL_any na1 1 W) ?_
        rintro e w7 ⟨rfl, hw7⟩
        exact ⟨_, rfl, hK _ (hw.trans hw7)⟩
      | 43, ho, hv =>
        cases ho; cases hv
        refine .inl ⟨rfl, fun done a W hd hp hk hw K hK => ?_⟩
        have e188 := hk.at_ 34 _ 188 _ rfl (by decide) _ rfl rfl rfl
        have e196 := hk.at_ 42 _ 196 _ rfl (by decide) _ rfl rfl rfl
        exact op_val (by simp [go_sem, ev' e188, ev' e196]) (hK _ hw)
      | 44, ho, hv =>
        cases ho; cases hv
        refine .inl ⟨rfl, fun done a W hd hp hk hw K hK => ?_⟩
        have e186 := hk.at_ 32 _ 186 _ rfl (by decide) _ rfl rfl rfl
        have e197 := hk.at_ 43 _ 197 _ rfl (by decide) _ rfl rfl rfl
        exact op_val (by simp [go_sem, ev' e186, ev' e197]) (hK _ hw)
      | 45, ho, hv =>
        cases ho; cases hv
        refine .inl ⟨rfl, fun done a W hd hp hk hw K hK => ?_⟩
        have e198 := hk.at_ 44 _ 198 _ rfl (by decide) _ rfl rfl rfl
        exact op_val (by simp [go_sem, ev' e198]) (hK _ hw)
      | 46, ho, hv =>
        cases ho; cases hv
        refine .inl ⟨rfl, fun done a W hd hp hk hw K hK => ?_⟩
        have e12 := hk.same 12 (by decide)
        exact op_val (by simp [go_sem, ev' e12]) (hK _ hw)
      | 47, ho, hv =>
        cases ho; cases hv
        refine .inl ⟨rfl, fun done a W hd hp hk hw K hK => ?_⟩
        have e13 := hk.same 13 (by decide)
        exact op_val (by simp [go_sem, ev' e13]) (hK _ hw)
      | 48, ho, hv =>
        cases ho; cases hv
        refine .inl ⟨rfl, fun done a W hd hp hk hw K hK => ?_⟩
        have e200 := hk.at_ 46 _ 200 _ rfl (by decide) _ rfl rfl rfl
        have e201 := hk.at_ 47 _ 201 _ rfl (by decide) _ rfl rfl rfl
        exact op_val (by simp [go_sem, ev' e200, ev' e201, hun]) (hK _ hw)
      | 49, ho, hv =>
        cases ho; cases hv
        refine .inl ⟨rfl, fun done a W hd hp hk hw K hK => ?_⟩
        have e202 := hk.at_ 48 _ 202 _ rfl (by decide) _ rfl rfl rfl
        have q1 := (HCT.out _ (HT.out.aft hw)).1
        exact op_val (by simp [go_sem, ev' e202, q1.1, q1.2.1, q1.2.2.1, q1.2.2.2]) (hK _ hw)
      | 50, ho, hv =>
        cases ho; cases hv
        refine .inl ⟨rfl, fun done a W hd hp hk hw K hK => ?_⟩
        have e12 := hk.same 12 (by decide)
        exact op_val (by simp [go_sem, ev' e12]) (hK _ hw)
      | 51, ho, hv =>
        cases ho; cases hv
        refine .inl ⟨rfl, fun done a W hd hp hk hw K hK => ?_⟩
        have e14 := hk.same 14 (by decide)
        exact op_val (by simp [go_sem, ev' e14]) (hK _ hw)
      | 52, ho, hv =>
        cases ho; cases hv
        refine .inl ⟨rfl, fun done a W hd hp hk hw K hK => ?_⟩
        have e204 := hk.at_ 50 _ 204 _ rfl (by decide) _ rfl rfl rfl
        have e205 := hk.at_ 51 _ 205 _ rfl (by decide) _ rfl rfl rfl
        exact op_val (by simp [go_sem, ev' e204, ev' e205, hvn]) (hK _ hw)
      | 53, ho, hv =>
        cases ho; cases hv
        refine .inl ⟨rfl, fun done a W hd hp hk hw K hK => ?_⟩
        have e206 := hk.at_ 52 _ 206 _ rfl (by decide) _ rfl rfl rfl
        have q1 := (HCT.out _ (HT.out.aft hw)).2
        exact op_val (by simp [go_sem, ev' e206, q1.1, q1.2.1, q1.2.2.1, q1.2.2.2]) (hK _ hw)
      | 54, ho, hv =>
        cases ho; cases hv
        refine .inl ⟨rfl, fun done a W hd hp hk hw K hK => ?_⟩
        have e24 := hk.same 24 (by decide)
        exact op_val (by simp [go_sem, ev' e24, (HBp24.out.aft hw).cell 0, (HBp24.out.aft hw).cell 1, (HBp24.out.aft hw).cell 2, (HBp24.out.aft hw).cell 3]) (hK _ hw)
      | 55, ho, hv =>
        cases ho; cases hv
        refine .inl ⟨rfl, fun done a W hd hp hk hw K hK => ?_⟩
        have e25 := hk.same 25 (by decide)
        exact op_val (by simp [go_sem, ev' e25, (HBp25.out.aft hw).cell 0, (HBp25.out.aft hw).cell 1, (HBp25.out.aft hw).cell 2, (HBp25.out.aft hw).cell 3]) (hK _ hw)
      | 56, ho, hv =>
        cases ho; cases hv
        refine .inl ⟨rfl, fun done a W hd hp hk hw K hK => ?_⟩
        have e203 := hk.at_ 49 _ 203 _ rfl (by decide) _ rfl rfl rfl
        have e207 := hk.at_ 53 _ 207 _ rfl (by decide) _ rfl rfl rfl
        have e208 := hk.at_ 54 _ 208 _ rfl (by decide) _ rfl rfl rfl
        have e209 := hk.at_ 55 _ 209 _ rfl (by decide) _ rfl rfl rfl
        refine op_callN rfl rfl rfl _ rfl (vs := #[.agg #[.int .i64 xu, .int .i64 1, .int .i64 yu, .int .i64 1], .agg #[.int .i64 xv, .int .i64 1, .int .i64 yv, .int .i64 1], .agg #[.int .i64 nb0, .int .i64 1, .int .i64 a0, .int .i64 1], .agg #[.int .i64 nb1, .int .i64 1, .int .i64 a1, .int .i64 1]]) (by simp [e203, e207, e208, e209]) (HLI.out W) ?_
        rintro e w7 ⟨rfl, hw7⟩
        exact ⟨_, rfl, hK _ (hw.trans hw7)⟩
      | 57, ho, hv =>
        cases ho; cases hv
        refine .inl ⟨rfl, fun done a W hd hp hk hw K hK => ?_⟩
        have e210 := hk.at_ 56 _ 210 _ rfl (by decide) _ rfl rfl rfl
        exact op_val (by simp [go_sem, ev' e210]) (hK _ hw)
      | _ + 58, _, hv => cases hv
    intro done W hd hw
    simp only [List.drop_succ_cons, List.drop_zero, List.zip_cons_cons, List.zip_nil_right, putAll]
    simp only [Act.put, List.setIfInBounds_toArray, List.set]
    clear hd
    replace HQ := Lib.hid (HQ.out.aft (hw))
    replace HT := Lib.hid (HT.out.aft (hw))
    replace HBp11 := Lib.hid (HBp11.out.aft (hw))
    replace HFI := Lib.hid (HFI.out.aft (hw))
    replace HBp18 := Lib.hid (HBp18.out.aft (hw))
    replace HFQ := Lib.hid (HFQ.out.aft (hw))
    replace HBp22 := Lib.hid (HBp22.out.aft (hw))
    replace HBp24 := Lib.hid (HBp24.out.aft (hw))
    replace HBp25 := Lib.hid (HBp25.out.aft (hw))
    replace HBp26 := Lib.hid (HBp26.out.aft (hw))
    replace HBp27 := Lib.hid (HBp27.out.aft (hw))
    replace HA := Lib.hid (HA.out.trans (hw))
    replace H1 := Lib.hid (H1.out.trans (hw))
    replace H2 := Lib.hid (H2.out.trans (hw))
    clear hw HLI HCT hwa0 hwa1 hwb0 hwb1
    clear HBp26 HBp27 HT HX HY HTW HNP
    go_upto_region 15 with fail
    have hpo := HPL.out.ok
    have HPO : Hid (PlayOk rN rD) := Lib.hid hpo
    clear hpo
    have hsf : s0 u v ≠ Sheet.far := fun h => (HTS.out.x.far_iff HTI.out hun hvn).1 h heq
    have hsb : s0 v u ≠ Sheet.far := HTS.out.back hun hvn hsf
    have HSF := Lib.hid hsf
    have HSB := Lib.hid hsb
    obtain ⟨e1, e2, e3, e4, e5, e6, e7, e8, hbf, hbt⟩ := bt_fb (S := ⟨(n : Nat), J⟩) HE.out HPO.out hpD12 (fun north => HPL.out.most north) HTS.out hun hvn hsf
    have HBF : Hid (BtF ⟨(n : Nat), J⟩ rN rD u v s0 s1 e1 e2 e3 e4 e5 e6 e7 e8) := Lib.hid hbf
    have HB3 : Hid (∀ W, Quads W AJ J → Calls Try.prog 14 #[.agg #[.int .i64 (n : Nat), .slice AJ J.length cJ], .int .i64 (u : Nat), .int .i64 (v : Nat), .agg #[.int .i64 rN, .int .i64 rD]] W fun e w' => e = .returned (.tuple #[.agg #[.int .i64 e1, .int .i64 e2, .int .i64 e3, .int .i64 e4], .agg #[.int .i64 e5, .int .i64 e6, .int .i64 e7, .int .i64 e8], .int .i64 0]) ∧ Aft W w') := Lib.hid fun W h => hbt h
    clear hbf hbt
    clear hsf hsb H1 p11ge p18g1 p22g1 p24g1 p26ge p26g1
    have c0 := HBp11.out.cell 0
    have c1 := HBp11.out.cell 1
    have c2 := HBp11.out.lt
    simp only [List.getElem?_toArray, List.getElem?_cons_zero, List.getElem?_cons_succ] at c0 c1
    have d0 := HBp18.out.cell 0
    have d1 := HBp18.out.cell 1
    have d2 := HBp18.out.lt
    simp only [List.getElem?_toArray, List.getElem?_cons_zero, List.getElem?_cons_succ] at d0 d1
    (repeat (first | go_big_skip | go_big_want | go_big_move | go_big_op | go_step | go_upon | go_back))
    go_at_call 14
    refine (HB3.out _ HQ.out).mono ?_
    rintro e x19 ⟨rfl, ha⟩
    dsimp only
    clear c0 c1 c2 d0 d1 d2 HB3
    replace HQ := Lib.hid (HQ.out.aft (ha))
    replace HBp11 := Lib.hid (HBp11.out.aft (ha))
    replace HFI := Lib.hid (HFI.out.aft (ha))
    replace HBp18 := Lib.hid (HBp18.out.aft (ha))
    replace HFQ := Lib.hid (HFQ.out.aft (ha))
    replace HBp22 := Lib.hid (HBp22.out.aft (ha))
    replace HBp24 := Lib.hid (HBp24.out.aft (ha))
    replace HBp25 := Lib.hid (HBp25.out.aft (ha))
    replace HA := Lib.hid (HA.out.trans (ha))
    try replace H2 := Lib.hid (H2.out.trans (ha))
    clear ha
    have ya0 := HBp24.out.cell 0
    have ya1 := HBp24.out.cell 1
    have ya2 := HBp24.out.cell 2
    have ya3 := HBp24.out.cell 3
    have ya8 := HBp24.out.lt
    simp only [List.getElem?_toArray, List.getElem?_cons_zero, List.getElem?_cons_succ] at ya0 ya1 ya2 ya3
    have yaf0 := HBp24.out.frozen 0
    have yaf1 := HBp24.out.frozen 1
    have yaf2 := HBp24.out.frozen 2
    have yaf3 := HBp24.out.frozen 3
    have yb0 := HBp25.out.cell 0
    have yb1 := HBp25.out.cell 1
    have yb2 := HBp25.out.cell 2
    have yb3 := HBp25.out.cell 3
    have yb8 := HBp25.out.lt
    simp only [List.getElem?_toArray, List.getElem?_cons_zero, List.getElem?_cons_succ] at yb0 yb1 yb2 yb3
    have ybf0 := HBp25.out.frozen 0
    have ybf1 := HBp25.out.frozen 1
    have ybf2 := HBp25.out.frozen 2
    have ybf3 := HBp25.out.frozen 3
    go_upto_region 16 with fail
    clear ya0 ya1 ya2 ya3 ya8 yaf0 yaf1 yaf2 yaf3
    clear yb0 yb1 yb2 yb3 yb8 ybf0 ybf1 ybf2 ybf3
    obtain ⟨y20, hX⟩ : ∃ X, X = ((((((((x19.setCell ⟨p24, 0, none⟩ (.int .i64 e1)).setCell ⟨p24, 1, none⟩ (.int .i64 e2)).setCell ⟨p24, 2, none⟩ (.int .i64 e3)).setCell ⟨p24, 3, none⟩ (.int .i64 e4)).setCell ⟨p24 + 1, 0, none⟩ (.int .i64 e5)).setCell ⟨p24 + 1, 1, none⟩ (.int .i64 e6)).setCell ⟨p24 + 1, 2, none⟩ (.int .i64 e7)).setCell ⟨p24 + 1, 3, none⟩ (.int .i64 e8)) := ⟨_, rfl⟩
    have hput := put_two2 H2.out HBp24.out HBp25.out p24g2 e1 e2 e3 e4 e5 e6 e7 e8 hX
    rw [← hX]
    clear hX HBp24 HBp25 HQ HBp11 HFI HBp18 HFQ HBp22 HA H2
    have H2 := Lib.hid hput.2.2
    have HBp24 := Lib.hid hput.1
    have HBp25 := Lib.hid hput.2.1
    clear hput
    have HQ := Lib.hid (KQ.out.aft H2.out)
    have HBp11 := Lib.hid (KBp11.out.aft H2.out)
    have HFI := Lib.hid (KFI.out.aft H2.out)
    have HBp18 := Lib.hid (KBp18.out.aft H2.out)
    have HFQ := Lib.hid (KFQ.out.aft H2.out)
    have HA := Lib.hid (KA.out.trans H2.out)
    clear KQ KBp11 KFI KBp18 KFQ KA H2 p24g2
    obtain ⟨hku, hku2⟩ := sh_fb HSO.out HPO.out hpD12 HTS.out HTI.out hun (HF2.out u hun)
    obtain ⟨hkv, hkv2⟩ := sh_fb HSO.out HPO.out hpD12 HTS.out HTI.out hvn (HF2.out v hvn)
    obtain ⟨hfu, hfu2⟩ := tab_tied HTS.out.x HTI.out hun
    have hfv2 := (tab_tied HTS.out.x HTI.out hvn).2
    rw [← heq] at hkv hkv2 hfv2
    have tr1 := HTS.out.tri hfu hvn hfv2 HSB.out
    have tr2 := HTS.out.tri hfu hun hfu2 HSF.out
    obtain ⟨k1, ek1⟩ : ∃ z, (shR rD s0 f2 u).1 = z := ⟨_, rfl⟩
    obtain ⟨k2, ek2⟩ : ∃ z, (shR rD s0 f2 u).2 = z := ⟨_, rfl⟩
    obtain ⟨k3, ek3⟩ : ∃ z, (shR rD s1 f2 u).1 = z := ⟨_, rfl⟩
    obtain ⟨k4, ek4⟩ : ∃ z, (shR rD s1 f2 u).2 = z := ⟨_, rfl⟩
    obtain ⟨l1, el1⟩ : ∃ z, (shR rD s0 f2 v).1 = z := ⟨_, rfl⟩
    obtain ⟨l2, el2⟩ : ∃ z, (shR rD s0 f2 v).2 = z := ⟨_, rfl⟩
    obtain ⟨l3, el3⟩ : ∃ z, (shR rD s1 f2 v).1 = z := ⟨_, rfl⟩
    obtain ⟨l4, el4⟩ : ∃ z, (shR rD s1 f2 v).2 = z := ⟨_, rfl⟩
    rw [ek1, ek2] at hku
    rw [ek3, ek4] at hku2
    rw [el1, el2] at hkv
    rw [el3, el4] at hkv2
    have HCQ : Hid (∀ W, FQ W g20 n (fun i => ⟨(shR rD s0 f2 i).1, (shR rD s0 f2 i).2, (shR rD s1 f2 i).1, (shR rD s1 f2 i).2⟩) → (W.cell? ⟨g20, u * 4, none⟩ = some (.int .i64 k1) ∧ W.cell? ⟨g20, u * 4 + 1, none⟩ = some (.int .i64 k2) ∧ W.cell? ⟨g20, u * 4 + 2, none⟩ = some (.int .i64 k3) ∧ W.cell? ⟨g20, u * 4 + 3, none⟩ = some (.int .i64 k4)) ∧ (W.cell? ⟨g20, v * 4, none⟩ = some (.int .i64 l1) ∧ W.cell? ⟨g20, v * 4 + 1, none⟩ = some (.int .i64 l2) ∧ W.cell? ⟨g20, v * 4 + 2, none⟩ = some (.int .i64 l3) ∧ W.cell? ⟨g20, v * 4 + 3, none⟩ = some (.int .i64 l4))) := Lib.hid fun W h => by
      have h1 := h.cell hun
      have h2 := h.cell hvn
      dsimp only at h1 h2
      rw [ek1, ek2, ek3, ek4] at h1
      rw [el1, el2, el3, el4] at h2
      exact ⟨h1, h2⟩
    have HLI : Hid (∀ W, Calls Try.prog 39 #[.agg #[.int .i64 k1, .int .i64 k2, .int .i64 k3, .int .i64 k4], .agg #[.int .i64 l1, .int .i64 l2, .int .i64 l3, .int .i64 l4], .agg #[.int .i64 e1, .int .i64 e2, .int .i64 e3, .int .i64 e4], .agg #[.int .i64 e5, .int .i64 e6, .int .i64 e7, .int .i64 e8]] W fun e w' => e = .returned (.bool true) ∧ Aft W w') := Lib.hid (lies_fs (D := rD) (by omega) hku hku2 hkv hkv2 HBF.out.f1 HBF.out.f2 HBF.out.f3 HBF.out.f4 (by omega) (by omega) (by omega) (by omega))
    clear hku hku2 hkv hkv2 hfu hfu2 hfv2 tr1 tr2 ek1 ek2 ek3 ek4 el1 el2 el3 el4 HF2
    refine wp_region_valsT (by kernel_rfl) 15 369 rfl (by kernel_rfl) (by kernel_rfl) (by kernel_rfl) [.int .i64 0, .bool false, .bool false, .slice (some ⟨g20, 0, none⟩) n c20, .int .i64 (u : Nat), .pointer (some ⟨g20, u * 4, none⟩), .agg #[.int .i64 k1, .int .i64 k2, .int .i64 k3, .int .i64 k4], .slice (some ⟨g20, 0, none⟩) n c20, .int .i64 (v : Nat), .pointer (some ⟨g20, v * 4, none⟩), .agg #[.int .i64 l1, .int .i64 l2, .int .i64 l3, .int .i64 l4], .agg #[.int .i64 e1, .int .i64 e2, .int .i64 e3, .int .i64 e4], .agg #[.int .i64 e5, .int .i64 e6, .int .i64 e7, .int .i64 e8], .bool true, .bool false] rfl (fun _ W => Aft y20 W) (Aft.drew _) ?st5 ?fi5
    case st5 =>
      intro i o v ho hv
      match i, ho, hv with
      | 0, ho, hv =>
        cases ho; cases hv
        refine .inl ⟨rfl, fun done a W hd hp hk hw K hK => ?_⟩
        have e17 := hk.same 17 (by decide)
        exact op_val (by simp [go_sem, ev' e17]) (hK _ hw)
      | 1, ho, hv =>
        cases ho; cases hv
        refine .inl ⟨rfl, fun done a W hd hp hk hw K hK => ?_⟩
        have e222 := hk.at_ 0 _ 222 _ rfl (by decide) _ rfl rfl rfl
        exact op_val (by simp [go_sem, ev' e222]) (hK _ hw)
      | 2, ho, hv =>
        cases ho; cases hv
        refine .inl ⟨rfl, fun done a W hd hp hk hw K hK => ?_⟩
        have e223 := hk.at_ 1 _ 223 _ rfl (by decide) _ rfl rfl rfl
        exact op_val (by simp [go_sem, ev' e223]) (hK _ hw)
      | 3, ho, hv =>
        cases ho; cases hv
        refine .inl ⟨rfl, fun done a W hd hp hk hw K hK => ?_⟩
        have e20 := hk.same 20 (by decide)
        exact op_val (by simp [go_sem, ev' e20]) (hK _ hw)
      | 4, ho, hv =>
        cases ho; cases hv
        refine .inl ⟨rfl, fun done a W hd hp hk hw K hK => ?_⟩
        have e13 := hk.same 13 (by decide)
        exact op_val (by simp [go_sem, ev' e13]) (hK _ hw)
      | 5, ho, hv =>
        cases ho; cases hv
        refine .inl ⟨rfl, fun done a W hd hp hk hw K hK => ?_⟩
        have e225 := hk.at_ 3 _ 225 _ rfl (by decide) _ rfl rfl rfl
        have e226 := hk.at_ 4 _ 226 _ rfl (by decide) _ rfl rfl rfl
        exact op_val (by simp [go_sem, ev' e225, ev' e226, hun]) (hK _ hw)
      | 6, ho, hv =>
        cases ho; cases hv
        refine .inl ⟨rfl, fun done a W hd hp hk hw K hK => ?_⟩
        have e227 := hk.at_ 5 _ 227 _ rfl (by decide) _ rfl rfl rfl
        have q1 := (HCQ.out _ (HFQ.out.aft hw)).1
        exact op_val (by simp [go_sem, ev' e227, q1.1, q1.2.1, q1.2.2.1, q1.2.2.2]) (hK _ hw)
      | 7, ho, hv =>
        cases ho; cases hv
        refine .inl ⟨rfl, fun done a W hd hp hk hw K hK => ?_⟩
        have e20 := hk.same 20 (by decide)
        exact op_val (by simp [go_sem, ev' e20]) (hK _ hw)
      | 8, ho, hv =>
        cases ho; cases hv
        refine .inl ⟨rfl, fun done a W hd hp hk hw K hK => ?_⟩
        have e14 := hk.same 14 (by decide)
        exact op_val (by simp [go_sem, ev' e14]) (hK _ hw)
      | 9, ho, hv =>
        cases ho; cases hv
        refine .inl ⟨rfl, fun done a W hd hp hk hw K hK => ?_⟩
        have e229 := hk.at_ 7 _ 229 _ rfl (by decide) _ rfl rfl rfl
        have e230 := hk.at_ 8 _ 230 _ rfl (by decide) _ rfl rfl rfl
        exact op_val (by simp [go_sem, ev' e229, ev' e230, hvn]) (hK _ hw)
      | 10, ho, hv =>
        cases ho; cases hv
        refine .inl ⟨rfl, fun done a W hd hp hk hw K hK => ?_⟩
        have e231 := hk.at_ 9 _ 231 _ rfl (by decide) _ rfl rfl rfl
        have q1 := (HCQ.out _ (HFQ.out.aft hw)).2
        exact op_val (by simp [go_sem, ev' e231, q1.1, q1.2.1, q1.2.2.1, q1.2.2.2]) (hK _ hw)
      | 11, ho, hv =>
        cases ho; cases hv
        refine .inl ⟨rfl, fun done a W hd hp hk hw K hK => ?_⟩
        have e24 := hk.same 24 (by decide)
        exact op_val (by simp [go_sem, ev' e24, (HBp24.out.aft hw).cell 0, (HBp24.out.aft hw).cell 1, (HBp24.out.aft hw).cell 2, (HBp24.out.aft hw).cell 3]) (hK _ hw)
      | 12, ho, hv =>
        cases ho; cases hv
        refine .inl ⟨rfl, fun done a W hd hp hk hw K hK => ?_⟩
        have e25 := hk.same 25 (by decide)
        exact op_val (by simp [go_sem, ev' e25, (HBp25.out.aft hw).cell 0, (HBp25.out.aft hw).cell 1, (HBp25.out.aft hw).cell 2, (HBp25.out.aft hw).cell 3]) (hK _ hw)
      | 13, ho, hv =>
        cases ho; cases hv
        refine .inl ⟨rfl, fun done a W hd hp hk hw K hK => ?_⟩
        have e228 := hk.at_ 6 _ 228 _ rfl (by decide) _ rfl rfl rfl
        have e232 := hk.at_ 10 _ 232 _ rfl (by decide) _ rfl rfl rfl
        have e233 := hk.at_ 11 _ 233 _ rfl (by decide) _ rfl rfl rfl
        have e234 := hk.at_ 12 _ 234 _ rfl (by decide) _ rfl rfl rfl
        refine op_callN rfl rfl rfl _ rfl (vs := #[.agg #[.int .i64 k1, .int .i64 k2, .int .i64 k3, .int .i64 k4], .agg #[.int .i64 l1, .int .i64 l2, .int .i64 l3, .int .i64 l4], .agg #[.int .i64 e1, .int .i64 e2, .int .i64 e3, .int .i64 e4], .agg #[.int .i64 e5, .int .i64 e6, .int .i64 e7, .int .i64 e8]]) (by simp [e228, e232, e233, e234]) (HLI.out W) ?_
        rintro e w7 ⟨rfl, hw7⟩
        exact ⟨_, rfl, hK _ (hw.trans hw7)⟩
      | 14, ho, hv =>
        cases ho; cases hv
        refine .inl ⟨rfl, fun done a W hd hp hk hw K hK => ?_⟩
        have e235 := hk.at_ 13 _ 235 _ rfl (by decide) _ rfl rfl rfl
        exact op_val (by simp [go_sem, ev' e235]) (hK _ hw)
      | _ + 15, _, hv => cases hv
    intro done W hd hw
    simp only [List.drop_succ_cons, List.drop_zero, List.zip_cons_cons, List.zip_nil_right, putAll]
    simp only [Act.put, List.setIfInBounds_toArray, List.set]
    clear hd
    replace HQ := Lib.hid (HQ.out.aft (hw))
    replace HBp11 := Lib.hid (HBp11.out.aft (hw))
    replace HFI := Lib.hid (HFI.out.aft (hw))
    replace HBp18 := Lib.hid (HBp18.out.aft (hw))
    replace HFQ := Lib.hid (HFQ.out.aft (hw))
    replace HBp24 := Lib.hid (HBp24.out.aft (hw))
    replace HBp25 := Lib.hid (HBp25.out.aft (hw))
    replace HA := Lib.hid (HA.out.trans (hw))
    try replace H2 := Lib.hid (H2.out.trans (hw))
    clear hw HLI HCQ HFQ
    go_upto_region 18 with fail
    obtain ⟨r, hr, hrn⟩ := fold_ex km 20 (by decide)
    have HFM : Hid (∀ W, Calls Try.prog 9 #[.int .i64 km, .int .i64 20] W fun e w' => e = .returned (.int .i64 (r : Nat)) ∧ W = w') := Lib.hid fun W => fold_at km 20 r W (by decide) (by decide) hr
    clear hr
    have hm1 := mul_in (x := rD) (y := (r : Int)) (B := 12) (C := 19) (by omega) (by omega) (by decide) (by omega) (by omega)
    have hm0 := Int.mul_nonneg (a := rD) (b := (r : Int)) (by omega) (by omega)
    obtain ⟨dr, edr⟩ : ∃ z, rD * (r : Int) = z := ⟨_, rfl⟩
    rw [edr] at hm0 hm1
    obtain ⟨uN, euN⟩ : ∃ z, rN + dr = z := ⟨_, rfl⟩
    have hwm : Hid (IntKind.i64.wrap (rD * (r : Int)) = dr) := Lib.hid (by rw [edr]; exact IntWalk.i64_in _ (by omega))
    have hwu : Hid (IntKind.i64.wrap (rN + dr) = uN) := Lib.hid (by rw [euN]; exact IntWalk.i64_in _ (by omega))
    have hu0 : rN ≤ uN := by omega
    have hu1 : uN ≤ 13000000 := by omega
    have HPU : Hid (PlayOk uN rD) := Lib.hid ⟨by omega, by omega, by omega, by omega⟩
    have HMU : Hid (∀ north, Sheet.AtMost (Sheet.legs (joOf north J)) uN rD) := Lib.hid fun north => most_up (HPL.out.most north) (by omega) (by omega) (Int.mul_le_mul_of_nonneg_right hu0 (by omega))
    clear hm0 hm1 edr euN
    obtain ⟨y21, hY⟩ : ∃ Y, Y = W := ⟨_, rfl⟩
    rw [← hY] at HQ HBp11 HFI HBp18 HBp24 HBp25 HA ⊢
    clear hY
    refine wp_region_valsU (by kernel_rfl) 12 369 rfl (by kernel_rfl) (by kernel_rfl) [some (.pointer (some ⟨p18, 0, none⟩)), some (.int .i64 rN), some (.pointer (some ⟨p18, 1, none⟩)), some (.int .i64 rD), some (.int .i64 km), some (.int .i64 (r : Nat)), some (.int .i64 dr), some (.int .i64 uN), some (.pointer (some ⟨p18, 1, none⟩)), some (.int .i64 rD), some (.agg #[.int .i64 uN, .int .i64 rD]), none] (by kernel_rfl) rfl (Bx1 y21 11 28) (Bx1.start) ?st6 ?fi6
    case st6 =>
      intro i o v ho hv
      match i, ho, hv with
      | 0, ho, hv =>
        cases ho; cases hv
        refine .inl ⟨rfl, fun done a W hz hd hp hk hw K hK => ?_⟩
        have e18 := hk.same 18 (by decide)
        exact op_val (v := .pointer (some ⟨p18, 0, none⟩)) (by simp [go_sem, ev' e18]) (hK _ _ (fun u hu => by cases hu; rfl) (hw.keep (Aft.refl _) (by decide) (by decide)))
      | 1, ho, hv =>
        cases ho; cases hv
        refine .inl ⟨rfl, fun done a W hz hd hp hk hw K hK => ?_⟩
        have e238 := hk.at_ 0 _ 238 _ rfl (by decide) _ rfl rfl rfl
        exact op_val (v := .int .i64 rN) (by simp [go_sem, ev' e238, (HBp18.out.aft hw.aft).cell 0]) (hK _ _ (fun u hu => by cases hu; rfl) (hw.keep (Aft.refl _) (by decide) (by decide)))
      | 2, ho, hv =>
        cases ho; cases hv
        refine .inl ⟨rfl, fun done a W hz hd hp hk hw K hK => ?_⟩
        have e18 := hk.same 18 (by decide)
        exact op_val (v := .pointer (some ⟨p18, 1, none⟩)) (by simp [go_sem, ev' e18]) (hK _ _ (fun u hu => by cases hu; rfl) (hw.keep (Aft.refl _) (by decide) (by decide)))
      | 3, ho, hv =>
        cases ho; cases hv
        refine .inl ⟨rfl, fun done a W hz hd hp hk hw K hK => ?_⟩
        have e240 := hk.at_ 2 _ 240 _ rfl (by decide) _ rfl rfl rfl
        exact op_val (v := .int .i64 rD) (by simp [go_sem, ev' e240, (HBp18.out.aft hw.aft).cell 1]) (hK _ _ (fun u hu => by cases hu; rfl) (hw.keep (Aft.refl _) (by decide) (by decide)))
      | 4, ho, hv =>
        cases ho; cases hv
        refine .inl ⟨rfl, fun done a W hz hd hp hk hw K hK => ?_⟩
        have e4 := hk.same 4 (by decide)
        exact op_val (v := .int .i64 km) (by simp [go_sem, ev' e4]) (hK _ _ (fun u hu => by cases hu; rfl) (hw.keep (Aft.refl _) (by decide) (by decide)))
      | 5, ho, hv =>
        cases ho; cases hv
        refine .inl ⟨rfl, fun done a W hz hd hp hk hw K hK => ?_⟩
        have e242 := hk.at_ 4 _ 242 _ rfl (by decide) _ rfl rfl rfl
        refine op_callN rfl rfl rfl _ rfl (vs := #[.int .i64 km, .int .i64 20]) (by simp [e242, show ∀ v, a.eval (.const v) = v from fun _ => rfl]) (HFM.out W) ?_
        rintro e w7 ⟨rfl, rfl⟩
        exact ⟨_, rfl, hK _ _ (fun u hu => by cases hu; rfl) (hw.keep (Aft.refl _) (by decide) (by decide))⟩
      | 6, ho, hv =>
        cases ho; cases hv
        refine .inl ⟨rfl, fun done a W hz hd hp hk hw K hK => ?_⟩
        have e241 := hk.at_ 3 _ 241 _ rfl (by decide) _ rfl rfl rfl
        have e243 := hk.at_ 5 _ 243 _ rfl (by decide) _ rfl rfl rfl
        exact op_val (v := .int .i64 dr) (by simp [go_sem, ev' e241, ev' e243, hwm.out]) (hK _ _ (fun u hu => by cases hu; rfl) (hw.keep (Aft.refl _) (by decide) (by decide)))
      | 7, ho, hv =>
        cases ho; cases hv
        refine .inl ⟨rfl, fun done a W hz hd hp hk hw K hK => ?_⟩
        have e239 := hk.at_ 1 _ 239 _ rfl (by decide) _ rfl rfl rfl
        have e244 := hk.at_ 6 _ 244 _ rfl (by decide) _ rfl rfl rfl
        exact op_val (v := .int .i64 uN) (by simp [go_sem, ev' e239, ev' e244, hwu.out]) (hK _ _ (fun u hu => by cases hu; rfl) (hw.keep (Aft.refl _) (by decide) (by decide)))
      | 8, ho, hv =>
        cases ho; cases hv
        refine .inl ⟨rfl, fun done a W hz hd hp hk hw K hK => ?_⟩
        have e18 := hk.same 18 (by decide)
        exact op_val (v := .pointer (some ⟨p18, 1, none⟩)) (by simp [go_sem, ev' e18]) (hK _ _ (fun u hu => by cases hu; rfl) (hw.keep (Aft.refl _) (by decide) (by decide)))
      | 9, ho, hv =>
        cases ho; cases hv
        refine .inl ⟨rfl, fun done a W hz hd hp hk hw K hK => ?_⟩
        have e246 := hk.at_ 8 _ 246 _ rfl (by decide) _ rfl rfl rfl
        exact op_val (v := .int .i64 rD) (by simp [go_sem, ev' e246, (HBp18.out.aft hw.aft).cell 1]) (hK _ _ (fun u hu => by cases hu; rfl) (hw.keep (Aft.refl _) (by decide) (by decide)))
      | 10, ho, hv =>
        cases ho; cases hv
        refine .inl ⟨rfl, fun done a W hz hd hp hk hw K hK => ?_⟩
        have e245 := hk.at_ 7 _ 245 _ rfl (by decide) _ rfl rfl rfl
        have e247 := hk.at_ 9 _ 247 _ rfl (by decide) _ rfl rfl rfl
        refine op_callN rfl rfl rfl _ rfl (vs := #[.int .i64 uN, .int .i64 rD]) (by simp [e245, e247]) (ratioL_any uN rD W) ?_
        rintro e w7 ⟨rfl, hw7⟩
        exact ⟨_, rfl, hK _ _ (fun u hu => by cases hu; rfl) (hw.keep hw7 (by decide) (by decide))⟩
      | 11, ho, hv =>
        cases ho; cases hv
        refine .inl ⟨rfl, fun done a W hz hd hp hk hw K hK => ?_⟩
        exact op_valW (w' := W.alloc (.cells #[.int .i64 0, .int .i64 0] 37)) (v := .pointer (some ⟨W.heap.size, 0, none⟩)) (by simp [go_sem]) (hK _ _ (fun u hu => by cases hu) (hw.step (by rw [hz]; decide)))
      | _ + 12, _, hv => cases hv
    intro done us W hus hd hw
    obtain ⟨p28, e28, hb28, hbk⟩ := hw.s (hd 11 (by decide))
    have hwa := hw.aft
    clear hw
    obtain ⟨o1, rfl⟩ : ∃ x, us = [x] := List.length_eq_one_iff.1 hus
    simp only [fill, List.drop_succ_cons, List.drop_zero, List.zip_cons_cons, List.zip_nil_right, putAll] at e28 ⊢
    simp only [Act.put, List.setIfInBounds_toArray, List.set] at e28 ⊢
    have e28 : o1 = .pointer (some ⟨p28, 0, none⟩) := e28
    subst e28
    clear e28
    have c1 := hbk.cell 0
    have c2 := hbk.cell 1
    have c3 := hbk.frozen 0
    have c4 := hbk.frozen 1
    have c5 := hbk.lt
    simp only [List.getElem?_toArray, List.getElem?_cons_zero, List.getElem?_cons_succ] at c1 c2
    obtain ⟨y22, hX⟩ : ∃ X, X = (W.setCell ⟨p28, 0, none⟩ (.int .i64 uN)).setCell ⟨p28, 1, none⟩ (.int .i64 rD) := ⟨_, rfl⟩
    have HBp28 : Hid (Blk y22 p28 37 #[.int .i64 uN, .int .i64 rD]) := Lib.hid (hX ▸ (hbk.store 0 (.int .i64 uN)).store 1 (.int .i64 rD))
    have ha18 : Aft y21 y22 := hX ▸ (hwa.then_setCell (p := ⟨p28, 0, none⟩) hb28 (.int .i64 uN)).then_setCell (p := ⟨p28, 1, none⟩) hb28 (.int .i64 rD)
    have HA18 := Lib.hid ha18
    have HXX := Lib.hid hX
    clear ha18 hX hbk hwa hd hus hb28 HFM hwm hwu
    go_upto_region 19 with fail
    rw [← HXX.out]
    clear HXX c1 c2 c3 c4 c5
    replace HQ := Lib.hid (HQ.out.aft (HA18.out))
    replace HBp11 := Lib.hid (HBp11.out.aft (HA18.out))
    replace HFI := Lib.hid (HFI.out.aft (HA18.out))
    replace HBp18 := Lib.hid (HBp18.out.aft (HA18.out))
    replace HBp24 := Lib.hid (HBp24.out.aft (HA18.out))
    replace HBp25 := Lib.hid (HBp25.out.aft (HA18.out))
    replace HA := Lib.hid (HA.out.trans (HA18.out))
    try replace H2 := Lib.hid (H2.out.trans (HA18.out))
    clear HA18
    have c0 := HBp11.out.cell 0
    have c1 := HBp11.out.cell 1
    have c2 := HBp11.out.lt
    simp only [List.getElem?_toArray, List.getElem?_cons_zero, List.getElem?_cons_succ] at c0 c1
    have zd0 := HBp28.out.cell 0
    have zd1 := HBp28.out.cell 1
    have zd8 := HBp28.out.lt
    simp only [List.getElem?_toArray, List.getElem?_cons_zero, List.getElem?_cons_succ] at zd0 zd1
    (repeat (first | go_big_skip | go_big_want | go_big_move | go_big_op | go_step | go_upon | go_back))
    go_at_call 14
    refine (bt_fb_any (S := ⟨(n : Nat), J⟩) HE.out HPU.out hpD12 HMU.out HTI.out HQ.out hun hvn heq).mono ?_
    rintro e x23 ⟨q0, q1, g31, g32, g33, g34, g35, g36, g37, g38, rfl, hbg, ha⟩
    dsimp only
    have HBG : Hid (BtF ⟨(n : Nat), J⟩ uN rD u v q0 q1 g31 g32 g33 g34 g35 g36 g37 g38) := Lib.hid hbg
    clear hbg c0 c1 c2
    clear zd0 zd1 zd8
    clear HBp28
    replace HQ := Lib.hid (HQ.out.aft (ha))
    replace HBp11 := Lib.hid (HBp11.out.aft (ha))
    replace HFI := Lib.hid (HFI.out.aft (ha))
    replace HBp18 := Lib.hid (HBp18.out.aft (ha))
    replace HBp24 := Lib.hid (HBp24.out.aft (ha))
    replace HBp25 := Lib.hid (HBp25.out.aft (ha))
    replace HA := Lib.hid (HA.out.trans (ha))
    try replace H2 := Lib.hid (H2.out.trans (ha))
    clear ha
    go_upto_region 20 with fail
    obtain ⟨p29, hs_p29⟩ : ∃ p29, x23.heap.size = p29 := ⟨_, rfl⟩
    have HBp29 : Hid (Blk ((x23.alloc (.cells #[.int .i64 g31, .int .i64 g32, .int .i64 g33, .int .i64 g34] 43)).alloc (.cells #[.int .i64 g35, .int .i64 g36, .int .i64 g37, .int .i64 g38] 43)) (p29) 43 #[.int .i64 g31, .int .i64 g32, .int .i64 g33, .int .i64 g34]) := Lib.hid (by
      have q := (Blk.new x23 43 #[.int .i64 g31, .int .i64 g32, .int .i64 g33, .int .i64 g34]).alloc (.cells #[.int .i64 g35, .int .i64 g36, .int .i64 g37, .int .i64 g38] 43)
      try simp only [World.size_alloc] at q
      rw [hs_p29] at q
      exact q)
    have HBp30 : Hid (Blk ((x23.alloc (.cells #[.int .i64 g31, .int .i64 g32, .int .i64 g33, .int .i64 g34] 43)).alloc (.cells #[.int .i64 g35, .int .i64 g36, .int .i64 g37, .int .i64 g38] 43)) (p29 + 1) 43 #[.int .i64 g35, .int .i64 g36, .int .i64 g37, .int .i64 g38]) := Lib.hid (by
      have q := Blk.new (x23.alloc (.cells #[.int .i64 g31, .int .i64 g32, .int .i64 g33, .int .i64 g34] 43)) 43 #[.int .i64 g35, .int .i64 g36, .int .i64 g37, .int .i64 g38]
      try simp only [World.size_alloc] at q
      rw [hs_p29] at q
      exact q)
    replace HQ := Lib.hid (HQ.out.aft ((Aft.alloc x23 (.cells #[.int .i64 g31, .int .i64 g32, .int .i64 g33, .int .i64 g34] 43)).then_alloc (.cells #[.int .i64 g35, .int .i64 g36, .int .i64 g37, .int .i64 g38] 43)))
    replace HBp11 := Lib.hid (HBp11.out.aft ((Aft.alloc x23 (.cells #[.int .i64 g31, .int .i64 g32, .int .i64 g33, .int .i64 g34] 43)).then_alloc (.cells #[.int .i64 g35, .int .i64 g36, .int .i64 g37, .int .i64 g38] 43)))
    replace HFI := Lib.hid (HFI.out.aft ((Aft.alloc x23 (.cells #[.int .i64 g31, .int .i64 g32, .int .i64 g33, .int .i64 g34] 43)).then_alloc (.cells #[.int .i64 g35, .int .i64 g36, .int .i64 g37, .int .i64 g38] 43)))
    replace HBp18 := Lib.hid (HBp18.out.aft ((Aft.alloc x23 (.cells #[.int .i64 g31, .int .i64 g32, .int .i64 g33, .int .i64 g34] 43)).then_alloc (.cells #[.int .i64 g35, .int .i64 g36, .int .i64 g37, .int .i64 g38] 43)))
    replace HBp24 := Lib.hid (HBp24.out.aft ((Aft.alloc x23 (.cells #[.int .i64 g31, .int .i64 g32, .int .i64 g33, .int .i64 g34] 43)).then_alloc (.cells #[.int .i64 g35, .int .i64 g36, .int .i64 g37, .int .i64 g38] 43)))
    replace HBp25 := Lib.hid (HBp25.out.aft ((Aft.alloc x23 (.cells #[.int .i64 g31, .int .i64 g32, .int .i64 g33, .int .i64 g34] 43)).then_alloc (.cells #[.int .i64 g35, .int .i64 g36, .int .i64 g37, .int .i64 g38] 43)))
    replace HA := Lib.hid (HA.out.trans ((Aft.alloc x23 (.cells #[.int .i64 g31, .int .i64 g32, .int .i64 g33, .int .i64 g34] 43)).then_alloc (.cells #[.int .i64 g35, .int .i64 g36, .int .i64 g37, .int .i64 g38] 43)))
    try replace H2 := Lib.hid (H2.out.trans ((Aft.alloc x23 (.cells #[.int .i64 g31, .int .i64 g32, .int .i64 g33, .int .i64 g34] 43)).then_alloc (.cells #[.int .i64 g35, .int .i64 g36, .int .i64 g37, .int .i64 g38] 43)))
    rw [hs_p29]
    generalize (x23.alloc (.cells #[.int .i64 g31, .int .i64 g32, .int .i64 g33, .int .i64 g34] 43)).alloc (.cells #[.int .i64 g35, .int .i64 g36, .int .i64 g37, .int .i64 g38] 43) = y24 at *
    clear hs_p29
    have hmo := HTS.out.more hu0 HBG.out.tab hun HSF.out HBG.out.ne
    have hmb := HTS.out.more hu0 HBG.out.tab hvn HSB.out (HBG.out.tab.back hun hvn HBG.out.ne)
    have HL1 : Hid (∀ W, Calls Try.prog 13 #[.agg #[.int .i64 g31, .int .i64 g32], .agg #[.int .i64 e1, .int .i64 e2]] W fun e w' => e = .returned (.bool true) ∧ Aft W w') := Lib.hid (Fb.less (by omega) HBG.out.f1 HBF.out.f1 (by omega) (by decide) (by decide) (by decide) (by decide))
    have HL2 : Hid (∀ W, Calls Try.prog 13 #[.agg #[.int .i64 e3, .int .i64 e4], .agg #[.int .i64 g33, .int .i64 g34]] W fun e w' => e = .returned (.bool true) ∧ Aft W w') := Lib.hid (Fb.less (by omega) HBF.out.f2 HBG.out.f2 (by omega) (by decide) (by decide) (by decide) (by decide))
    have HL3 : Hid (∀ W, Calls Try.prog 13 #[.agg #[.int .i64 g35, .int .i64 g36], .agg #[.int .i64 e5, .int .i64 e6]] W fun e w' => e = .returned (.bool true) ∧ Aft W w') := Lib.hid (Fb.less (by omega) HBG.out.f3 HBF.out.f3 (by omega) (by decide) (by decide) (by decide) (by decide))
    have HL4 : Hid (∀ W, Calls Try.prog 13 #[.agg #[.int .i64 e7, .int .i64 e8], .agg #[.int .i64 g37, .int .i64 g38]] W fun e w' => e = .returned (.bool true) ∧ Aft W w') := Lib.hid (Fb.less (by omega) HBF.out.f4 HBG.out.f4 (by omega) (by decide) (by decide) (by decide) (by decide))
    clear hmo hmb HBG HPU HMU
    have ya0 := HBp29.out.cell 0
    have ya1 := HBp29.out.cell 1
    have ya2 := HBp29.out.cell 2
    have ya3 := HBp29.out.cell 3
    have ya8 := HBp29.out.lt
    simp only [List.getElem?_toArray, List.getElem?_cons_zero, List.getElem?_cons_succ] at ya0 ya1 ya2 ya3
    have yb0 := HBp24.out.cell 0
    have yb1 := HBp24.out.cell 1
    have yb2 := HBp24.out.cell 2
    have yb3 := HBp24.out.cell 3
    have yb8 := HBp24.out.lt
    simp only [List.getElem?_toArray, List.getElem?_cons_zero, List.getElem?_cons_succ] at yb0 yb1 yb2 yb3
    (repeat (first | go_big_skip | go_big_want | go_big_move | go_big_op | go_step | go_upon | go_back))
    go_at_call 13
    refine (HL1.out _).mono ?_
    rintro e x25 ⟨rfl, ha⟩
    dsimp only
    clear ya0 ya1 ya2 ya3 ya8
    clear yb0 yb1 yb2 yb3 yb8
    replace HQ := Lib.hid (HQ.out.aft (ha))
    replace HBp11 := Lib.hid (HBp11.out.aft (ha))
    replace HFI := Lib.hid (HFI.out.aft (ha))
    replace HBp18 := Lib.hid (HBp18.out.aft (ha))
    replace HBp24 := Lib.hid (HBp24.out.aft (ha))
    replace HBp25 := Lib.hid (HBp25.out.aft (ha))
    replace HBp29 := Lib.hid (HBp29.out.aft (ha))
    replace HBp30 := Lib.hid (HBp30.out.aft (ha))
    replace HA := Lib.hid (HA.out.trans (ha))
    try replace H2 := Lib.hid (H2.out.trans (ha))
    clear ha HL1
    have ya0 := HBp24.out.cell 0
    have ya1 := HBp24.out.cell 1
    have ya2 := HBp24.out.cell 2
    have ya3 := HBp24.out.cell 3
    have ya8 := HBp24.out.lt
    simp only [List.getElem?_toArray, List.getElem?_cons_zero, List.getElem?_cons_succ] at ya0 ya1 ya2 ya3
    have yb0 := HBp29.out.cell 0
    have yb1 := HBp29.out.cell 1
    have yb2 := HBp29.out.cell 2
    have yb3 := HBp29.out.cell 3
    have yb8 := HBp29.out.lt
    simp only [List.getElem?_toArray, List.getElem?_cons_zero, List.getElem?_cons_succ] at yb0 yb1 yb2 yb3
    (repeat (first | go_big_skip | go_big_want | go_big_move | go_big_op | go_step | go_upon | go_back))
    go_at_call 13
    refine (HL2.out _).mono ?_
    rintro e x26 ⟨rfl, ha⟩
    dsimp only
    clear ya0 ya1 ya2 ya3 ya8
    clear yb0 yb1 yb2 yb3 yb8
    replace HQ := Lib.hid (HQ.out.aft (ha))
    replace HBp11 := Lib.hid (HBp11.out.aft (ha))
    replace HFI := Lib.hid (HFI.out.aft (ha))
    replace HBp18 := Lib.hid (HBp18.out.aft (ha))
    replace HBp24 := Lib.hid (HBp24.out.aft (ha))
    replace HBp25 := Lib.hid (HBp25.out.aft (ha))
    replace HBp29 := Lib.hid (HBp29.out.aft (ha))
    replace HBp30 := Lib.hid (HBp30.out.aft (ha))
    replace HA := Lib.hid (HA.out.trans (ha))
    try replace H2 := Lib.hid (H2.out.trans (ha))
    clear ha HL2
    have ya0 := HBp30.out.cell 0
    have ya1 := HBp30.out.cell 1
    have ya2 := HBp30.out.cell 2
    have ya3 := HBp30.out.cell 3
    have ya8 := HBp30.out.lt
    simp only [List.getElem?_toArray, List.getElem?_cons_zero, List.getElem?_cons_succ] at ya0 ya1 ya2 ya3
    have yb0 := HBp25.out.cell 0
    have yb1 := HBp25.out.cell 1
    have yb2 := HBp25.out.cell 2
    have yb3 := HBp25.out.cell 3
    have yb8 := HBp25.out.lt
    simp only [List.getElem?_toArray, List.getElem?_cons_zero, List.getElem?_cons_succ] at yb0 yb1 yb2 yb3
    (repeat (first | go_big_skip | go_big_want | go_big_move | go_big_op | go_step | go_upon | go_back))
    go_at_call 13
    refine (HL3.out _).mono ?_
    rintro e x27 ⟨rfl, ha⟩
    dsimp only
    clear ya0 ya1 ya2 ya3 ya8
    clear yb0 yb1 yb2 yb3 yb8
    replace HQ := Lib.hid (HQ.out.aft (ha))
    replace HBp11 := Lib.hid (HBp11.out.aft (ha))
    replace HFI := Lib.hid (HFI.out.aft (ha))
    replace HBp18 := Lib.hid (HBp18.out.aft (ha))
    replace HBp24 := Lib.hid (HBp24.out.aft (ha))
    replace HBp25 := Lib.hid (HBp25.out.aft (ha))
    replace HBp29 := Lib.hid (HBp29.out.aft (ha))
    replace HBp30 := Lib.hid (HBp30.out.aft (ha))
    replace HA := Lib.hid (HA.out.trans (ha))
    try replace H2 := Lib.hid (H2.out.trans (ha))
    clear ha HL3
    have ya0 := HBp25.out.cell 0
    have ya1 := HBp25.out.cell 1
    have ya2 := HBp25.out.cell 2
    have ya3 := HBp25.out.cell 3
    have ya8 := HBp25.out.lt
    simp only [List.getElem?_toArray, List.getElem?_cons_zero, List.getElem?_cons_succ] at ya0 ya1 ya2 ya3
    have yb0 := HBp30.out.cell 0
    have yb1 := HBp30.out.cell 1
    have yb2 := HBp30.out.cell 2
    have yb3 := HBp30.out.cell 3
    have yb8 := HBp30.out.lt
    simp only [List.getElem?_toArray, List.getElem?_cons_zero, List.getElem?_cons_succ] at yb0 yb1 yb2 yb3
    (repeat (first | go_big_skip | go_big_want | go_big_move | go_big_op | go_step | go_upon | go_back))
    go_at_call 13
    refine (HL4.out _).mono ?_
    rintro e x28 ⟨rfl, ha⟩
    dsimp only
    clear ya0 ya1 ya2 ya3 ya8
    clear yb0 yb1 yb2 yb3 yb8
    replace HQ := Lib.hid (HQ.out.aft (ha))
    replace HBp11 := Lib.hid (HBp11.out.aft (ha))
    replace HFI := Lib.hid (HFI.out.aft (ha))
    replace HBp18 := Lib.hid (HBp18.out.aft (ha))
    replace HBp24 := Lib.hid (HBp24.out.aft (ha))
    replace HBp25 := Lib.hid (HBp25.out.aft (ha))
    replace HBp29 := Lib.hid (HBp29.out.aft (ha))
    replace HBp30 := Lib.hid (HBp30.out.aft (ha))
    replace HA := Lib.hid (HA.out.trans (ha))
    try replace H2 := Lib.hid (H2.out.trans (ha))
    clear ha HL4
    clear HBp29 HBp30
    go_upto_region 22 with fail
    refine wp_region_valsT (by kernel_rfl) 8 369 rfl (by kernel_rfl) (by kernel_rfl) (by kernel_rfl) [.slice (some ⟨g16, 0, none⟩) n c16, .int .i64 (t : Nat), .pointer (some ⟨g16, t, none⟩), .int .i64 (f t : Nat), .slice (some ⟨g16, 0, none⟩) n c16, .int .i64 (u : Nat), .pointer (some ⟨g16, u, none⟩), .int .i64 (f u : Nat)] rfl (fun _ W => Aft x28 W) (Aft.drew _) ?st7 ?fi7
    case st7 =>
      intro i o v ho hv
      match i, ho, hv with
      | 0, ho, hv =>
        cases ho; cases hv
        refine .inl ⟨rfl, fun done a W hd hp hk hw K hK => ?_⟩
        have e16 := hk.same 16 (by decide)
        exact op_val (by simp [go_sem, ev' e16]) (hK _ hw)
      | 1, ho, hv =>
        cases ho; cases hv
        refine .inl ⟨rfl, fun done a W hd hp hk hw K hK => ?_⟩
        have e15 := hk.same 15 (by decide)
        exact op_val (by simp [go_sem, ev' e15]) (hK _ hw)
      | 2, ho, hv =>
        cases ho; cases hv
        refine .inl ⟨rfl, fun done a W hd hp hk hw K hK => ?_⟩
        have e292 := hk.at_ 0 _ 292 _ rfl (by decide) _ rfl rfl rfl
        have e293 := hk.at_ 1 _ 293 _ rfl (by decide) _ rfl rfl rfl
        exact op_val (by simp [go_sem, ev' e292, ev' e293, htn]) (hK _ hw)
      | 3, ho, hv =>
        cases ho; cases hv
        refine .inl ⟨rfl, fun done a W hd hp hk hw K hK => ?_⟩
        have e294 := hk.at_ 2 _ 294 _ rfl (by decide) _ rfl rfl rfl
        exact op_val (by simp [go_sem, ev' e294, (HFI.out.aft hw).cell htn]) (hK _ hw)
      | 4, ho, hv =>
        cases ho; cases hv
        refine .inl ⟨rfl, fun done a W hd hp hk hw K hK => ?_⟩
        have e16 := hk.same 16 (by decide)
        exact op_val (by simp [go_sem, ev' e16]) (hK _ hw)
      | 5, ho, hv =>
        cases ho; cases hv
        refine .inl ⟨rfl, fun done a W hd hp hk hw K hK => ?_⟩
        have e13 := hk.same 13 (by decide)
        exact op_val (by simp [go_sem, ev' e13]) (hK _ hw)
      | 6, ho, hv =>
        cases ho; cases hv
        refine .inl ⟨rfl, fun done a W hd hp hk hw K hK => ?_⟩
        have e296 := hk.at_ 4 _ 296 _ rfl (by decide) _ rfl rfl rfl
        have e297 := hk.at_ 5 _ 297 _ rfl (by decide) _ rfl rfl rfl
        exact op_val (by simp [go_sem, ev' e296, ev' e297, hun]) (hK _ hw)
      | 7, ho, hv =>
        cases ho; cases hv
        refine .inl ⟨rfl, fun done a W hd hp hk hw K hK => ?_⟩
        have e298 := hk.at_ 6 _ 298 _ rfl (by decide) _ rfl rfl rfl
        exact op_val (by simp [go_sem, ev' e298, (HFI.out.aft hw).cell hun]) (hK _ hw)
      | _ + 8, _, hv => cases hv
    intro done W hd hw
    simp only [List.drop_succ_cons, List.drop_zero, List.zip_cons_cons, List.zip_nil_right, putAll]
    simp only [Act.put, List.setIfInBounds_toArray, List.set]
    clear hd
    replace HQ := Lib.hid (HQ.out.aft (hw))
    replace HBp11 := Lib.hid (HBp11.out.aft (hw))
    replace HFI := Lib.hid (HFI.out.aft (hw))
    replace HBp18 := Lib.hid (HBp18.out.aft (hw))
    replace HBp24 := Lib.hid (HBp24.out.aft (hw))
    replace HBp25 := Lib.hid (HBp25.out.aft (hw))
    replace HA := Lib.hid (HA.out.trans (hw))
    try replace H2 := Lib.hid (H2.out.trans (hw))
    clear hw HFI
    by_cases hft : f t = f u
    · have teq : (((f t : Nat) : Int) == ((f u : Nat) : Int)) = true := by rw [hft]; exact beq_self_eq_true _
      go_upto_region 23 with fail
      clear teq
      have hvt : s0 v t ≠ Sheet.far := fun h => (HTS.out.x.far_iff HTI.out hvn htn).1 h (by omega)
      have hut : s0 u t ≠ Sheet.far := fun h => (HTS.out.x.far_iff HTI.out hun htn).1 h (by omega)
      have htv : s0 t v ≠ Sheet.far := HTS.out.back hvn htn hvt
      have tr1 := HTS.out.tri hun hvn HSF.out hvt
      have tr2 := HTS.out.tri htn hvn htv HSB.out
      obtain ⟨j1, j2, j3, j4, j5, j6, j7, j8, hbf, hbt⟩ := bt_fb (S := ⟨(n : Nat), J⟩) HE.out HPO.out hpD12 (fun north => HPL.out.most north) HTS.out hvn htn hvt
      have HBJ : Hid (BtF ⟨(n : Nat), J⟩ rN rD v t s0 s1 j1 j2 j3 j4 j5 j6 j7 j8) := Lib.hid hbf
      have HB4 : Hid (∀ W, Quads W AJ J → Calls Try.prog 14 #[.agg #[.int .i64 (n : Nat), .slice AJ J.length cJ], .int .i64 (v : Nat), .int .i64 (t : Nat), .agg #[.int .i64 rN, .int .i64 rD]] W fun e w' => e = .returned (.tuple #[.agg #[.int .i64 j1, .int .i64 j2, .int .i64 j3, .int .i64 j4], .agg #[.int .i64 j5, .int .i64 j6, .int .i64 j7, .int .i64 j8], .int .i64 0]) ∧ Aft W w') := Lib.hid fun W h => hbt h
      clear hbf hbt
      obtain ⟨i1, i2, i3, i4, i5, i6, i7, i8, hbf, hbt⟩ := bt_fb (S := ⟨(n : Nat), J⟩) HE.out HPO.out hpD12 (fun north => HPL.out.most north) HTS.out hun htn hut
      have HBI : Hid (BtF ⟨(n : Nat), J⟩ rN rD u t s0 s1 i1 i2 i3 i4 i5 i6 i7 i8) := Lib.hid hbf
      have HB5 : Hid (∀ W, Quads W AJ J → Calls Try.prog 14 #[.agg #[.int .i64 (n : Nat), .slice AJ J.length cJ], .int .i64 (u : Nat), .int .i64 (t : Nat), .agg #[.int .i64 rN, .int .i64 rD]] W fun e w' => e = .returned (.tuple #[.agg #[.int .i64 i1, .int .i64 i2, .int .i64 i3, .int .i64 i4], .agg #[.int .i64 i5, .int .i64 i6, .int .i64 i7, .int .i64 i8], .int .i64 0]) ∧ Aft W w') := Lib.hid fun W h => hbt h
      clear hbf hbt
      obtain ⟨m1, em1⟩ : ∃ z, e3 * j4 + j3 * e4 = z := ⟨_, rfl⟩
      obtain ⟨m2, em2⟩ : ∃ z, e4 * j4 = z := ⟨_, rfl⟩
      obtain ⟨m3, em3⟩ : ∃ z, e1 * j2 + j1 * e2 = z := ⟨_, rfl⟩
      obtain ⟨m4, em4⟩ : ∃ z, e2 * j2 = z := ⟨_, rfl⟩
      have hs1 := HBF.out.f2.plus HBJ.out.f2
      have hs2 := HBF.out.f1.plus HBJ.out.f1
      have hl1 := Fb.lessSum (by omega) HBI.out.f2 HBF.out.f2 HBJ.out.f2 (by omega)
      have hl2 := Fb.sumLess (by omega) HBI.out.f1 HBF.out.f1 HBJ.out.f1 (by omega)
      rw [em1, em2] at hs1 hl1
      rw [em3, em4] at hs2 hl2
      have HS1 := Lib.hid hs1
      have HS2 := Lib.hid hs2
      have HL1 := Lib.hid hl1
      have HL2 := Lib.hid hl2
      clear hvt hut htv tr1 tr2 HBJ HBI em1 em2 em3 em4 hs1 hs2 hl1 hl2
      have c0 := HBp11.out.cell 0
      have c1 := HBp11.out.cell 1
      have c2 := HBp11.out.lt
      simp only [List.getElem?_toArray, List.getElem?_cons_zero, List.getElem?_cons_succ] at c0 c1
      have d0 := HBp18.out.cell 0
      have d1 := HBp18.out.cell 1
      have d2 := HBp18.out.lt
      simp only [List.getElem?_toArray, List.getElem?_cons_zero, List.getElem?_cons_succ] at d0 d1
      (repeat (first | go_big_skip | go_big_want | go_big_move | go_big_op | go_step | go_upon | go_back))
      go_at_call 14
      refine (HB4.out _ HQ.out).mono ?_
      rintro e x29 ⟨rfl, ha⟩
      dsimp only
      clear c0 c1 c2 d0 d1 d2 HB4
      replace HQ := Lib.hid (HQ.out.aft (ha))
      replace HBp11 := Lib.hid (HBp11.out.aft (ha))
      replace HBp18 := Lib.hid (HBp18.out.aft (ha))
      replace HBp24 := Lib.hid (HBp24.out.aft (ha))
      replace HBp25 := Lib.hid (HBp25.out.aft (ha))
      replace HA := Lib.hid (HA.out.trans (ha))
      try replace H2 := Lib.hid (H2.out.trans (ha))
      clear ha
      go_upto_region 24 with fail
      obtain ⟨p31, hs_p31⟩ : ∃ p31, x29.heap.size = p31 := ⟨_, rfl⟩
      have HBp31 : Hid (Blk ((x29.alloc (.cells #[.int .i64 j1, .int .i64 j2, .int .i64 j3, .int .i64 j4] 43)).alloc (.cells #[.int .i64 j5, .int .i64 j6, .int .i64 j7, .int .i64 j8] 43)) (p31) 43 #[.int .i64 j1, .int .i64 j2, .int .i64 j3, .int .i64 j4]) := Lib.hid (by
        have q := (Blk.new x29 43 #[.int .i64 j1, .int .i64 j2, .int .i64 j3, .int .i64 j4]).alloc (.cells #[.int .i64 j5, .int .i64 j6, .int .i64 j7, .int .i64 j8] 43)
        try simp only [World.size_alloc] at q
        rw [hs_p31] at q
        exact q)
      have HBp32 : Hid (Blk ((x29.alloc (.cells #[.int .i64 j1, .int .i64 j2, .int .i64 j3, .int .i64 j4] 43)).alloc (.cells #[.int .i64 j5, .int .i64 j6, .int .i64 j7, .int .i64 j8] 43)) (p31 + 1) 43 #[.int .i64 j5, .int .i64 j6, .int .i64 j7, .int .i64 j8]) := Lib.hid (by
        have q := Blk.new (x29.alloc (.cells #[.int .i64 j1, .int .i64 j2, .int .i64 j3, .int .i64 j4] 43)) 43 #[.int .i64 j5, .int .i64 j6, .int .i64 j7, .int .i64 j8]
        try simp only [World.size_alloc] at q
        rw [hs_p31] at q
        exact q)
      replace HQ := Lib.hid (HQ.out.aft ((Aft.alloc x29 (.cells #[.int .i64 j1, .int .i64 j2, .int .i64 j3, .int .i64 j4] 43)).then_alloc (.cells #[.int .i64 j5, .int .i64 j6, .int .i64 j7, .int .i64 j8] 43)))
      replace HBp11 := Lib.hid (HBp11.out.aft ((Aft.alloc x29 (.cells #[.int .i64 j1, .int .i64 j2, .int .i64 j3, .int .i64 j4] 43)).then_alloc (.cells #[.int .i64 j5, .int .i64 j6, .int .i64 j7, .int .i64 j8] 43)))
      replace HBp18 := Lib.hid (HBp18.out.aft ((Aft.alloc x29 (.cells #[.int .i64 j1, .int .i64 j2, .int .i64 j3, .int .i64 j4] 43)).then_alloc (.cells #[.int .i64 j5, .int .i64 j6, .int .i64 j7, .int .i64 j8] 43)))
      replace HBp24 := Lib.hid (HBp24.out.aft ((Aft.alloc x29 (.cells #[.int .i64 j1, .int .i64 j2, .int .i64 j3, .int .i64 j4] 43)).then_alloc (.cells #[.int .i64 j5, .int .i64 j6, .int .i64 j7, .int .i64 j8] 43)))
      replace HBp25 := Lib.hid (HBp25.out.aft ((Aft.alloc x29 (.cells #[.int .i64 j1, .int .i64 j2, .int .i64 j3, .int .i64 j4] 43)).then_alloc (.cells #[.int .i64 j5, .int .i64 j6, .int .i64 j7, .int .i64 j8] 43)))
      replace HA := Lib.hid (HA.out.trans ((Aft.alloc x29 (.cells #[.int .i64 j1, .int .i64 j2, .int .i64 j3, .int .i64 j4] 43)).then_alloc (.cells #[.int .i64 j5, .int .i64 j6, .int .i64 j7, .int .i64 j8] 43)))
      try replace H2 := Lib.hid (H2.out.trans ((Aft.alloc x29 (.cells #[.int .i64 j1, .int .i64 j2, .int .i64 j3, .int .i64 j4] 43)).then_alloc (.cells #[.int .i64 j5, .int .i64 j6, .int .i64 j7, .int .i64 j8] 43)))
      rw [hs_p31]
      generalize (x29.alloc (.cells #[.int .i64 j1, .int .i64 j2, .int .i64 j3, .int .i64 j4] 43)).alloc (.cells #[.int .i64 j5, .int .i64 j6, .int .i64 j7, .int .i64 j8] 43) = y30 at *
      clear hs_p31
      have c0 := HBp11.out.cell 0
      have c1 := HBp11.out.cell 1
      have c2 := HBp11.out.lt
      simp only [List.getElem?_toArray, List.getElem?_cons_zero, List.getElem?_cons_succ] at c0 c1
      have d0 := HBp18.out.cell 0
      have d1 := HBp18.out.cell 1
      have d2 := HBp18.out.lt
      simp only [List.getElem?_toArray, List.getElem?_cons_zero, List.getElem?_cons_succ] at d0 d1
      (repeat (first | go_big_skip | go_big_want | go_big_move | go_big_op | go_step | go_upon | go_back))
      go_at_call 14
      refine (HB5.out _ HQ.out).mono ?_
      rintro e x31 ⟨rfl, ha⟩
      dsimp only
      clear c0 c1 c2 d0 d1 d2 HB5
      replace HQ := Lib.hid (HQ.out.aft (ha))
      replace HBp11 := Lib.hid (HBp11.out.aft (ha))
      replace HBp18 := Lib.hid (HBp18.out.aft (ha))
      replace HBp24 := Lib.hid (HBp24.out.aft (ha))
      replace HBp25 := Lib.hid (HBp25.out.aft (ha))
      replace HBp31 := Lib.hid (HBp31.out.aft (ha))
      replace HBp32 := Lib.hid (HBp32.out.aft (ha))
      replace HA := Lib.hid (HA.out.trans (ha))
      try replace H2 := Lib.hid (H2.out.trans (ha))
      clear ha
      go_upto_region 25 with fail
      obtain ⟨p34, hs_p34⟩ : ∃ p34, x31.heap.size = p34 := ⟨_, rfl⟩
      have HBp34 : Hid (Blk ((x31.alloc (.cells #[.int .i64 i1, .int .i64 i2, .int .i64 i3, .int .i64 i4] 43)).alloc (.cells #[.int .i64 i5, .int .i64 i6, .int .i64 i7, .int .i64 i8] 43)) (p34) 43 #[.int .i64 i1, .int .i64 i2, .int .i64 i3, .int .i64 i4]) := Lib.hid (by
        have q := (Blk.new x31 43 #[.int .i64 i1, .int .i64 i2, .int .i64 i3, .int .i64 i4]).alloc (.cells #[.int .i64 i5, .int .i64 i6, .int .i64 i7, .int .i64 i8] 43)
        try simp only [World.size_alloc] at q
        rw [hs_p34] at q
        exact q)
      have HBp35 : Hid (Blk ((x31.alloc (.cells #[.int .i64 i1, .int .i64 i2, .int .i64 i3, .int .i64 i4] 43)).alloc (.cells #[.int .i64 i5, .int .i64 i6, .int .i64 i7, .int .i64 i8] 43)) (p34 + 1) 43 #[.int .i64 i5, .int .i64 i6, .int .i64 i7, .int .i64 i8]) := Lib.hid (by
        have q := Blk.new (x31.alloc (.cells #[.int .i64 i1, .int .i64 i2, .int .i64 i3, .int .i64 i4] 43)) 43 #[.int .i64 i5, .int .i64 i6, .int .i64 i7, .int .i64 i8]
        try simp only [World.size_alloc] at q
        rw [hs_p34] at q
        exact q)
      replace HQ := Lib.hid (HQ.out.aft ((Aft.alloc x31 (.cells #[.int .i64 i1, .int .i64 i2, .int .i64 i3, .int .i64 i4] 43)).then_alloc (.cells #[.int .i64 i5, .int .i64 i6, .int .i64 i7, .int .i64 i8] 43)))
      replace HBp11 := Lib.hid (HBp11.out.aft ((Aft.alloc x31 (.cells #[.int .i64 i1, .int .i64 i2, .int .i64 i3, .int .i64 i4] 43)).then_alloc (.cells #[.int .i64 i5, .int .i64 i6, .int .i64 i7, .int .i64 i8] 43)))
      replace HBp18 := Lib.hid (HBp18.out.aft ((Aft.alloc x31 (.cells #[.int .i64 i1, .int .i64 i2, .int .i64 i3, .int .i64 i4] 43)).then_alloc (.cells #[.int .i64 i5, .int .i64 i6, .int .i64 i7, .int .i64 i8] 43)))
      replace HBp24 := Lib.hid (HBp24.out.aft ((Aft.alloc x31 (.cells #[.int .i64 i1, .int .i64 i2, .int .i64 i3, .int .i64 i4] 43)).then_alloc (.cells #[.int .i64 i5, .int .i64 i6, .int .i64 i7, .int .i64 i8] 43)))
      replace HBp25 := Lib.hid (HBp25.out.aft ((Aft.alloc x31 (.cells #[.int .i64 i1, .int .i64 i2, .int .i64 i3, .int .i64 i4] 43)).then_alloc (.cells #[.int .i64 i5, .int .i64 i6, .int .i64 i7, .int .i64 i8] 43)))
      replace HBp31 := Lib.hid (HBp31.out.aft ((Aft.alloc x31 (.cells #[.int .i64 i1, .int .i64 i2, .int .i64 i3, .int .i64 i4] 43)).then_alloc (.cells #[.int .i64 i5, .int .i64 i6, .int .i64 i7, .int .i64 i8] 43)))
      replace HBp32 := Lib.hid (HBp32.out.aft ((Aft.alloc x31 (.cells #[.int .i64 i1, .int .i64 i2, .int .i64 i3, .int .i64 i4] 43)).then_alloc (.cells #[.int .i64 i5, .int .i64 i6, .int .i64 i7, .int .i64 i8] 43)))
      replace HA := Lib.hid (HA.out.trans ((Aft.alloc x31 (.cells #[.int .i64 i1, .int .i64 i2, .int .i64 i3, .int .i64 i4] 43)).then_alloc (.cells #[.int .i64 i5, .int .i64 i6, .int .i64 i7, .int .i64 i8] 43)))
      try replace H2 := Lib.hid (H2.out.trans ((Aft.alloc x31 (.cells #[.int .i64 i1, .int .i64 i2, .int .i64 i3, .int .i64 i4] 43)).then_alloc (.cells #[.int .i64 i5, .int .i64 i6, .int .i64 i7, .int .i64 i8] 43)))
      rw [hs_p34]
      generalize (x31.alloc (.cells #[.int .i64 i1, .int .i64 i2, .int .i64 i3, .int .i64 i4] 43)).alloc (.cells #[.int .i64 i5, .int .i64 i6, .int .i64 i7, .int .i64 i8] 43) = y32 at *
      clear hs_p34
      refine wp_region_valsT (by kernel_rfl) 27 369 rfl (by kernel_rfl) (by kernel_rfl) (by kernel_rfl) [.int .i64 0, .bool false, .bool false, .int .i64 0, .bool false, .bool false, .bool false, .pointer (some ⟨p34, 2, none⟩), .agg #[.int .i64 i3, .int .i64 i4], .pointer (some ⟨p24, 2, none⟩), .agg #[.int .i64 e3, .int .i64 e4], .pointer (some ⟨p31, 2, none⟩), .agg #[.int .i64 j3, .int .i64 j4], .agg #[.int .i64 m1, .int .i64 m2], .bool true, .bool false, .bool false, .bool false, .pointer (some ⟨p24, 0, none⟩), .agg #[.int .i64 e1, .int .i64 e2], .pointer (some ⟨p31, 0, none⟩), .agg #[.int .i64 j1, .int .i64 j2], .agg #[.int .i64 m3, .int .i64 m4], .pointer (some ⟨p34, 0, none⟩), .agg #[.int .i64 i1, .int .i64 i2], .bool true, .bool false] rfl (fun _ W => Aft y32 W) (Aft.drew _) ?st8 ?fi8
      case st8 =>
        intro i o v ho hv
        match i, ho, hv with
        | 0, ho, hv =>
          cases ho; cases hv
          refine .inl ⟨rfl, fun done a W hd hp hk hw K hK => ?_⟩
          have e33 := hk.same 33 (by decide)
          exact op_val (by simp [go_sem, ev' e33]) (hK _ hw)
        | 1, ho, hv =>
          cases ho; cases hv
          refine .inl ⟨rfl, fun done a W hd hp hk hw K hK => ?_⟩
          have e319 := hk.at_ 0 _ 319 _ rfl (by decide) _ rfl rfl rfl
          exact op_val (by simp [go_sem, ev' e319]) (hK _ hw)
        | 2, ho, hv =>
          cases ho; cases hv
          refine .inl ⟨rfl, fun done a W hd hp hk hw K hK => ?_⟩
          have e320 := hk.at_ 1 _ 320 _ rfl (by decide) _ rfl rfl rfl
          exact op_val (by simp [go_sem, ev' e320]) (hK _ hw)
        | 3, ho, hv =>
          cases ho; cases hv
          refine .inl ⟨rfl, fun done a W hd hp hk hw K hK => ?_⟩
          have e36 := hk.same 36 (by decide)
          exact op_val (by simp [go_sem, ev' e36]) (hK _ hw)
        | 4, ho, hv =>
          cases ho; cases hv
          refine .inl ⟨rfl, fun done a W hd hp hk hw K hK => ?_⟩
          have e322 := hk.at_ 3 _ 322 _ rfl (by decide) _ rfl rfl rfl
          exact op_val (by simp [go_sem, ev' e322]) (hK _ hw)
        | 5, ho, hv =>
          cases ho; cases hv
          refine .inl ⟨rfl, fun done a W hd hp hk hw K hK => ?_⟩
          have e321 := hk.at_ 2 _ 321 _ rfl (by decide) _ rfl rfl rfl
          have e323 := hk.at_ 4 _ 323 _ rfl (by decide) _ rfl rfl rfl
          exact op_val (by simp [go_sem, ev' e321, ev' e323]) (hK _ hw)
        | 6, ho, hv =>
          cases ho; cases hv
          refine .inl ⟨rfl, fun done a W hd hp hk hw K hK => ?_⟩
          have e324 := hk.at_ 5 _ 324 _ rfl (by decide) _ rfl rfl rfl
          exact op_val (by simp [go_sem, ev' e324]) (hK _ hw)
        | 7, ho, hv =>
          cases ho; cases hv
          refine .inl ⟨rfl, fun done a W hd hp hk hw K hK => ?_⟩
          have e34 := hk.same 34 (by decide)
          exact op_val (by simp [go_sem, ev' e34]) (hK _ hw)
        | 8, ho, hv =>
          cases ho; cases hv
          refine .inl ⟨rfl, fun done a W hd hp hk hw K hK => ?_⟩
          have e326 := hk.at_ 7 _ 326 _ rfl (by decide) _ rfl rfl rfl
          exact op_val (by simp [go_sem, ev' e326, (HBp34.out.aft hw).cell 2, (HBp34.out.aft hw).cell 3]) (hK _ hw)
        | 9, ho, hv =>
          cases ho; cases hv
          refine .inl ⟨rfl, fun done a W hd hp hk hw K hK => ?_⟩
          have e24 := hk.same 24 (by decide)
          exact op_val (by simp [go_sem, ev' e24]) (hK _ hw)
        | 10, ho, hv =>
          cases ho; cases hv
          refine .inl ⟨rfl, fun done a W hd hp hk hw K hK => ?_⟩
          have e328 := hk.at_ 9 _ 328 _ rfl (by decide) _ rfl rfl rfl
          exact op_val (by simp [go_sem, ev' e328, (HBp24.out.aft hw).cell 2, (HBp24.out.aft hw).cell 3]) (hK _ hw)
        | 11, ho, hv =>
          cases ho; cases hv
          refine .inl ⟨rfl, fun done a W hd hp hk hw K hK => ?_⟩
          have e31 := hk.same 31 (by decide)
          exact op_val (by simp [go_sem, ev' e31]) (hK _ hw)
        | 12, ho, hv =>
          cases ho; cases hv
          refine .inl ⟨rfl, fun done a W hd hp hk hw K hK => ?_⟩
          have e330 := hk.at_ 11 _ 330 _ rfl (by decide) _ rfl rfl rfl
          exact op_val (by simp [go_sem, ev' e330, (HBp31.out.aft hw).cell 2, (HBp31.out.aft hw).cell 3]) (hK _ hw)
        | 13, ho, hv =>
          cases ho; cases hv
          refine .inl ⟨rfl, fun done a W hd hp hk hw K hK => ?_⟩
          have e329 := hk.at_ 10 _ 329 _ rfl (by decide) _ rfl rfl rfl
          have e331 := hk.at_ 12 _ 331 _ rfl (by decide) _ rfl rfl rfl
          refine op_callN rfl rfl rfl _ rfl (vs := #[.agg #[.int .i64 e3, .int .i64 e4], .agg #[.int .i64 j3, .int .i64 j4]]) (by simp [e329, e331]) (HS1.out W) ?_
          rintro e w7 ⟨rfl, hw7⟩
          exact ⟨_, rfl, hK _ (hw.trans hw7)⟩
        | 14, ho, hv =>
          cases ho; cases hv
          refine .inl ⟨rfl, fun done a W hd hp hk hw K hK => ?_⟩
          have e327 := hk.at_ 8 _ 327 _ rfl (by decide) _ rfl rfl rfl
          have e332 := hk.at_ 13 _ 332 _ rfl (by decide) _ rfl rfl rfl
          refine op_callN rfl rfl rfl _ rfl (vs := #[.agg #[.int .i64 i3, .int .i64 i4], .agg #[.int .i64 m1, .int .i64 m2]]) (by simp [e327, e332]) (HL1.out W) ?_
          rintro e w7 ⟨rfl, hw7⟩
          exact ⟨_, rfl, hK _ (hw.trans hw7)⟩
        | 15, ho, hv =>
          cases ho; cases hv
          refine .inl ⟨rfl, fun done a W hd hp hk hw K hK => ?_⟩
          have e333 := hk.at_ 14 _ 333 _ rfl (by decide) _ rfl rfl rfl
          exact op_val (by simp [go_sem, ev' e333]) (hK _ hw)
        | 16, ho, hv =>
          cases ho; cases hv
          refine .inl ⟨rfl, fun done a W hd hp hk hw K hK => ?_⟩
          have e325 := hk.at_ 6 _ 325 _ rfl (by decide) _ rfl rfl rfl
          have e334 := hk.at_ 15 _ 334 _ rfl (by decide) _ rfl rfl rfl
          exact op_val (by simp [go_sem, ev' e325, ev' e334]) (hK _ hw)
        | 17, ho, hv =>
          cases ho; cases hv
          refine .inl ⟨rfl, fun done a W hd hp hk hw K hK => ?_⟩
          have e335 := hk.at_ 16 _ 335 _ rfl (by decide) _ rfl rfl rfl
          exact op_val (by simp [go_sem, ev' e335]) (hK _ hw)
        | 18, ho, hv =>
          cases ho; cases hv
          refine .inl ⟨rfl, fun done a W hd hp hk hw K hK => ?_⟩
          have e24 := hk.same 24 (by decide)
          exact op_val (by simp [go_sem, ev' e24]) (hK _ hw)
        | 19, ho, hv =>
          cases ho; cases hv
          refine .inl ⟨rfl, fun done a W hd hp hk hw K hK => ?_⟩
          have e337 := hk.at_ 18 _ 337 _ rfl (by decide) _ rfl rfl rfl
          exact op_val (by simp [go_sem, ev' e337, (HBp24.out.aft hw).cell 0, (HBp24.out.aft hw).cell 1]) (hK _ hw)
        | 20, ho, hv =>
          cases ho; cases hv
          refine .inl ⟨rfl, fun done a W hd hp hk hw K hK => ?_⟩
          have e31 := hk.same 31 (by decide)
          exact op_val (by simp [go_sem, ev' e31]) (hK _ hw)
        | 21, ho, hv =>
          cases ho; cases hv
          refine .inl ⟨rfl, fun done a W hd hp hk hw K hK => ?_⟩
          have e339 := hk.at_ 20 _ 339 _ rfl (by decide) _ rfl rfl rfl
          exact op_val (by simp [go_sem, ev' e339, (HBp31.out.aft hw).cell 0, (HBp31.out.aft hw).cell 1]) (hK _ hw)
        | 22, ho, hv =>
          cases ho; cases hv
          refine .inl ⟨rfl, fun done a W hd hp hk hw K hK => ?_⟩
          have e338 := hk.at_ 19 _ 338 _ rfl (by decide) _ rfl rfl rfl
          have e340 := hk.at_ 21 _ 340 _ rfl (by decide) _ rfl rfl rfl
          refine op_callN rfl rfl rfl _ rfl (vs := #[.agg #[.int .i64 e1, .int .i64 e2], .agg #[.int .i64 j1, .int .i64 j2]]) (by simp [e338, e340]) (HS2.out W) ?_
          rintro e w7 ⟨rfl, hw7⟩
          exact ⟨_, rfl, hK _ (hw.trans hw7)⟩
        | 23, ho, hv =>
          cases ho; cases hv
          refine .inl ⟨rfl, fun done a W hd hp hk hw K hK => ?_⟩
          have e34 := hk.same 34 (by decide)
          exact op_val (by simp [go_sem, ev' e34]) (hK _ hw)
        | 24, ho, hv =>
          cases ho; cases hv
          refine .inl ⟨rfl, fun done a W hd hp hk hw K hK => ?_⟩
          have e342 := hk.at_ 23 _ 342 _ rfl (by decide) _ rfl rfl rfl
          exact op_val (by simp [go_sem, ev' e342, (HBp34.out.aft hw).cell 0, (HBp34.out.aft hw).cell 1]) (hK _ hw)
        | 25, ho, hv =>
          cases ho; cases hv
          refine .inl ⟨rfl, fun done a W hd hp hk hw K hK => ?_⟩
          have e341 := hk.at_ 22 _ 341 _ rfl (by decide) _ rfl rfl rfl
          have e343 := hk.at_ 24 _ 343 _ rfl (by decide) _ rfl rfl rfl
          refine op_callN rfl rfl rfl _ rfl (vs := #[.agg #[.int .i64 m3, .int .i64 m4], .agg #[.int .i64 i1, .int .i64 i2]]) (by simp [e341, e343]) (HL2.out W) ?_
          rintro e w7 ⟨rfl, hw7⟩
          exact ⟨_, rfl, hK _ (hw.trans hw7)⟩
        | 26, ho, hv =>
          cases ho; cases hv
          refine .inl ⟨rfl, fun done a W hd hp hk hw K hK => ?_⟩
          have e344 := hk.at_ 25 _ 344 _ rfl (by decide) _ rfl rfl rfl
          exact op_val (by simp [go_sem, ev' e344]) (hK _ hw)
        | _ + 27, _, hv => cases hv
      intro done W hd hw
      simp only [List.drop_succ_cons, List.drop_zero, List.zip_cons_cons, List.zip_nil_right, putAll]
      simp only [Act.put, List.setIfInBounds_toArray, List.set]
      clear hd
      replace HQ := Lib.hid (HQ.out.aft (hw))
      replace HBp11 := Lib.hid (HBp11.out.aft (hw))
      replace HBp18 := Lib.hid (HBp18.out.aft (hw))
      replace HBp24 := Lib.hid (HBp24.out.aft (hw))
      replace HBp25 := Lib.hid (HBp25.out.aft (hw))
      replace HBp31 := Lib.hid (HBp31.out.aft (hw))
      replace HBp32 := Lib.hid (HBp32.out.aft (hw))
      replace HBp34 := Lib.hid (HBp34.out.aft (hw))
      replace HBp35 := Lib.hid (HBp35.out.aft (hw))
      replace HA := Lib.hid (HA.out.trans (hw))
      try replace H2 := Lib.hid (H2.out.trans (hw))
      clear hw HS1 HS2 HL1 HL2 HBp31 HBp32 HBp34 HBp35
      go_upto_region 27 with fail
      have d0 := HBp18.out.cell 0
      have d1 := HBp18.out.cell 1
      have d2 := HBp18.out.lt
      simp only [List.getElem?_toArray, List.getElem?_cons_zero, List.getElem?_cons_succ] at d0 d1
      by_cases hpos : 0 < rN
      · have tp : decide (0 < rN) = true := decide_eq_true hpos
        go_upto_region 28 with fail
        clear tp d0 d1 d2
        obtain ⟨h1, eh1⟩ : ∃ z, 2 * rN = z := ⟨_, rfl⟩
        obtain ⟨h2, eh2⟩ : ∃ z, h1 - 1 = z := ⟨_, rfl⟩
        obtain ⟨h3, eh3⟩ : ∃ z, 2 * rD = z := ⟨_, rfl⟩
        have hw1 : Hid (IntKind.i64.wrap (2 * rN) = h1) := Lib.hid (by rw [eh1]; exact IntWalk.i64_in _ (by omega))
        have hw2 : Hid (IntKind.i64.wrap (h1 - 1) = h2) := Lib.hid (by rw [eh2]; exact IntWalk.i64_in _ (by omega))
        have hw3 : Hid (IntKind.i64.wrap (2 * rD) = h3) := Lib.hid (by rw [eh3]; exact IntWalk.i64_in _ (by omega))
        have hnot := HPL.out.not hpos
        have hph : PlayOk h2 h3 := ⟨by omega, by omega, by omega, by omega⟩
        have e5 : 2 * rN - 1 = h2 := by omega
        have hnot : ∃ north, ¬ Sheet.AtMost (Sheet.legs (joOf north J)) h2 h3 := by
          rw [← e5, ← eh3]
          exact hnot
        have HB9 : Hid (∀ W, Quads W AJ J → Calls Try.prog 14 #[.agg #[.int .i64 (n : Nat), .slice AJ J.length cJ], .int .i64 (u : Nat), .int .i64 (v : Nat), .agg #[.int .i64 h2, .int .i64 h3]] W fun e w' => e = .returned (.tuple #[.agg #[.int .i64 0, .int .i64 0, .int .i64 0, .int .i64 0], .agg #[.int .i64 0, .int .i64 0, .int .i64 0, .int .i64 0], .int .i64 8]) ∧ Aft W w') := Lib.hid fun W h => Calls.mono (between_good ⟨(n : Nat), J⟩ AJ cJ u v h2 h3 W h HE.out hun hvn hph) fun _ _ h => h.less HSO.out hnot
        clear eh1 eh2 eh3 hnot hph e5
        obtain ⟨y33, hY⟩ : ∃ Y, Y = W := ⟨_, rfl⟩
        rw [← hY] at HQ HBp11 HBp18 HA ⊢
        clear hY
        refine wp_region_valsU (by kernel_rfl) 20 369 rfl (by kernel_rfl) (by kernel_rfl) [some (.agg #[.int .i64 (n : Nat), .slice AJ J.length cJ]), some (.int .i64 (u : Nat)), some (.int .i64 (v : Nat)), some (.pointer (some ⟨p18, 0, none⟩)), some (.int .i64 rN), some (.int .i64 h1), some (.int .i64 h2), some (.pointer (some ⟨p18, 1, none⟩)), some (.int .i64 rD), some (.int .i64 h3), some (.agg #[.int .i64 h2, .int .i64 h3]), some (.tuple #[.agg #[.int .i64 0, .int .i64 0, .int .i64 0, .int .i64 0], .agg #[.int .i64 0, .int .i64 0, .int .i64 0, .int .i64 0], .int .i64 8]), some (.tuple #[.agg #[.int .i64 0, .int .i64 0, .int .i64 0, .int .i64 0], .agg #[.int .i64 0, .int .i64 0, .int .i64 0, .int .i64 0], .int .i64 8]), some (.agg #[.int .i64 0, .int .i64 0, .int .i64 0, .int .i64 0]), some (.agg #[.int .i64 0, .int .i64 0, .int .i64 0, .int .i64 0]), some (.int .i64 8), none, none, some undef, some undef] (by kernel_rfl) rfl (By2 y33) (By2.start) ?st9 ?fi9
        case st9 =>
          intro i o v ho hv
          match i, ho, hv with
          | 0, ho, hv =>
            cases ho; cases hv
            refine .inl ⟨rfl, fun done a W hz hd hp hk hw K hK => ?_⟩
            have e11 := hk.same 11 (by decide)
            exact op_val (v := .agg #[.int .i64 (n : Nat), .slice AJ J.length cJ]) (by simp [go_sem, ev' e11, (HBp11.out.aft hw.aft).cell 0, (HBp11.out.aft hw.aft).cell 1]) (hK _ _ (fun u hu => by cases hu; rfl) (hw.keep (Aft.refl _) (by decide) (by decide)))
          | 1, ho, hv =>
            cases ho; cases hv
            refine .inl ⟨rfl, fun done a W hz hd hp hk hw K hK => ?_⟩
            have e13 := hk.same 13 (by decide)
            exact op_val (v := .int .i64 (u : Nat)) (by simp [go_sem, ev' e13]) (hK _ _ (fun u hu => by cases hu; rfl) (hw.keep (Aft.refl _) (by decide) (by decide)))
          | 2, ho, hv =>
            cases ho; cases hv
            refine .inl ⟨rfl, fun done a W hz hd hp hk hw K hK => ?_⟩
            have e14 := hk.same 14 (by decide)
            exact op_val (v := .int .i64 (v : Nat)) (by simp [go_sem, ev' e14]) (hK _ _ (fun u hu => by cases hu; rfl) (hw.keep (Aft.refl _) (by decide) (by decide)))
          | 3, ho, hv =>
            cases ho; cases hv
            refine .inl ⟨rfl, fun done a W hz hd hp hk hw K hK => ?_⟩
            have e18 := hk.same 18 (by decide)
            exact op_val (v := .pointer (some ⟨p18, 0, none⟩)) (by simp [go_sem, ev' e18]) (hK _ _ (fun u hu => by cases hu; rfl) (hw.keep (Aft.refl _) (by decide) (by decide)))
          | 4, ho, hv =>
            cases ho; cases hv
            refine .inl ⟨rfl, fun done a W hz hd hp hk hw K hK => ?_⟩
            have e354 := hk.at_ 3 _ 354 _ rfl (by decide) _ rfl rfl rfl
            exact op_val (v := .int .i64 rN) (by simp [go_sem, ev' e354, (HBp18.out.aft hw.aft).cell 0]) (hK _ _ (fun u hu => by cases hu; rfl) (hw.keep (Aft.refl _) (by decide) (by decide)))
          | 5, ho, hv =>
            cases ho; cases hv
            refine .inl ⟨rfl, fun done a W hz hd hp hk hw K hK => ?_⟩
            have e355 := hk.at_ 4 _ 355 _ rfl (by decide) _ rfl rfl rfl
            exact op_val (v := .int .i64 h1) (by simp [go_sem, ev' e355, hw1.out]) (hK _ _ (fun u hu => by cases hu; rfl) (hw.keep (Aft.refl _) (by decide) (by decide)))
          | 6, ho, hv =>
            cases ho; cases hv
            refine .inl ⟨rfl, fun done a W hz hd hp hk hw K hK => ?_⟩
            have e356 := hk.at_ 5 _ 356 _ rfl (by decide) _ rfl rfl rfl
            exact op_val (v := .int .i64 h2) (by simp [go_sem, ev' e356, hw2.out]) (hK _ _ (fun u hu => by cases hu; rfl) (hw.keep (Aft.refl _) (by decide) (by decide)))
          | 7, ho, hv =>
            cases ho; cases hv
            refine .inl ⟨rfl, fun done a W hz hd hp hk hw K hK => ?_⟩
            have e18 := hk.same 18 (by decide)
            exact op_val (v := .pointer (some ⟨p18, 1, none⟩)) (by simp [go_sem, ev' e18]) (hK _ _ (fun u hu => by cases hu; rfl) (hw.keep (Aft.refl _) (by decide) (by decide)))
          | 8, ho, hv =>
            cases ho; cases hv
            refine .inl ⟨rfl, fun done a W hz hd hp hk hw K hK => ?_⟩
            have e358 := hk.at_ 7 _ 358 _ rfl (by decide) _ rfl rfl rfl
            exact op_val (v := .int .i64 rD) (by simp [go_sem, ev' e358, (HBp18.out.aft hw.aft).cell 1]) (hK _ _ (fun u hu => by cases hu; rfl) (hw.keep (Aft.refl _) (by decide) (by decide)))
          | 9, ho, hv =>
            cases ho; cases hv
            refine .inl ⟨rfl, fun done a W hz hd hp hk hw K hK => ?_⟩
            have e359 := hk.at_ 8 _ 359 _ rfl (by decide) _ rfl rfl rfl
            exact op_val (v := .int .i64 h3) (by simp [go_sem, ev' e359, hw3.out]) (hK _ _ (fun u hu => by cases hu; rfl) (hw.keep (Aft.refl _) (by decide) (by decide)))
          | 10, ho, hv =>
            cases ho; cases hv
            refine .inl ⟨rfl, fun done a W hz hd hp hk hw K hK => ?_⟩
            have e357 := hk.at_ 6 _ 357 _ rfl (by decide) _ rfl rfl rfl
            have e360 := hk.at_ 9 _ 360 _ rfl (by decide) _ rfl rfl rfl
            refine op_callN rfl rfl rfl _ rfl (vs := #[.int .i64 h2, .int .i64 h3]) (by simp [e357, e360]) (ratioL_any h2 h3 W) ?_
            rintro e w7 ⟨rfl, hw7⟩
            exact ⟨_, rfl, hK _ _ (fun u hu => by cases hu; rfl) (hw.keep hw7 (by decide) (by decide))⟩
          | 11, ho, hv =>
            cases ho; cases hv
            refine .inl ⟨rfl, fun done a W hz hd hp hk hw K hK => ?_⟩
            have e351 := hk.at_ 0 _ 351 _ rfl (by decide) _ rfl rfl rfl
            have e352 := hk.at_ 1 _ 352 _ rfl (by decide) _ rfl rfl rfl
            have e353 := hk.at_ 2 _ 353 _ rfl (by decide) _ rfl rfl rfl
            have e361 := hk.at_ 10 _ 361 _ rfl (by decide) _ rfl rfl rfl
            refine op_callN rfl rfl rfl _ rfl (vs := #[.agg #[.int .i64 (n : Nat), .slice AJ J.length cJ], .int .i64 (u : Nat), .int .i64 (v : Nat), .agg #[.int .i64 h2, .int .i64 h3]]) (by simp [e351, e352, e353, e361]) (HB9.out W (HQ.out.aft hw.aft)) ?_
            rintro e w7 ⟨rfl, hw7⟩
            exact ⟨_, rfl, hK _ _ (fun u hu => by cases hu; rfl) (hw.keep hw7 (by decide) (by decide))⟩
          | 12, ho, hv =>
            cases ho; cases hv
            refine .inl ⟨rfl, fun done a W hz hd hp hk hw K hK => ?_⟩
            have e362 := hk.at_ 11 _ 362 _ rfl (by decide) _ rfl rfl rfl
            exact op_val (v := .tuple #[.agg #[.int .i64 0, .int .i64 0, .int .i64 0, .int .i64 0], .agg #[.int .i64 0, .int .i64 0, .int .i64 0, .int .i64 0], .int .i64 8]) (by simp [go_sem, ev' e362]) (hK _ _ (fun u hu => by cases hu; rfl) (hw.keep (Aft.refl _) (by decide) (by decide)))
          | 13, ho, hv =>
            cases ho; cases hv
            refine .inl ⟨rfl, fun done a W hz hd hp hk hw K hK => ?_⟩
            have e350 := hk.at_ 12 _ 350 _ rfl (by decide) _ rfl rfl rfl
            exact op_val (v := .agg #[.int .i64 0, .int .i64 0, .int .i64 0, .int .i64 0]) (by simp [go_sem, ev' e350]) (hK _ _ (fun u hu => by cases hu; rfl) (hw.keep (Aft.refl _) (by decide) (by decide)))
          | 14, ho, hv =>
            cases ho; cases hv
            refine .inl ⟨rfl, fun done a W hz hd hp hk hw K hK => ?_⟩
            have e350 := hk.at_ 12 _ 350 _ rfl (by decide) _ rfl rfl rfl
            exact op_val (v := .agg #[.int .i64 0, .int .i64 0, .int .i64 0, .int .i64 0]) (by simp [go_sem, ev' e350]) (hK _ _ (fun u hu => by cases hu; rfl) (hw.keep (Aft.refl _) (by decide) (by decide)))
          | 15, ho, hv =>
            cases ho; cases hv
            refine .inl ⟨rfl, fun done a W hz hd hp hk hw K hK => ?_⟩
            have e350 := hk.at_ 12 _ 350 _ rfl (by decide) _ rfl rfl rfl
            exact op_val (v := .int .i64 8) (by simp [go_sem, ev' e350]) (hK _ _ (fun u hu => by cases hu; rfl) (hw.keep (Aft.refl _) (by decide) (by decide)))
          | 16, ho, hv =>
            cases ho; cases hv
            refine .inl ⟨rfl, fun done a W hz hd hp hk hw K hK => ?_⟩
            exact op_valW (w' := W.alloc (.cells #[.int .i64 0, .int .i64 0, .int .i64 0, .int .i64 0] 43)) (v := .pointer (some ⟨W.heap.size, 0, none⟩)) (by simp [go_sem]) (hK _ _ (fun u hu => by cases hu) (hw.stepx (by rw [hz]; decide) _ _ _ _))
          | 17, ho, hv =>
            cases ho; cases hv
            refine .inl ⟨rfl, fun done a W hz hd hp hk hw K hK => ?_⟩
            exact op_valW (w' := W.alloc (.cells #[.int .i64 0, .int .i64 0, .int .i64 0, .int .i64 0] 43)) (v := .pointer (some ⟨W.heap.size, 0, none⟩)) (by simp [go_sem]) (hK _ _ (fun u hu => by cases hu) (hw.stepy (by rw [hz]; decide) _ _ _ _))
          | 18, ho, hv =>
            cases ho; cases hv
            refine .inl ⟨rfl, fun done a W hz hd hp hk hw K hK => ?_⟩
            have e363 := hk.at_ 13 _ 363 _ rfl (by decide) _ rfl rfl rfl
            obtain ⟨b, e37, hbs, v1, v2, v3, v4, hbk⟩ := hw.x (hp 16 (by decide))
            have c0 := hbk.cell 0
            have c1 := hbk.cell 1
            have c2 := hbk.cell 2
            have c3 := hbk.cell 3
            have c4 := hbk.frozen 0
            have c5 := hbk.frozen 1
            have c6 := hbk.frozen 2
            have c7 := hbk.frozen 3
            have c8 := hbk.lt
            simp only [List.getElem?_toArray, List.getElem?_cons_zero, List.getElem?_cons_succ] at c0 c1 c2 c3
            exact op_skipW (w' := (((W.setCell ⟨b, 0, none⟩ (.int .i64 0)).setCell ⟨b, 1, none⟩ (.int .i64 0)).setCell ⟨b, 2, none⟩ (.int .i64 0)).setCell ⟨b, 3, none⟩ (.int .i64 0)) (by simp [go_sem, ev' e37, ev' e363, c0, c1, c2, c3, c4, c5, c6, c7, c8]) (hK _ _ (fun u hu => by cases hu; rfl) (hw.put hbs _ _ _ _ (by decide) rfl))
          | 19, ho, hv =>
            cases ho; cases hv
            refine .inl ⟨rfl, fun done a W hz hd hp hk hw K hK => ?_⟩
            have e364 := hk.at_ 14 _ 364 _ rfl (by decide) _ rfl rfl rfl
            obtain ⟨b, e38, hbs, v1, v2, v3, v4, hbk⟩ := hw.y (hp 17 (by decide))
            have c0 := hbk.cell 0
            have c1 := hbk.cell 1
            have c2 := hbk.cell 2
            have c3 := hbk.cell 3
            have c4 := hbk.frozen 0
            have c5 := hbk.frozen 1
            have c6 := hbk.frozen 2
            have c7 := hbk.frozen 3
            have c8 := hbk.lt
            simp only [List.getElem?_toArray, List.getElem?_cons_zero, List.getElem?_cons_succ] at c0 c1 c2 c3
            exact op_skipW (w' := (((W.setCell ⟨b, 0, none⟩ (.int .i64 0)).setCell ⟨b, 1, none⟩ (.int .i64 0)).setCell ⟨b, 2, none⟩ (.int .i64 0)).setCell ⟨b, 3, none⟩ (.int .i64 0)) (by simp [go_sem, ev' e38, ev' e364, c0, c1, c2, c3, c4, c5, c6, c7, c8]) (hK _ _ (fun u hu => by cases hu; rfl) (hw.put hbs _ _ _ _ (by decide) rfl))
          | _ + 20, _, hv => cases hv
        intro done us W hus hd hw
        have hwa := hw.aft
        obtain ⟨o1, o2, rfl⟩ := list2 hus
        clear hw hd hus HB9 hw1 hw2 hw3
        simp only [fill, List.drop_succ_cons, List.drop_zero, List.zip_cons_cons, List.zip_nil_right, putAll]
        simp only [Act.put, List.setIfInBounds_toArray, List.set]
        replace HA := Lib.hid (HA.out.trans hwa)
        clear hwa
        go_upto_region 31 with fail
        (repeat (first | go_big_skip | go_big_want | go_big_move | go_big_op | go_step | go_upon | go_back))
        go_at_call 15
        refine (awake_any _).mono ?_
        rintro e x34 ⟨rfl, ha⟩
        dsimp only
        have HAW := Lib.hid (HA.out.trans ha)
        clear ha
        (repeat (first | go_big_skip | go_big_want | go_big_move | go_big_op | go_step | go_upon | go_back))
        go_ret
        exact ⟨rfl, HAW.out⟩
      · have tp : decide (0 < rN) = false := decide_eq_false hpos
        go_upto_region 31 with fail
        clear tp d0 d1 d2
        (repeat (first | go_big_skip | go_big_want | go_big_move | go_big_op | go_step | go_upon | go_back))
        go_at_call 15
        refine (awake_any _).mono ?_
        rintro e x35 ⟨rfl, ha⟩
        dsimp only
        have HAW := Lib.hid (HA.out.trans ha)
        clear ha
        (repeat (first | go_big_skip | go_big_want | go_big_move | go_big_op | go_step | go_upon | go_back))
        go_ret
        exact ⟨rfl, HAW.out⟩
    · have teq : (((f t : Nat) : Int) == ((f u : Nat) : Int)) = false := beq_eq_false_iff_ne.2 (by omega)
      go_upto_region 27 with fail
      clear teq
      have d0 := HBp18.out.cell 0
      have d1 := HBp18.out.cell 1
      have d2 := HBp18.out.lt
      simp only [List.getElem?_toArray, List.getElem?_cons_zero, List.getElem?_cons_succ] at d0 d1
      by_cases hpos : 0 < rN
      · have tp : decide (0 < rN) = true := decide_eq_true hpos
        go_upto_region 28 with fail
        clear tp d0 d1 d2
        obtain ⟨h1, eh1⟩ : ∃ z, 2 * rN = z := ⟨_, rfl⟩
        obtain ⟨h2, eh2⟩ : ∃ z, h1 - 1 = z := ⟨_, rfl⟩
        obtain ⟨h3, eh3⟩ : ∃ z, 2 * rD = z := ⟨_, rfl⟩
        have hw1 : Hid (IntKind.i64.wrap (2 * rN) = h1) := Lib.hid (by rw [eh1]; exact IntWalk.i64_in _ (by omega))
        have hw2 : Hid (IntKind.i64.wrap (h1 - 1) = h2) := Lib.hid (by rw [eh2]; exact IntWalk.i64_in _ (by omega))
        have hw3 : Hid (IntKind.i64.wrap (2 * rD) = h3) := Lib.hid (by rw [eh3]; exact IntWalk.i64_in _ (by omega))
        have hnot := HPL.out.not hpos
        have hph : PlayOk h2 h3 := ⟨by omega, by omega, by omega, by omega⟩
        have e5 : 2 * rN - 1 = h2 := by omega
        have hnot : ∃ north, ¬ Sheet.AtMost (Sheet.legs (joOf north J)) h2 h3 := by
          rw [← e5, ← eh3]
          exact hnot
        have HB9 : Hid (∀ W, Quads W AJ J → Calls Try.prog 14 #[.agg #[.int .i64 (n : Nat), .slice AJ J.length cJ], .int .i64 (u : Nat), .int .i64 (v : Nat), .agg #[.int .i64 h2, .int .i64 h3]] W fun e w' => e = .returned (.tuple #[.agg #[.int .i64 0, .int .i64 0, .int .i64 0, .int .i64 0], .agg #[.int .i64 0, .int .i64 0, .int .i64 0, .int .i64 0], .int .i64 8]) ∧ Aft W w') := Lib.hid fun W h => Calls.mono (between_good ⟨(n : Nat), J⟩ AJ cJ u v h2 h3 W h HE.out hun hvn hph) fun _ _ h => h.less HSO.out hnot
        clear eh1 eh2 eh3 hnot hph e5
        obtain ⟨y36, hY⟩ : ∃ Y, Y = W := ⟨_, rfl⟩
        rw [← hY] at HQ HBp11 HBp18 HA ⊢
        clear hY
        refine wp_region_valsU (by kernel_rfl) 20 369 rfl (by kernel_rfl) (by kernel_rfl) [some (.agg #[.int .i64 (n : Nat), .slice AJ J.length cJ]), some (.int .i64 (u : Nat)), some (.int .i64 (v : Nat)), some (.pointer (some ⟨p18, 0, none⟩)), some (.int .i64 rN), some (.int .i64 h1), some (.int .i64 h2), some (.pointer (some ⟨p18, 1, none⟩)), some (.int .i64 rD), some (.int .i64 h3), some (.agg #[.int .i64 h2, .int .i64 h3]), some (.tuple #[.agg #[.int .i64 0, .int .i64 0, .int .i64 0, .int .i64 0], .agg #[.int .i64 0, .int .i64 0, .int .i64 0, .int .i64 0], .int .i64 8]), some (.tuple #[.agg #[.int .i64 0, .int .i64 0, .int .i64 0, .int .i64 0], .agg #[.int .i64 0, .int .i64 0, .int .i64 0, .int .i64 0], .int .i64 8]), some (.agg #[.int .i64 0, .int .i64 0, .int .i64 0, .int .i64 0]), some (.agg #[.int .i64 0, .int .i64 0, .int .i64 0, .int .i64 0]), some (.int .i64 8), none, none, some undef, some undef] (by kernel_rfl) rfl (By2 y36) (By2.start) ?st10 ?fi10
        case st10 =>
          intro i o v ho hv
          match i, ho, hv with
          | 0, ho, hv =>
            cases ho; cases hv
            refine .inl ⟨rfl, fun done a W hz hd hp hk hw K hK => ?_⟩
            have e11 := hk.same 11 (by decide)
            exact op_val (v := .agg #[.int .i64 (n : Nat), .slice AJ J.length cJ]) (by simp [go_sem, ev' e11, (HBp11.out.aft hw.aft).cell 0, (HBp11.out.aft hw.aft).cell 1]) (hK _ _ (fun u hu => by cases hu; rfl) (hw.keep (Aft.refl _) (by decide) (by decide)))
          | 1, ho, hv =>
            cases ho; cases hv
            refine .inl ⟨rfl, fun done a W hz hd hp hk hw K hK => ?_⟩
            have e13 := hk.same 13 (by decide)
            exact op_val (v := .int .i64 (u : Nat)) (by simp [go_sem, ev' e13]) (hK _ _ (fun u hu => by cases hu; rfl) (hw.keep (Aft.refl _) (by decide) (by decide)))
          | 2, ho, hv =>
            cases ho; cases hv
            refine .inl ⟨rfl, fun done a W hz hd hp hk hw K hK => ?_⟩
            have e14 := hk.same 14 (by decide)
            exact op_val (v := .int .i64 (v : Nat)) (by simp [go_sem, ev' e14]) (hK _ _ (fun u hu => by cases hu; rfl) (hw.keep (Aft.refl _) (by decide) (by decide)))
          | 3, ho, hv =>
            cases ho; cases hv
            refine .inl ⟨rfl, fun done a W hz hd hp hk hw K hK => ?_⟩
            have e18 := hk.same 18 (by decide)
            exact op_val (v := .pointer (some ⟨p18, 0, none⟩)) (by simp [go_sem, ev' e18]) (hK _ _ (fun u hu => by cases hu; rfl) (hw.keep (Aft.refl _) (by decide) (by decide)))
          | 4, ho, hv =>
            cases ho; cases hv
            refine .inl ⟨rfl, fun done a W hz hd hp hk hw K hK => ?_⟩
            have e354 := hk.at_ 3 _ 354 _ rfl (by decide) _ rfl rfl rfl
            exact op_val (v := .int .i64 rN) (by simp [go_sem, ev' e354, (HBp18.out.aft hw.aft).cell 0]) (hK _ _ (fun u hu => by cases hu; rfl) (hw.keep (Aft.refl _) (by decide) (by decide)))
          | 5, ho, hv =>
            cases ho; cases hv
            refine .inl ⟨rfl, fun done a W hz hd hp hk hw K hK => ?_⟩
            have e355 := hk.at_ 4 _ 355 _ rfl (by decide) _ rfl rfl rfl
            exact op_val (v := .int .i64 h1) (by simp [go_sem, ev' e355, hw1.out]) (hK _ _ (fun u hu => by cases hu; rfl) (hw.keep (Aft.refl _) (by decide) (by decide)))
          | 6, ho, hv =>
            cases ho; cases hv
            refine .inl ⟨rfl, fun done a W hz hd hp hk hw K hK => ?_⟩
            have e356 := hk.at_ 5 _ 356 _ rfl (by decide) _ rfl rfl rfl
            exact op_val (v := .int .i64 h2) (by simp [go_sem, ev' e356, hw2.out]) (hK _ _ (fun u hu => by cases hu; rfl) (hw.keep (Aft.refl _) (by decide) (by decide)))
          | 7, ho, hv =>
            cases ho; cases hv
            refine .inl ⟨rfl, fun done a W hz hd hp hk hw K hK => ?_⟩
            have e18 := hk.same 18 (by decide)
            exact op_val (v := .pointer (some ⟨p18, 1, none⟩)) (by simp [go_sem, ev' e18]) (hK _ _ (fun u hu => by cases hu; rfl) (hw.keep (Aft.refl _) (by decide) (by decide)))
          | 8, ho, hv =>
            cases ho; cases hv
            refine .inl ⟨rfl, fun done a W hz hd hp hk hw K hK => ?_⟩
            have e358 := hk.at_ 7 _ 358 _ rfl (by decide) _ rfl rfl rfl
            exact op_val (v := .int .i64 rD) (by simp [go_sem, ev' e358, (HBp18.out.aft hw.aft).cell 1]) (hK _ _ (fun u hu => by cases hu; rfl) (hw.keep (Aft.refl _) (by decide) (by decide)))
          | 9, ho, hv =>
            cases ho; cases hv
            refine .inl ⟨rfl, fun done a W hz hd hp hk hw K hK => ?_⟩
            have e359 := hk.at_ 8 _ 359 _ rfl (by decide) _ rfl rfl rfl
            exact op_val (v := .int .i64 h3) (by simp [go_sem, ev' e359, hw3.out]) (hK _ _ (fun u hu => by cases hu; rfl) (hw.keep (Aft.refl _) (by decide) (by decide)))
          | 10, ho, hv =>
            cases ho; cases hv
            refine .inl ⟨rfl, fun done a W hz hd hp hk hw K hK => ?_⟩
            have e357 := hk.at_ 6 _ 357 _ rfl (by decide) _ rfl rfl rfl
            have e360 := hk.at_ 9 _ 360 _ rfl (by decide) _ rfl rfl rfl
            refine op_callN rfl rfl rfl _ rfl (vs := #[.int .i64 h2, .int .i64 h3]) (by simp [e357, e360]) (ratioL_any h2 h3 W) ?_
            rintro e w7 ⟨rfl, hw7⟩
            exact ⟨_, rfl, hK _ _ (fun u hu => by cases hu; rfl) (hw.keep hw7 (by decide) (by decide))⟩
          | 11, ho, hv =>
            cases ho; cases hv
            refine .inl ⟨rfl, fun done a W hz hd hp hk hw K hK => ?_⟩
            have e351 := hk.at_ 0 _ 351 _ rfl (by decide) _ rfl rfl rfl
            have e352 := hk.at_ 1 _ 352 _ rfl (by decide) _ rfl rfl rfl
            have e353 := hk.at_ 2 _ 353 _ rfl (by decide) _ rfl rfl rfl
            have e361 := hk.at_ 10 _ 361 _ rfl (by decide) _ rfl rfl rfl
            refine op_callN rfl rfl rfl _ rfl (vs := #[.agg #[.int .i64 (n : Nat), .slice AJ J.length cJ], .int .i64 (u : Nat), .int .i64 (v : Nat), .agg #[.int .i64 h2, .int .i64 h3]]) (by simp [e351, e352, e353, e361]) (HB9.out W (HQ.out.aft hw.aft)) ?_
            rintro e w7 ⟨rfl, hw7⟩
            exact ⟨_, rfl, hK _ _ (fun u hu => by cases hu; rfl) (hw.keep hw7 (by decide) (by decide))⟩
          | 12, ho, hv =>
            cases ho; cases hv
            refine .inl ⟨rfl, fun done a W hz hd hp hk hw K hK => ?_⟩
            have e362 := hk.at_ 11 _ 362 _ rfl (by decide) _ rfl rfl rfl
            exact op_val (v := .tuple #[.agg #[.int .i64 0, .int .i64 0, .int .i64 0, .int .i64 0], .agg #[.int .i64 0, .int .i64 0, .int .i64 0, .int .i64 0], .int .i64 8]) (by simp [go_sem, ev' e362]) (hK _ _ (fun u hu => by cases hu; rfl) (hw.keep (Aft.refl _) (by decide) (by decide)))
          | 13, ho, hv =>
            cases ho; cases hv
            refine .inl ⟨rfl, fun done a W hz hd hp hk hw K hK => ?_⟩
            have e350 := hk.at_ 12 _ 350 _ rfl (by decide) _ rfl rfl rfl
            exact op_val (v := .agg #[.int .i64 0, .int .i64 0, .int .i64 0, .int .i64 0]) (by simp [go_sem, ev' e350]) (hK _ _ (fun u hu => by cases hu; rfl) (hw.keep (Aft.refl _) (by decide) (by decide)))
          | 14, ho, hv =>
            cases ho; cases hv
            refine .inl ⟨rfl, fun done a W hz hd hp hk hw K hK => ?_⟩
            have e350 := hk.at_ 12 _ 350 _ rfl (by decide) _ rfl rfl rfl
            exact op_val (v := .agg #[.int .i64 0, .int .i64 0, .int .i64 0, .int .i64 0]) (by simp [go_sem, ev' e350]) (hK _ _ (fun u hu => by cases hu; rfl) (hw.keep (Aft.refl _) (by decide) (by decide)))
          | 15, ho, hv =>
            cases ho; cases hv
            refine .inl ⟨rfl, fun done a W hz hd hp hk hw K hK => ?_⟩
            have e350 := hk.at_ 12 _ 350 _ rfl (by decide) _ rfl rfl rfl
            exact op_val (v := .int .i64 8) (by simp [go_sem, ev' e350]) (hK _ _ (fun u hu => by cases hu; rfl) (hw.keep (Aft.refl _) (by decide) (by decide)))
          | 16, ho, hv =>
            cases ho; cases hv
            refine .inl ⟨rfl, fun done a W hz hd hp hk hw K hK => ?_⟩
            exact op_valW (w' := W.alloc (.cells #[.int .i64 0, .int .i64 0, .int .i64 0, .int .i64 0] 43)) (v := .pointer (some ⟨W.heap.size, 0, none⟩)) (by simp [go_sem]) (hK _ _ (fun u hu => by cases hu) (hw.stepx (by rw [hz]; decide) _ _ _ _))
          | 17, ho, hv =>
            cases ho; cases hv
            refine .inl ⟨rfl, fun done a W hz hd hp hk hw K hK => ?_⟩
            exact op_valW (w' := W.alloc (.cells #[.int .i64 0, .int .i64 0, .int .i64 0, .int .i64 0] 43)) (v := .pointer (some ⟨W.heap.size, 0, none⟩)) (by simp [go_sem]) (hK _ _ (fun u hu => by cases hu) (hw.stepy (by rw [hz]; decide) _ _ _ _))
          | 18, ho, hv =>
            cases ho; cases hv
            refine .inl ⟨rfl, fun done a W hz hd hp hk hw K hK => ?_⟩
            have e363 := hk.at_ 13 _ 363 _ rfl (by decide) _ rfl rfl rfl
            obtain ⟨b, e37, hbs, v1, v2, v3, v4, hbk⟩ := hw.x (hp 16 (by decide))
            have c0 := hbk.cell 0
            have c1 := hbk.cell 1
            have c2 := hbk.cell 2
            have c3 := hbk.cell 3
            have c4 := hbk.frozen 0
            have c5 := hbk.frozen 1
            have c6 := hbk.frozen 2
            have c7 := hbk.frozen 3
            have c8 := hbk.lt
            simp only [List.getElem?_toArray, List.getElem?_cons_zero, List.getElem?_cons_succ] at c0 c1 c2 c3
            exact op_skipW (w' := (((W.setCell ⟨b, 0, none⟩ (.int .i64 0)).setCell ⟨b, 1, none⟩ (.int .i64 0)).setCell ⟨b, 2, none⟩ (.int .i64 0)).setCell ⟨b, 3, none⟩ (.int .i64 0)) (by simp [go_sem, ev' e37, ev' e363, c0, c1, c2, c3, c4, c5, c6, c7, c8]) (hK _ _ (fun u hu => by cases hu; rfl) (hw.put hbs _ _ _ _ (by decide) rfl))
          | 19, ho, hv =>
            cases ho; cases hv
            refine .inl ⟨rfl, fun done a W hz hd hp hk hw K hK => ?_⟩
            have e364 := hk.at_ 14 _ 364 _ rfl (by decide) _ rfl rfl rfl
            obtain ⟨b, e38, hbs, v1, v2, v3, v4, hbk⟩ := hw.y (hp 17 (by decide))
            have c0 := hbk.cell 0
            have c1 := hbk.cell 1
            have c2 := hbk.cell 2
            have c3 := hbk.cell 3
            have c4 := hbk.frozen 0
            have c5 := hbk.frozen 1
            have c6 := hbk.frozen 2
            have c7 := hbk.frozen 3
            have c8 := hbk.lt
            simp only [List.getElem?_toArray, List.getElem?_cons_zero, List.getElem?_cons_succ] at c0 c1 c2 c3
            exact op_skipW (w' := (((W.setCell ⟨b, 0, none⟩ (.int .i64 0)).setCell ⟨b, 1, none⟩ (.int .i64 0)).setCell ⟨b, 2, none⟩ (.int .i64 0)).setCell ⟨b, 3, none⟩ (.int .i64 0)) (by simp [go_sem, ev' e38, ev' e364, c0, c1, c2, c3, c4, c5, c6, c7, c8]) (hK _ _ (fun u hu => by cases hu; rfl) (hw.put hbs _ _ _ _ (by decide) rfl))
          | _ + 20, _, hv => cases hv
        intro done us W hus hd hw
        have hwa := hw.aft
        obtain ⟨o1, o2, rfl⟩ := list2 hus
        clear hw hd hus HB9 hw1 hw2 hw3
        simp only [fill, List.drop_succ_cons, List.drop_zero, List.zip_cons_cons, List.zip_nil_right, putAll]
        simp only [Act.put, List.setIfInBounds_toArray, List.set]
        replace HA := Lib.hid (HA.out.trans hwa)
        clear hwa
        go_upto_region 31 with fail
        (repeat (first | go_big_skip | go_big_want | go_big_move | go_big_op | go_step | go_upon | go_back))
        go_at_call 15
        refine (awake_any _).mono ?_
        rintro e x37 ⟨rfl, ha⟩
        dsimp only
        have HAW := Lib.hid (HA.out.trans ha)
        clear ha
        (repeat (first | go_big_skip | go_big_want | go_big_move | go_big_op | go_step | go_upon | go_back))
        go_ret
        exact ⟨rfl, HAW.out⟩
      · have tp : decide (0 < rN) = false := decide_eq_false hpos
        go_upto_region 31 with fail
        clear tp d0 d1 d2
        (repeat (first | go_big_skip | go_big_want | go_big_move | go_big_op | go_step | go_upon | go_back))
        go_at_call 15
        refine (awake_any _).mono ?_
        rintro e x38 ⟨rfl, ha⟩
        dsimp only
        have HAW := Lib.hid (HA.out.trans ha)
        clear ha
        (repeat (first | go_big_skip | go_big_want | go_big_move | go_big_op | go_step | go_upon | go_back))
        go_ret
        exact ⟨rfl, HAW.out⟩
end Go.Proofs
end
