/- Own texts, merged: CtT CtSh. -/
import Derived.Test.YtbchfakfdikkjaaGreatP02
import Derived.Test.YtbchfakfdikkjaaGreatP11
import Derived.Deep.AppendLies
import Derived.Laws.OwnMore
import Derived.Laws.MakeOwn
set_option linter.unusedSimpArgs false
set_option linter.unusedVariables false
set_option linter.unnecessarySimpa false
section
namespace Go.Proofs
open Go.RowKit
open Court (refL begF noS struckB nextR strikeL canB coverB grow)
attribute [local go_sem] Oper.semAt_some
theorem grow_no {S : List (Int × Int)} {ref : Int → Bool} {N k n : Nat} {l : List Int} (h : canB S ref l n = false) : grow S ref N (k + 1) n l = grow S ref N k (n + 1) l := by
  show (if canB S ref l n then grow S ref N k (n + 1) (l ++ [(n : Int)]) else []) ++ grow S ref N k (n + 1) l = _
  rw [h, if_neg (by decide), List.nil_append]
theorem grow_yes {S : List (Int × Int)} {ref : Int → Bool} {N k n : Nat} {l : List Int} (h : canB S ref l n = true) : grow S ref N (k + 1) n l = grow S ref N k (n + 1) (l ++ [(n : Int)]) ++ grow S ref N k (n + 1) l := by
  show (if canB S ref l n then grow S ref N k (n + 1) (l ++ [(n : Int)]) else []) ++ grow S ref N k (n + 1) l = _
  rw [h, if_pos rfl]

set_option maxRecDepth 100000 in
set_option maxHeartbeats 8000000 in
theorem grow_step (w0 w : World) (b d M N : Nat) (C : CaseL) (a1 a2 : Option Addr) (c1 c2 : Nat) (ref : Int → Bool) (f r : Int → Nat) (HD0 : ∀ W, Aft w W → DeskAt w0 W d C a1 a2 c1 c2 ref noS f r) (hN : C.claims = N) (hN14 : N ≤ 14) (hS : ∀ s ∈ C.strikes, 0 ≤ s.1 ∧ s.1 < 14) (hM : M ≤ 1000000) (n : Nat) (l : List Int) (lv : Value) (acc : List (List Int)) (W : World) (hl : ∀ x ∈ l, 0 ≤ x ∧ x < 14) (hll : l.length ≤ n) (hrow : W.ownsRow b 3 1 lv l.length (l.map (Value.int .i64))) (hG : GI w b d M acc W) (hacc : acc.length < M) (k : Nat) (hn : n + (k + 1) = N) (G : Nat → List Int → List (List Int)) (hG2 : G = fun n l => grow C.strikes ref N k n l) (IH : ∀ (l' : List Int) (lv' : Value) (acc' : List (List Int)) (W' : World), (∀ x ∈ l', 0 ≤ x ∧ x < 14) → l'.length ≤ n + 1 → W'.ownsRow b 3 1 lv' l'.length (l'.map (Value.int .i64)) → GI w b d M acc' W' → acc'.length ≤ M → Calls Tryz.prog 105 #[.int .i64 ((n : Int) + 1), lv', .pointer (some ⟨b + 1 + 1, 0, none⟩), .pointer (some ⟨b + 1, 0, none⟩), .pointer (some ⟨b, 0, none⟩), .pointer (some ⟨b + 1 + 1 + 1, 0, none⟩)] W' (GrowR w b d M ((acc' ++ G (n + 1) l').take M) W')) :
    Calls Tryz.prog 105 #[.int .i64 n, lv, .pointer (some ⟨b + 1 + 1, 0, none⟩), .pointer (some ⟨b + 1, 0, none⟩), .pointer (some ⟨b, 0, none⟩), .pointer (some ⟨b + 1 + 1 + 1, 0, none⟩)] W (GrowR w b d M ((acc ++ grow C.strikes ref N (k + 1) n l).take M) W) := by
  have t1 : decide (M ≤ acc.length) = false := by simp; omega
  have t2 : decide (n < N) = true := by simp; omega
  have hn' : n ≤ 14 := by omega
  have hn13 : n < 14 := by omega
  have ha' : acc.length ≤ 1000000 := by omega
  have haM : acc.length ≤ M := by omega
  have hn14 : (0 : Int) ≤ (n : Int) ∧ (n : Int) < 14 := by omega
  clear hn hacc
  obtain ⟨T, hT⟩ : ∃ T, (acc ++ grow C.strikes ref N (k + 1) n l).take M = T := ⟨_, rfl⟩
  rw [hT]
  have HT := Lib.hid hT
  have IH := Lib.hid IH
  have HG2 := Lib.hid hG2
  have HLN : Hid (∀ x ∈ l ++ [(n : Int)], 0 ≤ x ∧ x < 14) := Lib.hid fun x hx => by
    rcases List.mem_append.1 hx with h | h
    · exact hl x h
    · rw [List.mem_singleton] at h; omega
  clear hT hG2
  obtain ⟨A, c, rfl, _, hA⟩ := own_ints hrow (by omega)
  have H1 : Hid (∀ W', Aft W W' → Calls Tryz.prog 71 #[.slice A l.length c] W' (Marked l W')) := Lib.hid fun W' h => marked_any l A c W' (hA.aft h) hl
  have HG0 := Lib.hid hG
  have HROW0 := Lib.hid hrow
  have HA0 := Lib.hid hA
  have HLL := Lib.hid hl
  clear hG hrow hA hl
  go_enter Tryz.func105, Tryz.ntmps105
  go_upto_region 2 with (first | (go_at_call 71; refine (H1.out _ (Aft.alloc _ _)).mono ?_; rintro e w1 ⟨rfl, ha1⟩; have HA1 := Lib.hid ha1; clear ha1) | (refine wpList_store_new rfl 87 (.tmp 8) (.tmp 11) rfl rfl rfl (by rw [info87, mk_size]) (by rw [mk_size]; rfl) (all_oneCell_toArray (mkL_one _)) ?_))
  have HA : Hid (Aft W (w1.alloc (.cells (mk (refL l)) 87))) := Lib.hid (((Aft.alloc W _).trans HA1.out).then_alloc _)
  have HB6 : Hid (Blk (w1.alloc (.cells (mk (refL l)) 87)) W.heap.size 3 #[.int .i64 n]) := Lib.hid (((Blk.new W 3 #[.int .i64 n]).aft HA1.out).alloc _)
  have HB8 : Hid (Blk (w1.alloc (.cells (mk (refL l)) 87)) w1.heap.size 87 (mk (refL l))) := Lib.hid (Blk.new w1 87 _)
  clear HA1 H1
  generalize w1.alloc (.cells (mk (refL l)) 87) = Wx at *
  generalize w1.heap.size = B8 at *
  generalize W.heap.size = B6 at *
  have HG := Lib.hid (HG0.out.later HA.out)
  have HROW := Lib.hid (own_aft HROW0.out HA.out)
  have HAI := Lib.hid (HA0.out.aft HA.out)
  clear HG0 HROW0 HA0
  obtain ⟨v, hbv, hov⟩ := HG.out.b2
  obtain ⟨Ao, co, rfl⟩ := hov.form
  have k2 : Wx.cell? ⟨b + 1 + 1, 0, none⟩ = some (.slice Ao acc.length co) := hbv.cell 0
  have k1 : Wx.cell? ⟨b + 1, 0, none⟩ = some (.int .i64 M) := HG.out.b1.cell 0
  have l2 := hbv.lt
  have l1 := HG.out.b1.lt
  have HOV := Lib.hid hov
  have HBV := Lib.hid hbv
  clear hbv hov
  have HDX : Hid (∀ W', Aft Wx W' → DeskAt w0 W' d C a1 a2 c1 c2 ref noS f r) := Lib.hid fun W' h => HD0 W' (HG.out.aft.trans h)
  have HN := Lib.hid hN
  have HSS := Lib.hid hS
  clear hN HD0 hS
  have HC0 : Hid (∀ W', Aft Wx W' → W'.cell? ⟨b, 0, none⟩ = some (.pointer (some ⟨d, 0, none⟩))) := Lib.hid fun W' h => (HG.out.b0.aft h).cell 0
  have HC6 : Hid (∀ W', Aft Wx W' → W'.cell? ⟨B6, 0, none⟩ = some (.int .i64 n)) := Lib.hid fun W' h => (HB6.out.aft h).cell 0
  have HCN : Hid (∀ W', Aft Wx W' → W'.cell? ⟨d, 0, none⟩ = some (.int .i64 N)) := Lib.hid fun W' h => by rw [← HN.out]; exact (HDX.out W' h).k0
  go_upto_region 3 with (fail)
  clear k1 k2
  refine wp_region_valsT (by kernel_rfl) 6 94 rfl (by kernel_rfl) (by kernel_rfl) (by kernel_rfl) [.int .i64 n, .pointer (some ⟨d, 0, none⟩), .pointer (some ⟨d, 0, none⟩), .pointer (some ⟨d, 0, none⟩), .pointer (some ⟨d, 0, none⟩), .int .i64 N] rfl (fun _ W' => W' = Wx.drew) (rfl) ?st1 ?fi1
  case st1 =>
    intro i o v ho hv
    match i, ho, hv with
    | 0, ho, hv =>
      cases ho; cases hv
      refine .inl ⟨rfl, fun done a W hd hp hk hw K hK => ?_⟩
      have e6 := hk.same 6 (by decide)
      exact op_val (by simp [go_sem, ev' e6, HC6.out W (hw ▸ Aft.drew Wx)]) (hK _ hw)
    | 1, ho, hv =>
      cases ho; cases hv
      refine .inl ⟨rfl, fun done a W hd hp hk hw K hK => ?_⟩
      have e4 := hk.same 4 (by decide)
      exact op_val (by simp [go_sem, ev' e4, HC0.out W (hw ▸ Aft.drew Wx)]) (hK _ hw)
    | 2, ho, hv =>
      cases ho; cases hv
      refine .inl ⟨rfl, fun done a W hd hp hk hw K hK => ?_⟩
      have e17 := hk.at_ 1 _ 17 _ rfl (by decide) _ rfl rfl rfl
      exact op_val (by simp [go_sem, ev' e17]) (hK _ hw)
    | 3, ho, hv =>
      cases ho; cases hv
      refine .inl ⟨rfl, fun done a W hd hp hk hw K hK => ?_⟩
      have e18 := hk.at_ 2 _ 18 _ rfl (by decide) _ rfl rfl rfl
      exact op_val (by simp [go_sem, ev' e18]) (hK _ hw)
    | 4, ho, hv =>
      cases ho; cases hv
      refine .inl ⟨rfl, fun done a W hd hp hk hw K hK => ?_⟩
      have e19 := hk.at_ 3 _ 19 _ rfl (by decide) _ rfl rfl rfl
      exact op_val (by simp [go_sem, ev' e19]) (hK _ hw)
    | 5, ho, hv =>
      cases ho; cases hv
      refine .inl ⟨rfl, fun done a W hd hp hk hw K hK => ?_⟩
      have e20 := hk.at_ 4 _ 20 _ rfl (by decide) _ rfl rfl rfl
      exact op_val (by simp [go_sem, ev' e20, HCN.out W (hw ▸ Aft.drew Wx)]) (hK _ hw)
    | _ + 6, _, hv => cases hv
  intro done W hd hw
  simp only [List.drop_succ_cons, List.drop_zero, List.zip_cons_cons, List.zip_nil_right, putAll]
  simp only [Act.put, List.setIfInBounds_toArray, List.set]
  clear hd
  subst hw
  have HDR := Lib.hid (Aft.drew Wx)
  go_upto_region 4 with (fail)
  have HGY := Lib.hid (HG.out.later HDR.out)
  clear HC0 HC6 HCN
  generalize Wx.drew = Wy at *
  have HC0 : Hid (∀ W', Aft Wy W' → W'.cell? ⟨b, 0, none⟩ = some (.pointer (some ⟨d, 0, none⟩))) := Lib.hid fun W' h => (HGY.out.b0.aft h).cell 0
  have HC6 : Hid (∀ W', Aft Wy W' → W'.cell? ⟨B6, 0, none⟩ = some (.int .i64 n)) := Lib.hid fun W' h => (HB6.out.aft (HDR.out.trans h)).cell 0
  have HCR : Hid (∀ W', Aft Wy W' → W'.cell? ⟨d, 3 + n, none⟩ = some (.bool (ref n))) := Lib.hid fun W' h => (HDX.out W' (HDR.out.trans h)).rf hn13
  cases hr : ref n
  · rw [hr] at HCR
    have HR := Lib.hid hr
    clear hr
    have HCL : Hid (∀ W', Aft Wy W' → Calls Tryz.prog 63 #[.slice A l.length c] W' (OwnInts W' l)) := Lib.hid fun W' h => clone84 A l c W' (HAI.out.aft (HDR.out.trans h))
    have HS : Hid (∀ W', Aft Wy W' → Calls Tryz.prog 102 #[.pointer (some ⟨d, 0, none⟩), .agg (mk (refL (l ++ [(n : Int)]))), .int .i64 n] W' fun e w' => e = .returned (.bool (strikeL C.strikes (refL (l ++ [(n : Int)])) n)) ∧ Aft W' w') := Lib.hid fun W' h => by
      rw [← strikers_any]
      exact strikes_any w0 W' d C a1 a2 c1 c2 ref noS f r (HDX.out W' (HDR.out.trans h)) (refL (l ++ [(n : Int)])) n hn13 HSS.out
    cases hs : strikeL C.strikes (refL (l ++ [(n : Int)])) n
    · rw [hs] at HS
      have HSN := Lib.hid hs
      clear hs
      refine wp_region_valsU (by kernel_rfl) 22 94 rfl (by kernel_rfl) (by kernel_rfl) [some (.pointer (some ⟨d, 0, none⟩)), some (.int .i64 n), some (.pointer (some ⟨d, 0, none⟩)), some (.pointer (some ⟨d, 3, none⟩)), some (.pointer (some ⟨d, 3 + n, none⟩)), some (.bool false), some (.bool true), some (.bool true), some (.pointer (some ⟨d, 0, none⟩)), some (.slice A l.length c), none, some (.int .i64 n), none, none, some (.agg (mk (refL (l ++ [(n : Int)])))), some (.int .i64 n), some (.bool false), some (.bool true), some (.bool true), some (.bool true), some (.slice A l.length c), some (.func (.func 106) #[] #[.pointer (some ⟨b, 0, none⟩), .pointer (some ⟨B6, 0, none⟩)])] (by kernel_rfl) rfl (Tri Wy l n 10 12 13 33 35 36) (Tri.start) ?st2 ?fi2
      case st2 =>
        intro i o v ho hv
        match i, ho, hv with
        | 0, ho, hv =>
          cases ho; cases hv
          refine .inl ⟨rfl, fun done a W hz hd hp hk hw K hK => ?_⟩
          have e4 := hk.same 4 (by decide)
          exact op_val (v := .pointer (some ⟨d, 0, none⟩)) (by simp [go_sem, ev' e4, HC0.out W hw.aft]) (hK _ _ (fun u hu => by cases hu; rfl) (hw.keep (Aft.refl _) (by decide) (by decide)))
        | 1, ho, hv =>
          cases ho; cases hv
          refine .inl ⟨rfl, fun done a W hz hd hp hk hw K hK => ?_⟩
          have e6 := hk.same 6 (by decide)
          exact op_val (v := .int .i64 n) (by simp [go_sem, ev' e6, HC6.out W hw.aft]) (hK _ _ (fun u hu => by cases hu; rfl) (hw.keep (Aft.refl _) (by decide) (by decide)))
        | 2, ho, hv =>
          cases ho; cases hv
          refine .inl ⟨rfl, fun done a W hz hd hp hk hw K hK => ?_⟩
          have e23 := hk.at_ 0 _ 23 _ rfl (by decide) _ rfl rfl rfl
          exact op_val (v := .pointer (some ⟨d, 0, none⟩)) (by simp [go_sem, ev' e23]) (hK _ _ (fun u hu => by cases hu; rfl) (hw.keep (Aft.refl _) (by decide) (by decide)))
        | 3, ho, hv =>
          cases ho; cases hv
          refine .inl ⟨rfl, fun done a W hz hd hp hk hw K hK => ?_⟩
          have e25 := hk.at_ 2 _ 25 _ rfl (by decide) _ rfl rfl rfl
          exact op_val (v := .pointer (some ⟨d, 3, none⟩)) (by simp [go_sem, ev' e25]) (hK _ _ (fun u hu => by cases hu; rfl) (hw.keep (Aft.refl _) (by decide) (by decide)))
        | 4, ho, hv =>
          cases ho; cases hv
          refine .inl ⟨rfl, fun done a W hz hd hp hk hw K hK => ?_⟩
          have e24 := hk.at_ 1 _ 24 _ rfl (by decide) _ rfl rfl rfl
          have e26 := hk.at_ 3 _ 26 _ rfl (by decide) _ rfl rfl rfl
          exact op_val (v := .pointer (some ⟨d, 3 + n, none⟩)) (by simp [go_sem, ev' e24, ev' e26, hn14]) (hK _ _ (fun u hu => by cases hu; rfl) (hw.keep (Aft.refl _) (by decide) (by decide)))
        | 5, ho, hv =>
          cases ho; cases hv
          refine .inl ⟨rfl, fun done a W hz hd hp hk hw K hK => ?_⟩
          have e27 := hk.at_ 4 _ 27 _ rfl (by decide) _ rfl rfl rfl
          exact op_val (v := .bool false) (by simp [go_sem, ev' e27, HCR.out W hw.aft]) (hK _ _ (fun u hu => by cases hu; rfl) (hw.keep (Aft.refl _) (by decide) (by decide)))
        | 6, ho, hv =>
          cases ho; cases hv
          refine .inl ⟨rfl, fun done a W hz hd hp hk hw K hK => ?_⟩
          have e28 := hk.at_ 5 _ 28 _ rfl (by decide) _ rfl rfl rfl
          exact op_val (v := .bool true) (by simp [go_sem, ev' e28]) (hK _ _ (fun u hu => by cases hu; rfl) (hw.keep (Aft.refl _) (by decide) (by decide)))
        | 7, ho, hv =>
          cases ho; cases hv
          refine .inl ⟨rfl, fun done a W hz hd hp hk hw K hK => ?_⟩
          have e29 := hk.at_ 6 _ 29 _ rfl (by decide) _ rfl rfl rfl
          exact op_val (v := .bool true) (by simp [go_sem, ev' e29]) (hK _ _ (fun u hu => by cases hu; rfl) (hw.keep (Aft.refl _) (by decide) (by decide)))
        | 8, ho, hv =>
          cases ho; cases hv
          refine .inl ⟨rfl, fun done a W hz hd hp hk hw K hK => ?_⟩
          have e4 := hk.same 4 (by decide)
          exact op_val (v := .pointer (some ⟨d, 0, none⟩)) (by simp [go_sem, ev' e4, HC0.out W hw.aft]) (hK _ _ (fun u hu => by cases hu; rfl) (hw.keep (Aft.refl _) (by decide) (by decide)))
        | 9, ho, hv =>
          cases ho; cases hv
          refine .inl ⟨rfl, fun done a W hz hd hp hk hw K hK => ?_⟩
          have e1 := hk.same 1 (by decide)
          exact op_val (v := .slice A l.length c) (by simp [go_sem, ev' e1]) (hK _ _ (fun u hu => by cases hu; rfl) (hw.keep (Aft.refl _) (by decide) (by decide)))
        | 10, ho, hv =>
          cases ho; cases hv
          refine .inl ⟨rfl, fun done a W hz hd hp hk hw K hK => ?_⟩
          have e32 := hk.at_ 9 _ 32 _ rfl (by decide) _ rfl rfl rfl
          refine op_callN rfl rfl rfl _ rfl (vs := #[.slice A l.length c]) (by simp [e32]) (HCL.out W hw.aft) fun e w' h => ?_
          obtain ⟨v1, rfl, hrow, ha⟩ := h
          exact ⟨v1, rfl, hK _ _ (fun u hu => by cases hu) (hw.stepA hd ha hrow (by rw [hz]; decide) (by decide) (by decide))⟩
        | 11, ho, hv =>
          cases ho; cases hv
          refine .inl ⟨rfl, fun done a W hz hd hp hk hw K hK => ?_⟩
          have e6 := hk.same 6 (by decide)
          exact op_val (v := .int .i64 n) (by simp [go_sem, ev' e6, HC6.out W hw.aft]) (hK _ _ (fun u hu => by cases hu; rfl) (hw.keep (Aft.refl _) (by decide) (by decide)))
        | 12, ho, hv =>
          cases ho; cases hv
          refine .inl ⟨rfl, fun done a W hz hd hp hk hw K hK => ?_⟩
          have e34 := hk.at_ 11 _ 34 _ rfl (by decide) _ rfl rfl rfl
          exact op_valW (w' := W.alloc (.cells #[.int .i64 n] 3)) (v := .slice (some ⟨W.heap.size, 0, none⟩) 1 1) (by simp [go_sem, ev' e34]) (hK _ _ (fun u hu => by cases hu) (hw.stepB hd (by rw [hz]; decide) (by decide) (by decide)))
        | 13, ho, hv =>
          cases ho; cases hv
          refine .inl ⟨rfl, fun done a W hz hd hp hk hw K hK => ?_⟩
          exact hw.stepC (hp 10 (by decide)) (hp 12 (by decide)) hd (by decide) rfl rfl (by rw [hz]; decide) (by omega) (fun y w' hy => hK _ _ (fun u hu => by cases hu) hy)
        | 14, ho, hv =>
          cases ho; cases hv
          refine .inl ⟨rfl, fun done a W hz hd hp hk hw K hK => ?_⟩
          obtain ⟨A1, c1, e1, _, hi⟩ := own_ints (hw.rowC (hp 13 (by decide))) (by simp; omega)
          refine op_callN rfl rfl rfl _ rfl (vs := #[.slice A1 (l ++ [(n : Int)]).length c1]) (by simp [e1]) (marked_any (l ++ [(n : Int)]) A1 c1 W hi HLN.out) fun e w' h => ?_
          obtain ⟨rfl, ha⟩ := h
          exact ⟨_, rfl, hK _ _ (fun u hu => by cases hu; rfl) (hw.keep ha (by decide) (by decide))⟩
        | 15, ho, hv =>
          cases ho; cases hv
          refine .inl ⟨rfl, fun done a W hz hd hp hk hw K hK => ?_⟩
          have e6 := hk.same 6 (by decide)
          exact op_val (v := .int .i64 n) (by simp [go_sem, ev' e6, HC6.out W hw.aft]) (hK _ _ (fun u hu => by cases hu; rfl) (hw.keep (Aft.refl _) (by decide) (by decide)))
        | 16, ho, hv =>
          cases ho; cases hv
          refine .inl ⟨rfl, fun done a W hz hd hp hk hw K hK => ?_⟩
          have e31 := hk.at_ 8 _ 31 _ rfl (by decide) _ rfl rfl rfl
          have e37 := hk.at_ 14 _ 37 _ rfl (by decide) _ rfl rfl rfl
          have e38 := hk.at_ 15 _ 38 _ rfl (by decide) _ rfl rfl rfl
          refine op_callN rfl rfl rfl _ rfl (vs := #[.pointer (some ⟨d, 0, none⟩), .agg (mk (refL (l ++ [(n : Int)]))), .int .i64 n]) (by simp [e31, e37, e38]) (HS.out W hw.aft) fun e w' h => ?_
          obtain ⟨rfl, ha⟩ := h
          exact ⟨_, rfl, hK _ _ (fun u hu => by cases hu; rfl) (hw.keep ha (by decide) (by decide))⟩
        | 17, ho, hv =>
          cases ho; cases hv
          refine .inl ⟨rfl, fun done a W hz hd hp hk hw K hK => ?_⟩
          have e39 := hk.at_ 16 _ 39 _ rfl (by decide) _ rfl rfl rfl
          exact op_val (v := .bool true) (by simp [go_sem, ev' e39]) (hK _ _ (fun u hu => by cases hu; rfl) (hw.keep (Aft.refl _) (by decide) (by decide)))
        | 18, ho, hv =>
          cases ho; cases hv
          refine .inl ⟨rfl, fun done a W hz hd hp hk hw K hK => ?_⟩
          have e30 := hk.at_ 7 _ 30 _ rfl (by decide) _ rfl rfl rfl
          have e40 := hk.at_ 17 _ 40 _ rfl (by decide) _ rfl rfl rfl
          exact op_val (v := .bool true) (by simp [go_sem, ev' e30, ev' e40]) (hK _ _ (fun u hu => by cases hu; rfl) (hw.keep (Aft.refl _) (by decide) (by decide)))
        | 19, ho, hv =>
          cases ho; cases hv
          refine .inl ⟨rfl, fun done a W hz hd hp hk hw K hK => ?_⟩
          have e41 := hk.at_ 18 _ 41 _ rfl (by decide) _ rfl rfl rfl
          exact op_val (v := .bool true) (by simp [go_sem, ev' e41]) (hK _ _ (fun u hu => by cases hu; rfl) (hw.keep (Aft.refl _) (by decide) (by decide)))
        | 20, ho, hv =>
          cases ho; cases hv
          refine .inl ⟨rfl, fun done a W hz hd hp hk hw K hK => ?_⟩
          have e1 := hk.same 1 (by decide)
          exact op_val (v := .slice A l.length c) (by simp [go_sem, ev' e1]) (hK _ _ (fun u hu => by cases hu; rfl) (hw.keep (Aft.refl _) (by decide) (by decide)))
        | 21, ho, hv =>
          cases ho; cases hv
          refine .inl ⟨rfl, fun done a W hz hd hp hk hw K hK => ?_⟩
          have e4 := hk.same 4 (by decide)
          have e6 := hk.same 6 (by decide)
          exact op_val (v := .func (.func 106) #[] #[.pointer (some ⟨b, 0, none⟩), .pointer (some ⟨B6, 0, none⟩)]) (by simp [go_sem, ev' e4, ev' e6]) (hK _ _ (fun u hu => by cases hu; rfl) (hw.keep (Aft.refl _) (by decide) (by decide)))
        | _ + 22, _, hv => cases hv
      intro done us W hus hd hw
      obtain ⟨y1, y2, y3, rfl⟩ := list3 hus
      have HA4 := Lib.hid hw.aft
      clear hw hd hus
      simp only [fill, List.drop_succ_cons, List.drop_zero, List.zip_cons_cons, List.zip_nil_right, putAll]
      simp only [Act.put, List.setIfInBounds_toArray, List.set]
      have H85 : Hid (∀ W', Aft Wy W' → Calls Tryz.prog 85 #[.slice A l.length c, .func (.func 106) #[] #[.pointer (some ⟨b, 0, none⟩), .pointer (some ⟨B6, 0, none⟩)]] W' fun e w' => e = .returned (.bool (l.all fun o => !strikeL C.strikes (fun x => decide (x = (n : Int))) o)) ∧ Aft W' w') := Lib.hid fun W' h =>
        (none_int IntR 106 [.pointer (some ⟨b, 0, none⟩), .pointer (some ⟨B6, 0, none⟩)] (fun o => strikeL C.strikes (fun x => decide (x = (n : Int))) o) A l c W' (HAI.out.aft (HDR.out.trans h)) runs_106 (fun x hx v0 hv => by
          cases hv
          obtain ⟨o, rfl⟩ : ∃ o : Nat, x = o := ⟨x.toNat, by have := HLL.out x hx; omega⟩
          exact fun u => full11_any w0 (W'.lat u) d C a1 a2 c1 c2 ref f r (HDX.out _ ((HDR.out.trans h).trans (Aft.lat _ _))) b B6 n o ((HGY.out.b0.aft h).lat u) ((HB6.out.aft (HDR.out.trans h)).lat u) hn13 (by have := HLL.out _ hx; omega) HSS.out)).mono fun _ _ ⟨h, ha⟩ => ⟨by rw [h]; exact ret_bool (by rw [List.all_eq_not_any_not]; simp), ha⟩
      cases hx : l.all fun o => !strikeL C.strikes (fun x => decide (x = (n : Int))) o
      · rw [hx] at H85
        have HXN := Lib.hid hx
        clear hx
        go_upto_region 6 with (go_at_call 85; refine (H85.out _ HA4.out).mono ?_; rintro e w8 ⟨rfl, ha8⟩; have HA8 := Lib.hid ha8; clear ha8)
        have HG8 := Lib.hid (HGY.out.later (HA4.out.trans HA8.out))
        have HK8 := Lib.hid (Kp.of_aft (HDR.out.trans (HA4.out.trans HA8.out)))
        have z1 : w8.cell? ⟨b + 1 + 1 + 1, 0, none⟩ = some (.func (.func 105) #[] #[.pointer (some ⟨b + 1 + 1, 0, none⟩), .pointer (some ⟨b + 1, 0, none⟩), .pointer (some ⟨b, 0, none⟩), .pointer (some ⟨b + 1 + 1 + 1, 0, none⟩)]) := HG8.out.b3.cell 0
        have z2 := HG8.out.b3.lt
        have hB6 := Blk.kp HB6.out HK8.out (by decide) (by decide)
        have z3 : w8.cell? ⟨B6, 0, none⟩ = some (.int .i64 n) := hB6.cell 0
        have z4 := hB6.lt
        have HI := Lib.hid (IH.out l (.slice A l.length c) acc _ HLL.out (by omega) (own_kp HROW.out HK8.out) HG8.out haM)
        clear hB6
        go_wp2_with (go_at_call 105; refine HI.out.mono ?_; rintro e w9 ⟨⟨v9, rfl⟩, hg9, hk9⟩; have HG9 := Lib.hid hg9; have HK9 := Lib.hid hk9; clear hg9 hk9)
        refine bodyPost_ret (v := .tuple #[]) (by simp [results, Tryz.results105, go_sem]) rfl ?_
        have eT : (acc ++ G (n + 1) l).take M = T := by rw [← HT.out, HG2.out]; rw [grow_no (by unfold canB; rw [HXN.out, Bool.and_false])]
        rw [← eT]
        exact ⟨⟨_, rfl⟩, HG9.out, ((Kp.of_aft HA.out).trans HK8.out).trans HK9.out⟩
      · rw [hx] at H85
        have HXN := Lib.hid hx
        clear hx
        go_upto_region 5 with (go_at_call 85; refine (H85.out _ HA4.out).mono ?_; rintro e w5 ⟨rfl, ha5⟩; have HA5 := Lib.hid (HA4.out.trans ha5); clear ha5)
        have HC3 : Hid (∀ W', Aft w5 W' → W'.cell? ⟨b + 1 + 1 + 1, 0, none⟩ = some (.func (.func 105) #[] #[.pointer (some ⟨b + 1 + 1, 0, none⟩), .pointer (some ⟨b + 1, 0, none⟩), .pointer (some ⟨b, 0, none⟩), .pointer (some ⟨b + 1 + 1 + 1, 0, none⟩)])) := Lib.hid fun W' h => (HGY.out.b3.aft (HA5.out.trans h)).cell 0
        refine wp_region_valsU (by kernel_rfl) 8 94 rfl (by kernel_rfl) (by kernel_rfl) [some (.func (.func 105) #[] #[.pointer (some ⟨b + 1 + 1, 0, none⟩), .pointer (some ⟨b + 1, 0, none⟩), .pointer (some ⟨b, 0, none⟩), .pointer (some ⟨b + 1 + 1 + 1, 0, none⟩)]), some (.int .i64 n), some (.int .i64 ((n : Int) + 1)), some (.slice A l.length c), none, some (.int .i64 n), none, none] (by kernel_rfl) rfl (Tri w5 l n 4 6 7 51 53 54) (Tri.start) ?st3 ?fi3
        case st3 =>
          intro i o v ho hv
          match i, ho, hv with
          | 0, ho, hv =>
            cases ho; cases hv
            refine .inl ⟨rfl, fun done a W hz hd hp hk hw K hK => ?_⟩
            have e5 := hk.same 5 (by decide)
            exact op_val (v := .func (.func 105) #[] #[.pointer (some ⟨b + 1 + 1, 0, none⟩), .pointer (some ⟨b + 1, 0, none⟩), .pointer (some ⟨b, 0, none⟩), .pointer (some ⟨b + 1 + 1 + 1, 0, none⟩)]) (by simp [go_sem, ev' e5, HC3.out W hw.aft]) (hK _ _ (fun u hu => by cases hu; rfl) (hw.keep (Aft.refl _) (by decide) (by decide)))
          | 1, ho, hv =>
            cases ho; cases hv
            refine .inl ⟨rfl, fun done a W hz hd hp hk hw K hK => ?_⟩
            have e6 := hk.same 6 (by decide)
            exact op_val (v := .int .i64 n) (by simp [go_sem, ev' e6, HC6.out W (HA5.out.trans hw.aft)]) (hK _ _ (fun u hu => by cases hu; rfl) (hw.keep (Aft.refl _) (by decide) (by decide)))
          | 2, ho, hv =>
            cases ho; cases hv
            refine .inl ⟨rfl, fun done a W hz hd hp hk hw K hK => ?_⟩
            have e48 := hk.at_ 1 _ 48 _ rfl (by decide) _ rfl rfl rfl
            refine op_val (v := .int .i64 ((n : Int) + 1)) ?_ (hK _ _ (fun u hu => by cases hu; rfl) (hw.keep (Aft.refl _) (by decide) (by decide)))
            simp [go_sem, ev' e48]
            rw [IntKind.wrap_i64]
            omega
          | 3, ho, hv =>
            cases ho; cases hv
            refine .inl ⟨rfl, fun done a W hz hd hp hk hw K hK => ?_⟩
            have e1 := hk.same 1 (by decide)
            exact op_val (v := .slice A l.length c) (by simp [go_sem, ev' e1]) (hK _ _ (fun u hu => by cases hu; rfl) (hw.keep (Aft.refl _) (by decide) (by decide)))
          | 4, ho, hv =>
            cases ho; cases hv
            refine .inl ⟨rfl, fun done a W hz hd hp hk hw K hK => ?_⟩
            have e50 := hk.at_ 3 _ 50 _ rfl (by decide) _ rfl rfl rfl
            refine op_callN rfl rfl rfl _ rfl (vs := #[.slice A l.length c]) (by simp [e50]) (HCL.out W (HA5.out.trans hw.aft)) fun e w' h => ?_
            obtain ⟨v1, rfl, hrow, ha⟩ := h
            exact ⟨v1, rfl, hK _ _ (fun u hu => by cases hu) (hw.stepA hd ha hrow (by rw [hz]; decide) (by decide) (by decide))⟩
          | 5, ho, hv =>
            cases ho; cases hv
            refine .inl ⟨rfl, fun done a W hz hd hp hk hw K hK => ?_⟩
            have e6 := hk.same 6 (by decide)
            exact op_val (v := .int .i64 n) (by simp [go_sem, ev' e6, HC6.out W (HA5.out.trans hw.aft)]) (hK _ _ (fun u hu => by cases hu; rfl) (hw.keep (Aft.refl _) (by decide) (by decide)))
          | 6, ho, hv =>
            cases ho; cases hv
            refine .inl ⟨rfl, fun done a W hz hd hp hk hw K hK => ?_⟩
            have e52 := hk.at_ 5 _ 52 _ rfl (by decide) _ rfl rfl rfl
            exact op_valW (w' := W.alloc (.cells #[.int .i64 n] 3)) (v := .slice (some ⟨W.heap.size, 0, none⟩) 1 1) (by simp [go_sem, ev' e52]) (hK _ _ (fun u hu => by cases hu) (hw.stepB hd (by rw [hz]; decide) (by decide) (by decide)))
          | 7, ho, hv =>
            cases ho; cases hv
            refine .inl ⟨rfl, fun done a W hz hd hp hk hw K hK => ?_⟩
            exact hw.stepC (hp 4 (by decide)) (hp 6 (by decide)) hd (by decide) rfl rfl (by rw [hz]; decide) (by omega) (fun y w' hy => hK _ _ (fun u hu => by cases hu) hy)
          | _ + 8, _, hv => cases hv
        intro done us W hus hd hw
        obtain ⟨x1, x2, x3, rfl⟩ := list3 hus
        have hrow3 : W.ownsRow w5.heap.size 3 1 x3 (l ++ [(n : Int)]).length ((l ++ [(n : Int)]).map (Value.int .i64)) := by
          have := hw.rowC (hd 7 (by decide))
          simpa [fill, putAll, Act.put, Act.eval] using this
        have HA6 := Lib.hid (HA5.out.trans hw.aft)
        obtain ⟨l2, hl2⟩ : ∃ l2, l ++ [(n : Int)] = l2 := ⟨_, rfl⟩
        have hlen2 : l2.length ≤ n + 1 := by rw [← hl2]; simp; omega
        have HLN2 := Lib.hid (show ∀ x ∈ l2, 0 ≤ x ∧ x < 14 from hl2 ▸ HLN.out)
        rw [hl2] at hrow3
        have HL2 := Lib.hid hl2
        clear hl2
        obtain ⟨A3, c3, rfl, _, _⟩ := own_ints hrow3 (by omega)
        have hb5 : b ≤ w5.heap.size := by have := HGY.out.ge; have := (HGY.out.aft.trans HA5.out).size; omega
        have HI1 := Lib.hid (IH.out l2 _ acc W HLN2.out hlen2 (World.ownsRow.mono hrow3 hb5) (HGY.out.later HA6.out) haM)
        clear hw hd hus hrow3 hb5
        simp only [fill, List.drop_succ_cons, List.drop_zero, List.zip_cons_cons, List.zip_nil_right, putAll]
        simp only [Act.put, List.setIfInBounds_toArray, List.set]
        go_upto_region 6 with (go_at_call 105; refine HI1.out.mono ?_; rintro e w8 ⟨⟨v8, rfl⟩, hg8, hk8⟩; have HG8 := Lib.hid hg8; have HK8 := Lib.hid ((Kp.of_aft (HDR.out.trans HA6.out)).trans hk8); clear hg8 hk8)
        have z1 : w8.cell? ⟨b + 1 + 1 + 1, 0, none⟩ = some (.func (.func 105) #[] #[.pointer (some ⟨b + 1 + 1, 0, none⟩), .pointer (some ⟨b + 1, 0, none⟩), .pointer (some ⟨b, 0, none⟩), .pointer (some ⟨b + 1 + 1 + 1, 0, none⟩)]) := HG8.out.b3.cell 0
        have z2 := HG8.out.b3.lt
        have hB6 := Blk.kp HB6.out HK8.out (by decide) (by decide)
        have z3 : w8.cell? ⟨B6, 0, none⟩ = some (.int .i64 n) := hB6.cell 0
        have z4 := hB6.lt
        have HI := Lib.hid (IH.out l (.slice A l.length c) ((acc ++ G (n + 1) l2).take M) _ HLL.out (by omega) (own_kp HROW.out HK8.out) HG8.out (List.length_take_le _ _))
        clear hB6
        go_wp2_with (go_at_call 105; refine HI.out.mono ?_; rintro e w9 ⟨⟨v9, rfl⟩, hg9, hk9⟩; have HG9 := Lib.hid hg9; have HK9 := Lib.hid hk9; clear hg9 hk9)
        refine bodyPost_ret (v := .tuple #[]) (by simp [results, Tryz.results105, go_sem]) rfl ?_
        have eT : (((acc ++ G (n + 1) l2).take M) ++ G (n + 1) l).take M = T := by rw [← HT.out, HG2.out]; rw [take_take_app, ← HL2.out, List.append_assoc, grow_yes (by unfold canB; rw [HR.out, HXN.out]; show (!strikeL C.strikes (refL (l ++ [(n : Int)])) n && true) = true; rw [HSN.out]; rfl)]
        rw [← eT]
        exact ⟨⟨_, rfl⟩, HG9.out, ((Kp.of_aft HA.out).trans HK8.out).trans HK9.out⟩
    · rw [hs] at HS
      have HSN := Lib.hid hs
      clear hs
      refine wp_region_valsU (by kernel_rfl) 22 94 rfl (by kernel_rfl) (by kernel_rfl) [some (.pointer (some ⟨d, 0, none⟩)), some (.int .i64 n), some (.pointer (some ⟨d, 0, none⟩)), some (.pointer (some ⟨d, 3, none⟩)), some (.pointer (some ⟨d, 3 + n, none⟩)), some (.bool false), some (.bool true), some (.bool true), some (.pointer (some ⟨d, 0, none⟩)), some (.slice A l.length c), none, some (.int .i64 n), none, none, some (.agg (mk (refL (l ++ [(n : Int)])))), some (.int .i64 n), some (.bool true), some (.bool false), some (.bool false), some (.bool false), some undef, some undef] (by kernel_rfl) rfl (Tri Wy l n 10 12 13 33 35 36) (Tri.start) ?st4 ?fi4
      case st4 =>
        intro i o v ho hv
        match i, ho, hv with
        | 0, ho, hv =>
          cases ho; cases hv
          refine .inl ⟨rfl, fun done a W hz hd hp hk hw K hK => ?_⟩
          have e4 := hk.same 4 (by decide)
          exact op_val (v := .pointer (some ⟨d, 0, none⟩)) (by simp [go_sem, ev' e4, HC0.out W hw.aft]) (hK _ _ (fun u hu => by cases hu; rfl) (hw.keep (Aft.refl _) (by decide) (by decide)))
        | 1, ho, hv =>
          cases ho; cases hv
          refine .inl ⟨rfl, fun done a W hz hd hp hk hw K hK => ?_⟩
          have e6 := hk.same 6 (by decide)
          exact op_val (v := .int .i64 n) (by simp [go_sem, ev' e6, HC6.out W hw.aft]) (hK _ _ (fun u hu => by cases hu; rfl) (hw.keep (Aft.refl _) (by decide) (by decide)))
        | 2, ho, hv =>
          cases ho; cases hv
          refine .inl ⟨rfl, fun done a W hz hd hp hk hw K hK => ?_⟩
          have e23 := hk.at_ 0 _ 23 _ rfl (by decide) _ rfl rfl rfl
          exact op_val (v := .pointer (some ⟨d, 0, none⟩)) (by simp [go_sem, ev' e23]) (hK _ _ (fun u hu => by cases hu; rfl) (hw.keep (Aft.refl _) (by decide) (by decide)))
        | 3, ho, hv =>
          cases ho; cases hv
          refine .inl ⟨rfl, fun done a W hz hd hp hk hw K hK => ?_⟩
          have e25 := hk.at_ 2 _ 25 _ rfl (by decide) _ rfl rfl rfl
          exact op_val (v := .pointer (some ⟨d, 3, none⟩)) (by simp [go_sem, ev' e25]) (hK _ _ (fun u hu => by cases hu; rfl) (hw.keep (Aft.refl _) (by decide) (by decide)))
        | 4, ho, hv =>
          cases ho; cases hv
          refine .inl ⟨rfl, fun done a W hz hd hp hk hw K hK => ?_⟩
          have e24 := hk.at_ 1 _ 24 _ rfl (by decide) _ rfl rfl rfl
          have e26 := hk.at_ 3 _ 26 _ rfl (by decide) _ rfl rfl rfl
          exact op_val (v := .pointer (some ⟨d, 3 + n, none⟩)) (by simp [go_sem, ev' e24, ev' e26, hn14]) (hK _ _ (fun u hu => by cases hu; rfl) (hw.keep (Aft.refl _) (by decide) (by decide)))
        | 5, ho, hv =>
          cases ho; cases hv
          refine .inl ⟨rfl, fun done a W hz hd hp hk hw K hK => ?_⟩
          have e27 := hk.at_ 4 _ 27 _ rfl (by decide) _ rfl rfl rfl
          exact op_val (v := .bool false) (by simp [go_sem, ev' e27, HCR.out W hw.aft]) (hK _ _ (fun u hu => by cases hu; rfl) (hw.keep (Aft.refl _) (by decide) (by decide)))
        | 6, ho, hv =>
          cases ho; cases hv
          refine .inl ⟨rfl, fun done a W hz hd hp hk hw K hK => ?_⟩
          have e28 := hk.at_ 5 _ 28 _ rfl (by decide) _ rfl rfl rfl
          exact op_val (v := .bool true) (by simp [go_sem, ev' e28]) (hK _ _ (fun u hu => by cases hu; rfl) (hw.keep (Aft.refl _) (by decide) (by decide)))
        | 7, ho, hv =>
          cases ho; cases hv
          refine .inl ⟨rfl, fun done a W hz hd hp hk hw K hK => ?_⟩
          have e29 := hk.at_ 6 _ 29 _ rfl (by decide) _ rfl rfl rfl
          exact op_val (v := .bool true) (by simp [go_sem, ev' e29]) (hK _ _ (fun u hu => by cases hu; rfl) (hw.keep (Aft.refl _) (by decide) (by decide)))
        | 8, ho, hv =>
          cases ho; cases hv
          refine .inl ⟨rfl, fun done a W hz hd hp hk hw K hK => ?_⟩
          have e4 := hk.same 4 (by decide)
          exact op_val (v := .pointer (some ⟨d, 0, none⟩)) (by simp [go_sem, ev' e4, HC0.out W hw.aft]) (hK _ _ (fun u hu => by cases hu; rfl) (hw.keep (Aft.refl _) (by decide) (by decide)))
        | 9, ho, hv =>
          cases ho; cases hv
          refine .inl ⟨rfl, fun done a W hz hd hp hk hw K hK => ?_⟩
          have e1 := hk.same 1 (by decide)
          exact op_val (v := .slice A l.length c) (by simp [go_sem, ev' e1]) (hK _ _ (fun u hu => by cases hu; rfl) (hw.keep (Aft.refl _) (by decide) (by decide)))
        | 10, ho, hv =>
          cases ho; cases hv
          refine .inl ⟨rfl, fun done a W hz hd hp hk hw K hK => ?_⟩
          have e32 := hk.at_ 9 _ 32 _ rfl (by decide) _ rfl rfl rfl
          refine op_callN rfl rfl rfl _ rfl (vs := #[.slice A l.length c]) (by simp [e32]) (HCL.out W hw.aft) fun e w' h => ?_
          obtain ⟨v1, rfl, hrow, ha⟩ := h
          exact ⟨v1, rfl, hK _ _ (fun u hu => by cases hu) (hw.stepA hd ha hrow (by rw [hz]; decide) (by decide) (by decide))⟩
        | 11, ho, hv =>
          cases ho; cases hv
          refine .inl ⟨rfl, fun done a W hz hd hp hk hw K hK => ?_⟩
          have e6 := hk.same 6 (by decide)
          exact op_val (v := .int .i64 n) (by simp [go_sem, ev' e6, HC6.out W hw.aft]) (hK _ _ (fun u hu => by cases hu; rfl) (hw.keep (Aft.refl _) (by decide) (by decide)))
        | 12, ho, hv =>
          cases ho; cases hv
          refine .inl ⟨rfl, fun done a W hz hd hp hk hw K hK => ?_⟩
          have e34 := hk.at_ 11 _ 34 _ rfl (by decide) _ rfl rfl rfl
          exact op_valW (w' := W.alloc (.cells #[.int .i64 n] 3)) (v := .slice (some ⟨W.heap.size, 0, none⟩) 1 1) (by simp [go_sem, ev' e34]) (hK _ _ (fun u hu => by cases hu) (hw.stepB hd (by rw [hz]; decide) (by decide) (by decide)))
        | 13, ho, hv =>
          cases ho; cases hv
          refine .inl ⟨rfl, fun done a W hz hd hp hk hw K hK => ?_⟩
          exact hw.stepC (hp 10 (by decide)) (hp 12 (by decide)) hd (by decide) rfl rfl (by rw [hz]; decide) (by omega) (fun y w' hy => hK _ _ (fun u hu => by cases hu) hy)
        | 14, ho, hv =>
          cases ho; cases hv
          refine .inl ⟨rfl, fun done a W hz hd hp hk hw K hK => ?_⟩
          obtain ⟨A1, c1, e1, _, hi⟩ := own_ints (hw.rowC (hp 13 (by decide))) (by simp; omega)
          refine op_callN rfl rfl rfl _ rfl (vs := #[.slice A1 (l ++ [(n : Int)]).length c1]) (by simp [e1]) (marked_any (l ++ [(n : Int)]) A1 c1 W hi HLN.out) fun e w' h => ?_
          obtain ⟨rfl, ha⟩ := h
          exact ⟨_, rfl, hK _ _ (fun u hu => by cases hu; rfl) (hw.keep ha (by decide) (by decide))⟩
        | 15, ho, hv =>
          cases ho; cases hv
          refine .inl ⟨rfl, fun done a W hz hd hp hk hw K hK => ?_⟩
          have e6 := hk.same 6 (by decide)
          exact op_val (v := .int .i64 n) (by simp [go_sem, ev' e6, HC6.out W hw.aft]) (hK _ _ (fun u hu => by cases hu; rfl) (hw.keep (Aft.refl _) (by decide) (by decide)))
        | 16, ho, hv =>
          cases ho; cases hv
          refine .inl ⟨rfl, fun done a W hz hd hp hk hw K hK => ?_⟩
          have e31 := hk.at_ 8 _ 31 _ rfl (by decide) _ rfl rfl rfl
          have e37 := hk.at_ 14 _ 37 _ rfl (by decide) _ rfl rfl rfl
          have e38 := hk.at_ 15 _ 38 _ rfl (by decide) _ rfl rfl rfl
          refine op_callN rfl rfl rfl _ rfl (vs := #[.pointer (some ⟨d, 0, none⟩), .agg (mk (refL (l ++ [(n : Int)]))), .int .i64 n]) (by simp [e31, e37, e38]) (HS.out W hw.aft) fun e w' h => ?_
          obtain ⟨rfl, ha⟩ := h
          exact ⟨_, rfl, hK _ _ (fun u hu => by cases hu; rfl) (hw.keep ha (by decide) (by decide))⟩
        | 17, ho, hv =>
          cases ho; cases hv
          refine .inl ⟨rfl, fun done a W hz hd hp hk hw K hK => ?_⟩
          have e39 := hk.at_ 16 _ 39 _ rfl (by decide) _ rfl rfl rfl
          exact op_val (v := .bool false) (by simp [go_sem, ev' e39]) (hK _ _ (fun u hu => by cases hu; rfl) (hw.keep (Aft.refl _) (by decide) (by decide)))
        | 18, ho, hv =>
          cases ho; cases hv
          refine .inl ⟨rfl, fun done a W hz hd hp hk hw K hK => ?_⟩
          have e30 := hk.at_ 7 _ 30 _ rfl (by decide) _ rfl rfl rfl
          have e40 := hk.at_ 17 _ 40 _ rfl (by decide) _ rfl rfl rfl
          exact op_val (v := .bool false) (by simp [go_sem, ev' e30, ev' e40]) (hK _ _ (fun u hu => by cases hu; rfl) (hw.keep (Aft.refl _) (by decide) (by decide)))
        | 19, ho, hv =>
          cases ho; cases hv
          refine .inl ⟨rfl, fun done a W hz hd hp hk hw K hK => ?_⟩
          have e41 := hk.at_ 18 _ 41 _ rfl (by decide) _ rfl rfl rfl
          exact op_val (v := .bool false) (by simp [go_sem, ev' e41]) (hK _ _ (fun u hu => by cases hu; rfl) (hw.keep (Aft.refl _) (by decide) (by decide)))
        | 20, ho, hv => cases ho; cases hv; exact .inr ⟨rfl, rfl, fun done a W hw => hw.keep (Aft.refl _) (by decide) (by decide)⟩
        | 21, ho, hv => cases ho; cases hv; exact .inr ⟨rfl, rfl, fun done a W hw => hw.keep (Aft.refl _) (by decide) (by decide)⟩
        | _ + 22, _, hv => cases hv
      intro done us W hus hd hw
      obtain ⟨y1, y2, y3, rfl⟩ := list3 hus
      have HA4 := Lib.hid hw.aft
      clear hw hd hus
      simp only [fill, List.drop_succ_cons, List.drop_zero, List.zip_cons_cons, List.zip_nil_right, putAll]
      simp only [Act.put, List.setIfInBounds_toArray, List.set]
      go_upto_region 6 with (fail)
      have HG8 := Lib.hid (HGY.out.later HA4.out)
      have HK8 := Lib.hid (Kp.of_aft (HDR.out.trans HA4.out))
      have z1 : W.cell? ⟨b + 1 + 1 + 1, 0, none⟩ = some (.func (.func 105) #[] #[.pointer (some ⟨b + 1 + 1, 0, none⟩), .pointer (some ⟨b + 1, 0, none⟩), .pointer (some ⟨b, 0, none⟩), .pointer (some ⟨b + 1 + 1 + 1, 0, none⟩)]) := HG8.out.b3.cell 0
      have z2 := HG8.out.b3.lt
      have hB6 := Blk.kp HB6.out HK8.out (by decide) (by decide)
      have z3 : W.cell? ⟨B6, 0, none⟩ = some (.int .i64 n) := hB6.cell 0
      have z4 := hB6.lt
      have HI := Lib.hid (IH.out l (.slice A l.length c) acc _ HLL.out (by omega) (own_kp HROW.out HK8.out) HG8.out haM)
      clear hB6
      go_wp2_with (go_at_call 105; refine HI.out.mono ?_; rintro e w9 ⟨⟨v9, rfl⟩, hg9, hk9⟩; have HG9 := Lib.hid hg9; have HK9 := Lib.hid hk9; clear hg9 hk9)
      refine bodyPost_ret (v := .tuple #[]) (by simp [results, Tryz.results105, go_sem]) rfl ?_
      have eT : (acc ++ G (n + 1) l).take M = T := by rw [← HT.out, HG2.out]; rw [grow_no (by unfold canB; show (!ref n && !strikeL C.strikes (refL (l ++ [(n : Int)])) n && _) = false; rw [HSN.out, Bool.not_true, Bool.and_false, Bool.false_and])]
      rw [← eT]
      exact ⟨⟨_, rfl⟩, HG9.out, ((Kp.of_aft HA.out).trans HK8.out).trans HK9.out⟩
  · rw [hr] at HCR
    have HR := Lib.hid hr
    clear hr
    refine wp_region_valsT (by kernel_rfl) 22 94 rfl (by kernel_rfl) (by kernel_rfl) (by kernel_rfl) [.pointer (some ⟨d, 0, none⟩), .int .i64 n, .pointer (some ⟨d, 0, none⟩), .pointer (some ⟨d, 3, none⟩), .pointer (some ⟨d, 3 + n, none⟩), .bool true, .bool false, .bool false, undef, undef, undef, undef, undef, undef, undef, undef, undef, undef, .bool false, .bool false, undef, undef] rfl (fun _ W' => W' = Wy.drew) (rfl) ?st5 ?fi5
    case st5 =>
      intro i o v ho hv
      match i, ho, hv with
      | 0, ho, hv =>
        cases ho; cases hv
        refine .inl ⟨rfl, fun done a W hd hp hk hw K hK => ?_⟩
        have e4 := hk.same 4 (by decide)
        exact op_val (by simp [go_sem, ev' e4, HC0.out W (hw ▸ Aft.drew Wy)]) (hK _ hw)
      | 1, ho, hv =>
        cases ho; cases hv
        refine .inl ⟨rfl, fun done a W hd hp hk hw K hK => ?_⟩
        have e6 := hk.same 6 (by decide)
        exact op_val (by simp [go_sem, ev' e6, HC6.out W (hw ▸ Aft.drew Wy)]) (hK _ hw)
      | 2, ho, hv =>
        cases ho; cases hv
        refine .inl ⟨rfl, fun done a W hd hp hk hw K hK => ?_⟩
        have e23 := hk.at_ 0 _ 23 _ rfl (by decide) _ rfl rfl rfl
        exact op_val (by simp [go_sem, ev' e23]) (hK _ hw)
      | 3, ho, hv =>
        cases ho; cases hv
        refine .inl ⟨rfl, fun done a W hd hp hk hw K hK => ?_⟩
        have e25 := hk.at_ 2 _ 25 _ rfl (by decide) _ rfl rfl rfl
        exact op_val (by simp [go_sem, ev' e25]) (hK _ hw)
      | 4, ho, hv =>
        cases ho; cases hv
        refine .inl ⟨rfl, fun done a W hd hp hk hw K hK => ?_⟩
        have e24 := hk.at_ 1 _ 24 _ rfl (by decide) _ rfl rfl rfl
        have e26 := hk.at_ 3 _ 26 _ rfl (by decide) _ rfl rfl rfl
        exact op_val (by simp [go_sem, ev' e24, ev' e26, hn14]) (hK _ hw)
      | 5, ho, hv =>
        cases ho; cases hv
        refine .inl ⟨rfl, fun done a W hd hp hk hw K hK => ?_⟩
        have e27 := hk.at_ 4 _ 27 _ rfl (by decide) _ rfl rfl rfl
        exact op_val (by simp [go_sem, ev' e27, HCR.out W (hw ▸ Aft.drew Wy)]) (hK _ hw)
      | 6, ho, hv =>
        cases ho; cases hv
        refine .inl ⟨rfl, fun done a W hd hp hk hw K hK => ?_⟩
        have e28 := hk.at_ 5 _ 28 _ rfl (by decide) _ rfl rfl rfl
        exact op_val (by simp [go_sem, ev' e28]) (hK _ hw)
      | 7, ho, hv =>
        cases ho; cases hv
        refine .inl ⟨rfl, fun done a W hd hp hk hw K hK => ?_⟩
        have e29 := hk.at_ 6 _ 29 _ rfl (by decide) _ rfl rfl rfl
        exact op_val (by simp [go_sem, ev' e29]) (hK _ hw)
      | 8, ho, hv => cases ho; cases hv; exact .inr ⟨rfl, rfl, fun _ _ h => h⟩
      | 9, ho, hv => cases ho; cases hv; exact .inr ⟨rfl, rfl, fun _ _ h => h⟩
      | 10, ho, hv => cases ho; cases hv; exact .inr ⟨rfl, rfl, fun _ _ h => h⟩
      | 11, ho, hv => cases ho; cases hv; exact .inr ⟨rfl, rfl, fun _ _ h => h⟩
      | 12, ho, hv => cases ho; cases hv; exact .inr ⟨rfl, rfl, fun _ _ h => h⟩
      | 13, ho, hv => cases ho; cases hv; exact .inr ⟨rfl, rfl, fun _ _ h => h⟩
      | 14, ho, hv => cases ho; cases hv; exact .inr ⟨rfl, rfl, fun _ _ h => h⟩
      | 15, ho, hv => cases ho; cases hv; exact .inr ⟨rfl, rfl, fun _ _ h => h⟩
      | 16, ho, hv => cases ho; cases hv; exact .inr ⟨rfl, rfl, fun _ _ h => h⟩
      | 17, ho, hv => cases ho; cases hv; exact .inr ⟨rfl, rfl, fun _ _ h => h⟩
      | 18, ho, hv =>
        cases ho; cases hv
        refine .inl ⟨rfl, fun done a W hd hp hk hw K hK => ?_⟩
        have e30 := hk.at_ 7 _ 30 _ rfl (by decide) _ rfl rfl rfl
        have e40 := hk.at_ 17 _ 40 _ rfl (by decide) _ rfl rfl rfl
        exact op_val (by simp [go_sem, ev' e30, ev' e40]) (hK _ hw)
      | 19, ho, hv =>
        cases ho; cases hv
        refine .inl ⟨rfl, fun done a W hd hp hk hw K hK => ?_⟩
        have e41 := hk.at_ 18 _ 41 _ rfl (by decide) _ rfl rfl rfl
        exact op_val (by simp [go_sem, ev' e41]) (hK _ hw)
      | 20, ho, hv => cases ho; cases hv; exact .inr ⟨rfl, rfl, fun _ _ h => h⟩
      | 21, ho, hv => cases ho; cases hv; exact .inr ⟨rfl, rfl, fun _ _ h => h⟩
      | _ + 22, _, hv => cases hv
    intro done W hd hw
    simp only [List.drop_succ_cons, List.drop_zero, List.zip_cons_cons, List.zip_nil_right, putAll]
    simp only [Act.put, List.setIfInBounds_toArray, List.set]
    clear hd
    subst hw
    go_upto_region 6 with (fail)
    have HG8 := Lib.hid (HGY.out.later (Aft.drew Wy))
    have HK8 := Lib.hid (Kp.of_aft (HDR.out.trans (Aft.drew Wy)))
    have z1 : Wy.drew.cell? ⟨b + 1 + 1 + 1, 0, none⟩ = some (.func (.func 105) #[] #[.pointer (some ⟨b + 1 + 1, 0, none⟩), .pointer (some ⟨b + 1, 0, none⟩), .pointer (some ⟨b, 0, none⟩), .pointer (some ⟨b + 1 + 1 + 1, 0, none⟩)]) := HG8.out.b3.cell 0
    have z2 := HG8.out.b3.lt
    have hB6 := Blk.kp HB6.out HK8.out (by decide) (by decide)
    have z3 : Wy.drew.cell? ⟨B6, 0, none⟩ = some (.int .i64 n) := hB6.cell 0
    have z4 := hB6.lt
    have HI := Lib.hid (IH.out l (.slice A l.length c) acc _ HLL.out (by omega) (own_kp HROW.out HK8.out) HG8.out haM)
    clear hB6
    go_wp2_with (go_at_call 105; refine HI.out.mono ?_; rintro e w9 ⟨⟨v9, rfl⟩, hg9, hk9⟩; have HG9 := Lib.hid hg9; have HK9 := Lib.hid hk9; clear hg9 hk9)
    refine bodyPost_ret (v := .tuple #[]) (by simp [results, Tryz.results105, go_sem]) rfl ?_
    have eT : (acc ++ G (n + 1) l).take M = T := by rw [← HT.out, HG2.out]; rw [grow_no (by unfold canB; rw [HR.out, Bool.not_true, Bool.false_and, Bool.false_and])]
    rw [← eT]
    exact ⟨⟨_, rfl⟩, HG9.out, ((Kp.of_aft HA.out).trans HK8.out).trans HK9.out⟩

theorem grow_any (w0 w : World) (b d M N : Nat) (C : CaseL) (a1 a2 : Option Addr) (c1 c2 : Nat) (ref : Int → Bool) (f r : Int → Nat) (HD0 : ∀ W, Aft w W → DeskAt w0 W d C a1 a2 c1 c2 ref noS f r) (hN : C.claims = N) (hN14 : N ≤ 14) (hS : ∀ s ∈ C.strikes, 0 ≤ s.1 ∧ s.1 < 14) (hM : M ≤ 1000000) : ∀ (k n : Nat) (l : List Int) (lv : Value) (acc : List (List Int)) (W : World), n + k = N → (∀ x ∈ l, 0 ≤ x ∧ x < 14) → l.length ≤ n → W.ownsRow b 3 1 lv l.length (l.map (Value.int .i64)) → GI w b d M acc W → acc.length ≤ M →
    Calls Tryz.prog 105 #[.int .i64 n, lv, .pointer (some ⟨b + 1 + 1, 0, none⟩), .pointer (some ⟨b + 1, 0, none⟩), .pointer (some ⟨b, 0, none⟩), .pointer (some ⟨b + 1 + 1 + 1, 0, none⟩)] W (GrowR w b d M ((acc ++ grow C.strikes ref N k n l).take M) W)
  | k, n, l, lv, acc, W, hn, hl, hll, hrow, hG, hacc => by
    by_cases hc : acc.length < M
    · cases k with
      | zero =>
        have h := grow_leaf w0 w b d M N C a1 a2 c1 c2 ref f r HD0 hN hN14 hS hM n l lv acc W hl hll hrow hG hc (by omega)
        have e : (acc ++ grow C.strikes ref N 0 n l).take M = acc ++ if coverB C.strikes ref N l then [l] else [] := by
          refine List.take_of_length_le ?_
          show (acc ++ if coverB C.strikes ref N l then [l] else []).length ≤ M
          split <;> simp <;> omega
        rw [e]
        exact h
      | succ k =>
        refine grow_step w0 w b d M N C a1 a2 c1 c2 ref f r HD0 hN hN14 hS hM n l lv acc W hl hll hrow hG hc k hn (fun n l => grow C.strikes ref N k n l) rfl fun l' lv' acc' W' h1 h2 h3 h4 h5 => ?_
        have h := grow_any w0 w b d M N C a1 a2 c1 c2 ref f r HD0 hN hN14 hS hM k (n + 1) l' lv' acc' W' (by omega) h1 h2 h3 h4 h5
        rw [show ((n : Int) + 1) = ((n + 1 : Nat) : Int) by omega]
        exact h
    · rw [take_full (by omega)]
      exact grow_cap w0 w b d M N C a1 a2 c1 c2 ref f r HD0 hN hN14 hS hM n l lv acc W hl hll hrow hG (by omega) (by omega)
end Go.Proofs
end

section
namespace Go.Proofs
open Go.RowKit
attribute [local go_sem] Oper.semAt_some

structure Swp (W0 : World) (g J : Nat) (u : Value) (done : Nat → Bool) (W : World) : Prop where
  bf : done 15 = true → done 8 = true ∧ done 13 = true
  wd : done 15 = true → W = W0.setCell ⟨g, J, none⟩ u
  w0 : done 15 = false → W = W0
section
variable {W0 W : World} {g J : Nat} {u : Value} {done : Nat → Bool}
theorem upd_up {i k : Nat} (h : done k = true) : upd done i k = true := by simp [upd, h]
theorem Swp.start : Swp W0 g J u (fun _ => false) W0 := ⟨(fun h => by cases h), (fun h => by cases h), fun _ => rfl⟩
theorem Swp.keep (h : Swp W0 g J u done W) {i : Nat} (hi : i ≠ 15) : Swp W0 g J u (upd done i) W :=
  ⟨fun p => by rw [upd_ne (Ne.symm hi)] at p; exact ⟨upd_up (h.bf p).1, upd_up (h.bf p).2⟩, fun p => by rw [upd_ne (Ne.symm hi)] at p; exact h.wd p, fun p => by rw [upd_ne (Ne.symm hi)] at p; exact h.w0 p⟩
theorem Swp.at8 (h : Swp W0 g J u done W) (h8 : done 8 = false) : W = W0 := h.w0 (by
  cases e : done 15
  · rfl
  · rw [(h.bf e).1] at h8; cases h8)
theorem Swp.at13 (h : Swp W0 g J u done W) (h8 : done 13 = false) : W = W0 := h.w0 (by
  cases e : done 15
  · rfl
  · rw [(h.bf e).2] at h8; cases h8)
theorem Swp.store (h : Swp W0 g J u done W) (h15 : done 15 = false) (h8 : done 8 = true) (h13 : done 13 = true) : Swp W0 g J u (upd done 15) (W0.setCell ⟨g, J, none⟩ u) :=
  ⟨fun _ => ⟨upd_up h8, upd_up h13⟩, fun _ => rfl, fun p => by rw [upd_same] at p; cases p⟩
end
theorem ints_set (P : List Int) (j : Nat) (y : Int) : (P.map (Value.int .i64)).set j (.int .i64 y) = (P.set j y).map (Value.int .i64) := by rw [List.map_set]
theorem int_cell {w : World} {base g n cap : Nat} {P : List Int} (h : w.ownsRow base 3 1 (.slice (some ⟨g, 0, none⟩) n cap) n (P.map (Value.int .i64))) {j : Nat} (hj : j < P.length) : w.cell? ⟨g, j, none⟩ = some (.int .i64 P[j]) := by
  have hl := h.1
  rw [h.cellAt j (by simp at hl ⊢; omega)]
  simp [hj]
def ShufR (w0 : World) (d : Nat) (A : Option Addr) (l : List Int) (c m n : Nat) (w : World) (e : Ending) (w' : World) : Prop :=
  ∃ v, ∃ P : List Int, e = .returned v ∧ w'.ownsRow w.heap.size 3 1 v n (P.map (Value.int .i64)) ∧ P.Perm (Court.allN n) ∧ DeckAt w0 d A l c (m + n) w' ∧ w.grownBy w' (some d)
theorem allN_succ (k : Nat) : Court.allN (k + 1) = Court.allN k ++ [(k : Int)] := by unfold Court.allN; rw [List.range_succ, List.map_append]; rfl
theorem allN_len (k : Nat) : (Court.allN k).length = k := by unfold Court.allN; simp

set_option maxRecDepth 100000 in
set_option maxHeartbeats 4000000 in
theorem shuffle_zero (w0 : World) (d : Nat) (A : Option Addr) (l : List Int) (c m : Nat) (w : World) (hd : DeckAt w0 d A l c m w) :
    Calls Tryz.prog 40 #[.pointer (some ⟨d, 0, none⟩), .int .i64 0] w (ShufR w0 d A l c m 0 w) := by
  have HD := Lib.hid hd
  obtain ⟨w1, hmk, hown1, hg1⟩ := (show ∃ w', (Instr.makeSlice 33 (.int .i64 0) (.int .i64 0)).run Tryz.prog w = .ok (.slice (some ⟨w.heap.size, 0, none⟩) 0 0) w' ∧ w'.ownsRow w.heap.size 3 1 (.slice (some ⟨w.heap.size, 0, none⟩) 0 0) 0 [] ∧ w.grownBy w' none by
    obtain ⟨ht, ⟨i, z, hi, hz, hsize, hby, hzs⟩, hsz⟩ := ty24
    exact run_make_own (P := Tryz.prog) w w.heap.size 33 3 i z 1 ht hi hz hsize .i64 .i64 0 (by omega) (by unfold maxLen; omega) (Nat.le_refl _))
  have HO1 := Lib.hid hown1
  have HG1 := Lib.hid hg1
  clear hown1 hg1 hd
  go_enter Tryz.func40, Tryz.ntmps40
  go_upto_region 2 with (fail)
  clear hmk
  have HD1 := Lib.hid (HD.out.grown HG1.out (fun k h => by cases h))
  go_upto_block 0 with (fail)
  refine wp_block ?_
  go_loopw [5, 14] (fun v i wr => v = .slice (some ⟨w.heap.size, 0, none⟩) 0 0 ∧ i = .int .i64 0 ∧ wr = w1) (fun _ _ _ => 0)
  case atStart => exact ⟨rfl, rfl, rfl⟩
  case round =>
  obtain ⟨rfl, rfl, rfl⟩ := hrel
  go_upto_block 2 with (fail)
  refine wp_block ?_
  go_loopw [7] (fun i wr2 => i = .int .i64 0 ∧ wr2 = wr) (fun _ _ => 0)
  case atStart => exact ⟨rfl, rfl⟩
  case round =>
  obtain ⟨rfl, rfl⟩ := hrel
  go_wp2_with fail
  go_ret
  exact ⟨_, [], rfl, HO1.out, List.Perm.refl _, HD1.out, only_grown (only_refl w (some d)) HG1.out (fun k h => by cases h)⟩

set_option maxRecDepth 100000 in
set_option maxHeartbeats 4000000 in
theorem shuffle_pos (w0 : World) (d : Nat) (A : Option Addr) (l : List Int) (c m n : Nat) (w : World) (hd : DeckAt w0 d A l c m w) (hm : m ≤ 900000) (hn : n ≤ 1000) (h0 : 0 < n) :
    Calls Tryz.prog 40 #[.pointer (some ⟨d, 0, none⟩), .int .i64 n] w (ShufR w0 d A l c m n w) := by
  have HD := Lib.hid hd
  have hdl := hd.lt
  clear hd
  obtain ⟨w1, hmk, hown1, hg1⟩ := (show ∃ w', (Instr.makeSlice 33 (.int .i64 0) (.int .i64 (n : Int))).run Tryz.prog w = .ok (.slice (some ⟨w.heap.size, 0, none⟩) 0 n) w' ∧ w'.ownsRow w.heap.size 3 1 (.slice (some ⟨w.heap.size, 0, none⟩) 0 n) 0 [] ∧ w.grownBy w' none by
    obtain ⟨ht, ⟨i, z, hi, hz, hsize, hby, hzs⟩, hsz⟩ := ty24
    exact run_make_own (P := Tryz.prog) w w.heap.size 33 3 i z 1 ht hi hz hsize .i64 .i64 n (by rw [hby]; omega) (by unfold maxLen; omega) (Nat.le_refl _))
  have HO1 := Lib.hid hown1
  have HG1 := Lib.hid hg1
  clear hown1 hg1
  go_enter Tryz.func40, Tryz.ntmps40
  go_upto_region 2 with (fail)
  clear hmk
  have HD1 := Lib.hid (HD.out.grown HG1.out (fun k h => by cases h))
  go_upto_block 0 with (fail)
  refine wp_block ?_
  go_loopw [5, 14] (fun v i wr => ∃ k : Nat, i = .int .i64 k ∧ k ≤ n ∧ wr.ownsRow w.heap.size 3 1 v (Court.allN k).length ((Court.allN k).map (Value.int .i64)) ∧ DeckAt w0 d A l c m wr ∧ w.grownBy wr (some d)) (fun _ i _ => n - (intOf i).toNat)
  case atStart => exact ⟨0, rfl, by omega, HO1.out, HD1.out, only_grown (only_refl w (some d)) HG1.out (fun k h => by cases h)⟩
  case round =>
    obtain ⟨k, rfl, hk, hown, hdk, hg⟩ := hrel
    have HO := Lib.hid hown
    have HDK := Lib.hid hdk
    have HG := Lib.hid hg
    have hlen := allN_len k
    clear hown hdk hg
    by_cases hkn : k < n
    · have t1 : decide (k < n) = true := by simpa using hkn
      go_wp2_with (at_builtin; refine wpList_push rfl _ _ rfl (own_aft HO.out (Aft.alloc _ _)) (Nat.le_trans HG.out.size (Aft.alloc _ _).size) rfl rfl (cell_new1 _ _ _) (by omega) ?_; intro v' w6 hown6 hg6; have HO6 := Lib.hid hown6; have HG6 := Lib.hid hg6; clear hown6 hg6)
      have hlt := own_ge HO.out
      refine ⟨⟨k + 1, by go_num, by omega, by rw [allN_succ]; exact HO6.out, (HDK.out.aft (Aft.alloc _ _)).grown HG6.out (fun g hg => by have := hlt g hg; omega), only_grown (only_aft HG.out (Aft.alloc _ _)) HG6.out hlt⟩, by simp [intOf]; omega⟩
    · have t1 : decide (k < n) = false := by simpa using hkn
      obtain rfl : n = k := by omega
      have HLEN := Lib.hid hlen
      rw [hlen] at HO
      clear hkn hlen
      have hpm := List.Perm.refl (Court.allN n)
      obtain ⟨P0, hP0⟩ : ∃ P0, Court.allN n = P0 := ⟨_, rfl⟩
      rw [hP0] at HO HLEN
      have HP0 := Lib.hid hP0
      clear hpm
      have HPM : Hid (P0.Perm (Court.allN n)) := Lib.hid (by rw [HP0.out])
      have HUF : Hid (∃ A5 c5, u5 = .slice A5 n c5) := Lib.hid (by
        obtain ⟨g, cap, e, _⟩ := HO.out.form h0
        exact ⟨_, cap, e⟩)
      obtain ⟨A5, c5, rfl⟩ := HUF.out
      clear hP0 HP0 HUF
      go_upto_block 2 with (fail)
      refine wp_block ?_
      go_loopw [7] (fun i wr2 => ∃ (j : Nat) (P : List Int), i = .int .i64 j ∧ j ≤ n ∧ P.Perm (Court.allN n) ∧ wr2.ownsRow w.heap.size 3 1 (.slice A5 n c5) n (P.map (Value.int .i64)) ∧ DeckAt w0 d A l c (m + (n - j)) wr2 ∧ w.grownBy wr2 (some d)) (fun i _ => (intOf i).toNat)
      case atStart => exact ⟨n, P0, rfl, by omega, HPM.out, HO.out, by simpa using HDK.out, HG.out⟩
      case round =>
        obtain ⟨j, P, rfl, hj, hpm, hown, hdk, hg⟩ := hrel
        have HO2 := Lib.hid hown
        have HPM2 := Lib.hid hpm
        have HG2 := Lib.hid hg
        have HD2 := Lib.hid hdk
        have hPl : P.length = n := by have := hpm.length_eq; rw [allN_len] at this; exact this
        have HPL := Lib.hid hPl
        by_cases hj1 : 1 < j
        · have t2 : decide (1 < j) = true := by simpa using hj1
          obtain ⟨g, cap5, hform, hgb, hglt⟩ := hown.form h0
          cases hform
          have HDR := Lib.hid (draw_any w0 d A l c (m + (n - j)) j wr hdk (by omega) (by omega) (by omega))
          have hdne : g ≠ d := by omega
          clear hown hpm hg hdk hPl
          go_upto_region 11 with (go_at_call 44; refine HDR.out.mono ?_; rintro e w5 ⟨x, rfl, hx0, hx1, hd5, hg5⟩; have HD5 := Lib.hid hd5; have HG5 := Lib.hid hg5; clear hd5 hg5)
          obtain ⟨X, rfl⟩ := Int.eq_ofNat_of_zero_le hx0
          have hXj : X < j := by omega
          obtain ⟨J, hJ⟩ : ∃ J, J + 1 = j := ⟨j - 1, by omega⟩
          have HJ := Lib.hid hJ
          have hJn : J < n := by omega
          have hXn : X < n := by omega
          have i1 : (0 : Int) ≤ (X : Int) ∧ (X : Int) < (n : Int) := by omega
          have i2 : (0 : Int) ≤ (J : Int) ∧ (J : Int) < (n : Int) := by omega
          have hO5 : w5.ownsRow w.heap.size 3 1 (.slice (some ⟨g, 0, none⟩) n c5) n (P.map (Value.int .i64)) := HO2.out.kept HG5.out (.inr fun e => hdne (Option.some.inj e))
          have hOY := own_aft hO5 (Aft.drew w5)
          have HGY := Lib.hid (only_drew (World.grownBy.trans HG2.out HG5.out))
          have HDY := Lib.hid (HD5.out.aft (Aft.drew w5))
          clear hx0 hx1 hO5 HDR
          obtain ⟨px, hpx⟩ : ∃ px, P[X]? = some px := ⟨_, List.getElem?_eq_getElem (by rw [HPL.out]; exact hXn)⟩
          obtain ⟨pj, hpj⟩ : ∃ pj, P[J]? = some pj := ⟨_, List.getElem?_eq_getElem (by rw [HPL.out]; exact hJn)⟩
          have hcx : w5.drew.cell? ⟨g, X, none⟩ = some (.int .i64 px) := by rw [hOY.cellAt X (by omega)]; simp [hpx]
          have hcj : w5.drew.cell? ⟨g, J, none⟩ = some (.int .i64 pj) := by rw [hOY.cellAt J (by omega)]; simp [hpj]
          have hfj : w5.drew.frozen? ⟨g, J, none⟩ = false := hOY.frozenAt J
          have hlt : g < w5.drew.heap.size := (hOY.lt g rfl).2
          have HCX := Lib.hid hcx
          have HCJ := Lib.hid hcj
          have HFJ := Lib.hid hfj
          have HLT := Lib.hid hlt
          have HOY := Lib.hid hOY
          have HPX := Lib.hid hpx
          have HPJ := Lib.hid hpj
          clear hcx hcj hfj hlt hOY hpx hpj hJ
          refine wp_region_valsT (by kernel_rfl) 16 48 rfl (by kernel_rfl) (by kernel_rfl) (by kernel_rfl) [.slice (some ⟨g, 0, none⟩) n c5, .int .i64 j, .int .i64 J, .slice (some ⟨g, 0, none⟩) n c5, .int .i64 X, .slice (some ⟨g, 0, none⟩) n c5, .int .i64 X, .pointer (some ⟨g, X, none⟩), .int .i64 px, .slice (some ⟨g, 0, none⟩) n c5, .int .i64 j, .int .i64 J, .pointer (some ⟨g, J, none⟩), .int .i64 pj, .pointer (some ⟨g, J, none⟩), undef] rfl (Swp w5.drew g J (.int .i64 px)) (Swp.start) ?st1 ?fi1
          case st1 =>
            intro i o v ho hv
            match i, ho, hv with
            | 0, ho, hv =>
              cases ho; cases hv
              refine .inl ⟨rfl, fun done a W hd hp hk hw K hK => ?_⟩
              have e5 := hk.same 5 (by decide)
              exact op_val (by simp [go_sem, ev' e5]) (hK _ (hw.keep (by decide)))
            | 1, ho, hv =>
              cases ho; cases hv
              refine .inl ⟨rfl, fun done a W hd hp hk hw K hK => ?_⟩
              have e7 := hk.same 7 (by decide)
              exact op_val (by simp [go_sem, ev' e7]) (hK _ (hw.keep (by decide)))
            | 2, ho, hv =>
              cases ho; cases hv
              refine .inl ⟨rfl, fun done a W hd hp hk hw K hK => ?_⟩
              have e32 := hk.at_ 1 _ 32 _ rfl (by decide) _ rfl rfl rfl
              refine op_val (v := .int .i64 J) ?_ (hK _ (hw.keep (by decide)))
              simp [go_sem, ev' e32]
              rw [IntKind.wrap_i64]
              have := HJ.out
              omega
            | 3, ho, hv =>
              cases ho; cases hv
              refine .inl ⟨rfl, fun done a W hd hp hk hw K hK => ?_⟩
              have e5 := hk.same 5 (by decide)
              exact op_val (by simp [go_sem, ev' e5]) (hK _ (hw.keep (by decide)))
            | 4, ho, hv =>
              cases ho; cases hv
              refine .inl ⟨rfl, fun done a W hd hp hk hw K hK => ?_⟩
              have e8 := hk.same 8 (by decide)
              exact op_val (by simp [go_sem, ev' e8]) (hK _ (hw.keep (by decide)))
            | 5, ho, hv =>
              cases ho; cases hv
              refine .inl ⟨rfl, fun done a W hd hp hk hw K hK => ?_⟩
              have e5 := hk.same 5 (by decide)
              exact op_val (by simp [go_sem, ev' e5]) (hK _ (hw.keep (by decide)))
            | 6, ho, hv =>
              cases ho; cases hv
              refine .inl ⟨rfl, fun done a W hd hp hk hw K hK => ?_⟩
              have e8 := hk.same 8 (by decide)
              exact op_val (by simp [go_sem, ev' e8]) (hK _ (hw.keep (by decide)))
            | 7, ho, hv =>
              cases ho; cases hv
              refine .inl ⟨rfl, fun done a W hd hp hk hw K hK => ?_⟩
              have e36 := hk.at_ 5 _ 36 _ rfl (by decide) _ rfl rfl rfl
              have e37 := hk.at_ 6 _ 37 _ rfl (by decide) _ rfl rfl rfl
              exact op_val (by simp [go_sem, ev' e36, ev' e37, i1]) (hK _ (hw.keep (by decide)))
            | 8, ho, hv =>
              cases ho; cases hv
              refine .inl ⟨rfl, fun done a W hd hp hk hw K hK => ?_⟩
              have e38 := hk.at_ 7 _ 38 _ rfl (by decide) _ rfl rfl rfl
              have hW := hw.at8 hd
              subst hW
              exact op_val (by simp [go_sem, ev' e38, HCX.out]) (hK _ (hw.keep (by decide)))
            | 9, ho, hv =>
              cases ho; cases hv
              refine .inl ⟨rfl, fun done a W hd hp hk hw K hK => ?_⟩
              have e5 := hk.same 5 (by decide)
              exact op_val (by simp [go_sem, ev' e5]) (hK _ (hw.keep (by decide)))
            | 10, ho, hv =>
              cases ho; cases hv
              refine .inl ⟨rfl, fun done a W hd hp hk hw K hK => ?_⟩
              have e7 := hk.same 7 (by decide)
              exact op_val (by simp [go_sem, ev' e7]) (hK _ (hw.keep (by decide)))
            | 11, ho, hv =>
              cases ho; cases hv
              refine .inl ⟨rfl, fun done a W hd hp hk hw K hK => ?_⟩
              have e41 := hk.at_ 10 _ 41 _ rfl (by decide) _ rfl rfl rfl
              refine op_val (v := .int .i64 J) ?_ (hK _ (hw.keep (by decide)))
              simp [go_sem, ev' e41]
              rw [IntKind.wrap_i64]
              have := HJ.out
              omega
            | 12, ho, hv =>
              cases ho; cases hv
              refine .inl ⟨rfl, fun done a W hd hp hk hw K hK => ?_⟩
              have e40 := hk.at_ 9 _ 40 _ rfl (by decide) _ rfl rfl rfl
              have e42 := hk.at_ 11 _ 42 _ rfl (by decide) _ rfl rfl rfl
              exact op_val (by simp [go_sem, ev' e40, ev' e42, i2]) (hK _ (hw.keep (by decide)))
            | 13, ho, hv =>
              cases ho; cases hv
              refine .inl ⟨rfl, fun done a W hd hp hk hw K hK => ?_⟩
              have e43 := hk.at_ 12 _ 43 _ rfl (by decide) _ rfl rfl rfl
              have hW := hw.at13 hd
              subst hW
              exact op_val (by simp [go_sem, ev' e43, HCJ.out]) (hK _ (hw.keep (by decide)))
            | 14, ho, hv =>
              cases ho; cases hv
              refine .inl ⟨rfl, fun done a W hd hp hk hw K hK => ?_⟩
              have e31 := hk.at_ 0 _ 31 _ rfl (by decide) _ rfl rfl rfl
              have e33 := hk.at_ 2 _ 33 _ rfl (by decide) _ rfl rfl rfl
              exact op_val (by simp [go_sem, ev' e31, ev' e33, i2]) (hK _ (hw.keep (by decide)))
            | 15, ho, hv =>
              cases ho; cases hv
              refine .inl ⟨rfl, fun done a W hd hp hk hw K hK => ?_⟩
              have e39 := hk.at_ 8 _ 39 _ rfl (by decide) _ rfl rfl rfl
              have e45 := hk.at_ 14 _ 45 _ rfl (by decide) _ rfl rfl rfl
              have hW := hw.w0 hd
              subst hW
              have hK2 := hK _ (hw.store hd (hp 8 (by decide)) (hp 13 (by decide)))
              have f1 := HFJ.out
              have f2 := HCJ.out
              have f3 := HLT.out
              simp [Oper.wp, go_sem, ev' e45, ev' e39, f1, f2, f3]
              exact hK2
            | _ + 16, _, hv => cases hv
          intro done W hd hw
          simp only [List.drop_succ_cons, List.drop_zero, List.zip_cons_cons, List.zip_nil_right, putAll]
          simp only [Act.put, List.setIfInBounds_toArray, List.set]
          have hW := hw.wd (hd 15 (by decide))
          subst hW
          obtain ⟨h1o, h1g⟩ := HOY.out.stored J (.int .i64 px)
          rw [ints_set] at h1o
          have y1 := h1o.frozenAt X
          have hP1 : (P.set J px)[X]? = some px := by
            rw [List.getElem?_set]
            by_cases e : J = X
            · rw [if_pos e, if_pos (by rw [HPL.out]; exact hJn)]
            · rw [if_neg e]; exact HPX.out
          have y2 : (w5.drew.setCell ⟨g, J, none⟩ (.int .i64 px)).cell? ⟨g, X, none⟩ = some (.int .i64 px) := by rw [h1o.cellAt X (by omega), List.getElem?_map, hP1]; rfl
          have y3 := (h1o.lt g rfl).2
          have HO7 := Lib.hid h1o
          have HG7 := Lib.hid h1g
          have y4 : (w5.drew.setCell ⟨g, J, none⟩ (.int .i64 px)).heap.size = w5.drew.heap.size := by simp
          generalize w5.drew.setCell ⟨g, J, none⟩ (.int .i64 px) = W7 at *
          clear hw hd h1o h1g hP1
          go_wp2_with fail
          obtain ⟨h2o, h2g⟩ := HO7.out.stored X (.int .i64 pj)
          rw [ints_set] at h2o
          have hG7 := only_grown HGY.out HG7.out (fun k e => by cases e; exact hgb)
          have hD7 := HDY.out.grown HG7.out (fun k e => by cases e; omega)
          have hJj := HJ.out
          refine ⟨⟨J, (P.set J px).set X pj, by go_num, by omega, ?_, h2o, (hD7.grown h2g (fun k e => by cases e; omega)).more (by omega), only_grown hG7 h2g (fun k e => by cases e; exact hgb)⟩, by simp [intOf]; omega⟩
          have e1 : px = P[X]'(by rw [HPL.out]; exact hXn) := by
            have := HPX.out
            rw [List.getElem?_eq_getElem (by rw [HPL.out]; exact hXn)] at this
            exact (Option.some.inj this).symm
          have e2 : pj = P[J]'(by rw [HPL.out]; exact hJn) := by
            have := HPJ.out
            rw [List.getElem?_eq_getElem (by rw [HPL.out]; exact hJn)] at this
            exact (Option.some.inj this).symm
          rw [e1, e2]
          exact (List.set_set_perm (by rw [HPL.out]; exact hJn) (by rw [HPL.out]; exact hXn)).trans HPM2.out
        · have t2 : decide (1 < j) = false := by simpa using hj1
          clear hown hpm hg hdk hPl
          go_wp2_with fail
          go_ret
          exact ⟨_, P, rfl, HO2.out, HPM2.out, HD2.out.more (by omega), HG2.out⟩

theorem shuffle_any (w0 : World) (d : Nat) (A : Option Addr) (l : List Int) (c m n : Nat) (w : World) (hd : DeckAt w0 d A l c m w) (hm : m ≤ 900000) (hn : n ≤ 1000) :
    Calls Tryz.prog 40 #[.pointer (some ⟨d, 0, none⟩), .int .i64 n] w (ShufR w0 d A l c m n w) := by
  by_cases h0 : 0 < n
  · exact shuffle_pos w0 d A l c m n w hd hm hn h0
  · obtain rfl : n = 0 := by omega
    exact shuffle_zero w0 d A l c m w hd
end Go.Proofs
end
