/- Own texts, merged: CtO CtP CtQ CtS0 CtS1 CtS. -/
import Derived.Test.YtbchfakfdikkjaaP04
import Derived.Test.YtbchfakfdikkjaaP05
import Derived.Laws.CopyOwn
set_option linter.unusedSimpArgs false
set_option linter.unusedVariables false
set_option linter.unnecessarySimpa false
section
namespace Go.Proofs
open Go.RowKit
open Court (refL begF noS struckB nextR HeldP)
attribute [local go_sem] Oper.semAt_some

def heldB (S : List (Int × Int)) (sure ref : Int → Bool) (f r : Int → Nat) (n : Int) : Bool :=
  if ref n then decide (f n = 2) && decide (r n = 0)
  else if f n = 0 then decide (r n = 0) && (!struckB S sure f n 1 && struckB S sure f n 0)
  else if f n = 1 then freeB S sure f n && decide (nextR S sure r n ≤ r n)
  else (strikers S sure n).any fun x => decide (f x = 1) && decide (r x < r n)

set_option maxRecDepth 100000 in
set_option maxHeartbeats 2000000 in
theorem held_easy (w0 w : World) (d : Nat) (C : CaseL) (a1 a2 : Option Addr) (c1 c2 : Nat) (ref sure : Int → Bool) (f r : Int → Nat) (hD : DeskAt w0 w d C a1 a2 c1 c2 ref sure f r) (n : Nat) (hn : n < 14) (hS : ∀ s ∈ C.strikes, 0 ≤ s.1 ∧ s.1 < 14) (hr : ∀ x, r x ≤ 1000) (hc : ref n = true ∨ f n = 0 ∨ f n = 1) :
    Calls Try.prog 48 #[.pointer (some ⟨d, 0, none⟩), .int .i64 n] w fun e w' => e = .returned (.bool (heldB C.strikes sure ref f r n)) ∧ Aft w w' := by
  have HL : Hid (∀ (k : Nat) (x : Int), (strikers C.strikes sure n)[k]? = some x → 0 ≤ x ∧ x < 14) := Lib.hid fun k x h => by
    obtain ⟨s, hs, rfl⟩ := strikers_mem (List.mem_of_getElem? h)
    exact hS s hs
  have HD := Lib.hid hD
  have HR := Lib.hid hr
  have H1 : Hid (∀ W, Aft w W → Calls Try.prog 69 #[.pointer (some ⟨d, 0, none⟩), .int .i64 n, .int .i64 1] W fun e w' => e = .returned (.bool (struckB C.strikes sure f n 1)) ∧ Aft W w') := Lib.hid fun W h => struck_any w0 W d C a1 a2 c1 c2 ref sure f r (hD.later h) n 1 hn hS
  have H0 : Hid (∀ W, Aft w W → Calls Try.prog 69 #[.pointer (some ⟨d, 0, none⟩), .int .i64 n, .int .i64 0] W fun e w' => e = .returned (.bool (struckB C.strikes sure f n 0)) ∧ Aft W w') := Lib.hid fun W h => struck_any w0 W d C a1 a2 c1 c2 ref sure f r (hD.later h) n 0 hn hS
  have H2 : Hid (∀ W, Aft w W → Calls Try.prog 70 #[.pointer (some ⟨d, 0, none⟩), .int .i64 n] W fun e w' => e = .returned (.bool (freeB C.strikes sure f n)) ∧ Aft W w') := Lib.hid fun W h => free_any w0 W d C a1 a2 c1 c2 ref sure f r (hD.later h) n hn hS
  have H3 : Hid (∀ W, Aft w W → Calls Try.prog 68 #[.pointer (some ⟨d, 0, none⟩), .int .i64 n] W fun e w' => e = .returned (.int .i64 (nextR C.strikes sure r n : Nat)) ∧ Aft W w') := Lib.hid fun W h => next_any w0 W d C a1 a2 c1 c2 ref sure f r (hD.later h) n hn hS hr
  have q1 := hD.found hn
  have q2 := hD.rf hn
  have q3 := hD.rank hn
  have hlt := hD.lt
  have hn14 : (0 : Int) ≤ (n : Int) ∧ (n : Int) < 14 := by omega
  have hrn := hr n
  have F0 := (((Fr.start w).alloc rfl 66 #[.pointer (some ⟨d, 0, none⟩)]).alloc (by simp) 4 #[.bool false]).alloc (by simp) 3 #[.int .i64 (r n : Nat)]
  simp only [List.nil_append, List.cons_append] at F0
  have HF0 := Lib.hid F0
  clear hD hS hr F0
  obtain ⟨X, hX⟩ : ∃ X, heldB C.strikes sure ref f r n = X := ⟨_, rfl⟩
  rw [hX]
  have HX := Lib.hid hX
  clear hX
  have HC := Lib.hid hc
  clear hc
  go_enter Try.func48, Try.ntmps48
  go_upto_block 0 with (fail)
  have hz : (((w.alloc (.cells #[.pointer (some ⟨d, 0, none⟩)] 66)).alloc (.cells #[.bool false] 4)).alloc (.cells #[.int .i64 (r n : Nat)] 3)).heap.size = w.heap.size + 1 + 1 + 1 := by simp
  generalize ((w.alloc (.cells #[.pointer (some ⟨d, 0, none⟩)] 66)).alloc (.cells #[.bool false] 4)).alloc (.cells #[.int .i64 (r n : Nat)] 3) = W3 at *
  obtain ⟨S, hS⟩ : ∃ S, w.heap.size = S := ⟨_, rfl⟩
  rw [hS] at HF0 hz hlt ⊢
  have hD3 := HD.out.later HF0.out.aft
  have p1 := hD3.found hn
  have p2 := hD3.rf hn
  have p3 := hD3.rank hn
  have plt := hD3.lt
  have p4 : W3.cell? ⟨S, 0, none⟩ = some (.pointer (some ⟨d, 0, none⟩)) := (HF0.out.nth 0 rfl).cell 0
  have p5 : W3.cell? ⟨S + 1, 0, none⟩ = some (.bool false) := (HF0.out.nth 1 rfl).cell 0
  have p6 := (HF0.out.nth 1 rfl).frozen 0
  have p7 : W3.cell? ⟨S + 1 + 1, 0, none⟩ = some (.int .i64 (r n : Nat)) := (HF0.out.nth 2 rfl).cell 0
  have l1 := (HF0.out.nth 0 rfl).lt
  have l2 := (HF0.out.nth 1 rfl).lt
  have l3 := (HF0.out.nth 2 rfl).lt
  have HST : Hid (∀ (W : World) (v : Value), Aft W3 W → (W.setCell ⟨S + 1, 0, none⟩ v).cell? ⟨S + 1, 0, none⟩ = some v ∧ Aft w (W.setCell ⟨S + 1, 0, none⟩ v)) := Lib.hid fun W v h => by
    have hf := HF0.out.later h
    refine ⟨?_, hf.aft.then_setCell (p := ⟨S + 1, 0, none⟩) (by show w.heap.size ≤ S + 1; omega) _⟩
    have := ((hf.nth 1 rfl).store 0 v).cell 0
    simpa using this
  clear hD3 q1 q2 q3 hlt
  refine wp_block ?_
  cases h1 : ref n
  · have HR1 := Lib.hid h1
    rw [h1] at p2
    clear h1
    by_cases h2 : f n = 0
    · have t1 : (((f n : Nat) : Int) == 0) = true := by simp [h2]
      have HC2 := Lib.hid h2
      clear h2
      by_cases h5 : r n = 0
      · have t2 : (((r n : Nat) : Int) == 0) = true := by simp [h5]
        have HC5 := Lib.hid h5
        clear h5
        cases h6 : struckB C.strikes sure f n 1
        · have HC6 := Lib.hid h6
          rw [h6] at H1
          clear h6
          go_wp2_with (first | (go_at_call_of 69 (Value.int IntKind.i64 1); refine (H1.out _ (HF0.out.aft)).mono ?_; rintro e w4 ⟨rfl, ha4⟩; have HA4 := Lib.hid ha4; have f4 := HF0.out.later ha4; have z4 : w4.cell? ⟨S, 0, none⟩ = some (.pointer (some ⟨d, 0, none⟩)) := (f4.nth 0 rfl).cell 0; have z4l := (f4.nth 0 rfl).lt; clear ha4 f4) | (go_at_call_of 69 (Value.int IntKind.i64 0); refine (H0.out _ (HF0.out.aft.trans HA4.out)).mono ?_; rintro e w5 ⟨rfl, ha5⟩; have HA5 := Lib.hid (HA4.out.trans ha5); have f5 := HF0.out.later (HA4.out.trans ha5); have y1 := (f5.nth 1 rfl).cell 0; have y2 := (f5.nth 1 rfl).frozen 0; have y3 := (f5.nth 1 rfl).lt; have HY := Lib.hid (HST.out w5 (.bool (struckB C.strikes sure f n 0)) HA5.out); clear ha5 f5))
          refine bodyPost_ret (v := .bool (struckB C.strikes sure f n 0)) (by simp [results, Try.results48, go_sem, HY.out.1]) rfl ⟨ret_bool ?_, HY.out.2⟩
          rw [← HX.out]; unfold heldB; rw [if_neg (by rw [HR1.out]; decide), if_pos HC2.out, decide_eq_true HC5.out, HC6.out]; simp
        · have HC6 := Lib.hid h6
          rw [h6] at H1
          clear h6
          go_wp2_with (go_at_call_of 69 (Value.int IntKind.i64 1); refine (H1.out _ (HF0.out.aft)).mono ?_; rintro e w5 ⟨rfl, ha5⟩; have HA5 := Lib.hid ha5; have f5 := HF0.out.later ha5; have y1 := (f5.nth 1 rfl).cell 0; have y2 := (f5.nth 1 rfl).frozen 0; have y3 := (f5.nth 1 rfl).lt; have HY := Lib.hid (HST.out w5 (.bool false) HA5.out); clear ha5 f5)
          refine bodyPost_ret (v := .bool false) (by simp [results, Try.results48, go_sem, HY.out.1]) rfl ⟨ret_bool ?_, HY.out.2⟩
          rw [← HX.out]; unfold heldB; rw [if_neg (by rw [HR1.out]; decide), if_pos HC2.out, HC6.out]; simp
      · have t2 : (((r n : Nat) : Int) == 0) = false := by simp; omega
        have HC5 := Lib.hid h5
        clear h5
        have HY := Lib.hid (HST.out W3 (.bool false) (Aft.refl _))
        go_wp2_with fail
        refine bodyPost_ret (v := .bool false) (by simp [results, Try.results48, go_sem, HY.out.1]) rfl ⟨ret_bool ?_, HY.out.2⟩
        rw [← HX.out]; unfold heldB; rw [if_neg (by rw [HR1.out]; decide), if_pos HC2.out, decide_eq_false HC5.out]; simp
    · have t1 : (((f n : Nat) : Int) == 0) = false := by simp; omega
      have HC2 := Lib.hid h2
      have h3 : f n = 1 := by
        rcases HC.out with h | h | h
        · rw [HR1.out] at h; cases h
        · exact absurd h h2
        · exact h
      have t2 : (((f n : Nat) : Int) == 1) = true := by simp [h3]
      have HC3 := Lib.hid h3
      clear h2 h3
      go_upto_region 7 with (fail)
      cases h6 : freeB C.strikes sure f n
      · have HC6 := Lib.hid h6
        rw [h6] at H2
        clear h6
        refine wp_region_valsT (by kernel_rfl) 8 91 rfl (by kernel_rfl) (by kernel_rfl) (by kernel_rfl) [.pointer (some ⟨d, 0, none⟩), .int .i64 n, .bool false, .bool false, undef, undef, undef, undef] rfl (fun _ W => Aft W3 W) (Aft.drew _) ?st1 ?fi1
        case st1 =>
          intro i o v ho hv
          match i, ho, hv with
          | 0, ho, hv =>
            cases ho; cases hv
            refine .inl ⟨rfl, fun done a W hd hp hk hw K hK => ?_⟩
            have e2 := hk.same 2 (by decide)
            exact op_val (by simp [go_sem, ev' e2, ((HF0.out.later hw).nth 0 rfl).cell 0]) (hK _ hw)
          | 1, ho, hv =>
            cases ho; cases hv
            refine .inl ⟨rfl, fun done a W hd hp hk hw K hK => ?_⟩
            have e1 := hk.same 1 (by decide)
            exact op_val (by simp [go_sem, ev' e1]) (hK _ hw)
          | 2, ho, hv =>
            cases ho; cases hv
            refine .inl ⟨rfl, fun done a W hd hp hk hw K hK => ?_⟩
            have e60 := hk.at_ 0 _ 60 _ rfl (by decide) _ rfl rfl rfl
            have e61 := hk.at_ 1 _ 61 _ rfl (by decide) _ rfl rfl rfl
            refine op_callN rfl rfl rfl _ rfl (vs := #[.pointer (some ⟨d, 0, none⟩), .int .i64 n]) (by simp [e60, e61]) (H2.out _ (HF0.out.aft.trans hw)) ?_
            rintro e w' ⟨rfl, hw'⟩
            exact ⟨_, rfl, hK _ (hw.trans hw')⟩
          | 3, ho, hv =>
            cases ho; cases hv
            refine .inl ⟨rfl, fun done a W hd hp hk hw K hK => ?_⟩
            have e62 := hk.at_ 2 _ 62 _ rfl (by decide) _ rfl rfl rfl
            exact op_val (by simp [go_sem, ev' e62]) (hK _ hw)
          | 4, ho, hv => cases ho; cases hv; exact .inr ⟨rfl, rfl, fun _ _ h => h⟩
          | 5, ho, hv => cases ho; cases hv; exact .inr ⟨rfl, rfl, fun _ _ h => h⟩
          | 6, ho, hv => cases ho; cases hv; exact .inr ⟨rfl, rfl, fun _ _ h => h⟩
          | 7, ho, hv => cases ho; cases hv; exact .inr ⟨rfl, rfl, fun _ _ h => h⟩
          | _ + 8, _, hv => cases hv
        intro done W hd hw
        simp only [List.drop_succ_cons, List.drop_zero, List.zip_cons_cons, List.zip_nil_right, putAll]
        simp only [Act.put, List.setIfInBounds_toArray, List.set]
        clear hd
        have HW := Lib.hid hw
        have f5 := HF0.out.later hw
        have y1 := (f5.nth 1 rfl).cell 0
        have y2 := (f5.nth 1 rfl).frozen 0
        have y3 := (f5.nth 1 rfl).lt
        have HY := Lib.hid (HST.out W (.bool false) hw)
        clear f5 hw
        go_wp2_with fail
        refine bodyPost_ret (v := .bool false) (by simp [results, Try.results48, go_sem, HY.out.1]) rfl ⟨ret_bool ?_, HY.out.2⟩
        rw [← HX.out]; unfold heldB; rw [if_neg (by rw [HR1.out]; decide), if_neg HC2.out, if_pos HC3.out, HC6.out]; simp
      · have HC6 := Lib.hid h6
        rw [h6] at H2
        clear h6
        refine wp_region_valsT (by kernel_rfl) 8 91 rfl (by kernel_rfl) (by kernel_rfl) (by kernel_rfl) [.pointer (some ⟨d, 0, none⟩), .int .i64 n, .bool true, .bool true, .int .i64 (r n : Nat), .pointer (some ⟨d, 0, none⟩), .int .i64 n, .int .i64 (nextR C.strikes sure r n : Nat)] rfl (fun _ W => Aft W3 W) (Aft.drew _) ?st2 ?fi2
        case st2 =>
          intro i o v ho hv
          match i, ho, hv with
          | 0, ho, hv =>
            cases ho; cases hv
            refine .inl ⟨rfl, fun done a W hd hp hk hw K hK => ?_⟩
            have e2 := hk.same 2 (by decide)
            exact op_val (by simp [go_sem, ev' e2, ((HF0.out.later hw).nth 0 rfl).cell 0]) (hK _ hw)
          | 1, ho, hv =>
            cases ho; cases hv
            refine .inl ⟨rfl, fun done a W hd hp hk hw K hK => ?_⟩
            have e1 := hk.same 1 (by decide)
            exact op_val (by simp [go_sem, ev' e1]) (hK _ hw)
          | 2, ho, hv =>
            cases ho; cases hv
            refine .inl ⟨rfl, fun done a W hd hp hk hw K hK => ?_⟩
            have e60 := hk.at_ 0 _ 60 _ rfl (by decide) _ rfl rfl rfl
            have e61 := hk.at_ 1 _ 61 _ rfl (by decide) _ rfl rfl rfl
            refine op_callN rfl rfl rfl _ rfl (vs := #[.pointer (some ⟨d, 0, none⟩), .int .i64 n]) (by simp [e60, e61]) (H2.out _ (HF0.out.aft.trans hw)) ?_
            rintro e w' ⟨rfl, hw'⟩
            exact ⟨_, rfl, hK _ (hw.trans hw')⟩
          | 3, ho, hv =>
            cases ho; cases hv
            refine .inl ⟨rfl, fun done a W hd hp hk hw K hK => ?_⟩
            have e62 := hk.at_ 2 _ 62 _ rfl (by decide) _ rfl rfl rfl
            exact op_val (by simp [go_sem, ev' e62]) (hK _ hw)
          | 4, ho, hv =>
            cases ho; cases hv
            refine .inl ⟨rfl, fun done a W hd hp hk hw K hK => ?_⟩
            have e5 := hk.same 5 (by decide)
            exact op_val (by simp [go_sem, ev' e5, ((HF0.out.later hw).nth 2 rfl).cell 0]) (hK _ hw)
          | 5, ho, hv =>
            cases ho; cases hv
            refine .inl ⟨rfl, fun done a W hd hp hk hw K hK => ?_⟩
            have e2 := hk.same 2 (by decide)
            exact op_val (by simp [go_sem, ev' e2, ((HF0.out.later hw).nth 0 rfl).cell 0]) (hK _ hw)
          | 6, ho, hv =>
            cases ho; cases hv
            refine .inl ⟨rfl, fun done a W hd hp hk hw K hK => ?_⟩
            have e1 := hk.same 1 (by decide)
            exact op_val (by simp [go_sem, ev' e1]) (hK _ hw)
          | 7, ho, hv =>
            cases ho; cases hv
            refine .inl ⟨rfl, fun done a W hd hp hk hw K hK => ?_⟩
            have e65 := hk.at_ 5 _ 65 _ rfl (by decide) _ rfl rfl rfl
            have e66 := hk.at_ 6 _ 66 _ rfl (by decide) _ rfl rfl rfl
            refine op_callN rfl rfl rfl _ rfl (vs := #[.pointer (some ⟨d, 0, none⟩), .int .i64 n]) (by simp [e65, e66]) (H3.out _ (HF0.out.aft.trans hw)) ?_
            rintro e w' ⟨rfl, hw'⟩
            exact ⟨_, rfl, hK _ (hw.trans hw')⟩
          | _ + 8, _, hv => cases hv
        intro done W hd hw
        simp only [List.drop_succ_cons, List.drop_zero, List.zip_cons_cons, List.zip_nil_right, putAll]
        simp only [Act.put, List.setIfInBounds_toArray, List.set]
        clear hd
        have HW := Lib.hid hw
        have f5 := HF0.out.later hw
        have y1 := (f5.nth 1 rfl).cell 0
        have y2 := (f5.nth 1 rfl).frozen 0
        have y3 := (f5.nth 1 rfl).lt
        by_cases h7 : nextR C.strikes sure r n ≤ r n
        · have t3 : decide (nextR C.strikes sure r n ≤ r n) = true := by simpa using h7
          have HC7 := Lib.hid h7
          have HY := Lib.hid (HST.out W (.bool true) hw)
          clear f5 hw h7
          go_wp2_with fail
          refine bodyPost_ret (v := .bool true) (by simp [results, Try.results48, go_sem, HY.out.1]) rfl ⟨ret_bool ?_, HY.out.2⟩
          rw [← HX.out]; unfold heldB; rw [if_neg (by rw [HR1.out]; decide), if_neg HC2.out, if_pos HC3.out, HC6.out, decide_eq_true HC7.out]; rfl
        · have t3 : decide (nextR C.strikes sure r n ≤ r n) = false := by simpa using h7
          have HC7 := Lib.hid h7
          have HY := Lib.hid (HST.out W (.bool false) hw)
          clear f5 hw h7
          go_wp2_with fail
          refine bodyPost_ret (v := .bool false) (by simp [results, Try.results48, go_sem, HY.out.1]) rfl ⟨ret_bool ?_, HY.out.2⟩
          rw [← HX.out]; unfold heldB; rw [if_neg (by rw [HR1.out]; decide), if_neg HC2.out, if_pos HC3.out, HC6.out, decide_eq_false HC7.out]; rfl
  · have HR1 := Lib.hid h1
    rw [h1] at p2
    clear h1
    by_cases h4 : f n = 2
    · have t1 : (((f n : Nat) : Int) == 2) = true := by simp [h4]
      have HC4 := Lib.hid h4
      clear h4
      by_cases h5 : r n = 0
      · have t2 : (((r n : Nat) : Int) == 0) = true := by simp [h5]
        have HC5 := Lib.hid h5
        clear h5
        have HY := Lib.hid (HST.out W3 (.bool true) (Aft.refl _))
        go_wp2_with fail
        refine bodyPost_ret (v := .bool true) (by simp [results, Try.results48, go_sem, HY.out.1]) rfl ⟨ret_bool ?_, HY.out.2⟩
        rw [← HX.out]; unfold heldB; rw [if_pos HR1.out, decide_eq_true HC4.out, decide_eq_true HC5.out]; rfl
      · have t2 : (((r n : Nat) : Int) == 0) = false := by simp; omega
        have HC5 := Lib.hid h5
        clear h5
        have HY := Lib.hid (HST.out W3 (.bool false) (Aft.refl _))
        go_wp2_with fail
        refine bodyPost_ret (v := .bool false) (by simp [results, Try.results48, go_sem, HY.out.1]) rfl ⟨ret_bool ?_, HY.out.2⟩
        rw [← HX.out]; unfold heldB; rw [if_pos HR1.out, decide_eq_false HC5.out]; simp
    · have t1 : (((f n : Nat) : Int) == 2) = false := by simp; omega
      have HC4 := Lib.hid h4
      clear h4
      have HY := Lib.hid (HST.out W3 (.bool false) (Aft.refl _))
      go_wp2_with fail
      refine bodyPost_ret (v := .bool false) (by simp [results, Try.results48, go_sem, HY.out.1]) rfl ⟨ret_bool ?_, HY.out.2⟩
      rw [← HX.out]; unfold heldB; rw [if_pos HR1.out, decide_eq_false HC4.out]; rfl

set_option maxRecDepth 100000 in
set_option maxHeartbeats 2000000 in
theorem held_range (w0 w : World) (d : Nat) (C : CaseL) (a1 a2 : Option Addr) (c1 c2 : Nat) (ref sure : Int → Bool) (f r : Int → Nat) (hD : DeskAt w0 w d C a1 a2 c1 c2 ref sure f r) (n : Nat) (hn : n < 14) (hS : ∀ s ∈ C.strikes, 0 ≤ s.1 ∧ s.1 < 14) (hr : ∀ x, r x ≤ 1000) (h1 : ref n = false) (h2 : f n ≠ 0) (h3 : f n ≠ 1) :
    Calls Try.prog 48 #[.pointer (some ⟨d, 0, none⟩), .int .i64 n] w fun e w' => e = .returned (.bool (heldB C.strikes sure ref f r n)) ∧ Aft w w' := by
  have HL : Hid (∀ (k : Nat) (x : Int), (strikers C.strikes sure n)[k]? = some x → 0 ≤ x ∧ x < 14) := Lib.hid fun k x h => by
    obtain ⟨s, hs, rfl⟩ := strikers_mem (List.mem_of_getElem? h)
    exact hS s hs
  have HD := Lib.hid hD
  have HR := Lib.hid hr
  have H1 : Hid (∀ W, Aft w W → Calls Try.prog 69 #[.pointer (some ⟨d, 0, none⟩), .int .i64 n, .int .i64 1] W fun e w' => e = .returned (.bool (struckB C.strikes sure f n 1)) ∧ Aft W w') := Lib.hid fun W h => struck_any w0 W d C a1 a2 c1 c2 ref sure f r (hD.later h) n 1 hn hS
  have H0 : Hid (∀ W, Aft w W → Calls Try.prog 69 #[.pointer (some ⟨d, 0, none⟩), .int .i64 n, .int .i64 0] W fun e w' => e = .returned (.bool (struckB C.strikes sure f n 0)) ∧ Aft W w') := Lib.hid fun W h => struck_any w0 W d C a1 a2 c1 c2 ref sure f r (hD.later h) n 0 hn hS
  have H2 : Hid (∀ W, Aft w W → Calls Try.prog 70 #[.pointer (some ⟨d, 0, none⟩), .int .i64 n] W fun e w' => e = .returned (.bool (freeB C.strikes sure f n)) ∧ Aft W w') := Lib.hid fun W h => free_any w0 W d C a1 a2 c1 c2 ref sure f r (hD.later h) n hn hS
  have H3 : Hid (∀ W, Aft w W → Calls Try.prog 68 #[.pointer (some ⟨d, 0, none⟩), .int .i64 n] W fun e w' => e = .returned (.int .i64 (nextR C.strikes sure r n : Nat)) ∧ Aft W w') := Lib.hid fun W h => next_any w0 W d C a1 a2 c1 c2 ref sure f r (hD.later h) n hn hS hr
  have q1 := hD.found hn
  have q2 := hD.rf hn
  have q3 := hD.rank hn
  have hlt := hD.lt
  have hn14 : (0 : Int) ≤ (n : Int) ∧ (n : Int) < 14 := by omega
  have hrn := hr n
  have F0 := (((Fr.start w).alloc rfl 66 #[.pointer (some ⟨d, 0, none⟩)]).alloc (by simp) 4 #[.bool false]).alloc (by simp) 3 #[.int .i64 (r n : Nat)]
  simp only [List.nil_append, List.cons_append] at F0
  have HF0 := Lib.hid F0
  clear hD hS hr F0
  obtain ⟨X, hX⟩ : ∃ X, heldB C.strikes sure ref f r n = X := ⟨_, rfl⟩
  rw [hX]
  have HX := Lib.hid hX
  clear hX
  refine (callsIn_wide (n := 5)).1 ?_
  refine callsIn_of_wp_marks Try.func48 rfl trivial ?_ rfl
  simp only [Try.ntmps48, List.size_toArray, List.length_cons, List.length_nil, Nat.reduceAdd, Nat.reduceSub, Array.replicate_succ, Array.replicate_zero, List.push_toArray, List.append_toArray, List.nil_append, List.cons_append]
  refine wpIn_wide.2 ?_
  go_upto_block 0 with (fail)
  have hz : (((w.alloc (.cells #[.pointer (some ⟨d, 0, none⟩)] 66)).alloc (.cells #[.bool false] 4)).alloc (.cells #[.int .i64 (r n : Nat)] 3)).heap.size = w.heap.size + 1 + 1 + 1 := by simp
  generalize ((w.alloc (.cells #[.pointer (some ⟨d, 0, none⟩)] 66)).alloc (.cells #[.bool false] 4)).alloc (.cells #[.int .i64 (r n : Nat)] 3) = W3 at *
  obtain ⟨S, hS⟩ : ∃ S, w.heap.size = S := ⟨_, rfl⟩
  rw [hS] at HF0 hz hlt ⊢
  have hD3 := HD.out.later HF0.out.aft
  have p1 := hD3.found hn
  have p2 := hD3.rf hn
  have p3 := hD3.rank hn
  have plt := hD3.lt
  have p4 : W3.cell? ⟨S, 0, none⟩ = some (.pointer (some ⟨d, 0, none⟩)) := (HF0.out.nth 0 rfl).cell 0
  have p5 : W3.cell? ⟨S + 1, 0, none⟩ = some (.bool false) := (HF0.out.nth 1 rfl).cell 0
  have p6 := (HF0.out.nth 1 rfl).frozen 0
  have p7 : W3.cell? ⟨S + 1 + 1, 0, none⟩ = some (.int .i64 (r n : Nat)) := (HF0.out.nth 2 rfl).cell 0
  have l1 := (HF0.out.nth 0 rfl).lt
  have l2 := (HF0.out.nth 1 rfl).lt
  have l3 := (HF0.out.nth 2 rfl).lt
  have HST : Hid (∀ (W : World) (v : Value), Aft W3 W → (W.setCell ⟨S + 1, 0, none⟩ v).cell? ⟨S + 1, 0, none⟩ = some v ∧ Aft w (W.setCell ⟨S + 1, 0, none⟩ v)) := Lib.hid fun W v h => by
    have hf := HF0.out.later h
    refine ⟨?_, hf.aft.then_setCell (p := ⟨S + 1, 0, none⟩) (by show w.heap.size ≤ S + 1; omega) _⟩
    have := ((hf.nth 1 rfl).store 0 v).cell 0
    simpa using this
  clear hD3 q1 q2 q3 hlt
  refine wp_block ?_
  have t1 : (((f n : Nat) : Int) == 0) = false := by simp; omega
  have t2 : (((f n : Nat) : Int) == 1) = false := by simp; omega
  have HXX : Hid (((strikers C.strikes sure n).any (fun x => decide (f x = 1) && decide (r x < r n))) = X) := Lib.hid (by rw [← HX.out]; unfold heldB; rw [if_neg (by rw [h1]; decide), if_neg h2, if_neg h3])
  rw [h1] at p2
  clear h1 h2 h3
  go_upto_block 1 with (go_at_call 71; refine (striking_any d n _).mono ?_; rintro e w' ⟨rfl, rfl⟩)
  have F5 := (HF0.out.alloc hz 66 #[.pointer (some ⟨d, 0, none⟩)]).alloc (by simp; omega) 3 #[.int .i64 n]
  simp only [List.nil_append, List.cons_append] at F5
  have hz5 : ((W3.alloc (.cells #[.pointer (some ⟨d, 0, none⟩)] 66)).alloc (.cells #[.int .i64 n] 3)).heap.size = S + 1 + 1 + 1 + 1 + 1 := by simp; omega
  have HF5 := Lib.hid F5
  clear F5 p1 p2 p3 p4 p5 p6 p7
  generalize (W3.alloc (.cells #[.pointer (some ⟨d, 0, none⟩)] 66)).alloc (.cells #[.int .i64 n] 3) = W5 at *
  have HL0 := Lib.hid (show ∀ (j : Nat) (x : Int), j < 0 → (strikers C.strikes sure n)[j]? = some x → (fun x => decide (f x = 1) && decide (r x < r n)) x = false from fun j x h => absurd h (Nat.not_lt_zero _))
  refine wp_block ?_
  refine (wpIn_wide (n := 5)).1 ?_
  refine wpIn_striking2 (w0 := w0) (bd := S + 1 + 1 + 1) (bn := S + 1 + 1 + 1 + 1) (d := d) (C := C) (a1 := a1) (a2 := a2) (c1 := c1) (c2 := c2) (ref := ref) (sure := sure) (m := n) hn rfl
    (fun k W => Fr w (S + 1 + 1 + 1 + 1 + 1) [(S, 66, #[.pointer (some ⟨d, 0, none⟩)]), (S + 1, 4, #[.bool false]), (S + 1 + 1, 3, #[.int .i64 (r n : Nat)]), (S + 1 + 1 + 1, 66, #[.pointer (some ⟨d, 0, none⟩)]), (S + 1 + 1 + 1 + 1, 3, #[.int .i64 n])] W ∧ ∀ (j : Nat) (x : Int), j < k → (strikers C.strikes sure n)[j]? = some x → (fun x => decide (f x = 1) && decide (r x < r n)) x = false)
    (fun c W => Fr w (S + 1 + 1 + 1 + 1 + 1) [(S + 1, 4, #[.bool true])] W ∧ c = .ret ∧ ((strikers C.strikes sure n).any (fun x => decide (f x = 1) && decide (r x < r n))) = true)
    (by rw [hz5]; exact Fr.three) (fun k W W' h ha => ⟨h.1.later ha, h.2⟩) (fun c => by rw [hz5]; exact Fr.three)
    (fun k W h => ⟨(h.1.nth 3 rfl).cell 0, (h.1.nth 4 rfl).cell 0, (h.1.nth 3 rfl).lt, (h.1.nth 4 rfl).lt, f, r, HD.out.later h.1.aft⟩) ⟨HF5.out, HL0.out⟩
    rfl rfl rfl (by simp) ?body ?done ?stop
  case body =>
    intro l k x W hx hI hsz
    obtain ⟨x0, x1⟩ := HL.out k x hx
    obtain ⟨m, rfl⟩ : ∃ m : Nat, x = m := ⟨x.toNat, by omega⟩
    have hm14 : m < 14 := by omega
    have hDW := HD.out.later hI.1.aft
    have z2 := hDW.found hm14
    have z3 := hDW.rank hm14
    have z1 : W.cell? ⟨S, 0, none⟩ = some (.pointer (some ⟨d, 0, none⟩)) := (hI.1.nth 0 rfl).cell 0
    have z4 : W.cell? ⟨S + 1 + 1, 0, none⟩ = some (.int .i64 (r n : Nat)) := (hI.1.nth 2 rfl).cell 0
    have b2 := hI.1.nth 1 rfl
    have q5 := b2.frozen 0
    have q4 := b2.cell 0
    have q6 := b2.lt
    have hm : (0 : Int) ≤ (m : Int) ∧ (m : Int) < 14 := by omega
    have HI := Lib.hid hI
    have hrm := HR.out m
    clear hI b2 hDW
    simp only [List.setIfInBounds_toArray, List.set]
    refine wpIn_block ?_
    refine wpIn_seq_k fun K1 H1 => ?_
    have NO : Hid ((fun x => decide (f x = 1) && decide (r x < r n)) (m : Int) = false → ∀ W', Aft W W' → post3 (S + 1 + 1 + 1 + 1 + 1) (fun k W => Fr w (S + 1 + 1 + 1 + 1 + 1) [(S, 66, #[.pointer (some ⟨d, 0, none⟩)]), (S + 1, 4, #[.bool false]), (S + 1 + 1, 3, #[.int .i64 (r n : Nat)]), (S + 1 + 1 + 1, 66, #[.pointer (some ⟨d, 0, none⟩)]), (S + 1 + 1 + 1 + 1, 3, #[.int .i64 n])] W ∧ ∀ (j : Nat) (x : Int), j < k → (strikers C.strikes sure n)[j]? = some x → (fun x => decide (f x = 1) && decide (r x < r n)) x = false) (fun c W => Fr w (S + 1 + 1 + 1 + 1 + 1) [(S + 1, 4, #[.bool true])] W ∧ c = .ret ∧ ((strikers C.strikes sure n).any (fun x => decide (f x = 1) && decide (r x < r n))) = true) (k + 1) W .normal ⟨#[], []⟩ W') := Lib.hid fun hp W' ha => by
      refine ⟨Kept3.of_aft ha (by omega), HI.out.1.later ha, fun j x hj hjx => ?_⟩
      by_cases e : j < k
      · exact HI.out.2 j x e hjx
      · obtain rfl : j = k := by omega
        rw [hx] at hjx
        cases hjx
        exact hp
    by_cases hf1 : f m = 1
    · have t3 : (((f m : Nat) : Int) == 1) = true := by simp [hf1]
      have HF1 := Lib.hid hf1
      clear hf1
      refine wpIn_region_valsT (by kernel_rfl) (by kernel_rfl) 15 91 rfl (by kernel_rfl) (by kernel_rfl) (by kernel_rfl) [.pointer (some ⟨d, 0, none⟩), .int .i64 m, .pointer (some ⟨d, 0, none⟩), .pointer (some ⟨d, 31, none⟩), .pointer (some ⟨d, 31 + m, none⟩), .int .i64 (f m : Nat), .bool true, .bool true, .pointer (some ⟨d, 0, none⟩), .int .i64 m, .pointer (some ⟨d, 0, none⟩), .pointer (some ⟨d, 45, none⟩), .pointer (some ⟨d, 45 + m, none⟩), .int .i64 (r m : Nat), .int .i64 (r n : Nat)] rfl (fun _ W' => W' = W.drew) (rfl) ?st3 ?fi3
      case st3 =>
        intro i o v ho hv
        match i, ho, hv with
        | 0, ho, hv =>
          cases ho; cases hv
          refine .inl ⟨rfl, fun done a W hd hp hk hw K hK => ?_⟩
          have e2 := hk.same 2 (by decide)
          exact op_val (by simp [go_sem, ev' e2, hw, z1]) (hK _ hw)
        | 1, ho, hv =>
          cases ho; cases hv
          refine .inl ⟨rfl, fun done a W hd hp hk hw K hK => ?_⟩
          have e6 := hk.same 6 (by decide)
          exact op_val (by simp [go_sem, ev' e6]) (hK _ hw)
        | 2, ho, hv =>
          cases ho; cases hv
          refine .inl ⟨rfl, fun done a W hd hp hk hw K hK => ?_⟩
          have e74 := hk.at_ 0 _ 74 _ rfl (by decide) _ rfl rfl rfl
          exact op_val (by simp [go_sem, ev' e74]) (hK _ hw)
        | 3, ho, hv =>
          cases ho; cases hv
          refine .inl ⟨rfl, fun done a W hd hp hk hw K hK => ?_⟩
          have e76 := hk.at_ 2 _ 76 _ rfl (by decide) _ rfl rfl rfl
          exact op_val (by simp [go_sem, ev' e76]) (hK _ hw)
        | 4, ho, hv =>
          cases ho; cases hv
          refine .inl ⟨rfl, fun done a W hd hp hk hw K hK => ?_⟩
          have e75 := hk.at_ 1 _ 75 _ rfl (by decide) _ rfl rfl rfl
          have e77 := hk.at_ 3 _ 77 _ rfl (by decide) _ rfl rfl rfl
          exact op_val (by simp [go_sem, ev' e75, ev' e77, hm]) (hK _ hw)
        | 5, ho, hv =>
          cases ho; cases hv
          refine .inl ⟨rfl, fun done a W hd hp hk hw K hK => ?_⟩
          have e78 := hk.at_ 4 _ 78 _ rfl (by decide) _ rfl rfl rfl
          exact op_val (by simp [go_sem, ev' e78, hw, z2]) (hK _ hw)
        | 6, ho, hv =>
          cases ho; cases hv
          refine .inl ⟨rfl, fun done a W hd hp hk hw K hK => ?_⟩
          have e79 := hk.at_ 5 _ 79 _ rfl (by decide) _ rfl rfl rfl
          exact op_val (by simp [go_sem, ev' e79, t3]) (hK _ hw)
        | 7, ho, hv =>
          cases ho; cases hv
          refine .inl ⟨rfl, fun done a W hd hp hk hw K hK => ?_⟩
          have e80 := hk.at_ 6 _ 80 _ rfl (by decide) _ rfl rfl rfl
          exact op_val (by simp [go_sem, ev' e80]) (hK _ hw)
        | 8, ho, hv =>
          cases ho; cases hv
          refine .inl ⟨rfl, fun done a W hd hp hk hw K hK => ?_⟩
          have e2 := hk.same 2 (by decide)
          exact op_val (by simp [go_sem, ev' e2, hw, z1]) (hK _ hw)
        | 9, ho, hv =>
          cases ho; cases hv
          refine .inl ⟨rfl, fun done a W hd hp hk hw K hK => ?_⟩
          have e6 := hk.same 6 (by decide)
          exact op_val (by simp [go_sem, ev' e6]) (hK _ hw)
        | 10, ho, hv =>
          cases ho; cases hv
          refine .inl ⟨rfl, fun done a W hd hp hk hw K hK => ?_⟩
          have e82 := hk.at_ 8 _ 82 _ rfl (by decide) _ rfl rfl rfl
          exact op_val (by simp [go_sem, ev' e82]) (hK _ hw)
        | 11, ho, hv =>
          cases ho; cases hv
          refine .inl ⟨rfl, fun done a W hd hp hk hw K hK => ?_⟩
          have e84 := hk.at_ 10 _ 84 _ rfl (by decide) _ rfl rfl rfl
          exact op_val (by simp [go_sem, ev' e84]) (hK _ hw)
        | 12, ho, hv =>
          cases ho; cases hv
          refine .inl ⟨rfl, fun done a W hd hp hk hw K hK => ?_⟩
          have e83 := hk.at_ 9 _ 83 _ rfl (by decide) _ rfl rfl rfl
          have e85 := hk.at_ 11 _ 85 _ rfl (by decide) _ rfl rfl rfl
          exact op_val (by simp [go_sem, ev' e83, ev' e85, hm]) (hK _ hw)
        | 13, ho, hv =>
          cases ho; cases hv
          refine .inl ⟨rfl, fun done a W hd hp hk hw K hK => ?_⟩
          have e86 := hk.at_ 12 _ 86 _ rfl (by decide) _ rfl rfl rfl
          exact op_val (by simp [go_sem, ev' e86, hw, z3]) (hK _ hw)
        | 14, ho, hv =>
          cases ho; cases hv
          refine .inl ⟨rfl, fun done a W hd hp hk hw K hK => ?_⟩
          have e5 := hk.same 5 (by decide)
          exact op_val (by simp [go_sem, ev' e5, hw, z4]) (hK _ hw)
        | _ + 15, _, hv => cases hv
      intro done W hd hw
      simp only [List.drop_succ_cons, List.drop_zero, List.zip_cons_cons, List.zip_nil_right, putAll]
      simp only [Act.put, List.setIfInBounds_toArray, List.set]
      clear hd
      subst hw
      by_cases hrr : r m < r n
      · have t4 : decide (r m < r n) = true := by simpa using hrr
        have HRR := Lib.hid hrr
        clear hrr
        go_wp2_with fail
        change K1 _ _
        refine H1 _ _ ?_
        clear H1
        refine wpIn_cond_true (by simp [Act.eval]) ?_
        refine wpIn_seq_k fun K2 H2 => ?_
        refine wpIn_region_of_list (by kernel_rfl) ?_
        go_wp2_with fail
        change K2 _ _
        refine H2 _ _ ?_
        clear H2
        refine wpIn_ret ?_
        refine ⟨(Kept3.of_aft (Aft.drew W) (by omega)).setCell (p := ⟨S + 1, 0, none⟩) (by left; show S + 1 < W5.heap.size; omega) _, ((HI.out.1.later (Aft.drew W)).store (g := S + 1) (t := 4) (cs := #[.bool false]) (by simp) 0 (.bool true) (by simp)), rfl, List.any_eq_true.2 ⟨_, List.mem_of_getElem? hx, by rw [decide_eq_true HF1.out, decide_eq_true HRR.out]; rfl⟩⟩
      · have t4 : decide (r m < r n) = false := by simpa using hrr
        have HRR := Lib.hid hrr
        clear hrr
        go_wp2_with fail
        change K1 _ _
        refine H1 _ _ ?_
        clear H1
        refine wpIn_cond_false (by simp [Act.eval]) ?_
        refine wpIn_skip ?_
        rw [hz5]
        exact NO.out (by rw [decide_eq_false HRR.out, Bool.and_false]) _ (Aft.drew W)
    · have t3 : (((f m : Nat) : Int) == 1) = false := by simp; omega
      have HF1 := Lib.hid hf1
      clear hf1
      refine wpIn_region_valsT (by kernel_rfl) (by kernel_rfl) 15 91 rfl (by kernel_rfl) (by kernel_rfl) (by kernel_rfl) [.pointer (some ⟨d, 0, none⟩), .int .i64 m, .pointer (some ⟨d, 0, none⟩), .pointer (some ⟨d, 31, none⟩), .pointer (some ⟨d, 31 + m, none⟩), .int .i64 (f m : Nat), .bool false, .bool false, undef, undef, undef, undef, undef, undef, undef] rfl (fun _ W' => W' = W.drew) (rfl) ?st4 ?fi4
      case st4 =>
        intro i o v ho hv
        match i, ho, hv with
        | 0, ho, hv =>
          cases ho; cases hv
          refine .inl ⟨rfl, fun done a W hd hp hk hw K hK => ?_⟩
          have e2 := hk.same 2 (by decide)
          exact op_val (by simp [go_sem, ev' e2, hw, z1]) (hK _ hw)
        | 1, ho, hv =>
          cases ho; cases hv
          refine .inl ⟨rfl, fun done a W hd hp hk hw K hK => ?_⟩
          have e6 := hk.same 6 (by decide)
          exact op_val (by simp [go_sem, ev' e6]) (hK _ hw)
        | 2, ho, hv =>
          cases ho; cases hv
          refine .inl ⟨rfl, fun done a W hd hp hk hw K hK => ?_⟩
          have e74 := hk.at_ 0 _ 74 _ rfl (by decide) _ rfl rfl rfl
          exact op_val (by simp [go_sem, ev' e74]) (hK _ hw)
        | 3, ho, hv =>
          cases ho; cases hv
          refine .inl ⟨rfl, fun done a W hd hp hk hw K hK => ?_⟩
          have e76 := hk.at_ 2 _ 76 _ rfl (by decide) _ rfl rfl rfl
          exact op_val (by simp [go_sem, ev' e76]) (hK _ hw)
        | 4, ho, hv =>
          cases ho; cases hv
          refine .inl ⟨rfl, fun done a W hd hp hk hw K hK => ?_⟩
          have e75 := hk.at_ 1 _ 75 _ rfl (by decide) _ rfl rfl rfl
          have e77 := hk.at_ 3 _ 77 _ rfl (by decide) _ rfl rfl rfl
          exact op_val (by simp [go_sem, ev' e75, ev' e77, hm]) (hK _ hw)
        | 5, ho, hv =>
          cases ho; cases hv
          refine .inl ⟨rfl, fun done a W hd hp hk hw K hK => ?_⟩
          have e78 := hk.at_ 4 _ 78 _ rfl (by decide) _ rfl rfl rfl
          exact op_val (by simp [go_sem, ev' e78, hw, z2]) (hK _ hw)
        | 6, ho, hv =>
          cases ho; cases hv
          refine .inl ⟨rfl, fun done a W hd hp hk hw K hK => ?_⟩
          have e79 := hk.at_ 5 _ 79 _ rfl (by decide) _ rfl rfl rfl
          exact op_val (by simp [go_sem, ev' e79, t3]) (hK _ hw)
        | 7, ho, hv =>
          cases ho; cases hv
          refine .inl ⟨rfl, fun done a W hd hp hk hw K hK => ?_⟩
          have e80 := hk.at_ 6 _ 80 _ rfl (by decide) _ rfl rfl rfl
          exact op_val (by simp [go_sem, ev' e80]) (hK _ hw)
        | 8, ho, hv => cases ho; cases hv; exact .inr ⟨rfl, rfl, fun _ _ h => h⟩
        | 9, ho, hv => cases ho; cases hv; exact .inr ⟨rfl, rfl, fun _ _ h => h⟩
        | 10, ho, hv => cases ho; cases hv; exact .inr ⟨rfl, rfl, fun _ _ h => h⟩
        | 11, ho, hv => cases ho; cases hv; exact .inr ⟨rfl, rfl, fun _ _ h => h⟩
        | 12, ho, hv => cases ho; cases hv; exact .inr ⟨rfl, rfl, fun _ _ h => h⟩
        | 13, ho, hv => cases ho; cases hv; exact .inr ⟨rfl, rfl, fun _ _ h => h⟩
        | 14, ho, hv => cases ho; cases hv; exact .inr ⟨rfl, rfl, fun _ _ h => h⟩
        | _ + 15, _, hv => cases hv
      intro done W hd hw
      simp only [List.drop_succ_cons, List.drop_zero, List.zip_cons_cons, List.zip_nil_right, putAll]
      simp only [Act.put, List.setIfInBounds_toArray, List.set]
      clear hd
      subst hw
      go_wp2_with fail
      change K1 _ _
      refine H1 _ _ ?_
      clear H1
      refine wpIn_cond_false (by simp [Act.eval]) ?_
      refine wpIn_skip ?_
      rw [hz5]
      exact NO.out (by rw [decide_eq_false HF1.out, Bool.false_and]) _ (Aft.drew W)
  case done =>
    intro D W hDD hI hd
    have b2 := hI.1.nth 1 rfl
    have q4 := b2.cell 0
    have q5 := b2.frozen 0
    have q6 := b2.lt
    have HI := Lib.hid hI
    have HN : Hid (((strikers C.strikes sure n).any (fun x => decide (f x = 1) && decide (r x < r n))) = false) := Lib.hid (by
      rw [Bool.eq_false_iff]
      intro h
      obtain ⟨x, hx, h2⟩ := List.any_eq_true.1 h
      obtain ⟨j, hj, rfl⟩ := List.getElem_of_mem hx
      have h3 := hI.2 j _ hj (List.getElem?_eq_getElem hj)
      dsimp only at h3
      rw [h3] at h2
      cases h2)
    have hd2 : (W.setCell ⟨S + 1, 0, none⟩ (.bool false)).heap[D]? = some (.deferred (some [])) := (Below.heap_setCell W ⟨S + 1, 0, none⟩ (.bool false) D (by show D ≠ S + 1; omega)).trans hd
    have HB2 := Lib.hid (b2.store 0 (.bool false))
    have HD2 := Lib.hid hd2
    clear hI b2 hd2 hd
    go_wp2_with fail
    refine ⟨by simp, .inl ⟨_, _, rfl, run_takeDeferred HD2.out, ?_⟩⟩
    have y1 := (HB2.out.grown (grownBy_putObj' _ D (.deferred none)) (fun e => by cases e; omega)).cell 0
    refine ⟨.bool false, ?_, ret_bool (by rw [← HXX.out, HN.out]), (HI.out.1.aft.then_setCell (p := ⟨S + 1, 0, none⟩) (by show w.heap.size ≤ S + 1; omega) _).grown (grownBy_putObj' _ D (.deferred none)) (fun k e => by cases e; omega)⟩
    generalize ((W.setCell ⟨S + 1, 0, none⟩ (.bool false)).putObj D (.deferred none)) = Y at *
    have y1' : Y.cell? ⟨S + 1, 0, none⟩ = some (.bool false) := y1
    simp [results, Try.results48, go_sem, y1']
  case stop =>
    intro D c W hDD hI hd
    obtain ⟨hF, rfl, hany⟩ := hI
    refine wpIn_ret ?_
    refine ⟨by simp, .inl ⟨_, _, rfl, run_takeDeferred hd, ?_⟩⟩
    have y1 := ((hF.nth 0 rfl).grown (grownBy_putObj' W D (.deferred none)) (fun e => by cases e; omega)).cell 0
    refine ⟨.bool true, ?_, ret_bool (by rw [← HXX.out, hany]), hF.aft.grown (grownBy_putObj' _ D (.deferred none)) (fun k e => by cases e; omega)⟩
    generalize (W.putObj D (.deferred none)) = Y at *
    have y1' : Y.cell? ⟨S + 1, 0, none⟩ = some (.bool true) := y1
    simp [results, Try.results48, go_sem, y1']

theorem held_any (w0 w : World) (d : Nat) (C : CaseL) (a1 a2 : Option Addr) (c1 c2 : Nat) (ref sure : Int → Bool) (f r : Int → Nat) (hD : DeskAt w0 w d C a1 a2 c1 c2 ref sure f r) (n : Nat) (hn : n < 14) (hS : ∀ s ∈ C.strikes, 0 ≤ s.1 ∧ s.1 < 14) (hr : ∀ x, r x ≤ 1000) :
    Calls Try.prog 48 #[.pointer (some ⟨d, 0, none⟩), .int .i64 n] w fun e w' => e = .returned (.bool (heldB C.strikes sure ref f r n)) ∧ Aft w w' := by
  by_cases h : ref n = true ∨ f n = 0 ∨ f n = 1
  · exact held_easy w0 w d C a1 a2 c1 c2 ref sure f r hD n hn hS hr h
  · exact held_range w0 w d C a1 a2 c1 c2 ref sure f r hD n hn hS hr (by simpa using fun h' => h (.inl h')) (fun h' => h (.inr (.inl h'))) (fun h' => h (.inr (.inr h')))
end Go.Proofs
end

section
namespace Go.Proofs
open Go.RowKit
open Court (refL begF noS struckB nextR)

def overF (F : List Int) (f : Int → Nat) : Int → Nat := fun n => if 0 ≤ n ∧ n < F.length then (F.getD n.toNat 0).toNat else f n
theorem mnL_over (F : List Int) (f : Int → Nat) (hF : F.length ≤ 14) (h0 : ∀ x ∈ F, 0 ≤ x) : mnL (overF F f) = F.map (Value.int .i64) ++ (mnL f).drop F.length := by
  apply List.ext_getElem?
  intro i
  by_cases hi : i < 14
  · rw [mnL_get _ hi]
    by_cases h : i < F.length
    · rw [List.getElem?_append_left (by simpa using h), List.getElem?_map, List.getElem?_eq_getElem h]
      unfold overF
      rw [if_pos (by omega)]
      have e : F.getD ((i : Int).toNat) 0 = F[i] := by simp [List.getD, h]
      rw [e]
      have := h0 _ (List.getElem_mem h)
      simp [Int.toNat_of_nonneg this]
    · rw [List.getElem?_append_right (by simp; omega), List.length_map, List.getElem?_drop, show F.length + (i - F.length) = i by omega, mnL_get _ hi]
      unfold overF
      rw [if_neg (by omega)]
  · rw [List.getElem?_eq_none (by rw [mnL_len]; omega), List.getElem?_eq_none (by rw [List.length_append, List.length_map, List.length_drop, mnL_len]; omega)]
theorem desk_over_found (C : CaseL) (a1 a2 : Option Addr) (c1 c2 : Nat) (ref sure : Int → Bool) (f r : Int → Nat) (F : List Int) (hF : F.length ≤ 14) (h0 : ∀ x ∈ F, 0 ≤ x) :
    (deskL C a1 a2 c1 c2 ref sure f r).take 31 ++ (F.map (Value.int .i64) ++ (deskL C a1 a2 c1 c2 ref sure f r).drop (31 + F.length)) = deskL C a1 a2 c1 c2 ref sure (overF F f) r := by
  have e : ∀ g : Int → Nat, deskL C a1 a2 c1 c2 ref sure g r = ([Value.int .i64 C.claims, .slice a1 C.strikes.length c1, .slice a2 C.surveys.length c2] ++ (mkL ref ++ mkL sure)) ++ (mnL g ++ mnL r) := fun g => by
    unfold deskL; simp only [List.append_assoc]
  have hl : ([Value.int .i64 C.claims, .slice a1 C.strikes.length c1, .slice a2 C.surveys.length c2] ++ (mkL ref ++ mkL sure)).length = 31 := by simp only [List.length_append, mkL_len, List.length_cons, List.length_nil]
  rw [e f, e (overF F f), mnL_over F f hF h0, List.take_left' hl, show 31 + F.length = ([Value.int .i64 C.claims, .slice a1 C.strikes.length c1, .slice a2 C.surveys.length c2] ++ (mkL ref ++ mkL sure)).length + F.length by rw [hl], List.drop_length_add_append, List.drop_append_of_le_length (by rw [mnL_len]; exact hF)]
  simp only [List.append_assoc]
theorem desk_over_rank (C : CaseL) (a1 a2 : Option Addr) (c1 c2 : Nat) (ref sure : Int → Bool) (f r : Int → Nat) (F : List Int) (hF : F.length ≤ 14) (h0 : ∀ x ∈ F, 0 ≤ x) :
    (deskL C a1 a2 c1 c2 ref sure f r).take 45 ++ (F.map (Value.int .i64) ++ (deskL C a1 a2 c1 c2 ref sure f r).drop (45 + F.length)) = deskL C a1 a2 c1 c2 ref sure f (overF F r) := by
  have e : ∀ g : Int → Nat, deskL C a1 a2 c1 c2 ref sure f g = ([Value.int .i64 C.claims, .slice a1 C.strikes.length c1, .slice a2 C.surveys.length c2] ++ (mkL ref ++ (mkL sure ++ mnL f))) ++ mnL g := fun g => by
    unfold deskL; simp only [List.append_assoc]
  have hl : ([Value.int .i64 C.claims, .slice a1 C.strikes.length c1, .slice a2 C.surveys.length c2] ++ (mkL ref ++ (mkL sure ++ mnL f))).length = 45 := by simp only [List.length_append, mkL_len, mnL_len, List.length_cons, List.length_nil]
  rw [e r, e (overF F r), mnL_over F r hF h0, List.take_left' hl, show 45 + F.length = ([Value.int .i64 C.claims, .slice a1 C.strikes.length c1, .slice a2 C.surveys.length c2] ++ (mkL ref ++ (mkL sure ++ mnL f))).length + F.length by rw [hl], List.drop_length_add_append]
theorem only_setRow (w : World) (g : Nat) (cs : Array Value) : w.grownBy (w.setRow g cs) (some g) :=
  ⟨rfl, rfl, rfl, by simp [World.setRow], fun i _ hne => setRow_other w g i cs (fun e => hne (by rw [e]))⟩
theorem DeskAt.over {w0 w : World} {d : Nat} {C : CaseL} {a1 a2 : Option Addr} {c1 c2 : Nat} {ref sure : Int → Bool} {f r f' r' : Int → Nat} (h : DeskAt w0 w d C a1 a2 c1 c2 ref sure f r) {cs : List Value} (he : cs = deskL C a1 a2 c1 c2 ref sure f' r') : DeskAt w0 (w.setRow d cs.toArray) d C a1 a2 c1 c2 ref sure f' r' :=
  ⟨by subst he; exact setRow_heap w d (deskL C a1 a2 c1 c2 ref sure f r).toArray _ 75 _ h.blk, h.rep, h.base, h.aft.grown (only_setRow w d _) (fun k e => by cases e; exact h.base)⟩

def holdsE (C : CaseL) (R F K : List Int) : Int :=
  if openE C R = 0 then (if (F.length : Int) ≠ C.claims ∨ (K.length : Int) ≠ C.claims then 3 else if F.all (fun n => fromB n 0 2) && K.all (fun n => fromB n 0 14) then 0 else 4) else openE C R
theorem runs_91 (args : Array Value) (w : World) : (callFunc 46 args).run Try.prog w = .ok (.enter 46 args) w := by simp [go_sem]
theorem runs_92 (args : Array Value) (w : World) : (callFunc 47 args).run Try.prog w = .ok (.enter 47 args) w := by simp [go_sem]
theorem holds1_any (n : Int) (w : World) : Calls Try.prog 46 #[.int .i64 n] w fun e w' => e = .returned (.bool (!fromB n 0 2)) ∧ Aft w w' := by
  go_enter Try.func46, Try.ntmps46
  go_wp2_with (go_at_call 29; refine (from_any _ _ _ _).mono ?_; rintro e w' ⟨rfl, rfl⟩)
  go_ret
  exact ⟨rfl, Aft.refl _⟩
theorem holds2_any (n : Int) (w : World) : Calls Try.prog 47 #[.int .i64 n] w fun e w' => e = .returned (.bool (!fromB n 0 14)) ∧ Aft w w' := by
  go_enter Try.func47, Try.ntmps47
  go_wp2_with (go_at_call 29; refine (from_any _ _ _ _).mono ?_; rintro e w' ⟨rfl, rfl⟩)
  go_ret
  exact ⟨rfl, Aft.refl _⟩
theorem none_found (A : Option Addr) (l : List Int) (c : Nat) (w : World) (hA : Ints w A l) :
    Calls Try.prog 37 #[.slice A l.length c, .func (.func 46) #[] #[]] w fun e w' => e = .returned (.bool (l.all fun n => fromB n 0 2)) ∧ Aft w w' :=
  (none_int IntR 46 [] (fun n => !fromB n 0 2) A l c w hA runs_91 (fun x _ v0 hv => by cases hv; exact fun u => holds1_any x _)).mono fun _ _ ⟨h, ha⟩ => ⟨by rw [h]; exact ret_bool (by rw [List.all_eq_not_any_not]), ha⟩
theorem none_rank (A : Option Addr) (l : List Int) (c : Nat) (w : World) (hA : Ints w A l) :
    Calls Try.prog 37 #[.slice A l.length c, .func (.func 47) #[] #[]] w fun e w' => e = .returned (.bool (l.all fun n => fromB n 0 14)) ∧ Aft w w' :=
  (none_int IntR 47 [] (fun n => !fromB n 0 14) A l c w hA runs_92 (fun x _ v0 hv => by cases hv; exact fun u => holds2_any x _)).mono fun _ _ ⟨h, ha⟩ => ⟨by rw [h]; exact ret_bool (by rw [List.all_eq_not_any_not]), ha⟩

def HoldsR (b : Bool) (E : Int) (w : World) (e : Ending) (w' : World) : Prop := e = .returned (.tuple #[.bool b, .int .i64 E]) ∧ Aft w w'

set_option maxRecDepth 100000 in
set_option maxHeartbeats 2000000 in
theorem holds_bad (C : CaseL) (a1 a2 : Option Addr) (c1 c2 : Nat) (R F K : List Int) (A A' A'' : Option Addr) (c c' c'' : Nat) (w : World) (hC : CRep w C a1 a2) (hA : Ints w A R) (hF : Ints w A' F) (hK : Ints w A'' K) (he : holdsE C R F K ≠ 0) :
    Calls Try.prog 18 #[(.agg #[.int .i64 C.claims, .slice a1 C.strikes.length c1, .slice a2 C.surveys.length c2]), .slice A R.length c, .slice A' F.length c', .slice A'' K.length c''] w (HoldsR false (holdsE C R F K) w) := by
  have H0 := Lib.hid (Aft.alloc w (.cells #[.int .i64 C.claims, .slice a1 C.strikes.length c1, .slice a2 C.surveys.length c2] 25))
  have hlF := hF.len
  have hlK := hK.len
  unfold HoldsR
  unfold holdsE at he ⊢
  by_cases h1 : openE C R = 0
  · rw [if_pos h1] at he ⊢
    have H1 : Hid (∀ W, Aft w W → Calls Try.prog 36 #[(.agg #[.int .i64 C.claims, .slice a1 C.strikes.length c1, .slice a2 C.surveys.length c2]), .slice A R.length c] W (Opened C a1 a2 c1 c2 R W)) := Lib.hid fun W h => opened_good C a1 a2 c1 c2 R A c W (hC.aft h) (hA.aft h) h1
    have H2 : Hid (∀ W, Aft w W → Calls Try.prog 37 #[.slice A' F.length c', .func (.func 46) #[] #[]] W fun e w' => e = .returned (.bool (F.all fun n => fromB n 0 2)) ∧ Aft W w') := Lib.hid fun W h => none_found A' F c' W (hF.aft h)
    have H3 : Hid (∀ W, Aft w W → Calls Try.prog 37 #[.slice A'' K.length c'', .func (.func 47) #[] #[]] W fun e w' => e = .returned (.bool (K.all fun n => fromB n 0 14)) ∧ Aft W w') := Lib.hid fun W h => none_rank A'' K c'' W (hK.aft h)
    have HB := Lib.hid (Blk.new w 25 #[.int .i64 C.claims, .slice a1 C.strikes.length c1, .slice a2 C.surveys.length c2])
    clear hC hA hF hK
    obtain ⟨N, hN⟩ : ∃ N, C.claims = N := ⟨_, rfl⟩
    have HN := Lib.hid hN
    by_cases hf : (F.length : Int) ≠ C.claims
    · rw [if_pos (.inl hf)]
      have t1 : ((F.length : Int) != C.claims) = true := by simpa using hf
      clear he h1 hf hN
      go_enter Try.func18, Try.ntmps18
      go_wp2_with (go_at_call 36; refine (H1.out _ H0.out).mono ?_; rintro e w1 ⟨d, rfl, hd⟩; have HD := Lib.hid hd; obtain ⟨k0, k1, k2⟩ := box25 (HB.out.aft hd.aft); have hlt := (HB.out.aft hd.aft).lt; clear hd)
      go_ret2
      exact ⟨rfl, H0.out.trans HD.out.aft⟩
    · have t1 : ((F.length : Int) != C.claims) = false := by simpa using hf
      by_cases hk : (K.length : Int) ≠ C.claims
      · rw [if_pos (.inr hk)]
        have t2 : ((K.length : Int) != C.claims) = true := by simpa using hk
        clear he h1 hf hN hk
        go_enter Try.func18, Try.ntmps18
        go_wp2_with (go_at_call 36; refine (H1.out _ H0.out).mono ?_; rintro e w1 ⟨d, rfl, hd⟩; have HD := Lib.hid hd; obtain ⟨k0, k1, k2⟩ := box25 (HB.out.aft hd.aft); have hlt := (HB.out.aft hd.aft).lt; clear hd)
        go_ret2
        exact ⟨rfl, H0.out.trans HD.out.aft⟩
      · have t2 : ((K.length : Int) != C.claims) = false := by simpa using hk
        rw [if_neg (fun h => h.elim hf hk)] at he ⊢
        have h3 : (F.all (fun n => fromB n 0 2) && K.all fun n => fromB n 0 14) = false := by
          cases h : (F.all (fun n => fromB n 0 2) && K.all fun n => fromB n 0 14)
          · rfl
          · rw [if_pos h] at he; exact absurd rfl he
        rw [if_neg (by rw [h3]; decide)]
        clear he h1 hf hN hk
        cases h4 : F.all (fun n => fromB n 0 2)
        · rw [h4] at H2
          clear h3 h4
          go_enter Try.func18, Try.ntmps18
          go_wp2_with (first | (go_at_call 36; refine (H1.out _ H0.out).mono ?_; rintro e w1 ⟨d, rfl, hd⟩; have HD := Lib.hid hd; obtain ⟨k0, k1, k2⟩ := box25 (HB.out.aft hd.aft); have hlt := (HB.out.aft hd.aft).lt; clear hd) | (go_at_call_of 37 (Value.slice A' F.length c'); refine (H2.out _ (H0.out.trans HD.out.aft)).mono ?_; rintro e w' ⟨rfl, u, rfl⟩))
          go_ret2
          exact ⟨rfl, (H0.out.trans HD.out.aft).then_lat _⟩
        · rw [h4] at H2 h3
          rw [Bool.true_and] at h3
          rw [h3] at H3
          clear h3 h4
          go_enter Try.func18, Try.ntmps18
          go_wp2_with (first | (go_at_call 36; refine (H1.out _ H0.out).mono ?_; rintro e w1 ⟨d, rfl, hd⟩; have HD := Lib.hid hd; obtain ⟨k0, k1, k2⟩ := box25 (HB.out.aft hd.aft); have hlt := (HB.out.aft hd.aft).lt; clear hd) | (go_at_call_of 37 (Value.slice A' F.length c'); refine (H2.out _ (H0.out.trans HD.out.aft)).mono ?_; rintro e w' ⟨rfl, u, rfl⟩) | (go_at_call_of 37 (Value.slice A'' K.length c''); refine (H3.out _ ((H0.out.trans HD.out.aft).then_lat _)).mono ?_; rintro e w' ⟨rfl, u2, rfl⟩))
          go_ret2
          exact ⟨rfl, ((H0.out.trans HD.out.aft).then_lat _).then_lat _⟩
  · rw [if_neg h1] at he ⊢
    have H1 : Hid (∀ W, Aft w W → Calls Try.prog 36 #[(.agg #[.int .i64 C.claims, .slice a1 C.strikes.length c1, .slice a2 C.surveys.length c2]), .slice A R.length c] W fun e w' => e = .returned (.tuple #[.pointer none, .int .i64 (openE C R)]) ∧ Aft W w') := Lib.hid fun W h => opened_bad C a1 a2 c1 c2 R A c W (hC.aft h) (hA.aft h) he
    have t1 : (openE C R != 0) = true := by simpa using he
    clear hC hA he h1 hF hK
    generalize openE C R = E at *
    go_enter Try.func18, Try.ntmps18
    go_wp2_with (go_at_call 36; refine (H1.out _ H0.out).mono ?_; rintro e w' ⟨rfl, u, rfl⟩)
    go_ret2
    exact ⟨rfl, H0.out.then_lat _⟩

theorem ints_mem {w : World} {A : Option Addr} {l : List Int} (h : Ints w A l) (hl : 0 < l.length) : ∃ b o, A = some ⟨b, o, none⟩ ∧ ∀ j v, (l.map (Value.int .i64))[j]? = some v → w.cell? ((⟨b, o, none⟩ : Addr).add j) = some v := by
  obtain ⟨b, o, e, _, _⟩ := h.at hl
  exact ⟨b, o, e, ints_src h _ e⟩

set_option maxRecDepth 100000 in
set_option maxHeartbeats 2000000 in
theorem holds_good (C : CaseL) (a1 a2 : Option Addr) (c1 c2 : Nat) (R F K : List Int) (A A' A'' : Option Addr) (c c' c'' : Nat) (w : World) (hC : CRep w C a1 a2) (hA : Ints w A R) (hF : Ints w A' F) (hK : Ints w A'' K) (he : holdsE C R F K = 0) (N : Nat) (hN : C.claims = N) :
    Calls Try.prog 18 #[(.agg #[.int .i64 C.claims, .slice a1 C.strikes.length c1, .slice a2 C.surveys.length c2]), .slice A R.length c, .slice A' F.length c', .slice A'' K.length c''] w (HoldsR ((List.range N).all fun n => heldB C.strikes noS (refL R) (overF F (begF (refL R))) (overF K fun _ => 0) (n : Nat)) 0 w) := by
  have H0 := Lib.hid (Aft.alloc w (.cells #[.int .i64 C.claims, .slice a1 C.strikes.length c1, .slice a2 C.surveys.length c2] 25))
  unfold holdsE at he
  have h1 : openE C R = 0 := by
    by_cases h1 : openE C R = 0
    · exact h1
    · rw [if_neg h1] at he; exact he
  rw [if_pos h1] at he
  have hf : (F.length : Int) = C.claims := by
    by_cases h : (F.length : Int) = C.claims
    · exact h
    · rw [if_pos (.inl h)] at he; cases he
  have hk : (K.length : Int) = C.claims := by
    by_cases h : (K.length : Int) = C.claims
    · exact h
    · rw [if_pos (.inr h)] at he; cases he
  rw [if_neg (fun h => h.elim (fun h => h hf) (fun h => h hk))] at he
  have h3 : (F.all (fun n => fromB n 0 2) && K.all fun n => fromB n 0 14) = true := by
    cases h : (F.all (fun n => fromB n 0 2) && K.all fun n => fromB n 0 14)
    · rw [h] at he; cases he
    · rfl
  rw [Bool.and_eq_true] at h3
  obtain ⟨h3, h4⟩ := h3
  have hok := (openE_facts h1).1
  have hfN : F.length = N := by omega
  have hkN : K.length = N := by omega
  have hN1 : 1 ≤ N := by have := hok.n1; omega
  have hN14 : N ≤ 14 := by have := hok.n2; omega
  have HF0 := Lib.hid (show ∀ x ∈ F, 0 ≤ x from fun x hx => (fromB_iff.1 (List.all_eq_true.1 h3 x hx)).1)
  have HK0 := Lib.hid (show ∀ x ∈ K, 0 ≤ x ∧ x ≤ 14 from fun x hx => fromB_iff.1 (List.all_eq_true.1 h4 x hx))
  have HRK : Hid (∀ x, overF K (fun _ => 0) x ≤ 1000) := Lib.hid fun x => by
    unfold overF
    split
    · rename_i hx
      rw [List.getD_eq_getElem?_getD, List.getElem?_eq_getElem (by omega), Option.getD_some]
      have := HK0.out _ (List.getElem_mem (h := (by omega : x.toNat < K.length)))
      omega
    · exact Nat.zero_le _
  have HS := Lib.hid (show ∀ s ∈ C.strikes, 0 ≤ s.1 ∧ s.1 < 14 from fun s hs => by have := (hok.ins s hs).1; have := hok.n2; omega)
  have H1 : Hid (∀ W, Aft w W → Calls Try.prog 36 #[(.agg #[.int .i64 C.claims, .slice a1 C.strikes.length c1, .slice a2 C.surveys.length c2]), .slice A R.length c] W (Opened C a1 a2 c1 c2 R W)) := Lib.hid fun W h => opened_good C a1 a2 c1 c2 R A c W (hC.aft h) (hA.aft h) h1
  have H2 : Hid (∀ W, Aft w W → Calls Try.prog 37 #[.slice A' F.length c', .func (.func 46) #[] #[]] W fun e w' => e = .returned (.bool (F.all fun n => fromB n 0 2)) ∧ Aft W w') := Lib.hid fun W h => none_found A' F c' W (hF.aft h)
  have H3 : Hid (∀ W, Aft w W → Calls Try.prog 37 #[.slice A'' K.length c'', .func (.func 47) #[] #[]] W fun e w' => e = .returned (.bool (K.all fun n => fromB n 0 14)) ∧ Aft W w') := Lib.hid fun W h => none_rank A'' K c'' W (hK.aft h)
  rw [h3] at H2
  rw [h4] at H3
  have HB := Lib.hid (Blk.new w 25 #[.int .i64 C.claims, .slice a1 C.strikes.length c1, .slice a2 C.surveys.length c2])
  obtain ⟨bF, oF, rfl, -⟩ := ints_mem hF (by omega)
  obtain ⟨bK, oK, rfl, -⟩ := ints_mem hK (by omega)
  have HFI := Lib.hid hF
  have HKI := Lib.hid hK
  have HN := Lib.hid hN
  have t1 : ((N : Int) != (N : Int)) = false := by simp
  have HFN := Lib.hid hfN
  have HKN := Lib.hid hkN
  rw [hfN] at H2 ⊢
  rw [hkN] at H3 ⊢
  clear hC hA hF hK he h1 hf hk h3 h4 hok hN hfN hkN
  go_enter Try.func18, Try.ntmps18
  go_upto_region 8 with (first | (go_at_call 36; refine (H1.out _ H0.out).mono ?_; rintro e w1 ⟨d, rfl, hd⟩; have HD := Lib.hid hd; obtain ⟨k0, k1, k2⟩ := box25 (HB.out.aft hd.aft); rw [HN.out] at k0; have hlt := (HB.out.aft hd.aft).lt; clear hd) | (go_at_call_of 37 (Value.slice (some { block := bF, off := oF }) N c'); refine (H2.out _ (H0.out.trans HD.out.aft)).mono ?_; rintro e w2 ⟨rfl, ha2⟩; have HA2 := Lib.hid ha2; clear ha2) | (go_at_call_of 37 (Value.slice (some { block := bK, off := oK }) N c''); refine (H3.out _ ((H0.out.trans HD.out.aft).trans HA2.out)).mono ?_; rintro e w3 ⟨rfl, ha3⟩; have HA3 := Lib.hid (HA2.out.trans ha3); clear ha3))
  have HA0 : Hid (Aft w w3) := Lib.hid ((H0.out.trans HD.out.aft).trans HA3.out)
  have hdw : w.heap.size < d := by have := HD.out.base; simp at this; omega
  have HB1 := Lib.hid ((HB.out.aft HD.out.aft).aft HA3.out)
  have HD3 := Lib.hid (HD.out.later HA3.out)
  generalize (w.alloc (.cells #[.int .i64 C.claims, .slice a1 C.strikes.length c1, .slice a2 C.surveys.length c2] 25)) = W0 at *
  have i3 : (Try.prog.info? 3).map (·.size) = some 1 := by kernel_rfl
  have I3 := Lib.hid i3
  have HSF := Lib.hid (ints_src (HFI.out.aft HA0.out) _ rfl)
  have HFML : Hid ((F.map (Value.int .i64)).length = N) := Lib.hid (by rw [List.length_map, HFN.out])
  have HKML : Hid ((K.map (Value.int .i64)).length = N) := Lib.hid (by rw [List.length_map, HKN.out])
  have HMN : Hid (N = Nat.min N 14) := Lib.hid (Nat.min_eq_left hN14).symm
  clear k0 k1 k2 hlt i3
  obtain ⟨w4, hcp, hd4, hg4⟩ : ∃ w4, (Builtin.copy_ #[26, 26] 3 #[.slice (some ⟨d, 31, none⟩) 14 14, .slice (some ⟨bF, oF, none⟩) N c']).run Try.prog w3 = .ok (.int .i64 N) w4 ∧ DeskAt W0 w4 d C a1 a2 c1 c2 (refL R) noS (overF F (begF (refL R))) (fun _ => 0) ∧ w3.grownBy w4 (some d) := by
    have h := run_copy_row (P := Try.prog) w3 26 26 3 3 d 31 14 14 ⟨bF, oF, none⟩ N c' _ 75 (F.map (Value.int .i64)) Try.underlying26 I3.out HD3.out.blk (HFML.out.trans HMN.out) HSF.out (by rw [HFML.out, List.size_toArray, deskL_len]; omega) (ints_one F)
    rw [HFML.out] at h
    refine ⟨_, h, HD3.out.over ?_, only_setRow _ _ _⟩
    rw [List.toList_toArray, ← HFN.out, List.append_assoc]
    exact desk_over_found C a1 a2 c1 c2 _ _ _ _ F (by rw [HFN.out]; exact hN14) HF0.out
  have HD4 := Lib.hid hd4
  have HGw4 := Lib.hid hg4
  clear hd4 hg4
  go_upto_region 9 with (fail)
  clear hcp
  have HA4 : Hid (Aft w w4) := Lib.hid (HA0.out.grown HGw4.out (fun k e => by cases e; omega))
  have HSK := Lib.hid (ints_src (HKI.out.aft HA4.out) _ rfl)
  obtain ⟨w5, hcp, hd4, hg4⟩ : ∃ w5, (Builtin.copy_ #[26, 26] 3 #[.slice (some ⟨d, 45, none⟩) 14 14, .slice (some ⟨bK, oK, none⟩) N c'']).run Try.prog w4 = .ok (.int .i64 N) w5 ∧ DeskAt W0 w5 d C a1 a2 c1 c2 (refL R) noS (overF F (begF (refL R))) (overF K fun _ => 0) ∧ w4.grownBy w5 (some d) := by
    have h := run_copy_row (P := Try.prog) w4 26 26 3 3 d 45 14 14 ⟨bK, oK, none⟩ N c'' _ 75 (K.map (Value.int .i64)) Try.underlying26 I3.out HD4.out.blk (HKML.out.trans HMN.out) HSK.out (by rw [HKML.out, List.size_toArray, deskL_len]; omega) (ints_one K)
    rw [HKML.out] at h
    refine ⟨_, h, HD4.out.over ?_, only_setRow _ _ _⟩
    rw [List.toList_toArray, ← HKN.out, List.append_assoc]
    exact desk_over_rank C a1 a2 c1 c2 _ _ _ _ K (by rw [HKN.out]; exact hN14) (fun x hx => (HK0.out x hx).1)
  have HD5 := Lib.hid hd4
  have HGw5 := Lib.hid hg4
  clear hd4 hg4
  go_upto_region 10 with (fail)
  clear hcp
  have HA5 : Hid (Aft w w5) := Lib.hid (HA4.out.grown HGw5.out (fun k e => by cases e; omega))
  have z0 : w5.cell? ⟨w.heap.size, 0, none⟩ = some (.int .i64 N) := by
    rw [← HN.out]; exact ((HB1.out.grown HGw4.out (fun e => by cases e; omega)).grown HGw5.out (fun e => by cases e; omega)).cell 0
  have zl : w.heap.size < w5.heap.size := by have := HB1.out.lt; have := HGw4.out.size; have := HGw5.out.size; omega
  obtain ⟨X, hX⟩ : ∃ X : Nat → Bool, X = fun n => heldB C.strikes noS (refL R) (overF F (begF (refL R))) (overF K fun _ => 0) (n : Nat) := ⟨_, rfl⟩
  have HX := Lib.hid hX
  clear hX
  go_upto_block 1 with (fail)
  refine wp_block ?_
  go_loopw [59] (fun i wr => ∃ k : Nat, i = .int .i64 k ∧ k ≤ N ∧ (∀ j, j < k → X j = true) ∧ Aft w5 wr) (fun i _ => N - (intOf i).toNat)
  case atStart => exact ⟨0, rfl, by omega, fun j hj => absurd hj (Nat.not_lt_zero _), Aft.refl _⟩
  case round =>
    obtain ⟨k, rfl, hk, hall, har⟩ := hrel
    have HAL := Lib.hid hall
    have HAR := Lib.hid har
    clear hall har
    by_cases hkN : k < N
    · have t2 : decide (k < N) = true := by simpa using hkN
      have HE := Lib.hid (held_any W0 wr d C a1 a2 c1 c2 (refL R) noS (overF F (begF (refL R))) (overF K fun _ => 0) (HD5.out.later HAR.out) k (by omega) HS.out HRK.out)
      cases hx : X k
      · have HXK := Lib.hid hx
        have hx2 : heldB C.strikes noS (refL R) (overF F (begF (refL R))) (overF K fun _ => 0) (k : Nat) = false := by rw [HX.out] at hx; exact hx
        rw [hx2] at HE
        clear hx hx2
        go_wp2_with (go_at_call 48; refine HE.out.mono ?_; rintro e w' ⟨rfl, u, rfl⟩)
        go_ret2
        refine ⟨?_, (HA5.out.trans HAR.out).then_lat _⟩
        have : ((List.range N).all fun n => heldB C.strikes noS (refL R) (overF F (begF (refL R))) (overF K fun _ => 0) (n : Nat)) = false := by
          rw [← HX.out, Bool.eq_false_iff]
          intro h
          have := List.all_eq_true.1 h k (List.mem_range.2 hkN)
          rw [HXK.out] at this
          cases this
        rw [this]
        rfl
      · have HXK := Lib.hid hx
        have hx2 : heldB C.strikes noS (refL R) (overF F (begF (refL R))) (overF K fun _ => 0) (k : Nat) = true := by rw [HX.out] at hx; exact hx
        rw [hx2] at HE
        clear hx hx2
        go_wp2_with (go_at_call 48; refine HE.out.mono ?_; rintro e w' ⟨rfl, u, rfl⟩)
        refine ⟨⟨k + 1, by go_num, by omega, fun j hj => ?_, HAR.out.then_lat _⟩, by simp [intOf]; omega⟩
        by_cases e : j < k
        · exact HAL.out j e
        · obtain rfl : k = j := by omega
          exact HXK.out
    · have t2 : decide (k < N) = false := by simpa using hkN
      obtain rfl : N = k := by omega
      clear hkN
      go_wp2_with fail
      go_ret2
      refine ⟨?_, HA5.out.trans HAR.out⟩
      have : ((List.range N).all fun n => heldB C.strikes noS (refL R) (overF F (begF (refL R))) (overF K fun _ => 0) (n : Nat)) = true := by
        rw [← HX.out]
        exact List.all_eq_true.2 fun j hj => HAL.out j (List.mem_range.1 hj)
      rw [this]
      rfl
end Go.Proofs
end

section
namespace Go
theorem wpList_load_midG {P : Program} {ops : Array Oper} {rest : List Oper} {op : Oper} {a : Act} {w : World} {Q : Exit → Act → World → Prop} (hw : Region.wanted op (yielded ops a.tmps) = true) (ty : TypeId) (x : Operand) (ho : op.op = .load ty x)
    (b o : Nat) (hx : a.eval x = .pointer (some ⟨b, o, none⟩)) (cs : List Value) (d : TypeDesc) (hc : w.rangeAt b o cs)
    (hu : P.underlying ty = some d) (hd : d.isRow = true) (hi : (P.info? ty).map (·.size) = some cs.length)
    (h : wpList P ops Q rest (a.put op.dst (.agg cs.toArray)) w) : wpList P ops Q (op :: rest) a w := by
  unfold wpList
  rw [if_pos hw]
  exact .inl (wp_load_mid ty x ho b o hx cs d hc hu hd hi h)
end Go
namespace Go.Proofs
open Go.RowKit
open Court (refL begF noS struckB nextR)
attribute [local go_sem] Oper.semAt_some


end Go.Proofs
end

section
namespace Go.Proofs
open Go.RowKit
open Court (refL begF noS struckB nextR strikeL)
attribute [local go_sem] Oper.semAt_some

structure Tri (W0 : World) (l : List Int) (n : Int) (iA iB iC sA sB sC : Nat) (done : Nat → Bool) (a : Act) (W : World) : Prop where
  aft : Aft W0 W
  rowA : done iA = true → done iC = false → W.ownsRow W0.heap.size 3 1 (a.eval (.tmp sA)) l.length (l.map (Value.int .i64))
  sliB : done iB = true → done iC = false → ∃ g, a.eval (.tmp sB) = .slice (some ⟨g, 0, none⟩) 1 1 ∧ g < W.heap.size ∧ W.cell? ⟨g, 0, none⟩ = some (.int .i64 n)
  rowC : done iC = true → W.ownsRow W0.heap.size 3 1 (a.eval (.tmp sC)) (l ++ [n]).length ((l ++ [n]).map (Value.int .i64))
  abc : done iC = true → done iA = true ∧ done iB = true
section
variable {W0 : World} {l : List Int} {n : Int} {iA iB iC sA sB sC : Nat} {done : Nat → Bool} {a : Act} {W W' : World}
theorem upd_ne {done : Nat → Bool} {i j : Nat} (h : j ≠ i) : upd done i j = done j := by simp [upd, h]
theorem upd_same {done : Nat → Bool} {i : Nat} : upd done i i = true := by simp [upd]
theorem Tri.start : Tri W0 l n iA iB iC sA sB sC (fun _ => false) a W0.drew :=
  ⟨Aft.drew _, (fun h => by cases h), (fun h => by cases h), (fun h => by cases h), (fun h => by cases h)⟩
theorem eval_ne {a : Act} {dst : Option Tmp} {v : Value} {s : Nat} (h : dst ≠ some s) : (a.put dst v).eval (.tmp s) = a.eval (.tmp s) :=
  Act.eval_put fun d hd e => by cases e; exact h hd
theorem cell_aft {W W' : World} {g i : Nat} {v : Value} (h : W.cell? ⟨g, i, none⟩ = some v) (hg : g < W.heap.size) (ha : Aft W W') : W'.cell? ⟨g, i, none⟩ = some v :=
  (World.cell?_of_block (a := ⟨g, i, none⟩) (ha.below.block g hg)).trans h
theorem Tri.keep (h : Tri W0 l n iA iB iC sA sB sC done a W) {i : Nat} {dst : Option Tmp} {v : Value} (ha : Aft W W') (hi : i ≠ iA ∧ i ≠ iB ∧ i ≠ iC) (hd : dst ≠ some sA ∧ dst ≠ some sB ∧ dst ≠ some sC) : Tri W0 l n iA iB iC sA sB sC (upd done i) (a.put dst v) W' := by
  obtain ⟨h1, h2, h3⟩ := hi
  refine ⟨h.aft.trans ha, fun p q => ?_, fun p q => ?_, fun p => ?_, fun p => ?_⟩
  · rw [upd_ne (Ne.symm h1)] at p; rw [upd_ne (Ne.symm h3)] at q
    rw [eval_ne hd.1]; exact own_aft (h.rowA p q) ha
  · rw [upd_ne (Ne.symm h2)] at p; rw [upd_ne (Ne.symm h3)] at q
    rw [eval_ne hd.2.1]
    obtain ⟨g, e1, e2, e3⟩ := h.sliB p q
    exact ⟨g, e1, Nat.lt_of_lt_of_le e2 ha.size, cell_aft e3 e2 ha⟩
  · rw [upd_ne (Ne.symm h3)] at p
    rw [eval_ne hd.2.2]; exact own_aft (h.rowC p) ha
  · rw [upd_ne (Ne.symm h3)] at p
    rw [upd_ne (Ne.symm h1), upd_ne (Ne.symm h2)]
    exact h.abc p
theorem Tri.stepA (h : Tri W0 l n iA iB iC sA sB sC done a W) (hA : done iA = false) {v : Value} (ha : Aft W W') (hr : W'.ownsRow W.heap.size 3 1 v l.length (l.map (Value.int .i64))) (hz : sA < a.tmps.size) (hi : iA ≠ iB ∧ iA ≠ iC) (hs : sA ≠ sB) : Tri W0 l n iA iB iC sA sB sC (upd done iA) (a.put (some sA) v) W' := by
  have hC : done iC = false := by
    cases e : done iC
    · rfl
    · rw [(h.abc e).1] at hA; cases hA
  refine ⟨h.aft.trans ha, fun p q => ?_, fun p q => ?_, fun p => ?_, fun p => ?_⟩
  · rw [Act.eval_put_same _ _ _ hz]; exact World.ownsRow.mono hr h.aft.size
  · rw [upd_ne (Ne.symm hi.1)] at p
    rw [eval_ne (fun e => hs (by cases e; rfl))]
    obtain ⟨g, e1, e2, e3⟩ := h.sliB p hC
    exact ⟨g, e1, Nat.lt_of_lt_of_le e2 ha.size, cell_aft e3 e2 ha⟩
  · rw [upd_ne (Ne.symm hi.2), hC] at p; cases p
  · rw [upd_ne (Ne.symm hi.2), hC] at p; cases p
theorem Tri.stepB (h : Tri W0 l n iA iB iC sA sB sC done a W) (hB : done iB = false) (hz : sB < a.tmps.size) (hi : iB ≠ iA ∧ iB ≠ iC) (hs : sB ≠ sA) : Tri W0 l n iA iB iC sA sB sC (upd done iB) (a.put (some sB) (.slice (some ⟨W.heap.size, 0, none⟩) 1 1)) (W.alloc (.cells #[.int .i64 n] 3)) := by
  have hC : done iC = false := by
    cases e : done iC
    · rfl
    · rw [(h.abc e).2] at hB; cases hB
  refine ⟨h.aft.then_alloc _, fun p q => ?_, fun p q => ?_, fun p => ?_, fun p => ?_⟩
  · rw [upd_ne (Ne.symm hi.1)] at p
    rw [eval_ne (fun e => hs (by cases e; rfl))]; exact own_aft (h.rowA p hC) (Aft.alloc _ _)
  · exact ⟨W.heap.size, Act.eval_put_same _ _ _ hz, by simp, cell_new1 _ _ _⟩
  · rw [upd_ne (Ne.symm hi.2), hC] at p; cases p
  · rw [upd_ne (Ne.symm hi.2), hC] at p; cases p
theorem Tri.stepC {o : Oper} {K : Act → World → Prop} {Q : Exit → Act → World → Prop} (h : Tri W0 l n iA iB iC sA sB sC done a W) (hA : done iA = true) (hB : done iB = true) (hC : done iC = false) (hi : iA ≠ iC ∧ iB ≠ iC) (ho : o.op = .call { callee := .builtin .append, args := #[.tmp sA, .tmp sB], argTypes := #[26, 26] }) (hd : o.dst = some sC) (hz : sC < a.tmps.size) (hl : l.length ≤ 1000000)
    (hn : ∀ y w', Tri W0 l n iA iB iC sA sB sC (upd done iC) (a.put o.dst y) w' → K (a.put o.dst y) w') : Oper.wp Try.prog o a W K Q := by
  obtain ⟨ht, ⟨i, z, hi', hz', hsize, hby, hzs⟩, hsz⟩ := ty24
  obtain ⟨g, e1, e2, e3⟩ := h.sliB hB hC
  obtain ⟨v', w', hr', h2, h3, _, h5⟩ := run_append_own_at (P := Try.prog) W W0.heap.size 26 o.type 3 i z 1 8 ht hi' hz' hsize hby hzs hsz (a.eval (.tmp sA)) l.length (l.map (Value.int .i64)) (h.rowA hA hC) ⟨g, 0, none⟩ 1 1 [.int .i64 n] rfl (fun j u hj => by
      match j, hj with
      | 0, hj => simp at hj; subst hj; rw [Addr.add_lit]; simpa using e3) (one_int n) (by unfold maxLen; omega) (by omega) h.aft.size
  unfold Oper.wp execOp
  simp only [ho, resolve, invoke, builtin, Sem.run_bind, Sem.run_pure, Result.andThen_ok, List.map_toArray, List.map_cons, List.map_nil, e1, hr', Oper.upon]
  refine hn v' w' ⟨h.aft.grown h3 (own_ge (h.rowA hA hC)), fun p q => ?_, fun p q => ?_, fun p => ?_, fun p => ?_⟩
  · rw [upd_same] at q; cases q
  · rw [upd_same] at q; cases q
  · rw [hd, Act.eval_put_same _ _ _ hz]; simpa using h2
  · rw [upd_ne hi.1, upd_ne hi.2]; exact ⟨hA, hB⟩
end
theorem list3 {α : Type} {us : List α} (h : us.length = 3) : ∃ x y z, us = [x, y, z] := by
  match us, h with
  | [x, y, z], _ => exact ⟨x, y, z, rfl⟩

theorem strikers_any (S : List (Int × Int)) (L : Int → Bool) (n : Int) : (strikers S noS n).any L = strikeL S L n := by
  unfold strikers strikeL
  rw [List.any_map, List.any_filter]
  congr 1
  funext s
  simp [noS]
theorem refL_one (n : Int) : refL [n] = fun x => decide (x = n) := by
  funext x
  unfold refL
  by_cases h : x = n <;> simp [h]

set_option maxRecDepth 100000 in
set_option maxHeartbeats 1000000 in
theorem full11_any (w0 w : World) (d : Nat) (C : CaseL) (a1 a2 : Option Addr) (c1 c2 : Nat) (ref : Int → Bool) (f r : Int → Nat) (hD : DeskAt w0 w d C a1 a2 c1 c2 ref noS f r) (b g n o : Nat) (hb : Blk w b 66 #[.pointer (some ⟨d, 0, none⟩)]) (hg : Blk w g 3 #[.int .i64 n]) (hn : n < 14) (ho : o < 14) (hS : ∀ s ∈ C.strikes, 0 ≤ s.1 ∧ s.1 < 14) :
    Calls Try.prog 75 #[.int .i64 o, .pointer (some ⟨b, 0, none⟩), .pointer (some ⟨g, 0, none⟩)] w fun e w' => e = .returned (.bool (strikeL C.strikes (fun x => decide (x = (n : Int))) o)) ∧ Aft w w' := by
  have H1 : Hid (∀ W, Aft w W → Calls Try.prog 74 #[.pointer (some ⟨d, 0, none⟩), .agg (mk (refL [(n : Int)])), .int .i64 o] W fun e w' => e = .returned (.bool (strikeL C.strikes (fun x => decide (x = (n : Int))) o)) ∧ Aft W w') := Lib.hid fun W h => by
    rw [← strikers_any, ← refL_one]
    exact strikes_any w0 W d C a1 a2 c1 c2 ref noS f r (hD.later h) (refL [(n : Int)]) o ho hS
  have H2 : Hid (∀ W, Aft (w.drew.alloc (.cells #[.int .i64 n] 3)) W → Calls Try.prog 73 #[.slice (some ⟨w.heap.size, 0, none⟩) 1 1] W (Marked [(n : Int)] W)) := Lib.hid fun W h => by
    have hi : Ints (w.drew.alloc (.cells #[.int .i64 n] 3)) (some ⟨w.heap.size, 0, none⟩) [(n : Int)] := ⟨by simp, .inr ⟨w.heap.size, 0, rfl, by simp, fun i hi => by
      have : i = 0 := by simp at hi; omega
      subst this
      exact ⟨_, rfl, rfl, fun j hj => by
        have : j = 0 := by simp at hj; omega
        subst this
        exact cell_new1 w.drew _ _⟩⟩⟩
    exact marked_any [(n : Int)] _ 1 W (hi.aft h) (fun x hx => by rw [List.mem_singleton] at hx; omega)
  have k0 : ∀ W, Aft w W → W.cell? ⟨b, 0, none⟩ = some (.pointer (some ⟨d, 0, none⟩)) := fun W h => (hb.aft h).cell 0
  have k1 : ∀ W, Aft w W → W.cell? ⟨g, 0, none⟩ = some (.int .i64 n) := fun W h => (hg.aft h).cell 0
  have HK0 := Lib.hid k0
  have HK1 := Lib.hid k1
  clear hD hS hb hg k0 k1
  go_enter Try.func75, Try.ntmps75
  go_upto_region 1 with (fail)
  refine wp_region_valsT (by kernel_rfl) 5 11 rfl (by kernel_rfl) (by kernel_rfl) (by kernel_rfl) [.pointer (some ⟨d, 0, none⟩), .int .i64 n, .slice (some ⟨w.heap.size, 0, none⟩) 1 1, .agg (mk (refL [(n : Int)])), .int .i64 o] rfl (fun done W => if done 2 = true then Aft (w.drew.alloc (.cells #[.int .i64 n] 3)) W else W = w.drew) (by simp) ?st1 ?fi1
  case st1 =>
    intro i o v ho hv
    match i, ho, hv with
    | 0, ho, hv =>
      cases ho; cases hv
      refine .inl ⟨rfl, fun done a W hd hp hk hw K hK => ?_⟩
      have e1 := hk.same 1 (by decide)
      have hA : Aft w W := by (split at hw; exact ((Aft.drew w).then_alloc _).trans hw; subst hw; exact Aft.drew w)
      have y0 := HK0.out W hA
      exact op_val (by simp [go_sem, ev' e1, y0]) (hK _ (by rw [upd_ne (by decide)]; exact hw))
    | 1, ho, hv =>
      cases ho; cases hv
      refine .inl ⟨rfl, fun done a W hd hp hk hw K hK => ?_⟩
      have e2 := hk.same 2 (by decide)
      have hA : Aft w W := by (split at hw; exact ((Aft.drew w).then_alloc _).trans hw; subst hw; exact Aft.drew w)
      have y0 := HK1.out W hA
      exact op_val (by simp [go_sem, ev' e2, y0]) (hK _ (by rw [upd_ne (by decide)]; exact hw))
    | 2, ho, hv =>
      cases ho; cases hv
      refine .inl ⟨rfl, fun done a W hd hp hk hw K hK => ?_⟩
      have e6 := hk.at_ 1 _ 6 _ rfl (by decide) _ rfl rfl rfl
      rw [hd] at hw
      simp only [Bool.false_eq_true, if_false] at hw
      subst hw
      exact op_valW (w' := w.drew.alloc (.cells #[.int .i64 n] 3)) (by simp [go_sem, ev' e6]) (hK _ (by rw [upd_same]; exact Aft.refl _))
    | 3, ho, hv =>
      cases ho; cases hv
      refine .inl ⟨rfl, fun done a W hd hp hk hw K hK => ?_⟩
      have e7 := hk.at_ 2 _ 7 _ rfl (by decide) _ rfl rfl rfl
      have h2 := hp 2 (by decide)
      rw [if_pos h2] at hw
      refine op_callN rfl rfl rfl _ rfl (vs := #[.slice (some ⟨w.heap.size, 0, none⟩) 1 1]) (by simp [e7]) (H2.out W hw) fun e w' h => ?_
      obtain ⟨rfl, ha⟩ := h
      exact ⟨_, rfl, hK _ (by rw [upd_ne (by decide), if_pos h2]; exact hw.trans ha)⟩
    | 4, ho, hv =>
      cases ho; cases hv
      refine .inl ⟨rfl, fun done a W hd hp hk hw K hK => ?_⟩
      have e0 := hk.same 0 (by decide)
      exact op_val (by simp [go_sem, ev' e0]) (hK _ (by rw [upd_ne (by decide)]; exact hw))
    | _ + 5, _, hv => cases hv
  intro done W hd hw
  simp only [List.drop_succ_cons, List.drop_zero, List.zip_cons_cons, List.zip_nil_right, putAll]
  simp only [Act.put, List.setIfInBounds_toArray, List.set]
  have hA : Aft w W := by
    rw [if_pos (hd 2 (by decide))] at hw
    exact ((Aft.drew w).then_alloc _).trans hw
  clear hw hd
  have HA := Lib.hid hA
  clear hA
  go_wp2_with (go_at_call 74; refine (H1.out _ HA.out).mono ?_; rintro e w' ⟨rfl, u, rfl⟩)
  go_ret
  exact ⟨rfl, HA.out.then_lat _⟩
end Go.Proofs
end

section
namespace Go.Proofs
open Go.RowKit
open Court (refL begF noS struckB nextR strikeL canB coverB grow)

structure Kp (W W' : World) : Prop where
  size : W.heap.size ≤ W'.heap.size
  same : ∀ (k : Nat) (cs : Array Value) (t : TypeId) (fz : Nat × Nat), W.heap[k]? = some (.cells cs t fz) → t ≠ 26 → t ≠ 23 → W'.heap[k]? = some (.cells cs t fz)
theorem Kp.trans {W W' W'' : World} (h : Kp W W') (k : Kp W' W'') : Kp W W'' := ⟨Nat.le_trans h.size k.size, fun i cs t fz h1 h2 h3 => k.same i cs t fz (h.same i cs t fz h1 h2 h3) h2 h3⟩
theorem Kp.of_aft {W W' : World} (h : Aft W W') : Kp W W' := ⟨h.size, fun k cs t fz h1 _ _ => (h.below.block k (Array.getElem?_eq_some_iff.1 h1).1).trans h1⟩
theorem Kp.of_grown {W W' : World} {row : Option Nat} (h : W.grownBy W' row) (hr : ∀ g, row = some g → g < W.heap.size → ∃ cs t fz, W.heap[g]? = some (.cells cs t fz) ∧ (t = 26 ∨ t = 23)) : Kp W W' :=
  ⟨h.size, fun k cs t fz h1 h2 h3 => by
    have hk := (Array.getElem?_eq_some_iff.1 h1).1
    by_cases e : row = some k
    · obtain ⟨cs', t', fz', h4, h5⟩ := hr k e hk
      rw [h1] at h4
      cases h4
      rcases h5 with h5 | h5
      · exact absurd h5 h2
      · exact absurd h5 h3
    · exact (h.block k hk (fun e2 => e e2.symm)).trans h1⟩
theorem Blk.kp {W W' : World} {g : Nat} {t : TypeId} {cs : Array Value} (h : Blk W g t cs) (hk : Kp W W') (h1 : t ≠ 26) (h2 : t ≠ 23) : Blk W' g t cs := hk.same _ _ _ _ h h1 h2
theorem own_kp {W W' : World} {base : Nat} {v : Value} {n : Nat} {xs : List Value} (h : W.ownsRow base 3 1 v n xs) (hk : Kp W W') : W'.ownsRow base 3 1 v n xs := by
  refine ⟨h.1, ?_⟩
  rcases h.2 with ⟨h1, h2⟩ | ⟨g, cap, cur, h1, h2, h3, h4⟩
  · exact .inl ⟨h1, h2⟩
  · exact .inr ⟨g, cap, cur, h1, h2, hk.same _ _ _ _ h3 (by decide) (by decide), h4⟩

def OutsV (W : World) (b : Nat) (v : Value) (vs : List Value) (ls : List (List Int)) : Prop := W.ownsRow b 26 1 v ls.length vs ∧ ∀ i, (h : i < ls.length) → (h' : i < vs.length) → W.ownsRow b 3 1 vs[i] ls[i].length (ls[i].map (Value.int .i64))
def Outs (W : World) (b : Nat) (v : Value) (ls : List (List Int)) : Prop := ∃ vs, OutsV W b v vs ls
theorem OutsV.len {W : World} {b : Nat} {v : Value} {vs : List Value} {ls : List (List Int)} (h : OutsV W b v vs ls) : vs.length = ls.length := by simpa using h.1.1
theorem Outs.nil (W : World) (b : Nat) : Outs W b (.slice none 0 0) [] := ⟨[], World.ownsRow_nil _ _ 26 1, fun i h => by simp at h⟩
theorem Outs.aft {W W' : World} {b : Nat} {v : Value} {ls : List (List Int)} (h : Outs W b v ls) (ha : Aft W W') : Outs W' b v ls :=
  let ⟨vs, h1, h2⟩ := h
  ⟨vs, own_aft h1 ha, fun i hi hi' => own_aft (h2 i hi hi') ha⟩
theorem Outs.form {W : World} {b : Nat} {v : Value} {ls : List (List Int)} (h : Outs W b v ls) : ∃ A c, v = .slice A ls.length c := by
  obtain ⟨vs, h1, _⟩ := h
  rcases h1.2 with ⟨rfl, h0⟩ | ⟨g, cap, cur, rfl, _⟩
  · exact ⟨none, 0, by rw [h0]⟩
  · exact ⟨_, _, rfl⟩
theorem Outs.lists {W : World} {b : Nat} {v : Value} {ls : List (List Int)} (h : Outs W b v ls) (hl : ls.length ≤ 17592186043904) (hr : ∀ l ∈ ls, l.length ≤ 17592186043904) : ∃ A c, v = .slice A ls.length c ∧ ls.length ≤ c ∧ Lists W A ls := by
  obtain ⟨vs, h1, h2⟩ := h
  have hlen : vs.length = ls.length := by simpa using h1.1
  rcases h1.2 with ⟨rfl, h0⟩ | ⟨g, cap, cur, rfl, hg, hh, hc, hm, hs, ht⟩
  · have : ls = [] := List.eq_nil_of_length_eq_zero h0
    subst this
    exact ⟨none, 0, rfl, Nat.le_refl _, by simp, .inl rfl⟩
  · refine ⟨_, cap, rfl, hc, by omega, .inr ⟨g, 0, rfl, (Array.getElem?_eq_some_iff.1 hh).1, fun i hi => ?_⟩⟩
    have hiv : i < vs.length := by rw [hlen]; exact hi
    obtain ⟨A, c, e, _, hi2⟩ := own_ints (h2 i hi hiv) (hr _ (List.getElem_mem hi))
    refine ⟨[vs[i]], rfl, ⟨A, c, by rw [e], hi2⟩, fun j hj => ?_⟩
    have := h1.cells (g := g) rfl i vs[i] (by simp [hiv])
    rw [Addr.add_lit] at this
    simp at hj
    subst hj
    simpa using this
theorem own33_block {W : World} {b : Nat} {v : Value} {n : Nat} {vs : List Value} (h : W.ownsRow b 26 1 v n vs) {g : Nat} (hg : v.ownBlock = some g) : ∃ cs, W.heap[g]? = some (.cells cs 26 (0, 0)) := by
  rcases h.2 with ⟨rfl, _⟩ | ⟨g', cap, cur, rfl, _, hh, _⟩
  · cases hg
  · cases hg; exact ⟨cur, hh⟩
theorem Outs.push {W W' : World} {b : Nat} {v v' r : Value} {vs : List Value} {ls : List (List Int)} {l : List Int} (h : OutsV W b v vs ls) (hr : W.ownsRow b 3 1 r l.length (l.map (Value.int .i64))) (hk : Kp W W') (hown : W'.ownsRow b 26 1 v' (ls.length + 1) (vs ++ [r])) : OutsV W' b v' (vs ++ [r]) (ls ++ [l]) := by
  refine ⟨by simpa using hown, fun i hi hi' => ?_⟩
  have hlen := h.len
  by_cases e : i < vs.length
  · have e' : i < ls.length := by omega
    rw [List.getElem_append_left e]
    simp only [List.getElem_append_left e']
    exact own_kp (h.2 i e' e) hk
  · have e2 : i = ls.length := by simp at hi; omega
    subst e2
    rw [List.getElem_append_right (by omega)]
    have : (ls ++ [l])[ls.length]'hi = l := by simp
    rw [this]
    simp only [hlen, Nat.sub_self, List.getElem_cons_zero]
    exact own_kp hr hk

theorem wpList_app_out {w : World} {ops : Array Oper} {rest : List Oper} {o : Oper} {a : Act} {Q : Exit → Act → World → Prop}
    (hgd : o.guard = none) (s x : Operand) (ho : o.op = .call { callee := .builtin .append, args := #[s, x], argTypes := #[23, 23] })
    {b : Nat} {v : Value} {ls : List (List Int)} (h : Outs w b v ls) (hbase : b ≤ w.heap.size) (hs : a.eval s = v)
    {r : Value} {l : List Int} {c g : Nat} (hx : a.eval x = .slice (some ⟨g, 0, none⟩) 1 c) (hb : w.cell? ⟨g, 0, none⟩ = some r)
    (hr : w.ownsRow b 3 1 r l.length (l.map (Value.int .i64))) (hl : ls.length ≤ 1000000)
    (hn : ∀ v' w', Outs w' b v' (ls ++ [l]) → Kp w w' → w.grownBy w' v.ownBlock → wpList Try.prog ops Q rest (a.put o.dst v') w') : wpList Try.prog ops Q (o :: rest) a w := by
  obtain ⟨ht, ⟨i, z, hi, hz, hsize, hby, hzs⟩, hsz⟩ := ty41
  obtain ⟨vs, hv⟩ := h
  refine wpList_append_own_at (w := w) hgd s x 23 ho b 26 i z 1 24 ht hi hz hsize hby hzs hsz v ls.length vs hs hv.1 ⟨g, 0, none⟩ 1 c [r] hx rfl (fun j u hj => ?_) (fun u hu => by rw [List.mem_singleton] at hu; subst hu; exact own_cell1 hr)
    (by unfold maxLen; omega) (by omega) hbase fun v' w' h2 h3 _ h5 => ?_
  · match j, hj with
    | 0, hj => simp at hj; subst hj; rw [Addr.add_lit]; simpa using hb
  · have hk : Kp w w' := Kp.of_grown h3 fun g' hg' _ => by
      obtain ⟨cs, hcs⟩ := own33_block hv.1 hg'
      exact ⟨cs, 26, _, hcs, .inl rfl⟩
    exact hn v' w' ⟨_, Outs.push hv hr hk h2⟩ hk h3

structure GI (w : World) (b d M : Nat) (acc : List (List Int)) (W : World) : Prop where
  aft : Aft w W
  ge : w.heap.size = b
  b0 : Blk W b 66 #[.pointer (some ⟨d, 0, none⟩)]
  b1 : Blk W (b + 1) 3 #[.int .i64 M]
  b2 : ∃ v, Blk W (b + 1 + 1) 23 #[v] ∧ Outs W b v acc
  b3 : Blk W (b + 1 + 1 + 1) 101 #[.func (.func 72) #[] #[.pointer (some ⟨b + 1 + 1, 0, none⟩), .pointer (some ⟨b + 1, 0, none⟩), .pointer (some ⟨b, 0, none⟩), .pointer (some ⟨b + 1 + 1 + 1, 0, none⟩)]]
theorem GI.later {w : World} {b d M : Nat} {acc : List (List Int)} {W W' : World} (h : GI w b d M acc W) (ha : Aft W W') : GI w b d M acc W' :=
  ⟨h.aft.trans ha, h.ge, h.b0.aft ha, h.b1.aft ha, let ⟨v, h1, h2⟩ := h.b2; ⟨v, h1.aft ha, h2.aft ha⟩, h.b3.aft ha⟩
def GrowR (w : World) (b d M : Nat) (acc : List (List Int)) (W : World) (e : Ending) (W' : World) : Prop := (∃ v, e = .returned v) ∧ GI w b d M acc W' ∧ Kp W W'
theorem take_full {α : Type} {M : Nat} {acc t : List α} (h : acc.length = M) : (acc ++ t).take M = acc := by subst h; exact List.take_left
end Go.Proofs
end

section
namespace Go.Proofs
open Go.RowKit
open Court (refL begF noS struckB nextR strikeL canB coverB grow)
attribute [local go_sem] Oper.semAt_some
theorem runs_106 (args : Array Value) (w : World) : (callFunc 75 args).run Try.prog w = .ok (.enter 75 args) w := by simp [go_sem]
theorem take_take_app {α : Type} (M : Nat) (x g : List α) : ((x.take M) ++ g).take M = (x ++ g).take M := by
  by_cases h : M ≤ x.length
  · rw [List.take_append_of_le_length (by rw [List.length_take]; omega), List.take_take, Nat.min_self, List.take_append_of_le_length h]
  · rw [List.take_of_length_le (by omega : x.length ≤ M)]
theorem GI.put {w : World} {b d M : Nat} {acc acc' : List (List Int)} {W W' : World} {v v' : Value} (h : GI w b d M acc W) (hk : Kp W W') (ha : Aft w W') (hv : Blk W' (b + 1 + 1) 23 #[v]) (ho : Outs W' b v' acc') :
    GI w b d M acc' (W'.setCell ⟨b + 1 + 1, 0, none⟩ v') ∧ Kp W' (W'.setCell ⟨b + 1 + 1, 0, none⟩ v') := by
  have hk2 : Kp W' (W'.setCell ⟨b + 1 + 1, 0, none⟩ v') := Kp.of_grown (grownBy_setCell' W' (b + 1 + 1) v') fun g hg _ => by
    cases hg
    exact ⟨_, 23, _, hv, .inr rfl⟩
  refine ⟨⟨ha.then_setCell (by have := h.ge; show w.heap.size ≤ b + 1 + 1; omega) _, h.ge, Blk.kp (Blk.kp h.b0 hk (by decide) (by decide)) hk2 (by decide) (by decide), Blk.kp (Blk.kp h.b1 hk (by decide) (by decide)) hk2 (by decide) (by decide), ⟨v', by have := hv.store 0 v'; simpa using this, ?_⟩, Blk.kp (Blk.kp h.b3 hk (by decide) (by decide)) hk2 (by decide) (by decide)⟩, hk2⟩
  obtain ⟨vs, h1, h2⟩ := ho
  refine ⟨vs, h1.kept (grownBy_setCell' W' (b + 1 + 1) v') ?_, fun i hi hi' => own_kp (h2 i hi hi') hk2⟩
  cases e : v'.ownBlock with
  | none => left; rfl
  | some g =>
    right
    intro e2
    cases e2
    obtain ⟨cs, hcs⟩ := own33_block h1 e
    unfold Blk at hv
    rw [hv] at hcs
    cases hcs

set_option maxRecDepth 100000 in
set_option maxHeartbeats 2000000 in
theorem grow_cap (w0 w : World) (b d M N : Nat) (C : CaseL) (a1 a2 : Option Addr) (c1 c2 : Nat) (ref : Int → Bool) (f r : Int → Nat) (HD0 : ∀ W, Aft w W → DeskAt w0 W d C a1 a2 c1 c2 ref noS f r) (hN : C.claims = N) (hN14 : N ≤ 14) (hS : ∀ s ∈ C.strikes, 0 ≤ s.1 ∧ s.1 < 14) (hM : M ≤ 1000000) (n : Nat) (l : List Int) (lv : Value) (acc : List (List Int)) (W : World) (hl : ∀ x ∈ l, 0 ≤ x ∧ x < 14) (hll : l.length ≤ n) (hrow : W.ownsRow b 3 1 lv l.length (l.map (Value.int .i64))) (hG : GI w b d M acc W) (hacc : M = acc.length) (hn : n ≤ 14) :
    Calls Try.prog 72 #[.int .i64 n, lv, .pointer (some ⟨b + 1 + 1, 0, none⟩), .pointer (some ⟨b + 1, 0, none⟩), .pointer (some ⟨b, 0, none⟩), .pointer (some ⟨b + 1 + 1 + 1, 0, none⟩)] W (GrowR w b d M (acc) W) := by
  have t1 : decide (M ≤ acc.length) = true := by simp; omega
  clear hacc
  obtain ⟨A, c, rfl, _, hA⟩ := own_ints hrow (by omega)
  have H1 : Hid (∀ W', Aft W W' → Calls Try.prog 73 #[.slice A l.length c] W' (Marked l W')) := Lib.hid fun W' h => marked_any l A c W' (hA.aft h) hl
  have HG0 := Lib.hid hG
  have HROW0 := Lib.hid hrow
  have HA0 := Lib.hid hA
  have HLL := Lib.hid hl
  clear hG hrow hA hl
  go_enter Try.func72, Try.ntmps72
  go_upto_region 2 with (first | (go_at_call 73; refine (H1.out _ (Aft.alloc _ _)).mono ?_; rintro e w1 ⟨rfl, ha1⟩; have HA1 := Lib.hid ha1; clear ha1) | (refine wpList_store_new rfl 72 (.tmp 8) (.tmp 11) rfl rfl rfl (by rw [info87, mk_size]) (by rw [mk_size]; rfl) (all_oneCell_toArray (mkL_one _)) ?_))
  have HA : Hid (Aft W (w1.alloc (.cells (mk (refL l)) 72))) := Lib.hid (((Aft.alloc W _).trans HA1.out).then_alloc _)
  have HB6 : Hid (Blk (w1.alloc (.cells (mk (refL l)) 72)) W.heap.size 3 #[.int .i64 n]) := Lib.hid (((Blk.new W 3 #[.int .i64 n]).aft HA1.out).alloc _)
  have HB8 : Hid (Blk (w1.alloc (.cells (mk (refL l)) 72)) w1.heap.size 72 (mk (refL l))) := Lib.hid (Blk.new w1 72 _)
  clear HA1 H1
  generalize w1.alloc (.cells (mk (refL l)) 72) = Wx at *
  generalize w1.heap.size = B8 at *
  generalize W.heap.size = B6 at *
  have HG := Lib.hid (HG0.out.later HA.out)
  have HROW := Lib.hid (own_aft HROW0.out HA.out)
  have HAI := Lib.hid (HA0.out.aft HA.out)
  clear HG0 HROW0 HA0
  obtain ⟨v, hbv, hov⟩ := HG.out.b2
  obtain ⟨Ao, co, rfl⟩ := hov.form
  have k2 : Wx.cell? ⟨b + 1 + 1, 0, none⟩ = some (.slice Ao acc.length co) := hbv.cell 0
  have k1 : Wx.cell? ⟨b + 1, 0, none⟩ = some (.int .i64 M) := HG.out.b1.cell 0
  have l2 := hbv.lt
  have l1 := HG.out.b1.lt
  have HOV := Lib.hid hov
  have HBV := Lib.hid hbv
  clear hbv hov
  go_wp2_with fail
  refine bodyPost_ret (v := .tuple #[]) (by simp [results, Try.results72, go_sem]) rfl ?_
  exact ⟨⟨_, rfl⟩, HG.out, Kp.of_aft HA.out⟩

set_option maxRecDepth 100000 in
set_option maxHeartbeats 4000000 in
theorem grow_leaf (w0 w : World) (b d M N : Nat) (C : CaseL) (a1 a2 : Option Addr) (c1 c2 : Nat) (ref : Int → Bool) (f r : Int → Nat) (HD0 : ∀ W, Aft w W → DeskAt w0 W d C a1 a2 c1 c2 ref noS f r) (hN : C.claims = N) (hN14 : N ≤ 14) (hS : ∀ s ∈ C.strikes, 0 ≤ s.1 ∧ s.1 < 14) (hM : M ≤ 1000000) (n : Nat) (l : List Int) (lv : Value) (acc : List (List Int)) (W : World) (hl : ∀ x ∈ l, 0 ≤ x ∧ x < 14) (hll : l.length ≤ n) (hrow : W.ownsRow b 3 1 lv l.length (l.map (Value.int .i64))) (hG : GI w b d M acc W) (hacc : acc.length < M) (hn : n = N) :
    Calls Try.prog 72 #[.int .i64 n, lv, .pointer (some ⟨b + 1 + 1, 0, none⟩), .pointer (some ⟨b + 1, 0, none⟩), .pointer (some ⟨b, 0, none⟩), .pointer (some ⟨b + 1 + 1 + 1, 0, none⟩)] W (GrowR w b d M (acc ++ if coverB C.strikes ref N l then [l] else []) W) := by
  have t1 : decide (M ≤ acc.length) = false := by simp; omega
  have t2 : decide (n < N) = false := by simp; omega
  have hn' : n ≤ 14 := by omega
  have ha' : acc.length ≤ 1000000 := by omega
  clear hn hacc
  obtain ⟨T, hT⟩ : ∃ T, (acc ++ if coverB C.strikes ref N l then [l] else []) = T := ⟨_, rfl⟩
  rw [hT]
  have HT := Lib.hid hT
  clear hT
  obtain ⟨A, c, rfl, _, hA⟩ := own_ints hrow (by omega)
  have H1 : Hid (∀ W', Aft W W' → Calls Try.prog 73 #[.slice A l.length c] W' (Marked l W')) := Lib.hid fun W' h => marked_any l A c W' (hA.aft h) hl
  have HG0 := Lib.hid hG
  have HROW0 := Lib.hid hrow
  have HA0 := Lib.hid hA
  have HLL := Lib.hid hl
  clear hG hrow hA hl
  go_enter Try.func72, Try.ntmps72
  go_upto_region 2 with (first | (go_at_call 73; refine (H1.out _ (Aft.alloc _ _)).mono ?_; rintro e w1 ⟨rfl, ha1⟩; have HA1 := Lib.hid ha1; clear ha1) | (refine wpList_store_new rfl 72 (.tmp 8) (.tmp 11) rfl rfl rfl (by rw [info87, mk_size]) (by rw [mk_size]; rfl) (all_oneCell_toArray (mkL_one _)) ?_))
  have HA : Hid (Aft W (w1.alloc (.cells (mk (refL l)) 72))) := Lib.hid (((Aft.alloc W _).trans HA1.out).then_alloc _)
  have HB6 : Hid (Blk (w1.alloc (.cells (mk (refL l)) 72)) W.heap.size 3 #[.int .i64 n]) := Lib.hid (((Blk.new W 3 #[.int .i64 n]).aft HA1.out).alloc _)
  have HB8 : Hid (Blk (w1.alloc (.cells (mk (refL l)) 72)) w1.heap.size 72 (mk (refL l))) := Lib.hid (Blk.new w1 72 _)
  clear HA1 H1
  generalize w1.alloc (.cells (mk (refL l)) 72) = Wx at *
  generalize w1.heap.size = B8 at *
  generalize W.heap.size = B6 at *
  have HG := Lib.hid (HG0.out.later HA.out)
  have HROW := Lib.hid (own_aft HROW0.out HA.out)
  have HAI := Lib.hid (HA0.out.aft HA.out)
  clear HG0 HROW0 HA0
  obtain ⟨v, hbv, hov⟩ := HG.out.b2
  obtain ⟨Ao, co, rfl⟩ := hov.form
  have k2 : Wx.cell? ⟨b + 1 + 1, 0, none⟩ = some (.slice Ao acc.length co) := hbv.cell 0
  have k1 : Wx.cell? ⟨b + 1, 0, none⟩ = some (.int .i64 M) := HG.out.b1.cell 0
  have l2 := hbv.lt
  have l1 := HG.out.b1.lt
  have HOV := Lib.hid hov
  have HBV := Lib.hid hbv
  clear hbv hov
  have HDX : Hid (∀ W', Aft Wx W' → DeskAt w0 W' d C a1 a2 c1 c2 ref noS f r) := Lib.hid fun W' h => HD0 W' (HG.out.aft.trans h)
  have HN := Lib.hid hN
  have HK : Hid (∀ W' (k : Nat), Aft Wx W' → k < 14 → Calls Try.prog 74 #[.pointer (some ⟨d, 0, none⟩), .agg (mk (refL l)), .int .i64 k] W' fun e w' => e = .returned (.bool (strikeL C.strikes (refL l) k)) ∧ Aft W' w') := Lib.hid fun W' k h hk => by
    rw [← strikers_any]
    exact strikes_any w0 W' d C a1 a2 c1 c2 ref noS f r (HDX.out W' h) (refL l) k hk hS
  clear hN HD0 hS
  have HC0 : Hid (∀ W', Aft Wx W' → W'.cell? ⟨b, 0, none⟩ = some (.pointer (some ⟨d, 0, none⟩))) := Lib.hid fun W' h => (HG.out.b0.aft h).cell 0
  have HC6 : Hid (∀ W', Aft Wx W' → W'.cell? ⟨B6, 0, none⟩ = some (.int .i64 n)) := Lib.hid fun W' h => (HB6.out.aft h).cell 0
  have HCN : Hid (∀ W', Aft Wx W' → W'.cell? ⟨d, 0, none⟩ = some (.int .i64 N)) := Lib.hid fun W' h => by rw [← HN.out]; exact (HDX.out W' h).k0
  go_upto_region 3 with (fail)
  clear k1 k2
  refine wp_region_valsT (by kernel_rfl) 6 94 rfl (by kernel_rfl) (by kernel_rfl) (by kernel_rfl) [.int .i64 n, .pointer (some ⟨d, 0, none⟩), .pointer (some ⟨d, 0, none⟩), .pointer (some ⟨d, 0, none⟩), .pointer (some ⟨d, 0, none⟩), .int .i64 N] rfl (fun _ W' => W' = Wx.drew) (rfl) ?st1 ?fi1
  case st1 =>
    intro i o v ho hv
    match i, ho, hv with
    | 0, ho, hv =>
      cases ho; cases hv
      refine .inl ⟨rfl, fun done a W hd hp hk hw K hK => ?_⟩
      have e6 := hk.same 6 (by decide)
      exact op_val (by simp [go_sem, ev' e6, HC6.out W (hw ▸ Aft.drew Wx)]) (hK _ hw)
    | 1, ho, hv =>
      cases ho; cases hv
      refine .inl ⟨rfl, fun done a W hd hp hk hw K hK => ?_⟩
      have e4 := hk.same 4 (by decide)
      exact op_val (by simp [go_sem, ev' e4, HC0.out W (hw ▸ Aft.drew Wx)]) (hK _ hw)
    | 2, ho, hv =>
      cases ho; cases hv
      refine .inl ⟨rfl, fun done a W hd hp hk hw K hK => ?_⟩
      have e17 := hk.at_ 1 _ 17 _ rfl (by decide) _ rfl rfl rfl
      exact op_val (by simp [go_sem, ev' e17]) (hK _ hw)
    | 3, ho, hv =>
      cases ho; cases hv
      refine .inl ⟨rfl, fun done a W hd hp hk hw K hK => ?_⟩
      have e18 := hk.at_ 2 _ 18 _ rfl (by decide) _ rfl rfl rfl
      exact op_val (by simp [go_sem, ev' e18]) (hK _ hw)
    | 4, ho, hv =>
      cases ho; cases hv
      refine .inl ⟨rfl, fun done a W hd hp hk hw K hK => ?_⟩
      have e19 := hk.at_ 3 _ 19 _ rfl (by decide) _ rfl rfl rfl
      exact op_val (by simp [go_sem, ev' e19]) (hK _ hw)
    | 5, ho, hv =>
      cases ho; cases hv
      refine .inl ⟨rfl, fun done a W hd hp hk hw K hK => ?_⟩
      have e20 := hk.at_ 4 _ 20 _ rfl (by decide) _ rfl rfl rfl
      exact op_val (by simp [go_sem, ev' e20, HCN.out W (hw ▸ Aft.drew Wx)]) (hK _ hw)
    | _ + 6, _, hv => cases hv
  intro done W hd hw
  simp only [List.drop_succ_cons, List.drop_zero, List.zip_cons_cons, List.zip_nil_right, putAll]
  simp only [Act.put, List.setIfInBounds_toArray, List.set]
  clear hd
  subst hw
  have q0 := HC0.out _ (Aft.drew Wx)
  have q1 := HCN.out _ (Aft.drew Wx)
  have q2 := (HDX.out _ (Aft.drew Wx)).lt
  have q3 := (HG.out.b0.aft (Aft.drew Wx)).lt
  go_upto_block 0 with (fail)
  clear q0 q1 q2 q3
  have HDR := Lib.hid (Aft.drew Wx)
  generalize Wx.drew = Wy at *
  refine wp_block ?_
  go_loopw [66] (fun i wr => ∃ k : Nat, i = .int .i64 k ∧ k ≤ N ∧ (∀ j : Nat, j < k → (l.contains (j : Int) || ref j || strikeL C.strikes (refL l) j) = true) ∧ Aft Wy wr) (fun i _ => N - (intOf i).toNat)
  case atStart => exact ⟨0, rfl, by omega, fun j hj => absurd hj (Nat.not_lt_zero _), Aft.refl _⟩
  case round =>
    obtain ⟨k, rfl, hk, hall, har⟩ := hrel
    have HAL := Lib.hid hall
    have HAR := Lib.hid (HDR.out.trans har)
    have HAY := Lib.hid har
    clear hall har
    by_cases hkN : k < N
    · have t3 : decide (k < N) = true := by simpa using hkN
      have hk14 : k < 14 := by omega
      have i1 : (0 : Int) ≤ (k : Int) ∧ (k : Int) < 14 := by omega
      have q0 : wr.cell? ⟨B8, k, none⟩ = some (.bool (l.contains (k : Int))) := ((HB8.out.aft HAR.out).cell k).trans (mk_get _ hk14)
      have q1 := HC0.out _ HAR.out
      have q2 := (HDX.out _ HAR.out).rf hk14
      have q3 := (HDX.out _ HAR.out).lt
      have q4 := (HG.out.b0.aft HAR.out).lt
      have q5 := (HB8.out.aft HAR.out).lt
      have NX : Hid ((l.contains (k : Int) || ref k || strikeL C.strikes (refL l) k) = true → ∀ j : Nat, j < k + 1 → (l.contains (j : Int) || ref j || strikeL C.strikes (refL l) j) = true) := Lib.hid fun h j hj => by
        by_cases e : j < k
        · exact HAL.out j e
        · obtain rfl : j = k := by omega
          exact h
      have HR8 := Lib.hid (blk_range (HB8.out.aft HAR.out))
      cases hc : l.contains (k : Int)
      · rw [hc] at q0
        have HC := Lib.hid hc
        clear hc
        cases hr : ref k
        · rw [hr] at q2
          have HR := Lib.hid hr
          clear hr
          have HKK := Lib.hid (HK.out wr k HAR.out hk14)
          cases hs : strikeL C.strikes (refL l) k
          all_goals
            rw [hs] at HKK
            have HSK := Lib.hid hs
            clear hs
            go_wp2_with (first | (refine wpList_load_midG (by rfl) 72 (.tmp 8) rfl B8 0 rfl (mkL (refL l)) _ HR8.out Try.underlying72 rfl (by rw [info87, mkL_len]) ?_) | (go_at_call 74; refine HKK.out.mono ?_; rintro e w6 ⟨rfl, ha6⟩; have HA6 := Lib.hid ha6; clear ha6))
          · refine bodyPost_ret (v := .tuple #[]) (by simp [results, Try.results72, go_sem]) rfl ?_
            have hcv : coverB C.strikes ref N l = false := by
              rw [Bool.eq_false_iff]
              intro h
              have := List.all_eq_true.1 h k (List.mem_range.2 hkN)
              rw [HC.out, HR.out] at this
              have e : strikeL C.strikes (fun x => l.contains x) k = false := HSK.out
              rw [e] at this
              cases this
            rw [← HT.out, hcv, if_neg (by decide), List.append_nil]
            exact ⟨⟨_, rfl⟩, (HG.out.later HAR.out).later HA6.out, Kp.of_aft ((HA.out.trans HAR.out).trans HA6.out)⟩
          · refine ⟨⟨k + 1, by go_num, by omega, NX.out (by rw [HSK.out, Bool.or_true]), HAY.out.trans HA6.out⟩, by simp [intOf]; omega⟩
        · rw [hr] at q2
          have HR := Lib.hid hr
          clear hr
          go_wp2_with fail
          refine ⟨⟨k + 1, by go_num, by omega, NX.out (by rw [HR.out, Bool.or_true, Bool.true_or]), HAY.out⟩, by simp [intOf]; omega⟩
      · rw [hc] at q0
        have HC := Lib.hid hc
        clear hc
        go_wp2_with fail
        refine ⟨⟨k + 1, by go_num, by omega, NX.out (by rw [HC.out, Bool.true_or, Bool.true_or]), HAY.out⟩, by simp [intOf]; omega⟩
    · have t3 : decide (k < N) = false := by simpa using hkN
      obtain rfl : N = k := by omega
      have hcv : coverB C.strikes ref N l = true := List.all_eq_true.2 fun j hj => HAL.out j (List.mem_range.1 hj)
      have HT2 : Hid (acc ++ [l] = T) := Lib.hid (by rw [← HT.out, hcv, if_pos rfl])
      clear hkN hcv HT
      have q0 : wr.cell? ⟨b + 1 + 1, 0, none⟩ = some (.slice Ao acc.length co) := (HBV.out.aft HAR.out).cell 0
      have q1 := (HBV.out.aft HAR.out).lt
      have HBW := Lib.hid ((HBV.out.aft HAR.out).alloc (.cells #[.slice A l.length c] 26))
      have HOW := Lib.hid ((HOV.out.aft HAR.out).aft (Aft.alloc wr (.cells #[.slice A l.length c] 26)))
      have HRW := Lib.hid (own_aft (HROW.out) (HAR.out.then_alloc (.cells #[.slice A l.length c] 26)))
      have hbase : b ≤ (wr.alloc (.cells #[.slice A l.length c] 26)).heap.size := by simp; omega
      have HNE : Hid (some (b + 1 + 1) ≠ (Value.slice Ao acc.length co).ownBlock) := Lib.hid fun e => by
        obtain ⟨vs, hv, _⟩ := HOW.out
        obtain ⟨cs, hcs⟩ := own33_block hv e.symm
        have h8 := HBW.out
        unfold Blk at h8
        rw [h8] at hcs
        cases hcs
      go_wp2_with (at_builtin; refine wpList_app_out rfl _ _ rfl HOW.out hbase rfl rfl (cell_new1 _ _ _) HRW.out (by omega) ?_; intro v' w7 ho7 hk7 hg7; obtain ⟨A7, c7, rfl⟩ := ho7.form; have HO7 := Lib.hid ho7; have HK7 := Lib.hid hk7; have HG7 := Lib.hid hg7; have y0 := HBW.out.grown hg7 HNE.out; have HB7 := Lib.hid y0; have z1 := y0.cell 0; have z2 := y0.frozen 0; have z3 := y0.lt)
      have hge := HG.out.ge
      have HW7 : Aft w w7 := ((HG.out.aft.trans HAR.out).then_alloc _).grown HG7.out (fun g hg => by obtain ⟨vs, hv, _⟩ := HOW.out; have := own_ge hv g hg; omega)
      obtain ⟨p1, p2⟩ := GI.put (HG.out.later (HAR.out.then_alloc (.cells #[.slice A l.length c] 26))) HK7.out HW7 HB7.out HO7.out
      rw [show (acc ++ [l]).length = acc.length + 1 by simp] at p1 p2
      go_end0
      rw [← HT2.out]
      exact ⟨⟨_, rfl⟩, p1, ((Kp.of_aft (HA.out.trans (HAR.out.then_alloc _))).trans HK7.out).trans p2⟩
end Go.Proofs
end
