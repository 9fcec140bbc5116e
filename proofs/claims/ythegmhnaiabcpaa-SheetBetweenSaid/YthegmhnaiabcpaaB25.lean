/- Own texts, merged: Vg Vh0 Vh1. -/
import Derived.Test.YthegmhnaiabcpaaB24
import Derived.BigGuard
set_option linter.unusedSimpArgs false
set_option linter.unusedVariables false
set_option linter.unnecessarySimpa false
section
/- Walks: lies. -/
namespace Go.Proofs
open Go.RowKit
attribute [local go_sem] Oper.semAt_some

/-- Two fractions that are laid, in whatever order. -/
structure Ly2 (W0 : World) (sa : Int × Int) (done : Nat → Bool) (a : Act) (W : World) : Prop where
  aft : Aft W0 W
  late : done 24 = true → done 22 = true
  x : done 22 = true → ∃ b, a.eval (.tmp 9) = .pointer (some ⟨b, 0, none⟩) ∧ W0.heap.size ≤ b ∧ Blk W b 37 (if done 24 = true then encM sa else zer2)
  y : done 23 = true → ∃ b, a.eval (.tmp 10) = .pointer (some ⟨b, 0, none⟩) ∧ W0.heap.size ≤ b ∧ Blk W b 37 zer2 ∧ (done 22 = true → a.eval (.tmp 9) ≠ .pointer (some ⟨b, 0, none⟩))
section
variable {W0 W W' : World} {sa : Int × Int} {done : Nat → Bool} {a : Act}
theorem Ly2.start : Ly2 W0 sa (fun _ => false) a W0.drew := ⟨Aft.drew _, (fun h => h), (fun h => by cases h), (fun h => by cases h)⟩
theorem Ly2.keep (h : Ly2 W0 sa done a W) (ha : Aft W W') {i : Nat} {dst : Option Tmp} {v : Value} (hi : i ≠ 22 ∧ i ≠ 23 ∧ i ≠ 24) (hd : dst ≠ some 9 ∧ dst ≠ some 10) : Ly2 W0 sa (Go.upd done i) (a.put dst v) W' := by
  refine ⟨h.aft.trans ha, fun p => ?_, fun p => ?_, fun p => ?_⟩
  · rw [upd_ne' (Ne.symm hi.2.2)] at p
    rw [upd_ne' (Ne.symm hi.1)]
    exact h.late p
  · rw [upd_ne' (Ne.symm hi.1)] at p
    rw [upd_ne' (Ne.symm hi.2.2)]
    obtain ⟨b, e, hs, hb⟩ := h.x p
    exact ⟨b, by rw [evne hd.1]; exact e, hs, hb.aft ha⟩
  · rw [upd_ne' (Ne.symm hi.2.1)] at p
    rw [upd_ne' (Ne.symm hi.1)]
    obtain ⟨b, e, hs, ht, hu⟩ := h.y p
    exact ⟨b, by rw [evne hd.2]; exact e, hs, ht.aft ha, by rw [evne hd.1]; exact hu⟩
theorem Ly2.step22 (h : Ly2 W0 sa done a W) (hz : 9 < a.tmps.size) (h10 : done 22 = false) : Ly2 W0 sa (Go.upd done 22) (a.put (some 9) (.pointer (some ⟨W.heap.size, 0, none⟩))) (W.alloc (.cells zer2 37)) := by
  have h12 : done 24 = false := by
    cases e : done 24
    · rfl
    · rw [h.late e] at h10; cases h10
  refine ⟨h.aft.then_alloc _, fun _ => upd_same' .., fun p => ⟨W.heap.size, Act.eval_put_same _ _ _ hz, h.aft.size, by rw [upd_ne' (by decide), h12]; exact Blk.new _ _ _⟩, fun p => ?_⟩
  rw [upd_ne' (by decide)] at p
  obtain ⟨b, e, hs, ht, hu⟩ := h.y p
  refine ⟨b, by rw [evne (by decide)]; exact e, hs, ht.alloc _, fun _ => ?_⟩
  rw [Act.eval_put_same _ _ _ hz]
  intro e2
  have := ht.lt
  cases e2
  omega
theorem Ly2.step23 (h : Ly2 W0 sa done a W) (hz : 10 < a.tmps.size) : Ly2 W0 sa (Go.upd done 23) (a.put (some 10) (.pointer (some ⟨W.heap.size, 0, none⟩))) (W.alloc (.cells zer2 37)) := by
  refine ⟨h.aft.then_alloc _, fun p => ?_, fun p => ?_, fun p => ⟨W.heap.size, Act.eval_put_same _ _ _ hz, h.aft.size, Blk.new _ _ _, fun p => ?_⟩⟩
  · rw [upd_ne' (by decide)] at p
    rw [upd_ne' (by decide)]
    exact h.late p
  · rw [upd_ne' (by decide)] at p
    obtain ⟨b, e, hs, ht⟩ := h.x p
    exact ⟨b, by rw [evne (by decide)]; exact e, hs, by rw [upd_ne' (by decide)]; exact ht.alloc _⟩
  · rw [upd_ne' (by decide)] at p
    obtain ⟨b, e, hs, ht⟩ := h.x p
    rw [evne (by decide), e]
    intro e2
    have := ht.lt
    cases e2
    omega
theorem Ly2.step24 (h : Ly2 W0 sa done a W) {b : Nat} (hb : a.eval (.tmp 9) = .pointer (some ⟨b, 0, none⟩)) (h10 : done 22 = true) (h12 : done 24 = false) {dst : Option Tmp} {v : Value} (hd : dst = none) :
    Ly2 W0 sa (Go.upd done 24) (a.put dst v) ((W.setCell ⟨b, 0, none⟩ (.int .i64 sa.1)).setCell ⟨b, 1, none⟩ (.int .i64 sa.2)) := by
  subst hd
  obtain ⟨b', e, hs, ht⟩ := h.x h10
  rw [hb] at e
  cases e
  rw [h12, if_neg (by decide)] at ht
  refine ⟨(h.aft.then_setCell (p := ⟨b, 0, none⟩) hs _).then_setCell (p := ⟨b, 1, none⟩) hs _, fun _ => by rw [upd_ne' (by decide)]; exact h10, fun p => ⟨b, hb, hs, ?_⟩, fun p => ?_⟩
  · rw [upd_same', if_pos rfl]
    exact (ht.store 0 _).store 1 _
  · rw [upd_ne' (by decide)] at p
    rw [upd_ne' (by decide)]
    obtain ⟨c, e, hs2, ht2, hu⟩ := h.y p
    have hne : c ≠ b := fun e2 => hu h10 (by rw [hb, e2])
    exact ⟨c, e, hs2, (ht2.far (p := ⟨b, 0, none⟩) hne _).far (p := ⟨b, 1, none⟩) hne _, hu⟩
end


set_option maxRecDepth 100000 in
set_option maxHeartbeats 4000000 in
theorem lies_any (aa ab ax ay ba bb bx by_ xa xb xx xy ya yb yx yy uN uD vN vD : Int) (w : World)
    (h1 : -1000000000000000 ≤ aa ∧ aa ≤ 1000000000000000) (h2 : -1000000000000000 ≤ ax ∧ ax ≤ 1000000000000000)
    (hS : ∀ W, Calls Try.prog 40 #[.agg #[.int .i64 ba, .int .i64 bb], .agg #[.int .i64 (-aa), .int .i64 ab]] W fun e w' => e = .returned (.agg #[.int .i64 uN, .int .i64 uD]) ∧ Aft W w') (hT : ∀ W, Calls Try.prog 40 #[.agg #[.int .i64 bx, .int .i64 by_], .agg #[.int .i64 (-ax), .int .i64 ay]] W fun e w' => e = .returned (.agg #[.int .i64 vN, .int .i64 vD]) ∧ Aft W w')
    (hu : 0 < uD) (hv : 0 < vD)
    (l1 : ∀ W, Calls Try.prog 13 #[.agg #[.int .i64 xa, .int .i64 xb], .agg #[.int .i64 uN, .int .i64 uD]] W fun e w' => e = .returned (.bool true) ∧ Aft W w') (l2 : ∀ W, Calls Try.prog 13 #[.agg #[.int .i64 uN, .int .i64 uD], .agg #[.int .i64 xx, .int .i64 xy]] W fun e w' => e = .returned (.bool true) ∧ Aft W w')
    (l3 : ∀ W, Calls Try.prog 13 #[.agg #[.int .i64 ya, .int .i64 yb], .agg #[.int .i64 vN, .int .i64 vD]] W fun e w' => e = .returned (.bool true) ∧ Aft W w') (l4 : ∀ W, Calls Try.prog 13 #[.agg #[.int .i64 vN, .int .i64 vD], .agg #[.int .i64 yx, .int .i64 yy]] W fun e w' => e = .returned (.bool true) ∧ Aft W w') :
    Calls Try.prog 39 #[.agg #[.int .i64 aa, .int .i64 ab, .int .i64 ax, .int .i64 ay], .agg #[.int .i64 ba, .int .i64 bb, .int .i64 bx, .int .i64 by_], .agg #[.int .i64 xa, .int .i64 xb, .int .i64 xx, .int .i64 xy], .agg #[.int .i64 ya, .int .i64 yb, .int .i64 yx, .int .i64 yy]] w fun e w' => e = .returned (.bool true) ∧ Aft w w' := by
  obtain ⟨s, hs⟩ : ∃ s, w.heap.size = s := ⟨_, rfl⟩
  have F0 := (((Fr.start w).alloc rfl 93 #[.int .i64 aa, .int .i64 ab, .int .i64 ax, .int .i64 ay]).alloc (by simp) 93 #[.int .i64 ba, .int .i64 bb, .int .i64 bx, .int .i64 by_]).alloc (by simp) 43 #[.int .i64 xa, .int .i64 xb, .int .i64 xx, .int .i64 xy] |>.alloc (by simp) 43 #[.int .i64 ya, .int .i64 yb, .int .i64 yx, .int .i64 yy]
  simp only [List.nil_append, List.cons_append] at F0
  rw [hs] at F0
  have HF := Lib.hid F0
  obtain ⟨na, hna⟩ : ∃ v, -aa = v := ⟨_, rfl⟩
  obtain ⟨nx, hnx⟩ : ∃ v, -ax = v := ⟨_, rfl⟩
  have wna : IntKind.i64.wrap (-aa) = na := by rw [← hna]; exact IntWalk.i64_in _ (by omega)
  have wnx : IntKind.i64.wrap (-ax) = nx := by rw [← hnx]; exact IntWalk.i64_in _ (by omega)
  rw [hna] at hS
  rw [hnx] at hT
  have HSu := Lib.hid hS
  have HSv := Lib.hid hT
  have L1 := Lib.hid l1
  have L2 := Lib.hid l2
  have L3 := Lib.hid l3
  have L4 := Lib.hid l4
  have tu : decide (0 < uD) = true := by simpa using hu
  have tv : decide (0 < vD) = true := by simpa using hv
  clear F0 hS hT l1 l2 l3 l4 hu hv hna hnx h1 h2
  go_enter Try.func39, Try.ntmps39
  go_upto_region 1 with fail
  try rw [hs]
  generalize (((w.alloc (.cells #[.int .i64 aa, .int .i64 ab, .int .i64 ax, .int .i64 ay] 93)).alloc (.cells #[.int .i64 ba, .int .i64 bb, .int .i64 bx, .int .i64 by_] 93)).alloc (.cells #[.int .i64 xa, .int .i64 xb, .int .i64 xx, .int .i64 xy] 43)).alloc (.cells #[.int .i64 ya, .int .i64 yb, .int .i64 yx, .int .i64 yy] 43) = W1 at *
  refine wp_region_valsU (by kernel_rfl) 25 65 rfl (by kernel_rfl) (by kernel_rfl) [some (.pointer (some ⟨s + 1, 0, none⟩)), some (.agg #[.int .i64 ba, .int .i64 bb]), some (.pointer (some ⟨s, 0, none⟩)), some (.pointer (some ⟨s, 0, none⟩)), some (.int .i64 aa), some (.int .i64 na), some (.pointer (some ⟨s, 0, none⟩)), some (.pointer (some ⟨s, 1, none⟩)), some (.int .i64 ab), some (.agg #[.int .i64 na, .int .i64 ab]), some (.agg #[.int .i64 uN, .int .i64 uD]), some (.pointer (some ⟨s + 1, 2, none⟩)), some (.agg #[.int .i64 bx, .int .i64 by_]), some (.pointer (some ⟨s, 2, none⟩)), some (.pointer (some ⟨s, 2, none⟩)), some (.int .i64 ax), some (.int .i64 nx), some (.pointer (some ⟨s, 2, none⟩)), some (.pointer (some ⟨s, 3, none⟩)), some (.int .i64 ay), some (.agg #[.int .i64 nx, .int .i64 ay]), some (.agg #[.int .i64 vN, .int .i64 vD]), none, none, some undef] (by kernel_rfl) rfl (Ly2 W1 (uN, uD)) (Ly2.start) ?st1 ?fi1
  case st1 =>
    intro i o v ho hv
    match i, ho, hv with
    | 0, ho, hv =>
      cases ho; cases hv
      refine .inl ⟨rfl, fun done a W hz hd hp hk hw K hK => ?_⟩
      have e5 := hk.same 5 (by decide)
      exact op_val (v := .pointer (some ⟨s + 1, 0, none⟩)) (by simp [go_sem, ev' e5]) (hK _ _ (fun u hu => by cases hu; rfl) (hw.keep (Aft.refl _) (by decide) (by decide)))
    | 1, ho, hv =>
      cases ho; cases hv
      refine .inl ⟨rfl, fun done a W hz hd hp hk hw K hK => ?_⟩
      have e11 := hk.at_ 0 _ 11 _ rfl (by decide) _ rfl rfl rfl
      exact op_val (v := .agg #[.int .i64 ba, .int .i64 bb]) (by simp [go_sem, ev' e11, (HF.out.nth 1 rfl |>.aft hw.aft).cell 0, (HF.out.nth 1 rfl |>.aft hw.aft).cell 1]) (hK _ _ (fun u hu => by cases hu; rfl) (hw.keep (Aft.refl _) (by decide) (by decide)))
    | 2, ho, hv =>
      cases ho; cases hv
      refine .inl ⟨rfl, fun done a W hz hd hp hk hw K hK => ?_⟩
      have e4 := hk.same 4 (by decide)
      exact op_val (v := .pointer (some ⟨s, 0, none⟩)) (by simp [go_sem, ev' e4]) (hK _ _ (fun u hu => by cases hu; rfl) (hw.keep (Aft.refl _) (by decide) (by decide)))
    | 3, ho, hv =>
      cases ho; cases hv
      refine .inl ⟨rfl, fun done a W hz hd hp hk hw K hK => ?_⟩
      have e13 := hk.at_ 2 _ 13 _ rfl (by decide) _ rfl rfl rfl
      exact op_val (v := .pointer (some ⟨s, 0, none⟩)) (by simp [go_sem, ev' e13]) (hK _ _ (fun u hu => by cases hu; rfl) (hw.keep (Aft.refl _) (by decide) (by decide)))
    | 4, ho, hv =>
      cases ho; cases hv
      refine .inl ⟨rfl, fun done a W hz hd hp hk hw K hK => ?_⟩
      have e14 := hk.at_ 3 _ 14 _ rfl (by decide) _ rfl rfl rfl
      exact op_val (v := .int .i64 aa) (by simp [go_sem, ev' e14, (HF.out.nth 0 rfl |>.aft hw.aft).cell 0]) (hK _ _ (fun u hu => by cases hu; rfl) (hw.keep (Aft.refl _) (by decide) (by decide)))
    | 5, ho, hv =>
      cases ho; cases hv
      refine .inl ⟨rfl, fun done a W hz hd hp hk hw K hK => ?_⟩
      have e15 := hk.at_ 4 _ 15 _ rfl (by decide) _ rfl rfl rfl
      exact op_val (v := .int .i64 na) (by simp [go_sem, ev' e15, wna]) (hK _ _ (fun u hu => by cases hu; rfl) (hw.keep (Aft.refl _) (by decide) (by decide)))
    | 6, ho, hv =>
      cases ho; cases hv
      refine .inl ⟨rfl, fun done a W hz hd hp hk hw K hK => ?_⟩
      have e4 := hk.same 4 (by decide)
      exact op_val (v := .pointer (some ⟨s, 0, none⟩)) (by simp [go_sem, ev' e4]) (hK _ _ (fun u hu => by cases hu; rfl) (hw.keep (Aft.refl _) (by decide) (by decide)))
    | 7, ho, hv =>
      cases ho; cases hv
      refine .inl ⟨rfl, fun done a W hz hd hp hk hw K hK => ?_⟩
      have e17 := hk.at_ 6 _ 17 _ rfl (by decide) _ rfl rfl rfl
      exact op_val (v := .pointer (some ⟨s, 1, none⟩)) (by simp [go_sem, ev' e17]) (hK _ _ (fun u hu => by cases hu; rfl) (hw.keep (Aft.refl _) (by decide) (by decide)))
    | 8, ho, hv =>
      cases ho; cases hv
      refine .inl ⟨rfl, fun done a W hz hd hp hk hw K hK => ?_⟩
      have e18 := hk.at_ 7 _ 18 _ rfl (by decide) _ rfl rfl rfl
      exact op_val (v := .int .i64 ab) (by simp [go_sem, ev' e18, (HF.out.nth 0 rfl |>.aft hw.aft).cell 1]) (hK _ _ (fun u hu => by cases hu; rfl) (hw.keep (Aft.refl _) (by decide) (by decide)))
    | 9, ho, hv =>
      cases ho; cases hv
      refine .inl ⟨rfl, fun done a W hz hd hp hk hw K hK => ?_⟩
      have e16 := hk.at_ 5 _ 16 _ rfl (by decide) _ rfl rfl rfl
      have e19 := hk.at_ 8 _ 19 _ rfl (by decide) _ rfl rfl rfl
      refine op_callN rfl rfl rfl _ rfl (vs := #[.int .i64 na, .int .i64 ab]) (by simp [e16, e19]) (ratioL_any na ab W) ?_
      rintro e w7 ⟨rfl, hw7⟩
      exact ⟨_, rfl, hK _ _ (fun u hu => by cases hu; rfl) (hw.keep hw7 (by decide) (by decide))⟩
    | 10, ho, hv =>
      cases ho; cases hv
      refine .inl ⟨rfl, fun done a W hz hd hp hk hw K hK => ?_⟩
      have e12 := hk.at_ 1 _ 12 _ rfl (by decide) _ rfl rfl rfl
      have e20 := hk.at_ 9 _ 20 _ rfl (by decide) _ rfl rfl rfl
      refine op_callN rfl rfl rfl _ rfl (vs := #[.agg #[.int .i64 ba, .int .i64 bb], .agg #[.int .i64 na, .int .i64 ab]]) (by simp [e12, e20]) (HSu.out W) ?_
      rintro e w7 ⟨rfl, hw7⟩
      exact ⟨_, rfl, hK _ _ (fun u hu => by cases hu; rfl) (hw.keep hw7 (by decide) (by decide))⟩
    | 11, ho, hv =>
      cases ho; cases hv
      refine .inl ⟨rfl, fun done a W hz hd hp hk hw K hK => ?_⟩
      have e5 := hk.same 5 (by decide)
      exact op_val (v := .pointer (some ⟨s + 1, 2, none⟩)) (by simp [go_sem, ev' e5]) (hK _ _ (fun u hu => by cases hu; rfl) (hw.keep (Aft.refl _) (by decide) (by decide)))
    | 12, ho, hv =>
      cases ho; cases hv
      refine .inl ⟨rfl, fun done a W hz hd hp hk hw K hK => ?_⟩
      have e22 := hk.at_ 11 _ 22 _ rfl (by decide) _ rfl rfl rfl
      exact op_val (v := .agg #[.int .i64 bx, .int .i64 by_]) (by simp [go_sem, ev' e22, (HF.out.nth 1 rfl |>.aft hw.aft).cell 2, (HF.out.nth 1 rfl |>.aft hw.aft).cell 3]) (hK _ _ (fun u hu => by cases hu; rfl) (hw.keep (Aft.refl _) (by decide) (by decide)))
    | 13, ho, hv =>
      cases ho; cases hv
      refine .inl ⟨rfl, fun done a W hz hd hp hk hw K hK => ?_⟩
      have e4 := hk.same 4 (by decide)
      exact op_val (v := .pointer (some ⟨s, 2, none⟩)) (by simp [go_sem, ev' e4]) (hK _ _ (fun u hu => by cases hu; rfl) (hw.keep (Aft.refl _) (by decide) (by decide)))
    | 14, ho, hv =>
      cases ho; cases hv
      refine .inl ⟨rfl, fun done a W hz hd hp hk hw K hK => ?_⟩
      have e24 := hk.at_ 13 _ 24 _ rfl (by decide) _ rfl rfl rfl
      exact op_val (v := .pointer (some ⟨s, 2, none⟩)) (by simp [go_sem, ev' e24]) (hK _ _ (fun u hu => by cases hu; rfl) (hw.keep (Aft.refl _) (by decide) (by decide)))
    | 15, ho, hv =>
      cases ho; cases hv
      refine .inl ⟨rfl, fun done a W hz hd hp hk hw K hK => ?_⟩
      have e25 := hk.at_ 14 _ 25 _ rfl (by decide) _ rfl rfl rfl
      exact op_val (v := .int .i64 ax) (by simp [go_sem, ev' e25, (HF.out.nth 0 rfl |>.aft hw.aft).cell 2]) (hK _ _ (fun u hu => by cases hu; rfl) (hw.keep (Aft.refl _) (by decide) (by decide)))
    | 16, ho, hv =>
      cases ho; cases hv
      refine .inl ⟨rfl, fun done a W hz hd hp hk hw K hK => ?_⟩
      have e26 := hk.at_ 15 _ 26 _ rfl (by decide) _ rfl rfl rfl
      exact op_val (v := .int .i64 nx) (by simp [go_sem, ev' e26, wnx]) (hK _ _ (fun u hu => by cases hu; rfl) (hw.keep (Aft.refl _) (by decide) (by decide)))
    | 17, ho, hv =>
      cases ho; cases hv
      refine .inl ⟨rfl, fun done a W hz hd hp hk hw K hK => ?_⟩
      have e4 := hk.same 4 (by decide)
      exact op_val (v := .pointer (some ⟨s, 2, none⟩)) (by simp [go_sem, ev' e4]) (hK _ _ (fun u hu => by cases hu; rfl) (hw.keep (Aft.refl _) (by decide) (by decide)))
    | 18, ho, hv =>
      cases ho; cases hv
      refine .inl ⟨rfl, fun done a W hz hd hp hk hw K hK => ?_⟩
      have e28 := hk.at_ 17 _ 28 _ rfl (by decide) _ rfl rfl rfl
      exact op_val (v := .pointer (some ⟨s, 3, none⟩)) (by simp [go_sem, ev' e28]) (hK _ _ (fun u hu => by cases hu; rfl) (hw.keep (Aft.refl _) (by decide) (by decide)))
    | 19, ho, hv =>
      cases ho; cases hv
      refine .inl ⟨rfl, fun done a W hz hd hp hk hw K hK => ?_⟩
      have e29 := hk.at_ 18 _ 29 _ rfl (by decide) _ rfl rfl rfl
      exact op_val (v := .int .i64 ay) (by simp [go_sem, ev' e29, (HF.out.nth 0 rfl |>.aft hw.aft).cell 3]) (hK _ _ (fun u hu => by cases hu; rfl) (hw.keep (Aft.refl _) (by decide) (by decide)))
    | 20, ho, hv =>
      cases ho; cases hv
      refine .inl ⟨rfl, fun done a W hz hd hp hk hw K hK => ?_⟩
      have e27 := hk.at_ 16 _ 27 _ rfl (by decide) _ rfl rfl rfl
      have e30 := hk.at_ 19 _ 30 _ rfl (by decide) _ rfl rfl rfl
      refine op_callN rfl rfl rfl _ rfl (vs := #[.int .i64 nx, .int .i64 ay]) (by simp [e27, e30]) (ratioL_any nx ay W) ?_
      rintro e w7 ⟨rfl, hw7⟩
      exact ⟨_, rfl, hK _ _ (fun u hu => by cases hu; rfl) (hw.keep hw7 (by decide) (by decide))⟩
    | 21, ho, hv =>
      cases ho; cases hv
      refine .inl ⟨rfl, fun done a W hz hd hp hk hw K hK => ?_⟩
      have e23 := hk.at_ 12 _ 23 _ rfl (by decide) _ rfl rfl rfl
      have e31 := hk.at_ 20 _ 31 _ rfl (by decide) _ rfl rfl rfl
      refine op_callN rfl rfl rfl _ rfl (vs := #[.agg #[.int .i64 bx, .int .i64 by_], .agg #[.int .i64 nx, .int .i64 ay]]) (by simp [e23, e31]) (HSv.out W) ?_
      rintro e w7 ⟨rfl, hw7⟩
      exact ⟨_, rfl, hK _ _ (fun u hu => by cases hu; rfl) (hw.keep hw7 (by decide) (by decide))⟩
    | 22, ho, hv =>
      cases ho; cases hv
      refine .inl ⟨rfl, fun done a W hz hd hp hk hw K hK => ?_⟩
      exact op_valW (w' := W.alloc (.cells zer2 37)) (v := .pointer (some ⟨W.heap.size, 0, none⟩)) (by simp [go_sem, zer2]) (hK _ _ (fun u hu => by cases hu) (hw.step22 (by rw [hz]; decide) hd))
    | 23, ho, hv =>
      cases ho; cases hv
      refine .inl ⟨rfl, fun done a W hz hd hp hk hw K hK => ?_⟩
      exact op_valW (w' := W.alloc (.cells zer2 37)) (v := .pointer (some ⟨W.heap.size, 0, none⟩)) (by simp [go_sem, zer2]) (hK _ _ (fun u hu => by cases hu) (hw.step23 (by rw [hz]; decide)))
    | 24, ho, hv =>
      cases ho; cases hv
      refine .inl ⟨rfl, fun done a W hz hd hp hk hw K hK => ?_⟩
      have e21 := hk.at_ 10 _ 21 _ rfl (by decide) _ rfl rfl rfl
      obtain ⟨b, e9, hbs, hbk⟩ := hw.x (hp 22 (by decide))
      have h12 : done 24 = false := hd
      rw [h12, if_neg (by decide)] at hbk
      have c0 := hbk.cell 0
      have c1 := hbk.cell 1
      have c4 := hbk.frozen 0
      have c5 := hbk.frozen 1
      have c8 := hbk.lt
      simp only [zer2, List.getElem?_toArray, List.getElem?_cons_zero, List.getElem?_cons_succ] at c0 c1
      exact op_skipW (w' := (W.setCell ⟨b, 0, none⟩ (.int .i64 uN)).setCell ⟨b, 1, none⟩ (.int .i64 uD)) (by simp [go_sem, ev' e9, ev' e21, c0, c1, c4, c5, c8]) (hK _ _ (fun u hu => by cases hu; rfl) (hw.step24 e9 (hp 22 (by decide)) h12 rfl))
    | _ + 25, _, hv => cases hv
  intro done us W hus hd hw
  obtain ⟨x1, x2, rfl⟩ := list2 hus
  obtain ⟨b1, e9, hs1, hb1⟩ := hw.x (hd 22 (by decide))
  obtain ⟨b2, e10, hs2, hb2, hne0⟩ := hw.y (hd 23 (by decide))
  have hne1 := hne0 (hd 22 (by decide))
  rw [if_pos (hd 24 (by decide))] at hb1
  rw [e9] at hne1
  have hne : b2 ≠ b1 := fun e => hne1 (by rw [e])
  have hwa := hw.aft
  clear hw hne0 hne1
  simp only [fill, List.drop_succ_cons, List.drop_zero, List.zip_cons_cons, List.zip_nil_right, putAll] at e9 e10 ⊢
  simp only [Act.put, List.setIfInBounds_toArray, List.set] at e9 e10 ⊢
  have e9 : x1 = .pointer (some ⟨b1, 0, none⟩) := e9
  have e10 : x2 = .pointer (some ⟨b2, 0, none⟩) := e10
  subst e9
  subst e10
  have c0 := hb2.cell 0
  have c1 := hb2.cell 1
  have c2 := hb2.frozen 0
  have c3 := hb2.frozen 1
  have c4 := hb2.lt
  simp only [zer2, List.getElem?_toArray, List.getElem?_cons_zero, List.getElem?_cons_succ] at c0 c1
  have A6 := (hwa.then_setCell (p := ⟨b2, 0, none⟩) hs2 (.int .i64 vN)).then_setCell (p := ⟨b2, 1, none⟩) hs2 (.int .i64 vD)
  have HB5 := Lib.hid ((hb1.far (p := ⟨b2, 0, none⟩) hne.symm (.int .i64 vN)).far (p := ⟨b2, 1, none⟩) hne.symm (.int .i64 vD))
  have HB6 := Lib.hid ((hb2.store 0 (.int .i64 vN)).store 1 (.int .i64 vD))
  have HF6 := Lib.hid (HF.out.later A6)
  have hX : ∃ X, (W.setCell ⟨b2, 0, none⟩ (.int .i64 vN)).setCell ⟨b2, 1, none⟩ (.int .i64 vD) = X := ⟨_, rfl⟩
  clear A6 hb1 hb2 hwa hd hs1 hs2 hus HF HSu HSv
  go_upto_region 2 with fail
  obtain ⟨X, hX⟩ := hX
  rw [hX] at HB5 HB6 HF6 ⊢
  clear hX c0 c1 c2 c3 c4
  have HB5 : Hid (Blk X b1 37 #[.int .i64 uN, .int .i64 uD]) := HB5
  have HB6 : Hid (Blk X b2 37 #[.int .i64 vN, .int .i64 vD]) := HB6
  have p1 := (HB5.out).cell 1
  have p0 := (HB5.out).cell 0
  have q1 := (HB6.out).cell 1
  have q0 := (HB6.out).cell 0
  have p2 := HB5.out.lt
  have q2 := HB6.out.lt
  have r0 := (HF6.out.nth 2 rfl).cell 0
  have r1 := (HF6.out.nth 2 rfl).cell 1
  have r2 := (HF6.out.nth 2 rfl).lt
  simp only [List.getElem?_toArray, List.getElem?_cons_zero, List.getElem?_cons_succ] at p0 p1 q0 q1 r0 r1
  apply wp_region_lit
  (repeat (first | go_big_skip | go_big_want | go_big_move | go_big_op | go_step | go_upon | go_back))
  go_at_call 13
  refine (L1.out _).mono ?_
  rintro e y1 ⟨rfl, ha⟩
  dsimp only
  have HB5 := Lib.hid (HB5.out.aft ha)
  have HB6 := Lib.hid (HB6.out.aft ha)
  have HF6 := Lib.hid (HF6.out.later ha)
  clear ha p0 p1 p2 q0 q1 q2 r0 r1 r2
  have p0 := (HB5.out).cell 0
  have p1 := (HB5.out).cell 1
  have p2 := HB5.out.lt
  have q0 := (HB6.out).cell 0
  have q1 := (HB6.out).cell 1
  have q2 := HB6.out.lt
  have r0 := (HF6.out.nth 2 rfl).cell 2
  have r1 := (HF6.out.nth 2 rfl).cell 3
  have r2 := (HF6.out.nth 2 rfl).lt
  simp only [List.getElem?_toArray, List.getElem?_cons_zero, List.getElem?_cons_succ] at p0 p1 q0 q1 r0 r1
  (repeat (first | go_big_skip | go_big_want | go_big_move | go_big_op | go_step | go_upon | go_back))
  go_at_call 13
  refine (L2.out _).mono ?_
  rintro e y2 ⟨rfl, ha⟩
  dsimp only
  have HB5 := Lib.hid (HB5.out.aft ha)
  have HB6 := Lib.hid (HB6.out.aft ha)
  have HF6 := Lib.hid (HF6.out.later ha)
  clear ha p0 p1 p2 q0 q1 q2 r0 r1 r2
  have p0 := (HB5.out).cell 0
  have p1 := (HB5.out).cell 1
  have p2 := HB5.out.lt
  have q0 := (HB6.out).cell 0
  have q1 := (HB6.out).cell 1
  have q2 := HB6.out.lt
  have r0 := (HF6.out.nth 3 rfl).cell 0
  have r1 := (HF6.out.nth 3 rfl).cell 1
  have r2 := (HF6.out.nth 3 rfl).lt
  simp only [List.getElem?_toArray, List.getElem?_cons_zero, List.getElem?_cons_succ] at p0 p1 q0 q1 r0 r1
  (repeat (first | go_big_skip | go_big_want | go_big_move | go_big_op | go_step | go_upon | go_back))
  go_at_call 13
  refine (L3.out _).mono ?_
  rintro e y3 ⟨rfl, ha⟩
  dsimp only
  have HB5 := Lib.hid (HB5.out.aft ha)
  have HB6 := Lib.hid (HB6.out.aft ha)
  have HF6 := Lib.hid (HF6.out.later ha)
  clear ha p0 p1 p2 q0 q1 q2 r0 r1 r2
  have p0 := (HB5.out).cell 0
  have p1 := (HB5.out).cell 1
  have p2 := HB5.out.lt
  have q0 := (HB6.out).cell 0
  have q1 := (HB6.out).cell 1
  have q2 := HB6.out.lt
  have r0 := (HF6.out.nth 3 rfl).cell 2
  have r1 := (HF6.out.nth 3 rfl).cell 3
  have r2 := (HF6.out.nth 3 rfl).lt
  simp only [List.getElem?_toArray, List.getElem?_cons_zero, List.getElem?_cons_succ] at p0 p1 q0 q1 r0 r1
  (repeat (first | go_big_skip | go_big_want | go_big_move | go_big_op | go_step | go_upon | go_back))
  go_at_call 13
  refine (L4.out _).mono ?_
  rintro e y4 ⟨rfl, ha⟩
  dsimp only
  have HB5 := Lib.hid (HB5.out.aft ha)
  have HB6 := Lib.hid (HB6.out.aft ha)
  have HF6 := Lib.hid (HF6.out.later ha)
  clear ha p0 p1 p2 q0 q1 q2 r0 r1 r2
  go_wp2_with fail
  go_ret
  exact ⟨rfl, HF6.out.aft⟩
end Go.Proofs
end

section
/- Plain: what SheetBetween asks of a set that was made. -/
namespace Go.Proofs
open Go.RowKit
attribute [local go_sem] Oper.semAt_some

def xOf (X : List Int) (i : Nat) : Int := X.getD i 0
theorem xOf_le {X : List Int} (h : ∀ x ∈ X, -200 ≤ x ∧ x ≤ 200) (i : Nat) : -200 ≤ xOf X i ∧ xOf X i ≤ 200 := by
  unfold xOf
  rw [List.getD_eq_getElem?_getD]
  by_cases hi : i < X.length
  · rw [List.getElem?_eq_getElem hi]
    exact h _ (List.getElem_mem hi)
  · rw [List.getElem?_eq_none (by omega)]
    decide
theorem made_setE {n : Nat} {play : Int} {X Y : List Int} {J : List Q4} (hn1 : 1 ≤ n) (hn2 : n ≤ 12) (hp : play ≤ 12) (hJ : ∀ j ∈ J, JOk n play X Y j) (hl : J.length ≤ 17) (hX : ∀ x ∈ X, -200 ≤ x ∧ x ≤ 200) (hY : ∀ x ∈ Y, -200 ≤ x ∧ x ≤ 200) : setE ⟨n, J⟩ = 0 := by
  unfold setE
  have h1 : fromB (n : Int) 1 12 = true := by rw [fromB_iff]; omega
  have h2 : decide (40 < J.length) = false := by simp; omega
  have h3 : J.all (okJ n) = true := List.all_eq_true.2 fun j hj => by
    have := hJ j hj
    unfold okJ
    simp only [Bool.and_eq_true, fromB_iff, bne_iff_ne]
    have a1 := this.a
    have a2 := this.b
    exact ⟨⟨by omega, by omega⟩, this.ne⟩
  have h4 : J.all numJ = true := List.all_eq_true.2 fun j hj => by
    have := hJ j hj
    unfold numJ
    simp only [Bool.and_eq_true, fromB_iff]
    have a1 := this.x
    have a2 := this.y
    have x1 := xOf_le hX j.b.toNat
    have x2 := xOf_le hX j.a.toNat
    have y1 := xOf_le hY j.b.toNat
    have y2 := xOf_le hY j.a.toNat
    unfold xOf at x1 x2 y1 y2
    omega
  dsimp only
  rw [h1, h2, h3, h4]
  rfl
theorem made_truth {n : Nat} {play : Int} {X Y : List Int} {J : List Q4} (hJ : ∀ j ∈ J, JOk n play X Y j) : TruthW J (xOf X) (xOf Y) play :=
  ⟨fun j hj => by
    have := (hJ j hj).x
    unfold errJ way1 xOf
    simp only [Bool.false_eq_true, if_false]
    omega, fun j hj => by
    have := (hJ j hj).y
    unfold errJ way1 xOf
    simp only [if_true]
    omega⟩
theorem tr_get {X Y : List Int} {n i : Nat} (hi : i < n) : ((List.range n).map (trJ X Y)).getD i ⟨0, 1, 0, 1⟩ = ⟨xOf X i, 1, xOf Y i, 1⟩ := by
  rw [List.getD_eq_getElem?_getD, List.getElem?_map, List.getElem?_range hi]
  rfl
theorem made_needsE {n : Nat} {X Y : List Int} {J : List Q4} (h : setE ⟨n, J⟩ = 0) (hX : ∀ x ∈ X, -200 ≤ x ∧ x ≤ 200) (hY : ∀ x ∈ Y, -200 ≤ x ∧ x ≤ 200) : needsE ⟨n, J⟩ ((List.range n).map (trJ X Y)) = 0 := by
  unfold needsE
  rw [if_neg (by simp [h]), if_neg (by simp)]
  rw [if_pos]
  refine List.all_eq_true.2 fun q hq => ?_
  obtain ⟨i, -, rfl⟩ := List.mem_map.1 hq
  have h1 := xOf_le hX i
  have h2 := xOf_le hY i
  unfold xOf at h1 h2
  unfold okS partB trJ
  simp only [Bool.and_eq_true, fromB_iff]
  omega
theorem made_needsP {n : Nat} {X Y : List Int} {J : List Q4} {play : Int} (h : setE ⟨n, J⟩ = 0) (hp : 0 ≤ play) (hJ : ∀ j ∈ J, JOk n play X Y j) : ∃ M, needsP ⟨n, J⟩ ((List.range n).map (trJ X Y)) = (M, 1) ∧ 0 ≤ M ∧ M ≤ play ∧ TruthW J (xOf X) (xOf Y) M := by
  have hS := setE_ok h
  exact needs_true (S := ⟨n, J⟩) hS hp (by simp) (fun i hi => tr_get (by simpa using hi)) (made_truth hJ)
/-- Fold, where what it answers is known. -/
theorem fold_at (v : Int) (n u : Nat) (w : World) (h1 : 1 ≤ n) (h2 : n ≤ 1000000) (hu : (v.tmod n + n).tmod n = (u : Nat)) : Calls Try.prog 9 #[.int .i64 v, .int .i64 (n : Nat)] w fun e w' => e = .returned (.int .i64 (u : Nat)) ∧ w = w' := by
  have t1 : decide (n ≤ 0) = false := by simp; omega
  have t1b : decide ((n : Int) ≤ 0) = false := by simp; omega
  have hb : -(n : Int) < v.tmod n ∧ v.tmod n < n := ⟨Int.lt_tmod_of_pos v (show (0 : Int) < n by omega), Int.tmod_lt_of_pos v (show (0 : Int) < n by omega)⟩
  obtain ⟨x, hx⟩ : ∃ x, v.tmod (n : Int) = x := ⟨_, rfl⟩
  rw [hx] at hb hu
  have e2 : IntKind.i64.wrap (x + (n : Int)) = x + n := IntWalk.i64_in _ (by omega)
  have hn0 : ¬ (n = 0) := by omega
  clear hb h1 h2
  go_enter Try.func9, Try.ntmps9
  go_wp2_with fail
  go_ret
  exact ⟨rfl, rfl⟩
theorem fold_ex (v : Int) (n : Nat) (h1 : 1 ≤ n) : ∃ u : Nat, (v.tmod n + n).tmod n = (u : Nat) ∧ u < n := by
  have hb : -(n : Int) < v.tmod n := Int.lt_tmod_of_pos v (show (0 : Int) < n by omega)
  rw [Int.tmod_eq_emod_of_nonneg (by omega)]
  have hy := Int.emod_lt_of_pos (v.tmod n + (n : Int)) (show (0 : Int) < n by omega)
  have hy0 := Int.emod_nonneg (v.tmod n + (n : Int)) (show (n : Int) ≠ 0 by omega)
  obtain ⟨r, hr⟩ := Int.eq_ofNat_of_zero_le hy0
  exact ⟨r, hr, by rw [hr] at hy; omega⟩
/-- Between for a play that is enough. -/
theorem bt_any {S : SetL} (hE : setE S = 0) {N D : Int} (hp : PlayOk N D) (hm : ∀ north, Sheet.AtMost (Sheet.legs (joOf north S.J)) N D) {A : Option Addr} {c : Nat} {w : World} (hA : Quads w A S.J) {a b : Nat} (ha : a < S.n.toNat) (hb : b < S.n.toNat) :
    Calls Try.prog 14 #[.agg #[.int .i64 S.n, .slice A S.J.length c], .int .i64 (a : Nat), .int .i64 (b : Nat), .agg #[.int .i64 N, .int .i64 D]] w fun e w' => ∃ t0 t1, BtOk S N D a b t0 t1 w e w' :=
  Calls.mono (between_good S A c a b N D w hA hE ha hb hp) fun _ _ h => h.most hm
/-- Tables for a play, both ways. -/
structure Tabs (S : SetL) (N D : Int) (t0 t1 : Nat → Nat → Int) : Prop where
  x : Sheet.Calms S.n.toNat (joOf false S.J) D N t0
  y : Sheet.Calms S.n.toNat (joOf true S.J) D N t1
theorem Tabs.far_y {S : SetL} {N D : Int} {t0 t1 : Nat → Nat → Int} (h : Tabs S N D t0 t1) {a b : Nat} (ha : a < S.n.toNat) (hf : t0 a b ≠ Sheet.far) : t1 a b ≠ Sheet.far := Sheet.far_ways h.x h.y (legs_ways S.J false true) ha hf
/-- .. in the words of tables that are at hand. -/
theorem bt_at {S : SetL} (hE : setE S = 0) {N D : Int} (hp : PlayOk N D) (hm : ∀ north, Sheet.AtMost (Sheet.legs (joOf north S.J)) N D) {t0 t1 : Nat → Nat → Int} (ht : Tabs S N D t0 t1) {A : Option Addr} {c : Nat} {w : World} (hA : Quads w A S.J) {a b : Nat} (ha : a < S.n.toNat) (hb : b < S.n.toNat) (hf : t0 a b ≠ Sheet.far) {q0 q1 : Q4} (h0 : bt4 D t0 a b = q0) (h1 : bt4 D t1 a b = q1) :
    Calls Try.prog 14 #[.agg #[.int .i64 S.n, .slice A S.J.length c], .int .i64 (a : Nat), .int .i64 (b : Nat), .agg #[.int .i64 N, .int .i64 D]] w fun e w' => e = .returned (.tuple #[.agg (encS q0), .agg (encS q1), .int .i64 0]) ∧ Aft w w' := by
  refine Calls.mono (bt_any hE hp hm hA ha hb) ?_
  rintro e w' ⟨s0, s1, hw, c0, c1, h⟩
  have e1 := Sheet.calms_same (b := b) c0 ht.x ha
  have e2 := Sheet.calms_same (b := a) c0 ht.x hb
  have e3 := Sheet.calms_same (b := b) c1 ht.y ha
  have e4 := Sheet.calms_same (b := a) c1 ht.y hb
  rcases h with ⟨hf2, -⟩ | ⟨-, rfl⟩
  · exact absurd (e1 ▸ hf2) hf
  · refine ⟨?_, hw⟩
    have e5 : bt4 D s0 a b = q0 := by rw [← h0]; unfold bt4; rw [e1, e2]
    have e6 : bt4 D s1 a b = q1 := by rw [← h1]; unfold bt4; rw [e3, e4]
    rw [e5, e6]
theorem bt4_one (t : Nat → Nat → Int) (a b : Nat) : bt4 1 t a b = ⟨-(t b a), 1, t a b, 1⟩ := by
  unfold bt4
  rw [low_one, low_one]
end Go.Proofs
end

section
/- Plain: the fractions that SheetBetween compares. -/
namespace Go.Proofs
open Go.RowKit
attribute [local go_sem] Oper.semAt_some

/-- A fraction of so many parts, within bounds. -/
structure Fb (B C D n x y : Int) : Prop where
  fr : Sheet.Frac D n x y
  lo : -B ≤ x
  hi : x ≤ B
  yc : y ≤ C
theorem Fb.low {D n : Int} (hD : 0 < D) (hD12 : D ≤ 12) (h : -24000000000 ≤ n ∧ n ≤ 24000000000) : Fb 24000000000 12 D n (Sheet.low n D).1 (Sheet.low n D).2 := by
  have h3 := Sheet.low_pos (n := n) hD
  exact ⟨.low hD, by omega, by omega, by omega⟩
theorem Fb.one {n : Int} (h : -24000000000 ≤ n ∧ n ≤ 24000000000) : Fb 24000000000 12 1 n n 1 := ⟨.one n, by omega, h.2, by decide⟩
theorem Fb.neg {B C D n x y : Int} (h : Fb B C D n x y) : Fb B C D (-n) (-x) y := ⟨h.fr.neg, by have := h.hi; omega, by have := h.lo; omega, h.yc⟩
theorem mul_in {x y B C : Int} (h1 : -B ≤ x) (h2 : x ≤ B) (hB : 0 ≤ B) (hy : 0 ≤ y) (hc : y ≤ C) : -(B * C) ≤ x * y ∧ x * y ≤ B * C := by
  have h3 := Int.mul_le_mul_of_nonneg_right h2 hy
  have h4 := Int.mul_le_mul_of_nonneg_left hc hB
  have h5 := Int.mul_le_mul_of_nonneg_right h1 hy
  rw [Int.neg_mul] at h5
  omega
theorem Fb.sum {D n x y n' x' y' : Int} (h : Fb 24000000000 12 D n x y) (h' : Fb 24000000000 12 D n' x' y') : Fb 576000000000 144 D (n + n') (x * y' + x' * y) (y * y') := by
  have a1 := mul_in h.lo h.hi (by decide) (Int.le_of_lt h'.fr.pos) h'.yc
  have a2 := mul_in h'.lo h'.hi (by decide) (Int.le_of_lt h.fr.pos) h.yc
  have a3 := mul_in (x := y) (B := 12) (by have := h.fr.pos; omega) h.yc (by decide) (Int.le_of_lt h'.fr.pos) h'.yc
  exact ⟨h.fr.sum h'.fr, by omega, by omega, by omega⟩
theorem Fb.less {B C B' C' D n x y n' x' y' : Int} (hD : 0 < D) (h : Fb B C D n x y) (h' : Fb B' C' D n' x' y') (hn : n ≤ n') (hB : 0 ≤ B) (hB' : 0 ≤ B') (hm : B * C' ≤ 1000000000000000) (hm' : B' * C ≤ 1000000000000000) (w : World) :
    Calls Try.prog 13 #[.agg #[.int .i64 x, .int .i64 y], .agg #[.int .i64 x', .int .i64 y']] w fun e w' => e = .returned (.bool true) ∧ Aft w w' := by
  have a1 := mul_in h.lo h.hi hB (Int.le_of_lt h'.fr.pos) h'.yc
  have a2 := mul_in h'.lo h'.hi hB' (Int.le_of_lt h.fr.pos) h.yc
  have h3 := less_any x y x' y' w ⟨by omega, by omega⟩ ⟨by omega, by omega⟩
  rwa [decide_eq_true (h.fr.le hD h'.fr hn)] at h3
theorem Fb.plus {D n x y n' x' y' : Int} (h : Fb 24000000000 12 D n x y) (h' : Fb 24000000000 12 D n' x' y') (w : World) :
    Calls Try.prog 40 #[.agg #[.int .i64 x, .int .i64 y], .agg #[.int .i64 x', .int .i64 y']] w fun e w' => e = .returned (.agg #[.int .i64 (x * y' + x' * y), .int .i64 (y * y')]) ∧ Aft w w' := by
  have a1 := mul_in h.lo h.hi (by decide) (Int.le_of_lt h'.fr.pos) h'.yc
  have a2 := mul_in h'.lo h'.hi (by decide) (Int.le_of_lt h.fr.pos) h.yc
  have a3 := mul_in (x := y) (B := 12) (by have := h.fr.pos; omega) h.yc (by decide) (Int.le_of_lt h'.fr.pos) h'.yc
  exact sum_any x y x' y' w ⟨by omega, by omega⟩ ⟨by omega, by omega⟩ ⟨by omega, by omega⟩
/-- One fraction against the sum of two. -/
theorem Fb.lessSum {D n x y n1 x1 y1 n2 x2 y2 : Int} (hD : 0 < D) (h : Fb 24000000000 12 D n x y) (h1 : Fb 24000000000 12 D n1 x1 y1) (h2 : Fb 24000000000 12 D n2 x2 y2) (hn : n ≤ n1 + n2) (w : World) :
    Calls Try.prog 13 #[.agg #[.int .i64 x, .int .i64 y], .agg #[.int .i64 (x1 * y2 + x2 * y1), .int .i64 (y1 * y2)]] w fun e w' => e = .returned (.bool true) ∧ Aft w w' :=
  Fb.less hD h (h1.sum h2) hn (by decide) (by decide) (by decide) (by decide) w
theorem Fb.sumLess {D n x y n1 x1 y1 n2 x2 y2 : Int} (hD : 0 < D) (h : Fb 24000000000 12 D n x y) (h1 : Fb 24000000000 12 D n1 x1 y1) (h2 : Fb 24000000000 12 D n2 x2 y2) (hn : n1 + n2 ≤ n) (w : World) :
    Calls Try.prog 13 #[.agg #[.int .i64 (x1 * y2 + x2 * y1), .int .i64 (y1 * y2)], .agg #[.int .i64 x, .int .i64 y]] w fun e w' => e = .returned (.bool true) ∧ Aft w w' :=
  Fb.less hD (h1.sum h2) h hn (by decide) (by decide) (by decide) (by decide) w
/-- What lies, in fractions. -/
theorem lies_fs {D na aa ab na' ax ay nb ba bb nb' bx by_ l1 xa xb m1 xx xy l2 ya yb m2 yx yy : Int} (hD : 0 < D)
    (f1 : Fb 24000000000 12 D na aa ab) (f2 : Fb 24000000000 12 D na' ax ay) (f3 : Fb 24000000000 12 D nb ba bb) (f4 : Fb 24000000000 12 D nb' bx by_)
    (g1 : Fb 24000000000 12 D l1 xa xb) (g2 : Fb 24000000000 12 D m1 xx xy) (g3 : Fb 24000000000 12 D l2 ya yb) (g4 : Fb 24000000000 12 D m2 yx yy)
    (i1 : l1 ≤ nb + -na) (i2 : nb + -na ≤ m1) (i3 : l2 ≤ nb' + -na') (i4 : nb' + -na' ≤ m2) (w : World) :
    Calls Try.prog 39 #[.agg #[.int .i64 aa, .int .i64 ab, .int .i64 ax, .int .i64 ay], .agg #[.int .i64 ba, .int .i64 bb, .int .i64 bx, .int .i64 by_], .agg #[.int .i64 xa, .int .i64 xb, .int .i64 xx, .int .i64 xy], .agg #[.int .i64 ya, .int .i64 yb, .int .i64 yx, .int .i64 yy]] w fun e w' => e = .returned (.bool true) ∧ Aft w w' :=
  lies_any aa ab ax ay ba bb bx by_ xa xb xx xy ya yb yx yy _ _ _ _ w ⟨by have := f1.lo; omega, by have := f1.hi; omega⟩ ⟨by have := f2.lo; omega, by have := f2.hi; omega⟩
    (fun W => f3.plus f1.neg W) (fun W => f4.plus f2.neg W) (Int.mul_pos f3.fr.pos f1.fr.pos) (Int.mul_pos f4.fr.pos f2.fr.pos)
    (fun W => g1.lessSum hD f3 f1.neg i1 W) (fun W => g2.sumLess hD f3 f1.neg i2 W) (fun W => g3.lessSum hD f4 f2.neg i3 W) (fun W => g4.sumLess hD f4 f2.neg i4 W)
/-- The bounds of a table's numbers. -/
theorem Tabs.fx {S : SetL} (hS : SetOk S) {N D : Int} (hp : PlayOk N D) {t0 t1 : Nat → Nat → Int} (h : Tabs S N D t0 t1) {a b : Nat} (ha : a < S.n.toNat) (hf : t0 a b ≠ Sheet.far) : (-24000000000 ≤ t0 a b ∧ t0 a b ≤ 24000000000) ∧ (-24000000000 ≤ t1 a b ∧ t1 a b ≤ 24000000000) :=
  ⟨tab_small hS hp h.x ha hf, tab_small hS hp h.y ha (h.far_y ha hf)⟩
/-- Both ways, for truths. -/
theorem Tabs.pot {n : Nat} {J : List Q4} {M : Int} {x y : Nat → Int} {t0 t1 : Nat → Nat → Int} (h : Tabs ⟨(n : Nat), J⟩ M 1 t0 t1) (ht : TruthW J x y M) {a b : Nat} (ha : a < n) (hf : t0 a b ≠ Sheet.far) : x b - x a ≤ t0 a b ∧ y b - y a ≤ t1 a b :=
  ⟨Sheet.calms_pot x (ht.edges false) h.x ha hf, Sheet.calms_pot y (ht.edges true) h.y ha (h.far_y ha hf)⟩
/-- Both ways, for three sheets. -/
theorem Tabs.tri {S : SetL} {N D : Int} {t0 t1 : Nat → Nat → Int} (h : Tabs S N D t0 t1) {a b c : Nat} (ha : a < S.n.toNat) (hb : b < S.n.toNat) (h1 : t0 a b ≠ Sheet.far) (h2 : t0 b c ≠ Sheet.far) : t0 a c ≤ t0 a b + t0 b c ∧ t1 a c ≤ t1 a b + t1 b c :=
  ⟨(Sheet.calms_tri h.x ha hb h1 h2).2, (Sheet.calms_tri h.y ha hb (h.far_y ha h1) (h.far_y hb h2)).2⟩
theorem Tabs.back {S : SetL} {N D : Int} {t0 t1 : Nat → Nat → Int} (h : Tabs S N D t0 t1) {a b : Nat} (ha : a < S.n.toNat) (hb : b < S.n.toNat) (h1 : t0 a b ≠ Sheet.far) : t0 b a ≠ Sheet.far := Sheet.far_back h.x ha hb h1
theorem Quads.cells {W : World} {b o : Nat} {l : List Q4} (h : Quads W (some ⟨b, o, none⟩) l) {i : Nat} (hi : i < l.length) : W.cell? ⟨b, o + i * 4, none⟩ = some (.int .i64 l[i].a) ∧ W.cell? ⟨b, o + i * 4 + 1, none⟩ = some (.int .i64 l[i].b) ∧ W.cell? ⟨b, o + i * 4 + 2, none⟩ = some (.int .i64 l[i].x) ∧ W.cell? ⟨b, o + i * 4 + 3, none⟩ = some (.int .i64 l[i].y) := by
  obtain ⟨b', o', e, -, hc⟩ := h.at hi
  cases e
  exact hc i hi
theorem tr_cells {W : World} {b o n : Nat} {X Y : List Int} (h : Quads W (some ⟨b, o, none⟩) ((List.range n).map (trJ X Y))) {i : Nat} (hi : i < n) : W.cell? ⟨b, o + i * 4, none⟩ = some (.int .i64 (xOf X i)) ∧ W.cell? ⟨b, o + i * 4 + 1, none⟩ = some (.int .i64 1) ∧ W.cell? ⟨b, o + i * 4 + 2, none⟩ = some (.int .i64 (xOf Y i)) ∧ W.cell? ⟨b, o + i * 4 + 3, none⟩ = some (.int .i64 1) := by
  have h2 := h.cells (i := i) (by simpa using hi)
  simpa [trJ, xOf] using h2
/-- .. and for more play. -/
theorem Tabs.more {S : SetL} {N N' D : Int} {t0 t1 s0 s1 : Nat → Nat → Int} (hN : N ≤ N') (h : Tabs S N D t0 t1) (h' : Tabs S N' D s0 s1) {a b : Nat} (ha : a < S.n.toNat) (hf : t0 a b ≠ Sheet.far) (hf' : s0 a b ≠ Sheet.far) : t0 a b ≤ s0 a b ∧ t1 a b ≤ s1 a b :=
  ⟨(Sheet.calms_more hN h.x h'.x ha hf').2, (Sheet.calms_more hN h.y h'.y ha (h'.far_y ha hf')).2⟩
/-- What Between answers, in fractions. -/
structure BtF (S : SetL) (N D : Int) (a b : Nat) (t0 t1 : Nat → Nat → Int) (e1 e2 e3 e4 e5 e6 e7 e8 : Int) : Prop where
  tab : Tabs S N D t0 t1
  ne : t0 a b ≠ Sheet.far
  f1 : Fb 24000000000 12 D (-(t0 b a)) e1 e2
  f2 : Fb 24000000000 12 D (t0 a b) e3 e4
  f3 : Fb 24000000000 12 D (-(t1 b a)) e5 e6
  f4 : Fb 24000000000 12 D (t1 a b) e7 e8
theorem bt_fb {S : SetL} (hE : setE S = 0) {N D : Int} (hp : PlayOk N D) (hD : D ≤ 12) (hm : ∀ north, Sheet.AtMost (Sheet.legs (joOf north S.J)) N D) {t0 t1 : Nat → Nat → Int} (ht : Tabs S N D t0 t1) {a b : Nat} (ha : a < S.n.toNat) (hb : b < S.n.toNat) (hf : t0 a b ≠ Sheet.far) :
    ∃ e1 e2 e3 e4 e5 e6 e7 e8, BtF S N D a b t0 t1 e1 e2 e3 e4 e5 e6 e7 e8 ∧ ∀ {A : Option Addr} {c : Nat} {w : World}, Quads w A S.J → Calls Try.prog 14 #[.agg #[.int .i64 S.n, .slice A S.J.length c], .int .i64 (a : Nat), .int .i64 (b : Nat), .agg #[.int .i64 N, .int .i64 D]] w fun e w' => e = .returned (.tuple #[.agg #[.int .i64 e1, .int .i64 e2, .int .i64 e3, .int .i64 e4], .agg #[.int .i64 e5, .int .i64 e6, .int .i64 e7, .int .i64 e8], .int .i64 0]) ∧ Aft w w' := by
  have hS := setE_ok hE
  have hD0 : 0 < D := hp.d1
  have k1 := ht.fx hS hp ha hf
  have k2 := ht.fx hS hp hb (ht.back ha hb hf)
  refine ⟨_, _, _, _, _, _, _, _, ⟨ht, hf, .low hD0 hD ⟨by omega, by omega⟩, .low hD0 hD k1.1, .low hD0 hD ⟨by omega, by omega⟩, .low hD0 hD k1.2⟩, fun hA => ?_⟩
  exact bt_at hE hp hm ht hA ha hb hf rfl rfl
theorem bt_fb_any {S : SetL} (hE : setE S = 0) {N D : Int} (hp : PlayOk N D) (hD : D ≤ 12) (hm : ∀ north, Sheet.AtMost (Sheet.legs (joOf north S.J)) N D) {f : Nat → Nat} (hti : Sheet.TiedIs (Sheet.legs (joOf false S.J)) S.n.toNat f) {A : Option Addr} {c : Nat} {w : World} (hA : Quads w A S.J) {a b : Nat} (ha : a < S.n.toNat) (hb : b < S.n.toNat) (hf : f a = f b) :
    Calls Try.prog 14 #[.agg #[.int .i64 S.n, .slice A S.J.length c], .int .i64 (a : Nat), .int .i64 (b : Nat), .agg #[.int .i64 N, .int .i64 D]] w fun e w' => ∃ t0 t1 e1 e2 e3 e4 e5 e6 e7 e8, e = .returned (.tuple #[.agg #[.int .i64 e1, .int .i64 e2, .int .i64 e3, .int .i64 e4], .agg #[.int .i64 e5, .int .i64 e6, .int .i64 e7, .int .i64 e8], .int .i64 0]) ∧ BtF S N D a b t0 t1 e1 e2 e3 e4 e5 e6 e7 e8 ∧ Aft w w' := by
  refine Calls.mono (bt_any hE hp hm hA ha hb) ?_
  rintro e w' ⟨t0, t1, hw, c0, c1, h⟩
  have ht : Tabs S N D t0 t1 := ⟨c0, c1⟩
  have hS := setE_ok hE
  have hD0 : 0 < D := hp.d1
  rcases h with ⟨hf2, -⟩ | ⟨hne, rfl⟩
  · exact absurd hf ((c0.far_iff hti ha hb).1 hf2)
  · have k1 := ht.fx hS hp ha hne
    have k2 := ht.fx hS hp hb (ht.back ha hb hne)
    exact ⟨t0, t1, _, _, _, _, _, _, _, _, rfl, ⟨ht, hne, .low hD0 hD ⟨by omega, by omega⟩, .low hD0 hD k1.1, .low hD0 hD ⟨by omega, by omega⟩, .low hD0 hD k1.2⟩, hw⟩
/-- A shift, in fractions. -/
theorem sh_fb {S : SetL} (hS : SetOk S) {N D : Int} (hp : PlayOk N D) (hD : D ≤ 12) {t0 t1 : Nat → Nat → Int} (ht : Tabs S N D t0 t1) {f g : Nat → Nat} (hti : Sheet.TiedIs (Sheet.legs (joOf false S.J)) S.n.toNat f) {i : Nat} (hi : i < S.n.toNat) (hg : g i = f i) :
    Fb 24000000000 12 D (t0 (f i) i) (shR D t0 g i).1 (shR D t0 g i).2 ∧ Fb 24000000000 12 D (t1 (f i) i) (shR D t1 g i).1 (shR D t1 g i).2 := by
  have h1 := tab_tied ht.x hti hi
  have k1 := ht.fx hS hp h1.1 h1.2
  have hD0 : 0 < D := hp.d1
  unfold shR
  rw [hg]
  exact ⟨.low hD0 hD k1.1, .low hD0 hD k1.2⟩
theorem put_two2 {w W : World} (h : Aft w W) {g : Nat} {v1 v2 v3 v4 u1 u2 u3 u4 : Value} (k1 : Blk W g 43 #[v1, v2, v3, v4]) (k2 : Blk W (g + 1) 43 #[u1, u2, u3, u4]) (hb : w.heap.size ≤ g) (a1 a2 a3 a4 b1 b2 b3 b4 : Int) {X : World} (hX : X = ((((((((W.setCell ⟨g, 0, none⟩ (.int .i64 a1)).setCell ⟨g, 1, none⟩ (.int .i64 a2)).setCell ⟨g, 2, none⟩ (.int .i64 a3)).setCell ⟨g, 3, none⟩ (.int .i64 a4)).setCell ⟨g + 1, 0, none⟩ (.int .i64 b1)).setCell ⟨g + 1, 1, none⟩ (.int .i64 b2)).setCell ⟨g + 1, 2, none⟩ (.int .i64 b3)).setCell ⟨g + 1, 3, none⟩ (.int .i64 b4))) :
    Blk X g 43 #[.int .i64 a1, .int .i64 a2, .int .i64 a3, .int .i64 a4] ∧ Blk X (g + 1) 43 #[.int .i64 b1, .int .i64 b2, .int .i64 b3, .int .i64 b4] ∧ Aft w X := by
  subst hX
  have hb2 : w.heap.size ≤ g + 1 := by omega
  have hne : g + 1 ≠ g := by omega
  have e1 := (((k1.store 0 (.int .i64 a1)).store 1 (.int .i64 a2)).store 2 (.int .i64 a3)).store 3 (.int .i64 a4)
  have e2 := (((k2.far (p := ⟨g, 0, none⟩) hne (.int .i64 a1)).far (p := ⟨g, 1, none⟩) hne (.int .i64 a2)).far (p := ⟨g, 2, none⟩) hne (.int .i64 a3)).far (p := ⟨g, 3, none⟩) hne (.int .i64 a4)
  refine ⟨?_, ?_, ?_⟩
  · exact (((e1.far (p := ⟨g + 1, 0, none⟩) hne.symm (.int .i64 b1)).far (p := ⟨g + 1, 1, none⟩) hne.symm (.int .i64 b2)).far (p := ⟨g + 1, 2, none⟩) hne.symm (.int .i64 b3)).far (p := ⟨g + 1, 3, none⟩) hne.symm (.int .i64 b4)
  · exact (((e2.store 0 (.int .i64 b1)).store 1 (.int .i64 b2)).store 2 (.int .i64 b3)).store 3 (.int .i64 b4)
  · exact (((((((h.then_setCell (p := ⟨g, 0, none⟩) hb _).then_setCell (p := ⟨g, 1, none⟩) hb _).then_setCell (p := ⟨g, 2, none⟩) hb _).then_setCell (p := ⟨g, 3, none⟩) hb _).then_setCell (p := ⟨g + 1, 0, none⟩) hb2 _).then_setCell (p := ⟨g + 1, 1, none⟩) hb2 _).then_setCell (p := ⟨g + 1, 2, none⟩) hb2 _).then_setCell (p := ⟨g + 1, 3, none⟩) hb2 _
/-- A box of four numbers, whatever they are. -/
def Bx4 (W : World) (b : Nat) : Prop := ∃ v1 v2 v3 v4, Blk W b 43 #[v1, v2, v3, v4]
theorem Bx4.aft {W W' : World} {b : Nat} (h : Bx4 W b) (ha : Aft W W') : Bx4 W' b := let ⟨_, _, _, _, k⟩ := h; ⟨_, _, _, _, k.aft ha⟩
theorem Bx4.put {W : World} {b g : Nat} (h : Bx4 W b) (a1 a2 a3 a4 : Value) : Bx4 ((((W.setCell ⟨g, 0, none⟩ a1).setCell ⟨g, 1, none⟩ a2).setCell ⟨g, 2, none⟩ a3).setCell ⟨g, 3, none⟩ a4) b := by
  obtain ⟨v1, v2, v3, v4, k⟩ := h
  by_cases e : b = g
  · subst e
    exact ⟨_, _, _, _, (((k.store 0 a1).store 1 a2).store 2 a3).store 3 a4⟩
  · exact ⟨_, _, _, _, (((k.far (p := ⟨g, 0, none⟩) e a1).far (p := ⟨g, 1, none⟩) e a2).far (p := ⟨g, 2, none⟩) e a3).far (p := ⟨g, 3, none⟩) e a4⟩
/-- Two boxes that are laid within a region. -/
structure By2 (W0 : World) (done : Nat → Bool) (a : Act) (W : World) : Prop where
  aft : Aft W0 W
  x : done 16 = true → ∃ b, a.eval (.tmp 37) = .pointer (some ⟨b, 0, none⟩) ∧ W0.heap.size ≤ b ∧ Bx4 W b
  y : done 17 = true → ∃ b, a.eval (.tmp 38) = .pointer (some ⟨b, 0, none⟩) ∧ W0.heap.size ≤ b ∧ Bx4 W b
section
variable {W0 W W' : World} {done : Nat → Bool} {a : Act}
theorem By2.start : By2 W0 (fun _ => false) a W0.drew := ⟨Aft.drew _, (fun h => by cases h), (fun h => by cases h)⟩
theorem By2.keep (h : By2 W0 done a W) (ha : Aft W W') {i : Nat} {dst : Option Tmp} {v : Value} (hi : i ≠ 16 ∧ i ≠ 17) (hd : dst ≠ some 37 ∧ dst ≠ some 38) : By2 W0 (Go.upd done i) (a.put dst v) W' := by
  refine ⟨h.aft.trans ha, fun p => ?_, fun p => ?_⟩
  · rw [upd_ne' (Ne.symm hi.1)] at p
    obtain ⟨b, e, hs, hb⟩ := h.x p
    exact ⟨b, by rw [evne hd.1]; exact e, hs, hb.aft ha⟩
  · rw [upd_ne' (Ne.symm hi.2)] at p
    obtain ⟨b, e, hs, hb⟩ := h.y p
    exact ⟨b, by rw [evne hd.2]; exact e, hs, hb.aft ha⟩
theorem By2.stepx (h : By2 W0 done a W) (hz : 37 < a.tmps.size) (v1 v2 v3 v4 : Value) : By2 W0 (Go.upd done 16) (a.put (some 37) (.pointer (some ⟨W.heap.size, 0, none⟩))) (W.alloc (.cells #[v1, v2, v3, v4] 43)) := by
  refine ⟨h.aft.then_alloc _, fun _ => ⟨W.heap.size, Act.eval_put_same _ _ _ hz, h.aft.size, _, _, _, _, Blk.new _ _ _⟩, fun p => ?_⟩
  rw [upd_ne' (by decide)] at p
  obtain ⟨b, e, hs, hb⟩ := h.y p
  exact ⟨b, by rw [evne (by decide)]; exact e, hs, hb.aft (Aft.alloc _ _)⟩
theorem By2.stepy (h : By2 W0 done a W) (hz : 38 < a.tmps.size) (v1 v2 v3 v4 : Value) : By2 W0 (Go.upd done 17) (a.put (some 38) (.pointer (some ⟨W.heap.size, 0, none⟩))) (W.alloc (.cells #[v1, v2, v3, v4] 43)) := by
  refine ⟨h.aft.then_alloc _, fun p => ?_, fun _ => ⟨W.heap.size, Act.eval_put_same _ _ _ hz, h.aft.size, _, _, _, _, Blk.new _ _ _⟩⟩
  rw [upd_ne' (by decide)] at p
  obtain ⟨b, e, hs, hb⟩ := h.x p
  exact ⟨b, by rw [evne (by decide)]; exact e, hs, hb.aft (Aft.alloc _ _)⟩
theorem By2.put (h : By2 W0 done a W) {g : Nat} (hg : W0.heap.size ≤ g) (a1 a2 a3 a4 : Value) {i : Nat} {dst : Option Tmp} {v : Value} (hi : i ≠ 16 ∧ i ≠ 17) (hd : dst = none) : By2 W0 (Go.upd done i) (a.put dst v) ((((W.setCell ⟨g, 0, none⟩ a1).setCell ⟨g, 1, none⟩ a2).setCell ⟨g, 2, none⟩ a3).setCell ⟨g, 3, none⟩ a4) := by
  subst hd
  refine ⟨(((h.aft.then_setCell (p := ⟨g, 0, none⟩) hg _).then_setCell (p := ⟨g, 1, none⟩) hg _).then_setCell (p := ⟨g, 2, none⟩) hg _).then_setCell (p := ⟨g, 3, none⟩) hg _, fun p => ?_, fun p => ?_⟩
  · rw [upd_ne' (Ne.symm hi.1)] at p
    obtain ⟨b, e, hs, hb⟩ := h.x p
    exact ⟨b, by rw [evne (by decide)]; exact e, hs, hb.put _ _ _ _⟩
  · rw [upd_ne' (Ne.symm hi.2)] at p
    obtain ⟨b, e, hs, hb⟩ := h.y p
    exact ⟨b, by rw [evne (by decide)]; exact e, hs, hb.put _ _ _ _⟩
end
end Go.Proofs
end
