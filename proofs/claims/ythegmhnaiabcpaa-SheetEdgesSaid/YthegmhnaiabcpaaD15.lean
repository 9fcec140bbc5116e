/- Own texts, merged: Yb Tg Th Rn5 Ti Tj Tk0. -/
import Derived.Test.YthegmhnaiabcpaaD14
import Derived.Maps.OwnSet
import Derived.DeepKeys4
set_option linter.unusedSimpArgs false
set_option linter.unusedVariables false
set_option linter.unnecessarySimpa false
section
/- Walks: Equal of marks 28, of pairs 29. -/
namespace Go.Proofs
open Go.RowKit
attribute [local go_sem] Oper.semAt_some

set_option maxRecDepth 100000 in
set_option maxHeartbeats 4000000 in
theorem kitEqual_mark (A A' : Option Addr) (L L' : List (Int × Int)) (c c' : Nat) (w : World) (hA : Prs w A L) (hA' : Prs w A' L') :
    Calls Try.prog 28 #[.slice A L.length c, .slice A' L'.length c'] w fun e w' => e = .returned (.bool (eqB L L')) ∧ Aft w w' := by
  have hl := hA.len
  have hl' := hA'.len
  have HA := Lib.hid hA
  have HA' := Lib.hid hA'
  clear hA hA'
  go_enter Try.func28, Try.ntmps28
  go_upto_block 0 with fail
  refine wp_block ?_
  go_loopw [8] (fun i wr => ∃ k : Nat, i = .int .i64 k ∧ k ≤ L.length ∧ k ≤ L'.length ∧ Hid (∀ j, (h : j < L.length) → (h' : j < L'.length) → j < k → L[j] = L'[j]) ∧ Aft w wr) (fun i _ => L.length - (intOf i).toNat)
  case atStart => exact ⟨0, rfl, by omega, by omega, Lib.hid fun j _ _ h => by omega, Aft.refl _⟩
  case round =>
    obtain ⟨k, rfl, hk, hk', HH, hw⟩ := hrel
    have HW := Lib.hid hw
    clear hw
    by_cases hkl : k < L.length
    · have t1 : decide (k < L.length) = true := by simpa using hkl
      have ik : (0 : Int) ≤ (k : Int) ∧ (k : Int) < (L.length : Int) := by omega
      obtain ⟨bs, os, hbs, hlts, hcs⟩ := (HA.out.aft HW.out).at hkl
      subst hbs
      obtain ⟨x1, x2⟩ := hcs k hkl
      obtain ⟨⟨y, z⟩, hyz⟩ : ∃ s, L[k] = s := ⟨_, rfl⟩
      have HYZ := Lib.hid hyz
      rw [hyz] at x1 x2
      dsimp only at x1 x2
      have HX1 : Hid (∀ W, Aft wr W → W.cell? ⟨bs, os + k * 2, none⟩ = some (.int .i64 y)) := Lib.hid fun W h => cellA x1 hlts h
      have HX2 : Hid (∀ W, Aft wr W → W.cell? ⟨bs, os + k * 2 + 1, none⟩ = some (.int .i64 z)) := Lib.hid fun W h => cellA x2 hlts h
      clear hcs hyz x1 x2
      by_cases hkl' : k < L'.length
      · have ik' : (0 : Int) ≤ (k : Int) ∧ (k : Int) < (L'.length : Int) := by omega
        have hge : decide ((L'.length : Int) ≤ (k : Int)) = false := by simp; omega
        have hgeN : decide (L'.length ≤ k) = false := by simp; omega
        obtain ⟨bt, ot, hbt, hltt, hct⟩ := (HA'.out.aft HW.out).at hkl'
        subst hbt
        obtain ⟨x3, x4⟩ := hct k hkl'
        obtain ⟨⟨y', z'⟩, hyz'⟩ : ∃ s, L'[k] = s := ⟨_, rfl⟩
        have HYZ' := Lib.hid hyz'
        rw [hyz'] at x3 x4
        dsimp only at x3 x4
        have HX3 : Hid (∀ W, Aft wr W → W.cell? ⟨bt, ot + k * 2, none⟩ = some (.int .i64 y')) := Lib.hid fun W h => cellA x3 hltt h
        have HX4 : Hid (∀ W, Aft wr W → W.cell? ⟨bt, ot + k * 2 + 1, none⟩ = some (.int .i64 z')) := Lib.hid fun W h => cellA x4 hltt h
        obtain ⟨bb, hbb⟩ : ∃ bb, (!(y == y' && z == z')) = bb := ⟨_, rfl⟩
        have HBB : Hid (bb = false ↔ (y = y' ∧ z = z')) := Lib.hid (by rw [← hbb]; simp)
        clear hct hyz' x3 x4
        go_upto_region 4 with fail
        refine wp_region_valsG (by kernel_rfl) 32 rfl (by kernel_rfl) (by kernel_rfl) [.int .i64 k, .slice (some ⟨bt, ot, none⟩) L'.length c', .int .i64 L'.length, .bool false, .bool false, .slice (some ⟨bs, os, none⟩) L.length c, .int .i64 k, .pointer (some ⟨bs, os + k * 2, none⟩), .agg #[.int .i64 y, .int .i64 z], .slice (some ⟨bt, ot, none⟩) L'.length c', .int .i64 k, .pointer (some ⟨bt, ot + k * 2, none⟩), .agg #[.int .i64 y', .int .i64 z'], .bool bb, .bool bb] rfl (fun W => Aft wr W) (Aft.drew _) ?st1 ?fi1
        case st1 =>
          intro i o v ho hv
          match i, ho, hv with
          | 0, ho, hv =>
            cases ho; cases hv
            refine .inl ⟨rfl, fun a W hk hw K hK => ?_⟩
            have e5 := hk.same 5 (by decide)
            exact op_val (by simp [go_sem, ev' e5]) (hK _ hw)
          | 1, ho, hv =>
            cases ho; cases hv
            refine .inl ⟨rfl, fun a W hk hw K hK => ?_⟩
            have e1 := hk.same 1 (by decide)
            exact op_val (by simp [go_sem, ev' e1]) (hK _ hw)
          | 2, ho, hv =>
            cases ho; cases hv
            refine .inl ⟨rfl, fun a W hk hw K hK => ?_⟩
            have e12 := hk.at_ 1 _ 12 _ rfl (by decide) _ rfl rfl rfl
            exact op_val (by simp [go_sem, ev' e12]) (hK _ hw)
          | 3, ho, hv =>
            cases ho; cases hv
            refine .inl ⟨rfl, fun a W hk hw K hK => ?_⟩
            have e11 := hk.at_ 0 _ 11 _ rfl (by decide) _ rfl rfl rfl
            have e13 := hk.at_ 2 _ 13 _ rfl (by decide) _ rfl rfl rfl
            exact op_val (by simp [go_sem, ev' e11, ev' e13, hge, hgeN]) (hK _ hw)
          | 4, ho, hv =>
            cases ho; cases hv
            refine .inl ⟨rfl, fun a W hk hw K hK => ?_⟩
            have e14 := hk.at_ 3 _ 14 _ rfl (by decide) _ rfl rfl rfl
            exact op_val (by simp [go_sem, ev' e14]) (hK _ hw)
          | 5, ho, hv =>
            cases ho; cases hv
            refine .inl ⟨rfl, fun a W hk hw K hK => ?_⟩
            have e0 := hk.same 0 (by decide)
            exact op_val (by simp [go_sem, ev' e0]) (hK _ hw)
          | 6, ho, hv =>
            cases ho; cases hv
            refine .inl ⟨rfl, fun a W hk hw K hK => ?_⟩
            have e5 := hk.same 5 (by decide)
            exact op_val (by simp [go_sem, ev' e5]) (hK _ hw)
          | 7, ho, hv =>
            cases ho; cases hv
            refine .inl ⟨rfl, fun a W hk hw K hK => ?_⟩
            have e16 := hk.at_ 5 _ 16 _ rfl (by decide) _ rfl rfl rfl
            have e17 := hk.at_ 6 _ 17 _ rfl (by decide) _ rfl rfl rfl
            exact op_val (by simp [go_sem, ev' e16, ev' e17, ik]) (hK _ hw)
          | 8, ho, hv =>
            cases ho; cases hv
            refine .inl ⟨rfl, fun a W hk hw K hK => ?_⟩
            have e18 := hk.at_ 7 _ 18 _ rfl (by decide) _ rfl rfl rfl
            exact op_val (by simp [go_sem, ev' e18, HX1.out W hw, HX2.out W hw]) (hK _ hw)
          | 9, ho, hv =>
            cases ho; cases hv
            refine .inl ⟨rfl, fun a W hk hw K hK => ?_⟩
            have e1 := hk.same 1 (by decide)
            exact op_val (by simp [go_sem, ev' e1]) (hK _ hw)
          | 10, ho, hv =>
            cases ho; cases hv
            refine .inl ⟨rfl, fun a W hk hw K hK => ?_⟩
            have e5 := hk.same 5 (by decide)
            exact op_val (by simp [go_sem, ev' e5]) (hK _ hw)
          | 11, ho, hv =>
            cases ho; cases hv
            refine .inl ⟨rfl, fun a W hk hw K hK => ?_⟩
            have e20 := hk.at_ 9 _ 20 _ rfl (by decide) _ rfl rfl rfl
            have e21 := hk.at_ 10 _ 21 _ rfl (by decide) _ rfl rfl rfl
            exact op_val (by simp [go_sem, ev' e20, ev' e21, ik']) (hK _ hw)
          | 12, ho, hv =>
            cases ho; cases hv
            refine .inl ⟨rfl, fun a W hk hw K hK => ?_⟩
            have e22 := hk.at_ 11 _ 22 _ rfl (by decide) _ rfl rfl rfl
            exact op_val (by simp [go_sem, ev' e22, HX3.out W hw, HX4.out W hw]) (hK _ hw)
          | 13, ho, hv =>
            cases ho; cases hv
            refine .inl ⟨rfl, fun a W hk hw K hK => ?_⟩
            have e19 := hk.at_ 8 _ 19 _ rfl (by decide) _ rfl rfl rfl
            have e23 := hk.at_ 12 _ 23 _ rfl (by decide) _ rfl rfl rfl
            exact op_val (v := .bool bb) (by by_cases g1 : y = y' <;> by_cases g2 : z = z' <;> simp [go_sem, ev' e19, ev' e23, g1, g2, ← hbb]) (hK _ hw)
          | 14, ho, hv =>
            cases ho; cases hv
            refine .inl ⟨rfl, fun a W hk hw K hK => ?_⟩
            have e15 := hk.at_ 4 _ 15 _ rfl (by decide) _ rfl rfl rfl
            have e24 := hk.at_ 13 _ 24 _ rfl (by decide) _ rfl rfl rfl
            exact op_val (by simp [go_sem, ev' e15, ev' e24]) (hK _ hw)
          | _ + 15, _, hv => cases hv
        intro W hw
        simp only [List.drop_succ_cons, List.drop_zero, List.zip_cons_cons, List.zip_nil_right, putAll]
        simp only [Act.put, List.setIfInBounds_toArray, List.set]
        cases bb
        · have HH2 : Hid (∀ j, (h : j < L.length) → (h' : j < L'.length) → j < k + 1 → L[j] = L'[j]) := Lib.hid fun j h h' hj => by
            by_cases e : j = k
            · subst e
              rw [HYZ.out, HYZ'.out]
              obtain ⟨h1, h2⟩ := HBB.out.1 rfl
              rw [h1, h2]
            · exact HH.out j h h' (by omega)
          go_wp2_with fail
          exact ⟨⟨k + 1, by go_num, by omega, by omega, HH2, HW.out.trans hw⟩, by simp [intOf]; omega⟩
        · have HF : Hid (eqB L L' = false) := Lib.hid (decide_eq_false fun e => by
            have h1 := HYZ.out
            have h2 := HYZ'.out
            subst e
            rw [h1] at h2
            cases h2
            have := HBB.out.2 ⟨rfl, rfl⟩
            cases this)
          go_wp2_with fail
          go_ret
          exact ⟨ret_bool HF.out.symm, HW.out.trans hw⟩
      · have hge : decide ((L'.length : Int) ≤ (k : Int)) = true := by simp; omega
        have hgeN : decide (L'.length ≤ k) = true := by simp; omega
        have HF : Hid (eqB L L' = false) := Lib.hid (decide_eq_false fun e => by rw [e] at hkl; exact hkl' hkl)
        go_upto_region 4 with fail
        refine wp_region_valsG (by kernel_rfl) 32 rfl (by kernel_rfl) (by kernel_rfl) [.int .i64 k, .slice A' L'.length c', .int .i64 L'.length, .bool true, .bool true, undef, undef, undef, undef, undef, undef, undef, undef, undef, .bool true] rfl (fun W => Aft wr W) (Aft.drew _) ?st2 ?fi2
        case st2 =>
          intro i o v ho hv
          match i, ho, hv with
          | 0, ho, hv =>
            cases ho; cases hv
            refine .inl ⟨rfl, fun a W hk hw K hK => ?_⟩
            have e5 := hk.same 5 (by decide)
            exact op_val (by simp [go_sem, ev' e5]) (hK _ hw)
          | 1, ho, hv =>
            cases ho; cases hv
            refine .inl ⟨rfl, fun a W hk hw K hK => ?_⟩
            have e1 := hk.same 1 (by decide)
            exact op_val (by simp [go_sem, ev' e1]) (hK _ hw)
          | 2, ho, hv =>
            cases ho; cases hv
            refine .inl ⟨rfl, fun a W hk hw K hK => ?_⟩
            have e12 := hk.at_ 1 _ 12 _ rfl (by decide) _ rfl rfl rfl
            exact op_val (by simp [go_sem, ev' e12]) (hK _ hw)
          | 3, ho, hv =>
            cases ho; cases hv
            refine .inl ⟨rfl, fun a W hk hw K hK => ?_⟩
            have e11 := hk.at_ 0 _ 11 _ rfl (by decide) _ rfl rfl rfl
            have e13 := hk.at_ 2 _ 13 _ rfl (by decide) _ rfl rfl rfl
            exact op_val (by simp [go_sem, ev' e11, ev' e13, hge, hgeN]) (hK _ hw)
          | 4, ho, hv =>
            cases ho; cases hv
            refine .inl ⟨rfl, fun a W hk hw K hK => ?_⟩
            have e14 := hk.at_ 3 _ 14 _ rfl (by decide) _ rfl rfl rfl
            exact op_val (by simp [go_sem, ev' e14]) (hK _ hw)
          | 5, ho, hv => cases ho; cases hv; exact .inr ⟨rfl, rfl⟩
          | 6, ho, hv => cases ho; cases hv; exact .inr ⟨rfl, rfl⟩
          | 7, ho, hv => cases ho; cases hv; exact .inr ⟨rfl, rfl⟩
          | 8, ho, hv => cases ho; cases hv; exact .inr ⟨rfl, rfl⟩
          | 9, ho, hv => cases ho; cases hv; exact .inr ⟨rfl, rfl⟩
          | 10, ho, hv => cases ho; cases hv; exact .inr ⟨rfl, rfl⟩
          | 11, ho, hv => cases ho; cases hv; exact .inr ⟨rfl, rfl⟩
          | 12, ho, hv => cases ho; cases hv; exact .inr ⟨rfl, rfl⟩
          | 13, ho, hv => cases ho; cases hv; exact .inr ⟨rfl, rfl⟩
          | 14, ho, hv =>
            cases ho; cases hv
            refine .inl ⟨rfl, fun a W hk hw K hK => ?_⟩
            have e15 := hk.at_ 4 _ 15 _ rfl (by decide) _ rfl rfl rfl
            have e24 := hk.at_ 13 _ 24 _ rfl (by decide) _ rfl rfl rfl
            exact op_val (by simp [go_sem, ev' e15, ev' e24]) (hK _ hw)
          | _ + 15, _, hv => cases hv
        intro W hw
        simp only [List.drop_succ_cons, List.drop_zero, List.zip_cons_cons, List.zip_nil_right, putAll]
        simp only [Act.put, List.setIfInBounds_toArray, List.set]
        go_wp2_with fail
        go_ret
        exact ⟨ret_bool HF.out.symm, HW.out.trans hw⟩
    · have t1 : decide (k < L.length) = false := by simpa using hkl
      have HE : Hid (((L.length : Int) == (L'.length : Int)) = eqB L L') := Lib.hid (by
        by_cases hLL : L.length = L'.length
        · have : L = L' := List.ext_getElem hLL fun i h1 h2 => HH.out i h1 h2 (by omega)
          rw [← this]
          simp [eqB]
        · have h1 : eqB L L' = false := decide_eq_false fun e => hLL (by rw [e])
          rw [h1]
          simp; omega)
      go_wp2_with fail
      go_ret
      exact ⟨ret_bool HE.out, HW.out⟩
set_option maxRecDepth 100000 in
set_option maxHeartbeats 4000000 in
theorem kitEqual_pair (A A' : Option Addr) (L L' : List (Int × Int)) (c c' : Nat) (w : World) (hA : Prs w A L) (hA' : Prs w A' L') :
    Calls Try.prog 29 #[.slice A L.length c, .slice A' L'.length c'] w fun e w' => e = .returned (.bool (eqB L L')) ∧ Aft w w' := by
  have hl := hA.len
  have hl' := hA'.len
  have HA := Lib.hid hA
  have HA' := Lib.hid hA'
  clear hA hA'
  go_enter Try.func29, Try.ntmps29
  go_upto_block 0 with fail
  refine wp_block ?_
  go_loopw [8] (fun i wr => ∃ k : Nat, i = .int .i64 k ∧ k ≤ L.length ∧ k ≤ L'.length ∧ Hid (∀ j, (h : j < L.length) → (h' : j < L'.length) → j < k → L[j] = L'[j]) ∧ Aft w wr) (fun i _ => L.length - (intOf i).toNat)
  case atStart => exact ⟨0, rfl, by omega, by omega, Lib.hid fun j _ _ h => by omega, Aft.refl _⟩
  case round =>
    obtain ⟨k, rfl, hk, hk', HH, hw⟩ := hrel
    have HW := Lib.hid hw
    clear hw
    by_cases hkl : k < L.length
    · have t1 : decide (k < L.length) = true := by simpa using hkl
      have ik : (0 : Int) ≤ (k : Int) ∧ (k : Int) < (L.length : Int) := by omega
      obtain ⟨bs, os, hbs, hlts, hcs⟩ := (HA.out.aft HW.out).at hkl
      subst hbs
      obtain ⟨x1, x2⟩ := hcs k hkl
      obtain ⟨⟨y, z⟩, hyz⟩ : ∃ s, L[k] = s := ⟨_, rfl⟩
      have HYZ := Lib.hid hyz
      rw [hyz] at x1 x2
      dsimp only at x1 x2
      have HX1 : Hid (∀ W, Aft wr W → W.cell? ⟨bs, os + k * 2, none⟩ = some (.int .i64 y)) := Lib.hid fun W h => cellA x1 hlts h
      have HX2 : Hid (∀ W, Aft wr W → W.cell? ⟨bs, os + k * 2 + 1, none⟩ = some (.int .i64 z)) := Lib.hid fun W h => cellA x2 hlts h
      clear hcs hyz x1 x2
      by_cases hkl' : k < L'.length
      · have ik' : (0 : Int) ≤ (k : Int) ∧ (k : Int) < (L'.length : Int) := by omega
        have hge : decide ((L'.length : Int) ≤ (k : Int)) = false := by simp; omega
        have hgeN : decide (L'.length ≤ k) = false := by simp; omega
        obtain ⟨bt, ot, hbt, hltt, hct⟩ := (HA'.out.aft HW.out).at hkl'
        subst hbt
        obtain ⟨x3, x4⟩ := hct k hkl'
        obtain ⟨⟨y', z'⟩, hyz'⟩ : ∃ s, L'[k] = s := ⟨_, rfl⟩
        have HYZ' := Lib.hid hyz'
        rw [hyz'] at x3 x4
        dsimp only at x3 x4
        have HX3 : Hid (∀ W, Aft wr W → W.cell? ⟨bt, ot + k * 2, none⟩ = some (.int .i64 y')) := Lib.hid fun W h => cellA x3 hltt h
        have HX4 : Hid (∀ W, Aft wr W → W.cell? ⟨bt, ot + k * 2 + 1, none⟩ = some (.int .i64 z')) := Lib.hid fun W h => cellA x4 hltt h
        obtain ⟨bb, hbb⟩ : ∃ bb, (!(y == y' && z == z')) = bb := ⟨_, rfl⟩
        have HBB : Hid (bb = false ↔ (y = y' ∧ z = z')) := Lib.hid (by rw [← hbb]; simp)
        clear hct hyz' x3 x4
        go_upto_region 4 with fail
        refine wp_region_valsG (by kernel_rfl) 32 rfl (by kernel_rfl) (by kernel_rfl) [.int .i64 k, .slice (some ⟨bt, ot, none⟩) L'.length c', .int .i64 L'.length, .bool false, .bool false, .slice (some ⟨bs, os, none⟩) L.length c, .int .i64 k, .pointer (some ⟨bs, os + k * 2, none⟩), .agg #[.int .i64 y, .int .i64 z], .slice (some ⟨bt, ot, none⟩) L'.length c', .int .i64 k, .pointer (some ⟨bt, ot + k * 2, none⟩), .agg #[.int .i64 y', .int .i64 z'], .bool bb, .bool bb] rfl (fun W => Aft wr W) (Aft.drew _) ?st3 ?fi3
        case st3 =>
          intro i o v ho hv
          match i, ho, hv with
          | 0, ho, hv =>
            cases ho; cases hv
            refine .inl ⟨rfl, fun a W hk hw K hK => ?_⟩
            have e5 := hk.same 5 (by decide)
            exact op_val (by simp [go_sem, ev' e5]) (hK _ hw)
          | 1, ho, hv =>
            cases ho; cases hv
            refine .inl ⟨rfl, fun a W hk hw K hK => ?_⟩
            have e1 := hk.same 1 (by decide)
            exact op_val (by simp [go_sem, ev' e1]) (hK _ hw)
          | 2, ho, hv =>
            cases ho; cases hv
            refine .inl ⟨rfl, fun a W hk hw K hK => ?_⟩
            have e12 := hk.at_ 1 _ 12 _ rfl (by decide) _ rfl rfl rfl
            exact op_val (by simp [go_sem, ev' e12]) (hK _ hw)
          | 3, ho, hv =>
            cases ho; cases hv
            refine .inl ⟨rfl, fun a W hk hw K hK => ?_⟩
            have e11 := hk.at_ 0 _ 11 _ rfl (by decide) _ rfl rfl rfl
            have e13 := hk.at_ 2 _ 13 _ rfl (by decide) _ rfl rfl rfl
            exact op_val (by simp [go_sem, ev' e11, ev' e13, hge, hgeN]) (hK _ hw)
          | 4, ho, hv =>
            cases ho; cases hv
            refine .inl ⟨rfl, fun a W hk hw K hK => ?_⟩
            have e14 := hk.at_ 3 _ 14 _ rfl (by decide) _ rfl rfl rfl
            exact op_val (by simp [go_sem, ev' e14]) (hK _ hw)
          | 5, ho, hv =>
            cases ho; cases hv
            refine .inl ⟨rfl, fun a W hk hw K hK => ?_⟩
            have e0 := hk.same 0 (by decide)
            exact op_val (by simp [go_sem, ev' e0]) (hK _ hw)
          | 6, ho, hv =>
            cases ho; cases hv
            refine .inl ⟨rfl, fun a W hk hw K hK => ?_⟩
            have e5 := hk.same 5 (by decide)
            exact op_val (by simp [go_sem, ev' e5]) (hK _ hw)
          | 7, ho, hv =>
            cases ho; cases hv
            refine .inl ⟨rfl, fun a W hk hw K hK => ?_⟩
            have e16 := hk.at_ 5 _ 16 _ rfl (by decide) _ rfl rfl rfl
            have e17 := hk.at_ 6 _ 17 _ rfl (by decide) _ rfl rfl rfl
            exact op_val (by simp [go_sem, ev' e16, ev' e17, ik]) (hK _ hw)
          | 8, ho, hv =>
            cases ho; cases hv
            refine .inl ⟨rfl, fun a W hk hw K hK => ?_⟩
            have e18 := hk.at_ 7 _ 18 _ rfl (by decide) _ rfl rfl rfl
            exact op_val (by simp [go_sem, ev' e18, HX1.out W hw, HX2.out W hw]) (hK _ hw)
          | 9, ho, hv =>
            cases ho; cases hv
            refine .inl ⟨rfl, fun a W hk hw K hK => ?_⟩
            have e1 := hk.same 1 (by decide)
            exact op_val (by simp [go_sem, ev' e1]) (hK _ hw)
          | 10, ho, hv =>
            cases ho; cases hv
            refine .inl ⟨rfl, fun a W hk hw K hK => ?_⟩
            have e5 := hk.same 5 (by decide)
            exact op_val (by simp [go_sem, ev' e5]) (hK _ hw)
          | 11, ho, hv =>
            cases ho; cases hv
            refine .inl ⟨rfl, fun a W hk hw K hK => ?_⟩
            have e20 := hk.at_ 9 _ 20 _ rfl (by decide) _ rfl rfl rfl
            have e21 := hk.at_ 10 _ 21 _ rfl (by decide) _ rfl rfl rfl
            exact op_val (by simp [go_sem, ev' e20, ev' e21, ik']) (hK _ hw)
          | 12, ho, hv =>
            cases ho; cases hv
            refine .inl ⟨rfl, fun a W hk hw K hK => ?_⟩
            have e22 := hk.at_ 11 _ 22 _ rfl (by decide) _ rfl rfl rfl
            exact op_val (by simp [go_sem, ev' e22, HX3.out W hw, HX4.out W hw]) (hK _ hw)
          | 13, ho, hv =>
            cases ho; cases hv
            refine .inl ⟨rfl, fun a W hk hw K hK => ?_⟩
            have e19 := hk.at_ 8 _ 19 _ rfl (by decide) _ rfl rfl rfl
            have e23 := hk.at_ 12 _ 23 _ rfl (by decide) _ rfl rfl rfl
            exact op_val (v := .bool bb) (by by_cases g1 : y = y' <;> by_cases g2 : z = z' <;> simp [go_sem, ev' e19, ev' e23, g1, g2, ← hbb]) (hK _ hw)
          | 14, ho, hv =>
            cases ho; cases hv
            refine .inl ⟨rfl, fun a W hk hw K hK => ?_⟩
            have e15 := hk.at_ 4 _ 15 _ rfl (by decide) _ rfl rfl rfl
            have e24 := hk.at_ 13 _ 24 _ rfl (by decide) _ rfl rfl rfl
            exact op_val (by simp [go_sem, ev' e15, ev' e24]) (hK _ hw)
          | _ + 15, _, hv => cases hv
        intro W hw
        simp only [List.drop_succ_cons, List.drop_zero, List.zip_cons_cons, List.zip_nil_right, putAll]
        simp only [Act.put, List.setIfInBounds_toArray, List.set]
        cases bb
        · have HH2 : Hid (∀ j, (h : j < L.length) → (h' : j < L'.length) → j < k + 1 → L[j] = L'[j]) := Lib.hid fun j h h' hj => by
            by_cases e : j = k
            · subst e
              rw [HYZ.out, HYZ'.out]
              obtain ⟨h1, h2⟩ := HBB.out.1 rfl
              rw [h1, h2]
            · exact HH.out j h h' (by omega)
          go_wp2_with fail
          exact ⟨⟨k + 1, by go_num, by omega, by omega, HH2, HW.out.trans hw⟩, by simp [intOf]; omega⟩
        · have HF : Hid (eqB L L' = false) := Lib.hid (decide_eq_false fun e => by
            have h1 := HYZ.out
            have h2 := HYZ'.out
            subst e
            rw [h1] at h2
            cases h2
            have := HBB.out.2 ⟨rfl, rfl⟩
            cases this)
          go_wp2_with fail
          go_ret
          exact ⟨ret_bool HF.out.symm, HW.out.trans hw⟩
      · have hge : decide ((L'.length : Int) ≤ (k : Int)) = true := by simp; omega
        have hgeN : decide (L'.length ≤ k) = true := by simp; omega
        have HF : Hid (eqB L L' = false) := Lib.hid (decide_eq_false fun e => by rw [e] at hkl; exact hkl' hkl)
        go_upto_region 4 with fail
        refine wp_region_valsG (by kernel_rfl) 32 rfl (by kernel_rfl) (by kernel_rfl) [.int .i64 k, .slice A' L'.length c', .int .i64 L'.length, .bool true, .bool true, undef, undef, undef, undef, undef, undef, undef, undef, undef, .bool true] rfl (fun W => Aft wr W) (Aft.drew _) ?st4 ?fi4
        case st4 =>
          intro i o v ho hv
          match i, ho, hv with
          | 0, ho, hv =>
            cases ho; cases hv
            refine .inl ⟨rfl, fun a W hk hw K hK => ?_⟩
            have e5 := hk.same 5 (by decide)
            exact op_val (by simp [go_sem, ev' e5]) (hK _ hw)
          | 1, ho, hv =>
            cases ho; cases hv
            refine .inl ⟨rfl, fun a W hk hw K hK => ?_⟩
            have e1 := hk.same 1 (by decide)
            exact op_val (by simp [go_sem, ev' e1]) (hK _ hw)
          | 2, ho, hv =>
            cases ho; cases hv
            refine .inl ⟨rfl, fun a W hk hw K hK => ?_⟩
            have e12 := hk.at_ 1 _ 12 _ rfl (by decide) _ rfl rfl rfl
            exact op_val (by simp [go_sem, ev' e12]) (hK _ hw)
          | 3, ho, hv =>
            cases ho; cases hv
            refine .inl ⟨rfl, fun a W hk hw K hK => ?_⟩
            have e11 := hk.at_ 0 _ 11 _ rfl (by decide) _ rfl rfl rfl
            have e13 := hk.at_ 2 _ 13 _ rfl (by decide) _ rfl rfl rfl
            exact op_val (by simp [go_sem, ev' e11, ev' e13, hge, hgeN]) (hK _ hw)
          | 4, ho, hv =>
            cases ho; cases hv
            refine .inl ⟨rfl, fun a W hk hw K hK => ?_⟩
            have e14 := hk.at_ 3 _ 14 _ rfl (by decide) _ rfl rfl rfl
            exact op_val (by simp [go_sem, ev' e14]) (hK _ hw)
          | 5, ho, hv => cases ho; cases hv; exact .inr ⟨rfl, rfl⟩
          | 6, ho, hv => cases ho; cases hv; exact .inr ⟨rfl, rfl⟩
          | 7, ho, hv => cases ho; cases hv; exact .inr ⟨rfl, rfl⟩
          | 8, ho, hv => cases ho; cases hv; exact .inr ⟨rfl, rfl⟩
          | 9, ho, hv => cases ho; cases hv; exact .inr ⟨rfl, rfl⟩
          | 10, ho, hv => cases ho; cases hv; exact .inr ⟨rfl, rfl⟩
          | 11, ho, hv => cases ho; cases hv; exact .inr ⟨rfl, rfl⟩
          | 12, ho, hv => cases ho; cases hv; exact .inr ⟨rfl, rfl⟩
          | 13, ho, hv => cases ho; cases hv; exact .inr ⟨rfl, rfl⟩
          | 14, ho, hv =>
            cases ho; cases hv
            refine .inl ⟨rfl, fun a W hk hw K hK => ?_⟩
            have e15 := hk.at_ 4 _ 15 _ rfl (by decide) _ rfl rfl rfl
            have e24 := hk.at_ 13 _ 24 _ rfl (by decide) _ rfl rfl rfl
            exact op_val (by simp [go_sem, ev' e15, ev' e24]) (hK _ hw)
          | _ + 15, _, hv => cases hv
        intro W hw
        simp only [List.drop_succ_cons, List.drop_zero, List.zip_cons_cons, List.zip_nil_right, putAll]
        simp only [Act.put, List.setIfInBounds_toArray, List.set]
        go_wp2_with fail
        go_ret
        exact ⟨ret_bool HF.out.symm, HW.out.trans hw⟩
    · have t1 : decide (k < L.length) = false := by simpa using hkl
      have HE : Hid (((L.length : Int) == (L'.length : Int)) = eqB L L') := Lib.hid (by
        by_cases hLL : L.length = L'.length
        · have : L = L' := List.ext_getElem hLL fun i h1 h2 => HH.out i h1 h2 (by omega)
          rw [← this]
          simp [eqB]
        · have h1 : eqB L L' = false := decide_eq_false fun e => hLL (by rw [e])
          rw [h1]
          simp; omega)
      go_wp2_with fail
      go_ret
      exact ⟨ret_bool HE.out, HW.out⟩
theorem eqB_self {α : Type} [DecidableEq α] (l : List α) : eqB l l = true := by simp [eqB]
end Go.Proofs
end

section
/- Walks: asked whole; what Matches and Bars ask of each pair and row. -/
namespace Go.Proofs
open Go.RowKit
attribute [local go_sem] Oper.semAt_some

theorem asked_any (a b : List (Int × Int)) (play : Int) (A B : Option Addr) (ca cb : Nat) (w : World) (hA : Prs w A a) (hB : Prs w B b) :
    Calls Try.prog 56 #[.slice A a.length ca, .slice B b.length cb, .int .i64 play] w fun e w' => (edgesE a b play ≠ 0 ∧ e = .returned (.tuple #[.pointer none, .int .i64 (edgesE a b play)]) ∧ Aft w w') ∨ (edgesE a b play = 0 ∧ ∃ x, e = .returned (.tuple #[.pointer (some ⟨x, 0, none⟩), .int .i64 0]) ∧ EdgesAt w w' x a b play A B ca cb) := by
  by_cases h1 : 30 < a.length ∨ 30 < b.length
  · have e : edgesE a b play = 3 := by unfold edgesE; rw [if_pos h1]
    refine (asked_count a b play A B ca cb w h1).mono ?_
    rintro _ w' ⟨rfl, h⟩
    exact .inl ⟨by rw [e]; decide, by rw [e], h⟩
  · have ha : a.length ≤ 30 := by omega
    have hb : b.length ≤ 30 := by omega
    by_cases h2 : a.all markB = false ∨ b.all markB = false ∨ fromB play 0 1000000 = false
    · have e : edgesE a b play = 4 := by unfold edgesE; rw [if_neg h1, if_pos h2]
      refine (asked_value a b play A B ca cb w hA hB ha hb h2).mono ?_
      rintro _ w' ⟨rfl, h⟩
      exact .inl ⟨by rw [e]; decide, by rw [e], h⟩
    · have g1 : a.all markB = true := by
        cases e : a.all markB
        · exact absurd (.inl e) h2
        · rfl
      have g2 : b.all markB = true := by
        cases e : b.all markB
        · exact absurd (.inr (.inl e)) h2
        · rfl
      have g3 : fromB play 0 1000000 = true := by
        cases e : fromB play 0 1000000
        · exact absurd (.inr (.inr e)) h2
        · rfl
      refine (asked_loop a b play A B ca cb w hA hB ha hb g1 g2 g3).mono ?_
      rintro _ w' (⟨h3, rfl, h⟩ | ⟨h3, h4, x, rfl, h⟩)
      · have e : edgesE a b play = 5 := by unfold edgesE; rw [if_neg h1, if_neg h2, if_pos h3]
        exact .inl ⟨by rw [e]; decide, by rw [e], h⟩
      · have e : edgesE a b play = 0 := by unfold edgesE; rw [if_neg h1, if_neg h2, if_neg (by simp [h3, h4])]
        exact .inr ⟨e, x, rfl, h⟩
theorem edgesE_ok {a b : List (Int × Int)} {play : Int} (h : edgesE a b play = 0) : a.length ≤ 30 ∧ b.length ≤ 30 ∧ a.all markB = true ∧ b.all markB = true ∧ fromB play 0 1000000 = true ∧ ordB a = true ∧ ordB b = true := by
  unfold edgesE at h
  split at h
  · cases h
  rename_i h1
  split at h
  · cases h
  rename_i h2
  split at h
  · cases h
  rename_i h3
  have k : ∀ {x : Bool}, ¬ x = false → x = true := fun {x} h => by cases x <;> simp_all
  exact ⟨by omega, by omega, k fun e => h2 (.inl e), k fun e => h2 (.inr (.inl e)), k fun e => h2 (.inr (.inr e)), k fun e => h3 (.inl e), k fun e => h3 (.inr e)⟩

/-- A pair of indices that are. -/
def inP (n m : Nat) (p : Int × Int) : Bool := fromB p.1 0 ((n : Int) - 1) && fromB p.2 0 ((m : Int) - 1)
theorem inp_any (n m s1 s2 : Nat) (A B : Option Addr) (ca cb : Nat) (p : Int × Int) (w : World) (h1 : Blk w s1 48 #[.slice A n ca]) (h2 : Blk w s2 48 #[.slice B m cb]) (hn : n ≤ 17592186043904) (hm : m ≤ 17592186043904) :
    Calls Try.prog 58 #[.agg #[.int .i64 p.1, .int .i64 p.2], .pointer (some ⟨s1, 0, none⟩), .pointer (some ⟨s2, 0, none⟩)] w fun e w' => e = .returned (.bool (inP n m p)) ∧ Aft w w' := by
  obtain ⟨x, y⟩ := p
  unfold inP
  dsimp only
  have ha := Aft.alloc w (.cells #[.int .i64 x, .int .i64 y] 57)
  have HA := Lib.hid ha
  have y1 : (w.alloc (.cells #[.int .i64 x, .int .i64 y] 57)).cell? ⟨s1, 0, none⟩ = some (.slice A n ca) := (h1.aft ha).cell 0
  have y2 := h1.lt
  have y3 : (w.alloc (.cells #[.int .i64 x, .int .i64 y] 57)).cell? ⟨s2, 0, none⟩ = some (.slice B m cb) := (h2.aft ha).cell 0
  have y4 := h2.lt
  clear ha h1 h2
  go_enter Try.func58, Try.ntmps58
  cases h1 : fromB x 0 ((n : Int) - 1)
  · have H1 := Lib.hid h1
    clear h1
    go_wp2_with (go_at_call 45; refine (in_any _ _ _ _).mono ?_; rintro e w' ⟨rfl, rfl⟩; rw [H1.out])
    go_ret
    exact ⟨rfl, HA.out⟩
  · have H1 := Lib.hid h1
    clear h1
    go_wp2_with (first | (go_at_call_of 45 (Value.int IntKind.i64 x); refine (in_any _ _ _ _).mono ?_; rintro e w' ⟨rfl, rfl⟩; rw [H1.out]) | (go_at_call_of 45 (Value.int IntKind.i64 y); refine (in_any _ _ _ _).mono ?_; rintro e w' ⟨rfl, rfl⟩))
    go_ret
    exact ⟨rfl, HA.out⟩
theorem runs_58 (args : Array Value) (w : World) : (callFunc 58 args).run Try.prog w = .ok (.enter 58 args) w := by simp [go_sem]
theorem every_inp (n m s1 s2 : Nat) (A B : Option Addr) (ca cb : Nat) (l : List (Int × Int)) (Al : Option Addr) (cl : Nat) (w : World) (h1 : Blk w s1 48 #[.slice A n ca]) (h2 : Blk w s2 48 #[.slice B m cb]) (hn : n ≤ 17592186043904) (hm : m ≤ 17592186043904) (hL : Prs w Al l) :
    Calls Try.prog 57 #[.slice Al l.length cl, .func (.func 58) #[] #[.pointer (some ⟨s1, 0, none⟩), .pointer (some ⟨s2, 0, none⟩)]] w fun e w' => e = .returned (.bool (l.all (inP n m))) ∧ Aft w w' :=
  everyPair (FlatR enc2) FlatR.mono 58 [.pointer (some ⟨s1, 0, none⟩), .pointer (some ⟨s2, 0, none⟩)] (inP n m) Al l cl w hL runs_58 fun x _ W ha v0 v1 hv u => by
    unfold FlatR enc2 at hv
    cases hv
    exact inp_any n m s1 s2 A B ca cb x _ ((h1.aft ha).lat u) ((h2.aft ha).lat u) hn hm

/-- A level that is allowed. -/
def lvlB (n : Int) : Bool := fromB n 0 30
theorem lvl_any (n : Int) (w : World) : Calls Try.prog 67 #[.int .i64 n] w fun e w' => e = .returned (.bool (lvlB n)) ∧ Aft w w' := by
  unfold lvlB
  go_enter Try.func67, Try.ntmps67
  go_wp2_with (go_at_call 45; refine (in_any _ _ _ _).mono ?_; rintro e w' ⟨rfl, rfl⟩)
  go_ret
  exact ⟨rfl, Aft.refl _⟩
theorem runs_67 (args : Array Value) (w : World) : (callFunc 67 args).run Try.prog w = .ok (.enter 67 args) w := by simp [go_sem]
end Go.Proofs
end

section
/- Walks: Matches. -/
namespace Go.Proofs
open Go.RowKit
attribute [local go_sem] Oper.semAt_some

theorem EdgesAt.later {w0 w w' : World} {x : Nat} {a b : List (Int × Int)} {play : Int} {A B : Option Addr} {ca cb : Nat} (h : EdgesAt w0 w x a b play A B ca cb) (ha : Aft w w') : EdgesAt w0 w' x a b play A B ca cb := ⟨h.1.aft ha, h.2.1, h.2.2.1.trans ha, h.2.2.2.1.aft ha, h.2.2.2.2.aft ha⟩
/-- Whether a pair may follow. -/
def stepB (play : Int) (la lb : List (Int × Int)) (last p : Int × Int) : Bool := decide (last.1 < p.1) && (decide (last.2 < p.2) && sameM play (la.getD p.1.toNat (0, 0)) (lb.getD p.2.toNat (0, 0)))
def walkB (play : Int) (la lb : List (Int × Int)) : Int × Int → List (Int × Int) → Bool
  | _, [] => true
  | last, p :: r => stepB play la lb last p && walkB play la lb p r
def matchE (la lb : List (Int × Int)) (play : Int) (l : List (Int × Int)) : Int := if edgesE la lb play ≠ 0 then edgesE la lb play else if l.all (inP la.length lb.length) = false then 2 else 0
def matchV (la lb : List (Int × Int)) (play : Int) (l : List (Int × Int)) : Bool := decide (matchE la lb play l = 0) && walkB play la lb (-1, -1) l

set_option maxRecDepth 100000 in
set_option maxHeartbeats 4000000 in
theorem matches_bad (la lb : List (Int × Int)) (play : Int) (l : List (Int × Int)) (A B Al : Option Addr) (ca cb cl : Nat) (w : World) (hA : Prs w A la) (hB : Prs w B lb) (hL : Prs w Al l) (he : edgesE la lb play ≠ 0) :
    Calls Try.prog 20 #[.slice A la.length ca, .slice B lb.length cb, .int .i64 play, .slice Al l.length cl] w fun e w' => e = .returned (.tuple #[.bool false, .int .i64 (edgesE la lb play)]) ∧ Aft w w' := by
  obtain ⟨s, hs⟩ : ∃ s, w.heap.size = s := ⟨_, rfl⟩
  have F0 := ((Fr.start w).alloc rfl 48 #[.slice A la.length ca]).alloc (by simp) 48 #[.slice B lb.length cb]
  simp only [List.nil_append, List.cons_append] at F0
  rw [hs] at F0
  have HF0 := Lib.hid F0
  have HO := Lib.hid (asked_any la lb play A B ca cb _ (hA.aft F0.aft) (hB.aft F0.aft))
  have t1 : (edgesE la lb play != 0) = true := by simpa using he
  have HNE := Lib.hid he
  clear hA hB hL F0 he
  generalize edgesE la lb play = E at *
  go_enter Try.func20, Try.ntmps20
  go_wp2_with (go_at_call 56; refine HO.out.mono ?_; rintro e w2 (⟨-, rfl, u, rfl⟩ | ⟨h, -⟩); rotate_left; exact absurd h HNE.out)
  exact bodyPost_ret (v := .tuple #[.bool false, .int .i64 E]) (by simp [results, Try.results20, go_sem]) rfl ⟨rfl, HF0.out.aft.then_lat u⟩

set_option maxRecDepth 100000 in
set_option maxHeartbeats 4000000 in
theorem matches_arg (la lb : List (Int × Int)) (play : Int) (l : List (Int × Int)) (A B Al : Option Addr) (ca cb cl : Nat) (w : World) (hA : Prs w A la) (hB : Prs w B lb) (hL : Prs w Al l) (he : edgesE la lb play = 0) (hb : l.all (inP la.length lb.length) = false) :
    Calls Try.prog 20 #[.slice A la.length ca, .slice B lb.length cb, .int .i64 play, .slice Al l.length cl] w fun e w' => e = .returned (.tuple #[.bool false, .int .i64 2]) ∧ Aft w w' := by
  obtain ⟨s, hs⟩ : ∃ s, w.heap.size = s := ⟨_, rfl⟩
  have F0 := ((Fr.start w).alloc rfl 48 #[.slice A la.length ca]).alloc (by simp) 48 #[.slice B lb.length cb]
  simp only [List.nil_append, List.cons_append] at F0
  rw [hs] at F0
  have HF0 := Lib.hid F0
  have HO := Lib.hid (asked_any la lb play A B ca cb _ (hA.aft F0.aft) (hB.aft F0.aft))
  have hla := hA.len
  have hlb := hB.len
  have HV := Lib.hid fun W s1 s2 (h : Aft w W) (h1 : Blk W s1 48 #[.slice A la.length ca]) (h2 : Blk W s2 48 #[.slice B lb.length cb]) => every_inp la.length lb.length s1 s2 A B ca cb l Al cl W h1 h2 hla hlb (hL.aft h)
  rw [hb] at HV
  clear hA hB hL F0 hb
  go_enter Try.func20, Try.ntmps20
  go_upto_block 0 with (go_at_call 56; refine HO.out.mono ?_; rintro e w2 (⟨h, -⟩ | ⟨-, x, rfl, hE⟩); exact absurd he h)
  have HF2 := Lib.hid (HF0.out.later hE.2.2.1)
  have HE := Lib.hid hE
  have hxb := hE.2.1
  clear hE
  simp only [World.size_alloc] at hxb
  try rw [hs]
  generalize (w.alloc (.cells #[.slice A la.length ca] 48)).alloc (.cells #[.slice B lb.length cb] 48) = W1 at *
  clear HO HF0
  go_wp2_with (go_at_call 57; refine (HV.out _ _ _ HF2.out.aft (HF2.out.nth 0 rfl) (HF2.out.nth 1 rfl)).mono ?_; rintro e w3 ⟨rfl, u, rfl⟩)
  exact bodyPost_ret (v := .tuple #[.bool false, .int .i64 2]) (by simp [results, Try.results20, go_sem]) rfl ⟨rfl, HF2.out.aft.then_lat u⟩

set_option maxRecDepth 100000 in
set_option maxHeartbeats 4000000 in
theorem matches_loop (la lb : List (Int × Int)) (play : Int) (l : List (Int × Int)) (A B Al : Option Addr) (ca cb cl : Nat) (w : World) (hA : Prs w A la) (hB : Prs w B lb) (hL : Prs w Al l) (he : edgesE la lb play = 0) (hall : l.all (inP la.length lb.length) = true) (rb : Bool) (hb : walkB play la lb (-1, -1) l = rb) :
    Calls Try.prog 20 #[.slice A la.length ca, .slice B lb.length cb, .int .i64 play, .slice Al l.length cl] w fun e w' => e = .returned (.tuple #[.bool rb, .int .i64 0]) ∧ Aft w w' := by
  obtain ⟨s, hs⟩ : ∃ s, w.heap.size = s := ⟨_, rfl⟩
  have F0 := ((Fr.start w).alloc rfl 48 #[.slice A la.length ca]).alloc (by simp) 48 #[.slice B lb.length cb]
  simp only [List.nil_append, List.cons_append] at F0
  rw [hs] at F0
  have HF0 := Lib.hid F0
  have HO := Lib.hid (asked_any la lb play A B ca cb _ (hA.aft F0.aft) (hB.aft F0.aft))
  have hla := hA.len
  have hlb := hB.len
  have hll := hL.len
  have HV := Lib.hid fun W s1 s2 (h : Aft w W) (h1 : Blk W s1 48 #[.slice A la.length ca]) (h2 : Blk W s2 48 #[.slice B lb.length cb]) => every_inp la.length lb.length s1 s2 A B ca cb l Al cl W h1 h2 hla hlb (hL.aft h)
  rw [hall] at HV
  obtain ⟨-, -, hma, hmb, -⟩ := edgesE_ok he
  have HMA := Lib.hid hma
  have HMB := Lib.hid hmb
  have HALL := Lib.hid hall
  have HL := Lib.hid hL
  have HBB := Lib.hid hb
  clear hA hB hL F0 hb hma hmb hall
  go_enter Try.func20, Try.ntmps20
  go_upto_block 0 with (go_at_call 56; refine HO.out.mono ?_; rintro e w2 (⟨h, -⟩ | ⟨-, x, rfl, hE⟩); exact absurd he h)
  have HF2 := Lib.hid (HF0.out.later hE.2.2.1)
  have HE := Lib.hid hE
  have hxb := hE.2.1
  clear hE
  simp only [World.size_alloc] at hxb
  try rw [hs]
  generalize (w.alloc (.cells #[.slice A la.length ca] 48)).alloc (.cells #[.slice B lb.length cb] 48) = W1 at *
  clear HO HF0
  go_upto_region 6 with (go_at_call 57; refine (HV.out _ _ _ HF2.out.aft (HF2.out.nth 0 rfl) (HF2.out.nth 1 rfl)).mono ?_; rintro e w3 ⟨rfl, u, rfl⟩)
  have HF3 := Lib.hid (HF2.out.later (Aft.lat _ u))
  have HE3 := Lib.hid (HE.out.later (Aft.lat _ u))
  generalize w2.lat u = W3 at *
  clear HF2 HE HV
  obtain ⟨z, hz⟩ : ∃ z, W3.heap.size = z := ⟨_, rfl⟩
  have HB4 : Hid (Blk (W3.alloc (.cells #[.int .i64 (-1), .int .i64 (-1)] 57)) z 57 #[.int .i64 (-1), .int .i64 (-1)]) := Lib.hid (by rw [← hz]; exact Blk.new W3 57 _)
  have HA4 := Lib.hid (Aft.alloc W3 (.cells #[.int .i64 (-1), .int .i64 (-1)] 57))
  have hz3 : W3.heap.size ≤ z := Nat.le_of_eq hz
  have HZ := Lib.hid hz
  clear hz
  go_upto_block 1 with fail
  try rw [HZ.out]
  clear HZ
  generalize W3.alloc (.cells #[.int .i64 (-1), .int .i64 (-1)] 57) = W4 at *
  refine wp_block ?_
  go_loopw [34] (fun i wr => ∃ (k : Nat) (p : Int × Int), i = .int .i64 (k : Nat) ∧ k ≤ l.length ∧ Hid (walkB play la lb p (l.drop k) = rb) ∧ Aft W3 wr ∧ Blk wr z 57 #[.int .i64 p.1, .int .i64 p.2]) (fun i _ => l.length - (intOf i).toNat)
  case atStart => exact ⟨0, (-1, -1), rfl, by omega, HBB, HA4.out, HB4.out⟩
  case round =>
    obtain ⟨k, ⟨p1, p2⟩, rfl, hk, HX, hA5, hB5⟩ := hrel
    have HA0 := Lib.hid hA5
    have HB0 := Lib.hid hB5
    clear HA4 HB4 hA5 hB5
    by_cases hkl : k < l.length
    · have t1 : decide (k < l.length) = true := by simpa using hkl
      obtain ⟨b9, o9, rfl, hb9, hc⟩ := (HL.out.aft (HF3.out.aft.trans HA0.out)).at hkl
      obtain ⟨x0, x1⟩ := hc k hkl
      have hin := List.all_eq_true.1 HALL.out _ (List.getElem_mem hkl)
      rw [List.drop_eq_getElem_cons hkl] at HX
      obtain ⟨⟨px, py⟩, hp⟩ : ∃ y, l[k] = y := ⟨_, rfl⟩
      rw [hp] at x0 x1 hin HX
      unfold inP at hin
      rw [Bool.and_eq_true, fromB_iff, fromB_iff] at hin
      dsimp only at x0 x1 hin
      obtain ⟨ix, rfl⟩ : ∃ ix : Nat, px = ix := ⟨px.toNat, by omega⟩
      obtain ⟨jx, rfl⟩ : ∃ jx : Nat, py = jx := ⟨py.toNat, by omega⟩
      have hix : ix < la.length := by omega
      have hjx : jx < lb.length := by omega
      have HSA := Lib.hid fun W (h : Aft W3 W) => same_any la lb play A B ca cb x W1 W (HE3.out.later h) ix jx hix hjx (List.all_eq_true.1 HMA.out _ (List.getElem_mem hix)) (List.all_eq_true.1 HMB.out _ (List.getElem_mem hjx))
      have hsv : stepB play la lb (p1, p2) ((ix : Int), (jx : Int)) = (decide (p1 < (ix : Int)) && (decide (p2 < (jx : Int)) && sameM play la[ix] lb[jx])) := by
        unfold stepB
        dsimp only
        rw [Int.toNat_natCast, Int.toNat_natCast, List.getD_eq_getElem?_getD, List.getD_eq_getElem?_getD, List.getElem?_eq_getElem hix, List.getElem?_eq_getElem hjx]
        rfl
      have HX2 : Hid ((stepB play la lb (p1, p2) ((ix : Int), (jx : Int)) && walkB play la lb ((ix : Int), (jx : Int)) (l.drop (k + 1))) = rb) := HX
      rw [hsv] at HX2
      obtain ⟨sm, hsm⟩ : ∃ sm, sameM play la[ix] lb[jx] = sm := ⟨_, rfl⟩
      rw [hsm] at HX2 HSA
      obtain ⟨zj, hzj⟩ : ∃ zj, wr.heap.size = zj := ⟨_, rfl⟩
      obtain ⟨W5, hW5⟩ : ∃ W5, wr.alloc (.cells #[.int .i64 (ix : Nat), .int .i64 (jx : Nat)] 57) = W5 := ⟨_, rfl⟩
      have ha5 := hW5 ▸ Aft.alloc wr (.cells #[.int .i64 (ix : Nat), .int .i64 (jx : Nat)] 57)
      have HB5 : Hid (Blk W5 zj 57 #[.int .i64 (ix : Nat), .int .i64 (jx : Nat)]) := Lib.hid (by rw [← hW5, ← hzj]; exact Blk.new wr 57 _)
      have HBZ := Lib.hid (HB0.out.aft ha5)
      have HA5 := Lib.hid (HA0.out.trans ha5)
      have hzz : z ≠ zj := by have := HB0.out.lt; omega
      clear hc hp HX hsv hsm hin
      go_upto_region 10 with fail
      try rw [hW5]
      try rw [hzj]
      clear hW5 hzj x0 x1 ha5 HB0 HA0 hb9 t1
      have c1 : W5.cell? ⟨zj, 0, none⟩ = some (.int .i64 (ix : Nat)) := HB5.out.cell 0
      have c2 : W5.cell? ⟨zj, 1, none⟩ = some (.int .i64 (jx : Nat)) := HB5.out.cell 1
      have c3 := HB5.out.lt
      have c4 : W5.cell? ⟨z, 0, none⟩ = some (.int .i64 p1) := HBZ.out.cell 0
      have c5 : W5.cell? ⟨z, 1, none⟩ = some (.int .i64 p2) := HBZ.out.cell 1
      have c6 := HBZ.out.lt
      by_cases h1 : p1 < (ix : Int)
      · have t1 : decide ((ix : Int) ≤ p1) = false := by rw [decide_eq_false_iff_not]; omega
        by_cases h2 : p2 < (jx : Int)
        · have t2 : decide ((jx : Int) ≤ p2) = false := by rw [decide_eq_false_iff_not]; omega
          rw [decide_eq_true h1, decide_eq_true h2, Bool.true_and, Bool.true_and] at HX2
          cases sm
          · have hrb : rb = false := by rw [← HX2.out]; rfl
            subst hrb
            clear HX2 h1 h2
            go_wp2_with (go_at_call 59; refine (HSA.out _ HA5.out).mono ?_; rintro e w7 ⟨rfl, u7, rfl⟩)
            exact bodyPost_ret (v := .tuple #[.bool false, .int .i64 0]) (by simp [results, Try.results20, go_sem]) rfl ⟨rfl, (HF3.out.aft.trans HA5.out).then_lat u7⟩
          · rw [Bool.true_and] at HX2
            clear h1 h2
            have f1 := HBZ.out.frozen 0
            have f2 := HBZ.out.frozen 1
            go_wp2_with (go_at_call 59; refine (HSA.out _ HA5.out).mono ?_; rintro e w7 ⟨rfl, u7, rfl⟩)
            exact ⟨⟨k + 1, (ix, jx), by go_num, by omega, HX2, ((HA5.out.then_lat u7).then_setCell (p := ⟨z, 0, none⟩) hz3 _).then_setCell (p := ⟨z, 1, none⟩) hz3 _, ((HBZ.out.lat u7).store 0 _).store 1 _⟩, by simp [intOf]; omega⟩
        · have t2 : decide ((jx : Int) ≤ p2) = true := by rw [decide_eq_true_eq]; omega
          have hrb : rb = false := by rw [← HX2.out, decide_eq_true h1, decide_eq_false h2]; rfl
          subst hrb
          clear HX2 h1 h2
          go_wp2_with (go_at_call 59; refine (HSA.out _ HA5.out).mono ?_; rintro e w7 ⟨rfl, u7, rfl⟩)
          exact bodyPost_ret (v := .tuple #[.bool false, .int .i64 0]) (by simp [results, Try.results20, go_sem]) rfl ⟨rfl, HF3.out.aft.trans HA5.out⟩
      · have t1 : decide ((ix : Int) ≤ p1) = true := by rw [decide_eq_true_eq]; omega
        have hrb : rb = false := by rw [← HX2.out, decide_eq_false h1]; rfl
        subst hrb
        clear HX2 h1
        go_wp2_with (go_at_call 59; refine (HSA.out _ HA5.out).mono ?_; rintro e w7 ⟨rfl, u7, rfl⟩)
        exact bodyPost_ret (v := .tuple #[.bool false, .int .i64 0]) (by simp [results, Try.results20, go_sem]) rfl ⟨rfl, HF3.out.aft.trans HA5.out⟩
    · have t1 : decide (k < l.length) = false := by simpa using hkl
      have hrb : rb = true := by rw [← HX.out, List.drop_eq_nil_of_le (by omega)]; rfl
      subst hrb
      go_wp2_with fail
      exact bodyPost_ret (v := .tuple #[.bool true, .int .i64 0]) (by simp [results, Try.results20, go_sem]) rfl ⟨rfl, HF3.out.aft.trans HA0.out⟩
theorem matches_any (la lb : List (Int × Int)) (play : Int) (l : List (Int × Int)) (A B Al : Option Addr) (ca cb cl : Nat) (w : World) (hA : Prs w A la) (hB : Prs w B lb) (hL : Prs w Al l) :
    Calls Try.prog 20 #[.slice A la.length ca, .slice B lb.length cb, .int .i64 play, .slice Al l.length cl] w fun e w' => e = .returned (.tuple #[.bool (matchV la lb play l), .int .i64 (matchE la lb play l)]) ∧ Aft w w' := by
  by_cases he : edgesE la lb play = 0
  · cases h2 : l.all (inP la.length lb.length)
    · have e : matchE la lb play l = 2 := by unfold matchE; rw [if_neg (by simp [he]), if_pos h2]
      have e2 : matchV la lb play l = false := by unfold matchV; rw [e]; rfl
      rw [e, e2]
      exact matches_arg la lb play l A B Al ca cb cl w hA hB hL he h2
    · have e : matchE la lb play l = 0 := by unfold matchE; rw [if_neg (by simp [he]), if_neg (by simp [h2])]
      have e2 : matchV la lb play l = walkB play la lb (-1, -1) l := by unfold matchV; rw [e]; rfl
      rw [e, e2]
      exact matches_loop la lb play l A B Al ca cb cl w hA hB hL he h2 _ rfl
  · have e : matchE la lb play l = edgesE la lb play := by unfold matchE; rw [if_pos he]
    have e2 : matchV la lb play l = false := by unfold matchV; rw [e, decide_eq_false he]; rfl
    rw [e, e2]
    exact matches_bad la lb play l A B Al ca cb cl w hA hB hL he
end Go.Proofs
end

section
/- Words: a range over an iterator, each round of which begins by laying memory. -/
namespace Go.Proofs
open Go.RowKit

/-- As in Rng, for an iterator that lays no memory of its own. -/
structure Kept2 (B : Nat) (w w' : World) : Prop where
  same : ∀ k, B ≤ k → k ≤ B + 1 → w'.heap[k]? = w.heap[k]?
  size : w.heap.size ≤ w'.heap.size
def Two {β : Type} (B : Nat) (I : β → World → Prop) : Prop := ∀ s W W' r, I s W → W.grownBy W' (some r) → B ≤ r → r ≤ B + 1 → I s W'
def post2 (B : Nat) (I : Nat → World → Prop) (Ix : Code → World → Prop) (k : Nat) (W : World) : Exit → Act → World → Prop
  | .normal, _, W' => Kept2 B W W' ∧ I k W'
  | .ret, _, W' => Kept2 B W W' ∧ Ix .ret W'
  | .exit id, _, W' => Kept2 B W W' ∧ Ix (.exit id) W'
  | .goto t, _, W' => Kept2 B W W' ∧ Ix (.goto t) W'
  | .panic _, _, _ => False
  | .outgrown, _, _ => False
def Iter2 (n : Nat) (gf : Nat) (lb : Array Value) (B N : Nat) (Gv : Nat → World → World → Value → Prop) (Rep : World → Prop) : Prop :=
  ∀ (l : Nat) (J : Nat → World → Prop) (Jx : World → Prop) (W : World), W.heap.size = B + 2 → (∀ k W, J k W → Rep W) →
    (∀ k v W0 W1, k < N → J k W0 → Aft W0 W1 → B + 2 ≤ W0.heap.size → Gv k W0 W1 v → YieldAt Fence.wide (n - 1) Try.prog l #[v] W1 fun e W' =>
      (e = .returned (.bool true) ∧ J (k + 1) W' ∧ W1.heap.size ≤ W'.heap.size) ∨ (e = .returned (.bool false) ∧ Jx W')) →
    J 0 W →
    CallsIn Fence.wide n Try.prog gf (#[.func (.yield l) #[] #[]] ++ lb) W fun e W' => (∃ v, e = .returned v) ∧ (J N W' ∨ Jx W')

end Go.Proofs
end

section
/- Walks: pairs (68) and its iterator (97). -/
namespace Go.Proofs
open Go.RowKit
attribute [local go_sem] Oper.semAt_some

theorem Kept2.trans {B : Nat} {W W' W'' : World} (h : Kept2 B W W') (k : Kept2 B W' W'') : Kept2 B W W'' := ⟨fun j h1 h2 => (k.same j h1 h2).trans (h.same j h1 h2), Nat.le_trans h.size k.size⟩
theorem Kept2.of_aft {B : Nat} {W W' : World} (h : Aft W W') (hB : B + 2 ≤ W.heap.size) : Kept2 B W W' := ⟨fun j _ h2 => h.below.block j (by omega), h.size⟩
theorem Kept2.of_grown {B : Nat} {W W' : World} {row : Option Nat} (h : W.grownBy W' row) (hB : B + 2 ≤ W.heap.size) (hr : ∀ k, row = some k → k < B ∨ B + 2 ≤ k) : Kept2 B W W' :=
  ⟨fun j h1 h2 => h.block j (by omega) (fun e => by rcases hr j e.symm with h | h <;> omega), h.size⟩
/-- The boxes of an iterator over pairs. -/
def RepP (b1 b2 n m : Nat) (W : World) : Prop := W.cell? ⟨b1, 0, none⟩ = some (.int .i64 (n : Nat)) ∧ W.cell? ⟨b2, 0, none⟩ = some (.int .i64 (m : Nat)) ∧ b1 < W.heap.size ∧ b2 < W.heap.size
def GivesP (m k : Nat) (_ _ : World) (v : Value) : Prop := ∃ i j, k = i * m + j ∧ j < m ∧ v = .agg #[.int .i64 (i : Nat), .int .i64 (j : Nat)]
theorem pairs_any (n m : Nat) (w : World) :
    Calls Try.prog 68 #[.int .i64 (n : Nat), .int .i64 (m : Nat)] w fun e w' => e = .returned (.func (.func 97) #[] #[.pointer (some ⟨w.heap.size, 0, none⟩), .pointer (some ⟨w.heap.size + 1, 0, none⟩)]) ∧ w' = (w.alloc (.cells #[.int .i64 (n : Nat)] 3)).alloc (.cells #[.int .i64 (m : Nat)] 3) := by
  go_enter Try.func68, Try.ntmps68
  go_wp2_with fail
  go_ret
  exact ⟨rfl, rfl⟩
theorem runs_97 (args : Array Value) (w : World) : (callFunc 97 args).run Try.prog w = .ok (.enter 97 args) w := by simp [go_sem]
def YieldP (J : Nat → World → Prop) (Jx : World → Prop) (k : Nat) (W1 : World) (e : Ending) (W' : World) : Prop :=
  (e = .returned (.bool true) ∧ J (k + 1) W' ∧ W1.heap.size ≤ W'.heap.size) ∨ (e = .returned (.bool false) ∧ Jx W')
def IterP (J : Nat → World → Prop) (Jx : World → Prop) (N : Nat) (e : Ending) (W : World) : Prop := (∃ v, e = .returned v) ∧ (J N W ∨ Jx W)

set_option maxRecDepth 100000 in
set_option maxHeartbeats 4000000 in
theorem iter97 (fu : Nat) (b1 b2 n m B : Nat) (hn : n ≤ 1000) (hm : m ≤ 1000) :
    Iter2 fu 97 #[.pointer (some ⟨b1, 0, none⟩), .pointer (some ⟨b2, 0, none⟩)] B (n * m) (GivesP m) (RepP b1 b2 n m) := by
  intro l J Jx W hsz hrep hY h0
  obtain ⟨k1, k2, k3, k4⟩ := hrep 0 W h0
  have HR := Lib.hid hrep
  have HY : Hid (∀ k v W0 W1, k < n * m → J k W0 → Aft W0 W1 → B + 2 ≤ W0.heap.size → GivesP m k W0 W1 v → YieldAt Fence.wide (fu - 1) Try.prog l #[v] W1 (YieldP J Jx k W1)) := Lib.hid hY
  have H0 : Hid (J (0 * m) W) := Lib.hid (by rw [Nat.zero_mul]; exact h0)
  clear hrep hY h0
  refine callsIn_wide.2 ?_
  show Calls Try.prog 97 #[.func (.yield l) #[] #[], .pointer (some ⟨b1, 0, none⟩), .pointer (some ⟨b2, 0, none⟩)] W (IterP J Jx (n * m))
  go_enter Try.func97, Try.ntmps97
  go_upto_block 0 with fail
  clear k1 k2 k3 k4
  refine wp_block ?_
  go_loopw [7] (fun i wr => ∃ i0 : Nat, i = .int .i64 (i0 : Nat) ∧ i0 ≤ n ∧ J (i0 * m) wr ∧ B + 2 ≤ wr.heap.size) (fun i _ => n - (intOf i).toNat)
  case atStart => exact ⟨0, rfl, by omega, H0.out, by omega⟩
  case round =>
    obtain ⟨ix, rfl, hi, hj, hsz2⟩ := hrel
    have HJK : Hid (J (ix * m + 0) wr) := Lib.hid hj
    clear hj H0
    by_cases hil : ix < n
    · have t1 : decide (ix < n) = true := by simpa using hil
      obtain ⟨k1, k2, k3, k4⟩ := HR.out _ wr HJK.out
      go_upto_block 2 with fail
      clear k1 k2 k3 k4 t1
      refine wp_block ?_
      go_loopw [11] (fun j wr => ∃ j0 : Nat, j = .int .i64 (j0 : Nat) ∧ j0 ≤ m ∧ J (ix * m + j0) wr ∧ B + 2 ≤ wr.heap.size) (fun j _ => m - (intOf j).toNat)
      case atStart => exact ⟨0, rfl, by omega, HJK.out, hsz2⟩
      case round =>
        obtain ⟨jx, rfl, hjx, hj, hsz3⟩ := hrel
        have HJ2 := Lib.hid hj
        clear hj HJK
        by_cases hjm : jx < m
        · have t2 : decide (jx < m) = true := by simpa using hjm
          have hlt : ix * m + jx < n * m := by
            have h1 : (ix + 1) * m ≤ n * m := Nat.mul_le_mul_right m (by omega)
            rw [Nat.add_mul, Nat.one_mul] at h1
            omega
          obtain ⟨fn, tmps, assign, body, hy, hR⟩ := HY.out _ (.agg #[.int .i64 (ix : Nat), .int .i64 (jx : Nat)]) wr wr hlt HJ2.out (Aft.refl _) hsz3 ⟨ix, jx, rfl, hjm, rfl⟩
          have HRR := Lib.hid hR
          have HSZ := Lib.hid hsz3
          clear hR hlt hsz3
          go_upto_region 6 with fail
          refine (wpIn_wide (n := fu)).1 ?_
          gi_wp2_with fail
          refine ⟨(fun h => by cases h), HRR.out.mono ?_⟩
          rintro e W3 (⟨rfl, hJ3, hs3⟩ | ⟨rfl, hJx3⟩)
          · have hs3' : B + 2 ≤ W3.heap.size := Nat.le_trans HSZ.out hs3
            have HJ4 : Hid (J (ix * m + (jx + 1)) W3) := Lib.hid hJ3
            clear hy HRR hJ3 hs3
            gi_wp2_with fail
            go_wp2_with fail
            exact ⟨⟨jx + 1, by go_num, by omega, HJ4.out, by omega⟩, by simp [intOf]; omega⟩
          · clear hy HRR
            gi_wp2_with fail
            go_wp2_with fail
            go_end0
            exact ⟨⟨_, rfl⟩, .inr hJx3⟩
        · have t2 : decide (jx < m) = false := by simpa using hjm
          obtain rfl : jx = m := by omega
          have HJ3 : Hid (J ((ix + 1) * jx) wr) := Lib.hid (by rw [Nat.add_mul, Nat.one_mul]; exact HJ2.out)
          clear hjm
          go_wp2_with fail
          exact ⟨⟨ix + 1, by go_num, by omega, HJ3.out, by omega⟩, by simp [intOf]; omega⟩
    · have t1 : decide (ix < n) = false := by simpa using hil
      obtain rfl : ix = n := by omega
      have HJ3 : Hid (J (ix * m) wr) := HJK
      clear hil
      go_wp2_with fail
      go_end0
      exact ⟨⟨_, rfl⟩, .inl HJ3.out⟩
end Go.Proofs
end

section
/- Walks: what Bars asks of its rows. -/
namespace Go.Proofs
open Go.RowKit
attribute [local go_sem] Oper.semAt_some

theorem every_lvl (l : List Int) (A : Option Addr) (c : Nat) (w : World) (hA : Ints w A l) :
    Calls Try.prog 66 #[.slice A l.length c, .func (.func 67) #[] #[]] w fun e w' => e = .returned (.bool (l.all lvlB)) ∧ Aft w w' :=
  everyInt IntR IntR.mono 67 [] lvlB A l c w hA runs_67 fun x _ W ha v0 hv u => by
    unfold IntR at hv
    cases hv
    exact lvl_any x _
theorem row_lvl (l : List Int) (A : Option Addr) (c : Nat) (w : World) (hA : Ints w A l) :
    Calls Try.prog 65 #[.slice A l.length c] w fun e w' => e = .returned (.bool (l.all lvlB)) ∧ Aft w w' := by
  have H := Lib.hid (every_lvl l A c w hA)
  clear hA
  go_enter Try.func65, Try.ntmps65
  go_wp2_with (go_at_call 66; refine H.out.mono ?_; rintro e w2 ⟨rfl, u, rfl⟩)
  go_ret
  exact ⟨rfl, Aft.lat _ u⟩
theorem runs_65 (args : Array Value) (w : World) : (callFunc 65 args).run Try.prog w = .ok (.enter 65 args) w := by simp [go_sem]
theorem row_len (n m s : Nat) (A B : Option Addr) (c cb : Nat) (w : World) (h : Blk w s 48 #[.slice B m cb]) :
    Calls Try.prog 64 #[.slice A n c, .pointer (some ⟨s, 0, none⟩)] w fun e w' => e = .returned (.bool (decide (n = m))) ∧ Aft w w' := by
  have y1 : w.cell? ⟨s, 0, none⟩ = some (.slice B m cb) := h.cell 0
  have y2 := h.lt
  clear h
  go_enter Try.func64, Try.ntmps64
  go_wp2_with fail
  go_ret
  refine ⟨?_, Aft.refl _⟩
  by_cases e : n = m
  · simp [e]
  · simp [e]; omega
theorem runs_64 (args : Array Value) (w : World) : (callFunc 64 args).run Try.prog w = .ok (.enter 64 args) w := by simp [go_sem]
theorem every_rows (l : List (List Int)) (A : Option Addr) (c : Nat) (w : World) (hA : Lists w A l) :
    Calls Try.prog 63 #[.slice A l.length c, .func (.func 65) #[] #[]] w fun e w' => e = .returned (.bool (l.all fun r => r.all lvlB)) ∧ Aft w w' :=
  everyList ListR ListR.mono 65 [] (fun r => r.all lvlB) A l c w hA runs_65 fun x _ W ha v0 hv u => by
    obtain ⟨A', c', h1, h2⟩ := hv
    cases h1
    exact row_lvl x A' c' _ (h2.lat u)
theorem every_len (l : List (List Int)) (A : Option Addr) (c : Nat) (m s : Nat) (B : Option Addr) (cb : Nat) (w : World) (hA : Lists w A l) (h : Blk w s 48 #[.slice B m cb]) :
    Calls Try.prog 63 #[.slice A l.length c, .func (.func 64) #[] #[.pointer (some ⟨s, 0, none⟩)]] w fun e w' => e = .returned (.bool (l.all fun r => decide (r.length = m))) ∧ Aft w w' :=
  everyList ListR ListR.mono 64 [.pointer (some ⟨s, 0, none⟩)] (fun r => decide (r.length = m)) A l c w hA runs_64 fun x _ W ha v0 hv u => by
    obtain ⟨A', c', h1, h2⟩ := hv
    cases h1
    exact row_len x.length m s A' B c' cb _ ((h.aft ha).lat u)
end Go.Proofs
end

section
/- A map from pairs to levels in memory of the call's own. -/
namespace Go.Proofs
open Go.RowKit Go.Maps Go.WideMaps

def prV (s : Nat × Nat) : Value := .agg #[.int .i64 (s.1 : Int), .int .i64 (s.2 : Int)]
def SmallP (s : Nat × Nat) : Prop := s.1 < 32 ∧ s.2 < 32
theorem prV_inj {s t : Nat × Nat} (h : prV s = prV t) : s = t := by
  unfold prV at h
  obtain ⟨a, b⟩ := s
  obtain ⟨c, d⟩ := t
  simp at h
  simp only [Prod.mk.injEq]
  omega
theorem laidOutT : laidOutB Try.prog = true := by kernel_rfl
theorem rowT57 : (57 : TypeId) < Try.prog.types.size := of_decide_eq_true (by kernel_rfl)
theorem keyT57 : Try.prog.keyTypeAt 2 57 = true := by kernel_rfl
theorem prKeyed : Keyed Try.prog 57 := Keyed.of_law (deep_law_laid laidOutT (m := 2) (Nat.le_of_ble_eq_true (by kernel_rfl)) rowT57 keyT57 (by rw [Try.underlying57]))
theorem keysP_true : ((List.range 32).all fun a => (List.range 32).all fun b => (keyOf Try.prog 57 (.agg #[.int .i64 (a : Int), .int .i64 (b : Int)])).isSome) = true := by kernel_rfl
theorem SmallP.key {s : Nat × Nat} (h : SmallP s) : ∃ kl, keyOf Try.prog 57 (prV s) = some kl := by
  have := List.all_eq_true.1 keysP_true s.1 (List.mem_range.2 h.1)
  have := List.all_eq_true.1 this s.2 (List.mem_range.2 h.2)
  exact Option.isSome_iff_exists.1 this

/-- The levels V, in block b. -/
def MapP (W : World) (b n : Nat) (V : Nat × Nat → Nat) : Prop :=
  ∃ D : DataW Unit, W.ownsMap Try.prog 57 (plainElem Try.prog 3) b n D ∧ ∀ s kl, SmallP s → keyOf Try.prog 57 (prV s) = some kl → D.atKey kl (.lit (.int .i64 0)) = .lit (.int .i64 (V s : Int))
theorem MapP.made (W : World) : MapP (W.alloc (.map #[] 0)) W.heap.size 0 fun _ => 0 := ⟨_, World.ownsMap_made _ _ _ _, fun l _ _ _ => by simp [WideAt.atKey_nil, DataW.atKey]⟩
theorem MapP.kept {W W' : World} {b n : Nat} {V : Nat × Nat → Nat} (h : MapP W b n V) {row : Option Nat} (hg : W.grownBy W' row) (hne : some b ≠ row) : MapP W' b n V := let ⟨D, h1, h2⟩ := h; ⟨D, h1.kept hg hne, h2⟩
theorem MapP.aft {W W' : World} {b n : Nat} {V : Nat × Nat → Nat} (h : MapP W b n V) (ha : Aft W W') : MapP W' b n V := h.kept (only_aft (only_refl W none) ha) (by simp)
theorem MapP.lt {W : World} {b n : Nat} {V : Nat × Nat → Nat} (h : MapP W b n V) : b < W.heap.size := let ⟨_, h1, _⟩ := h; h1.lt
theorem MapP.look {W : World} {b n : Nat} {V : Nat × Nat → Nat} (h : MapP W b n V) {s : Nat × Nat} (hs : SmallP s) : (Instr.lookup 146 (.map (some b)) (prV s) false).run Try.prog W = .ok (.int .i64 (V s : Int)) W := by
  obtain ⟨D, h1, h2⟩ := h
  obtain ⟨kl, hk⟩ := hs.key
  obtain ⟨v, ps, hrun, hv⟩ := h1.lookup prKeyed (e := 3) (t := 146) Try.underlying146 (Try.zeroValue3 W) (plainElem_int Try.underlying3 (a := 0) (by decide)) hk
  rw [h2 s kl hs hk] at hv
  obtain ⟨a, ha, hz⟩ := plainElem_int_inv Try.underlying3 hv
  subst ha
  simp at hz
  rw [hrun, ← hz.1.1]
theorem MapP.put {W : World} {b n : Nat} {V : Nat × Nat → Nat} (h : MapP W b n V) {s : Nat × Nat} (hs : SmallP s) (hn : n < 1000000) (x : Nat) (hx : x ≤ 1000) : ∃ w', (Instr.mapUpdate 146 (.map (some b)) (prV s) (.int .i64 (x : Int))).run Try.prog W = .ok () w' ∧ MapP w' b (n + 1) (fun t => if t = s then x else V t) ∧ W.grownBy w' (some b) := by
  obtain ⟨D, h1, h2⟩ := h
  obtain ⟨kl, hk⟩ := hs.key
  obtain ⟨w', hrun, h3, h4⟩ := h1.update prKeyed (e := 3) (t := 146) Try.underlying146 (by unfold maxLen; omega) hk (plainElem_int Try.underlying3 (a := (x : Int)) (by
    have h1 : IntKind.i64.min = -9223372036854775808 := by rfl
    have h2 : IntKind.i64.max = 9223372036854775807 := by rfl
    simp [Lit.wf]
    omega))
  refine ⟨w', hrun, ⟨_, h3, fun s' kl' hs' hk' => ?_⟩, h4⟩
  by_cases e : s' = s
  · subst e
    rw [hk] at hk'
    cases hk'
    rw [atKey_put_same h1.isMap (prKeyed.key hk)]
    dsimp only
    rw [if_pos rfl]
  · have hne : kl' ≠ kl := fun e' => e (by
      subst e'
      exact prV_inj (prKeyed.inj hk' hk))
    rw [atKey_put_other hne, h2 s' kl' hs' hk']
    dsimp only
    rw [if_neg e]
end Go.Proofs
end
