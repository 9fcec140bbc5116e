/- Own texts, merged: CtRa CtRb CtRc CtRd. -/
import Derived.Test.YtbchfakfdikkjaaGreatP04
import Derived.Test.YtbchfakfdikkjaaGreatP05
import Derived.Test.YtbchfakfdikkjaaGreatP07
import Derived.Test.YtbchfakfdikkjaaGreatP08
import Derived.Test.YtbchfakfdikkjaaGreatP16
import Derived.Test.YtbchfakfdikkjaaGreatP17
import Derived.BigGuard
import Derived.Deep.CutRange
set_option linter.unusedSimpArgs false
set_option linter.unusedVariables false
set_option linter.unnecessarySimpa false
section
namespace Go.Proofs
open Go.RowKit
open Court (refL begF noS struckB)
attribute [local go_sem] Oper.semAt_some

theorem box31 {W : World} {b : Nat} {N : Int} {s1 s2 : Value} (h : Blk W b 31 #[.int .i64 N, s1, s2]) : W.cell? ⟨b, 0, none⟩ = some (.int .i64 N) ∧ W.cell? ⟨b, 1, none⟩ = some s1 ∧ W.cell? ⟨b, 2, none⟩ = some s2 :=
  ⟨h.cell 0, h.cell 1, h.cell 2⟩

theorem cellA {W W' : World} {g i : Nat} {v : Value} (h : W.cell? ⟨g, i, none⟩ = some v) (hg : g < W.heap.size) (ha : Aft W W') : W'.cell? ⟨g, i, none⟩ = some v :=
  (World.cell?_of_block (a := ⟨g, i, none⟩) (ha.below.block g hg)).trans h

theorem not_from (n a b : Int) : (!fromB n a b) = (decide (n < a) || decide (b < n)) := by
  unfold fromB
  rw [Bool.not_and, ← decide_not, ← decide_not]
  congr 1 <;> exact decide_eq_decide.2 (by omega)

set_option maxHeartbeats 400000 in
theorem beside_any (n a b : Int) (w : World) :
    Calls Tryz.prog 57 #[.int .i64 n, .int .i64 a, .int .i64 b] w fun e w' => e = .returned (.bool (!fromB n a b)) ∧ w = w' := by
  go_enter Tryz.func57, Tryz.ntmps57
  go_wp2
  all_goals go_ret
  all_goals exact ⟨ret_bool (by first | exact (not_from n a b).symm | (rw [not_from]; simp_all)), rfl⟩

set_option maxHeartbeats 400000 in
theorem hasR_any (A : Option Addr) (l : List Int) (c : Nat) (x : Int) (w : World) (hA : Ints w A l) :
    Calls Tryz.prog 64 #[.slice A l.length c, .int .i64 x] w fun e w' => e = .returned (.bool (hasB l x)) ∧ w = w' := by
  have hl := hA.len
  go_enter Tryz.func64, Tryz.ntmps64
  go_wp2
  go_loop [5] (fun i => ∃ k : Nat, i = .int .i64 k ∧ k ≤ l.length ∧ hasB (l.take k) x = false) (fun i => l.length - (intOf i).toNat)
  case atStart => exact ⟨0, rfl, by omega, rfl⟩
  case round =>
    obtain ⟨k, rfl, hk, hany⟩ := hrel
    have HA := Lib.hid hany; clear hany
    by_cases hlt : k < l.length
    · obtain ⟨b, o, rfl, hbw, hc⟩ := hA.at hlt
      have hck := hc k hlt
      clear hc
      go_wp2
      · have hx : l[k] = x := by simp_all
        go_ret
        exact ⟨ret_bool (hasB_iff.2 (hx ▸ List.getElem_mem hlt)).symm, rfl⟩
      · have hx : ¬ l[k] = x := by simp_all
        go_round
        case rel => exact ⟨k + 1, by go_num, by omega, by rw [List.take_succ_eq_append_getElem hlt, hasB_false]; have := hasB_false.1 HA.out; simp only [List.mem_append, List.mem_singleton]; rintro (h | h); exact this h; exact hx h.symm⟩
        case measure => simp [intOf]; omega
    · go_wp2
      go_ret
      exact ⟨ret_bool (by have := HA.out; rw [List.take_of_length_le (by omega)] at this; exact this.symm), rfl⟩

theorem all_upto {l : List Int} {p : Int → Bool} (h : ∀ j, (hj : j < l.length) → j < l.length → p l[j] = true) : l.all p = true := by
  rw [List.all_eq_true]
  intro x hx
  obtain ⟨j, hj, rfl⟩ := List.mem_iff_getElem.1 hx
  exact h j hj hj
theorem all_not {l : List Int} {p : Int → Bool} {k : Nat} (hk : k < l.length) (h : p l[k] = false) : l.all p = false := by
  rw [Bool.eq_false_iff]
  intro h'
  have := List.all_eq_true.1 h' _ (List.getElem_mem hk)
  rw [h] at this
  cases this

set_option maxRecDepth 100000 in
set_option maxHeartbeats 2000000 in
theorem listedR_any (N : Int) (s1 s2 : Option Addr) (n1 n2 c1 c2 : Nat) (A : Option Addr) (l : List Int) (c : Nat) (w : World) (hN : 1 ≤ N ∧ N ≤ 14) (hA : Ints w A l) :
    Calls Tryz.prog 72 #[.agg #[.int .i64 N, .slice s1 n1 c1, .slice s2 n2 c2], .slice A l.length c] w fun e w' => e = .returned (.int .i64 (listedE N l)) ∧ Aft w w' := by
  have hl := hA.len
  have H0 := Lib.hid (Aft.alloc w (.cells #[.int .i64 N, .slice s1 n1 c1, .slice s2 n2 c2] 31))
  have HB := Lib.hid (Blk.new w 31 #[.int .i64 N, .slice s1 n1 c1, .slice s2 n2 c2])
  have HA := Lib.hid (hA.aft H0.out)
  have e1 : IntKind.i64.wrap (N - 1) = N - 1 := by rw [IntWalk.i64_in _ (by omega)]
  clear hA
  obtain ⟨bC, hbC⟩ : ∃ bC, w.heap.size = bC := ⟨_, rfl⟩
  rw [hbC] at HB
  have HBC := Lib.hid hbC
  clear hbC
  go_enter Tryz.func72, Tryz.ntmps72
  go_upto_block 0 with fail
  rw [HBC.out]
  generalize w.alloc (.cells #[.int .i64 N, .slice s1 n1 c1, .slice s2 n2 c2] 31) = W0 at *
  clear HBC
  refine wp_block ?_
  go_loopw [5] (fun i wr => ∃ k : Nat, i = .int .i64 k ∧ k ≤ l.length ∧ Aft W0 wr ∧ Hid (∀ j, (h : j < l.length) → j < k → Cl l[j] N = true)) (fun i _ => l.length - (intOf i).toNat)
  case atStart => exact ⟨0, rfl, by omega, Aft.refl _, Lib.hid fun j _ h => by omega⟩
  case round =>
    obtain ⟨k, rfl, hk, hy, HCL⟩ := hrel
    have HY := Lib.hid hy
    clear hy
    by_cases hkl : k < l.length
    · have t1 : decide (k < l.length) = true := by simpa using hkl
      have ik : (0 : Int) ≤ (k : Int) ∧ (k : Int) < (l.length : Int) := by omega
      obtain ⟨b, o, rfl, hb, hc⟩ := (HA.out.aft HY.out).at hkl
      obtain ⟨y, hyk⟩ : ∃ y, l[k] = y := ⟨_, rfl⟩
      have HYK := Lib.hid hyk
      have x0 := hc k hkl
      rw [hyk] at x0
      have HX : Hid (∀ W, Aft wr W → W.cell? ⟨b, o + k, none⟩ = some (.int .i64 y)) := Lib.hid fun W h => cellA x0 hb h
      have HN : Hid (∀ W, Aft wr W → W.cell? ⟨bC, 0, none⟩ = some (.int .i64 N)) := Lib.hid fun W h => (box31 (HB.out.aft (HY.out.trans h))).1
      clear hc hyk x0
      go_upto_region 4 with fail
      obtain ⟨bb, hbb⟩ : ∃ bb, (!fromB y 0 (N - 1)) = bb := ⟨_, rfl⟩
      have H57 : Hid (∀ W, Calls Tryz.prog 57 #[.int .i64 y, .int .i64 0, .int .i64 (N - 1)] W fun e w' => e = .returned (.bool bb) ∧ W = w') := Lib.hid fun W => by rw [← hbb]; exact beside_any y 0 (N - 1) W
      have HBB := Lib.hid hbb
      clear hbb
      refine wp_region_valsG (by kernel_rfl) 37 rfl (by kernel_rfl) (by kernel_rfl) [.slice (some ⟨b, o, none⟩) l.length c, .int .i64 k, .pointer (some ⟨b, o + k, none⟩), .int .i64 y, .pointer (some ⟨bC, 0, none⟩), .int .i64 N, .int .i64 (N - 1), .bool bb] rfl (fun W => Aft wr W) (Aft.drew _) ?st1 ?fi1
      case st1 =>
        intro i o v ho hv
        match i, ho, hv with
        | 0, ho, hv =>
          cases ho; cases hv
          refine .inl ⟨rfl, fun a W hk hw K hK => ?_⟩
          have e1 := hk.same 1 (by decide)
          exact op_val (by simp [go_sem, ev' e1]) (hK _ hw)
        | 1, ho, hv =>
          cases ho; cases hv
          refine .inl ⟨rfl, fun a W hk hw K hK => ?_⟩
          have e5 := hk.same 5 (by decide)
          exact op_val (by simp [go_sem, ev' e5]) (hK _ hw)
        | 2, ho, hv =>
          cases ho; cases hv
          refine .inl ⟨rfl, fun a W hk hw K hK => ?_⟩
          have e13 := hk.at_ 0 _ 13 _ rfl (by decide) _ rfl rfl rfl
          have e14 := hk.at_ 1 _ 14 _ rfl (by decide) _ rfl rfl rfl
          exact op_val (by simp [go_sem, ev' e13, ev' e14, ik]) (hK _ hw)
        | 3, ho, hv =>
          cases ho; cases hv
          refine .inl ⟨rfl, fun a W hk hw K hK => ?_⟩
          have e15 := hk.at_ 2 _ 15 _ rfl (by decide) _ rfl rfl rfl
          exact op_val (by simp [go_sem, ev' e15, HX.out W hw]) (hK _ hw)
        | 4, ho, hv =>
          cases ho; cases hv
          refine .inl ⟨rfl, fun a W hk hw K hK => ?_⟩
          have e2 := hk.same 2 (by decide)
          exact op_val (by simp [go_sem, ev' e2]) (hK _ hw)
        | 5, ho, hv =>
          cases ho; cases hv
          refine .inl ⟨rfl, fun a W hk hw K hK => ?_⟩
          have e17 := hk.at_ 4 _ 17 _ rfl (by decide) _ rfl rfl rfl
          exact op_val (by simp [go_sem, ev' e17, HN.out W hw]) (hK _ hw)
        | 6, ho, hv =>
          cases ho; cases hv
          refine .inl ⟨rfl, fun a W hk hw K hK => ?_⟩
          have e18 := hk.at_ 5 _ 18 _ rfl (by decide) _ rfl rfl rfl
          exact op_val (by simp [go_sem, ev' e18, e1]) (hK _ hw)
        | 7, ho, hv =>
          cases ho; cases hv
          refine .inl ⟨rfl, fun a W hk hw K hK => ?_⟩
          have e16 := hk.at_ 3 _ 16 _ rfl (by decide) _ rfl rfl rfl
          have e19 := hk.at_ 6 _ 19 _ rfl (by decide) _ rfl rfl rfl
          refine op_callN rfl rfl rfl _ rfl (vs := #[.int .i64 y, .int .i64 0, .int .i64 (N - 1)]) (by simp [e16, e19, show ∀ v, a.eval (.const v) = v from fun _ => rfl]) (H57.out W) fun e w' h => ?_
          obtain ⟨rfl, rfl⟩ := h
          exact ⟨_, rfl, hK _ hw⟩
        | _ + 8, _, hv => cases hv
      intro W hw
      simp only [List.drop_succ_cons, List.drop_zero, List.zip_cons_cons, List.zip_nil_right, putAll]
      simp only [Act.put, List.setIfInBounds_toArray, List.set]
      cases bb
      · have HCL2 : Hid (∀ j, (h : j < l.length) → j < k + 1 → Cl l[j] N = true) := Lib.hid fun j h h' => by
          by_cases e : j = k
          · subst e
            rw [HYK.out]
            unfold Cl
            simpa using HBB.out
          · exact HCL.out j h (by omega)
        go_wp2_with fail
        exact ⟨⟨k + 1, by go_num, by omega, HY.out.trans hw, HCL2⟩, by simp [intOf]; omega⟩
      · go_wp2_with fail
        go_ret
        refine ⟨ret_int ?_, H0.out.trans (HY.out.trans hw)⟩
        unfold listedE
        rw [if_neg]
        rw [all_not hkl (by rw [HYK.out]; unfold Cl; simpa using HBB.out)]
        decide
    · have t1 : decide (k < l.length) = false := by simpa using hkl
      have HAL : Hid (l.all (fun n => Cl n N) = true) := Lib.hid (all_upto fun j h h' => HCL.out j h (by omega))
      obtain ⟨W1, rfl⟩ : ∃ W1, W1 = wr := ⟨_, rfl⟩
      replace HA := Lib.hid (HA.out.aft HY.out)
      replace H0 := Lib.hid (H0.out.trans HY.out)
      clear HCL HY hkl HB
      go_upto_block 2 with fail
      refine wp_block ?_
      go_loopw [6] (fun i wr => ∃ k : Nat, 1 ≤ k ∧ i = .int .i64 k ∧ (k ≤ l.length ∨ k = 1) ∧ Aft W1 wr ∧ Hid (∀ j, j + 1 < k → (h : j + 1 < l.length) → l[j] < l[j+1])) (fun i _ => l.length - (intOf i).toNat)
      case atStart => exact ⟨1, by omega, rfl, by omega, Aft.refl _, Lib.hid fun j h => by omega⟩
      case round =>
        obtain ⟨k, hk1, rfl, hk, hy, HLT⟩ := hrel
        have HY := Lib.hid hy
        clear hy
        by_cases hkl : k < l.length
        · have t2 : decide (k < l.length) = true := by simpa using hkl
          have ik : (0 : Int) ≤ (k : Int) ∧ (k : Int) < (l.length : Int) := by omega
          have ik2 : (0 : Int) ≤ ((k - 1 : Nat) : Int) ∧ ((k - 1 : Nat) : Int) < (l.length : Int) := by omega
          have e2 : IntKind.i64.wrap ((k : Int) - 1) = ((k - 1 : Nat) : Int) := by rw [IntWalk.i64_in _ (by omega)]; omega
          obtain ⟨b, o, rfl, hb, hc⟩ := (HA.out.aft HY.out).at hkl
          obtain ⟨y, hyk⟩ : ∃ y, l[k] = y := ⟨_, rfl⟩
          obtain ⟨z, hzk⟩ : ∃ z, l[k-1] = z := ⟨_, rfl⟩
          have HYK := Lib.hid hyk
          have HZK := Lib.hid hzk
          have x0 := hc k hkl
          have x1 := hc (k - 1) (by omega)
          rw [hyk] at x0
          rw [hzk] at x1
          have HX : Hid (∀ W, Aft wr W → W.cell? ⟨b, o + k, none⟩ = some (.int .i64 y)) := Lib.hid fun W h => cellA x0 hb h
          have HX1 : Hid (∀ W, Aft wr W → W.cell? ⟨b, o + (k - 1), none⟩ = some (.int .i64 z)) := Lib.hid fun W h => cellA x1 hb h
          clear hc hyk x0 x1 hzk
          go_upto_region 9 with fail
          obtain ⟨bb, hbb⟩ : ∃ bb, decide (y ≤ z) = bb := ⟨_, rfl⟩
          refine wp_region_valsG (by kernel_rfl) 37 rfl (by kernel_rfl) (by kernel_rfl) [.slice (some ⟨b, o, none⟩) l.length c, .int .i64 k, .pointer (some ⟨b, o + k, none⟩), .int .i64 y, .slice (some ⟨b, o, none⟩) l.length c, .int .i64 k, .int .i64 ((k - 1 : Nat) : Int), .pointer (some ⟨b, o + (k - 1), none⟩), .int .i64 z, .bool bb] rfl (fun W => Aft wr W) (Aft.drew _) ?st2 ?fi2
          case st2 =>
            intro i o v ho hv
            match i, ho, hv with
            | 0, ho, hv =>
              cases ho; cases hv
              refine .inl ⟨rfl, fun a W hk hw K hK => ?_⟩
              have e1 := hk.same 1 (by decide)
              exact op_val (by simp [go_sem, ev' e1]) (hK _ hw)
            | 1, ho, hv =>
              cases ho; cases hv
              refine .inl ⟨rfl, fun a W hk hw K hK => ?_⟩
              have e6 := hk.same 6 (by decide)
              exact op_val (by simp [go_sem, ev' e6]) (hK _ hw)
            | 2, ho, hv =>
              cases ho; cases hv
              refine .inl ⟨rfl, fun a W hk hw K hK => ?_⟩
              have e27 := hk.at_ 0 _ 27 _ rfl (by decide) _ rfl rfl rfl
              have e28 := hk.at_ 1 _ 28 _ rfl (by decide) _ rfl rfl rfl
              exact op_val (by simp [go_sem, ev' e27, ev' e28, ik]) (hK _ hw)
            | 3, ho, hv =>
              cases ho; cases hv
              refine .inl ⟨rfl, fun a W hk hw K hK => ?_⟩
              have e29 := hk.at_ 2 _ 29 _ rfl (by decide) _ rfl rfl rfl
              exact op_val (by simp [go_sem, ev' e29, HX.out W hw]) (hK _ hw)
            | 4, ho, hv =>
              cases ho; cases hv
              refine .inl ⟨rfl, fun a W hk hw K hK => ?_⟩
              have e1 := hk.same 1 (by decide)
              exact op_val (by simp [go_sem, ev' e1]) (hK _ hw)
            | 5, ho, hv =>
              cases ho; cases hv
              refine .inl ⟨rfl, fun a W hk hw K hK => ?_⟩
              have e6 := hk.same 6 (by decide)
              exact op_val (by simp [go_sem, ev' e6]) (hK _ hw)
            | 6, ho, hv =>
              cases ho; cases hv
              refine .inl ⟨rfl, fun a W hk hw K hK => ?_⟩
              have e32 := hk.at_ 5 _ 32 _ rfl (by decide) _ rfl rfl rfl
              exact op_val (by simp [go_sem, ev' e32, e2]) (hK _ hw)
            | 7, ho, hv =>
              cases ho; cases hv
              refine .inl ⟨rfl, fun a W hk hw K hK => ?_⟩
              have e31 := hk.at_ 4 _ 31 _ rfl (by decide) _ rfl rfl rfl
              have e33 := hk.at_ 6 _ 33 _ rfl (by decide) _ rfl rfl rfl
              exact op_val (by simp [go_sem, ev' e31, ev' e33, ik2]) (hK _ hw)
            | 8, ho, hv =>
              cases ho; cases hv
              refine .inl ⟨rfl, fun a W hk hw K hK => ?_⟩
              have e34 := hk.at_ 7 _ 34 _ rfl (by decide) _ rfl rfl rfl
              exact op_val (by simp [go_sem, ev' e34, HX1.out W hw]) (hK _ hw)
            | 9, ho, hv =>
              cases ho; cases hv
              refine .inl ⟨rfl, fun a W hk hw K hK => ?_⟩
              have e30 := hk.at_ 3 _ 30 _ rfl (by decide) _ rfl rfl rfl
              have e35 := hk.at_ 8 _ 35 _ rfl (by decide) _ rfl rfl rfl
              exact op_val (by simp [go_sem, ev' e30, ev' e35, hbb]) (hK _ hw)
            | _ + 10, _, hv => cases hv
          intro W hw
          simp only [List.drop_succ_cons, List.drop_zero, List.zip_cons_cons, List.zip_nil_right, putAll]
          simp only [Act.put, List.setIfInBounds_toArray, List.set]
          cases bb
          · have HLT2 : Hid (∀ j, j + 1 < k + 1 → (h : j + 1 < l.length) → l[j] < l[j+1]) := Lib.hid fun j hj hjl => by
              by_cases hjk : j + 1 < k
              · exact HLT.out j hjk hjl
              · obtain rfl : j = k - 1 := by omega
                have h3 := of_decide_eq_false hbb
                have h4 := HYK.out
                simp only [Nat.sub_add_cancel hk1]
                rw [HZK.out, h4]
                omega
            go_wp2_with fail
            exact ⟨⟨k + 1, by omega, by go_num, by omega, HY.out.trans hw, HLT2⟩, by simp [intOf]; omega⟩
          · go_wp2_with fail
            go_ret
            refine ⟨ret_int ?_, H0.out.trans (HY.out.trans hw)⟩
            unfold listedE
            rw [if_pos HAL.out, if_neg]
            rw [risesB_false l (k-1) (by omega) (by simp only [Nat.sub_add_cancel hk1]; rw [HZK.out, HYK.out]; exact of_decide_eq_true hbb)]
            decide
        · have t2 : decide (k < l.length) = false := by simpa using hkl
          go_wp2_with fail
          go_ret
          refine ⟨ret_int ?_, H0.out.trans HY.out⟩
          unfold listedE
          rw [if_pos HAL.out, if_pos (risesB_true l fun j hj => HLT.out j (by omega) hj)]
end Go.Proofs
end

section
namespace Go.Proofs
open Go.RowKit
open Court (refL begF noS struckB heard1 rule setF strikeL)
attribute [local go_sem] Oper.semAt_some

def ivs (l : List Int) : Array Value := (l.map (Value.int .i64)).toArray
theorem ivs_set (l : List Int) (i : Nat) (x : Int) : (ivs l).setIfInBounds i (.int .i64 x) = ivs (l.set i x) := by
  unfold ivs
  rw [List.setIfInBounds_toArray, List.map_set]
theorem ivs_ints {w : World} {g : Nat} {l : List Int} (h : Blk w g 3 (ivs l)) (hl : l.length ≤ 17592186043904) : Ints w (some ⟨g, 0, none⟩) l := Nums.ints h (nums_self l) hl
theorem ivs_cell {w : World} {g : Nat} {l : List Int} (h : Blk w g 3 (ivs l)) {i : Nat} (hi : i < l.length) : w.cell? ⟨g, i, none⟩ = some (.int .i64 l[i]) := (h.cell i).trans ((nums_self l).2 i hi)
theorem ivs_size (l : List Int) : (ivs l).size = l.length := by unfold ivs; simp
theorem foundL_set (f : Int → Nat) {N n : Nat} (h : n < N) (v : Nat) : (foundL f N).set n (v : Int) = foundL (setF f n v) N := by
  apply List.ext_getElem
  · rw [List.length_set, foundL_len, foundL_len]
  · intro i h1 h2
    rw [List.getElem_set, foundL_get, foundL_get]
    unfold setF
    by_cases e : n = i
    · subst e; simp
    · rw [if_neg e, if_neg (by omega)]
theorem ivs_make (w : World) (N : Nat) (hN : N ≤ 1000) : (Instr.makeSlice 33 (.int .i64 N) (.int .i64 N)).run Tryz.prog w = .ok (.slice (some ⟨w.heap.size, 0, none⟩) N N) (w.alloc (.cells (ivs (foundL (fun _ => 0) N)) 3)) := by
  obtain ⟨ht, ⟨i, z, hi, hz, hsize, hby, hzs⟩, hsz⟩ := ty24
  have hzz : (Tryz.prog.info? 3).bind (·.zero) = some (.int .i64 0) := by kernel_rfl
  rw [hi] at hzz
  have hzz : i.zero = some (.int .i64 0) := hzz
  rw [hz] at hzz
  cases hzz
  have h := run_makeSlice (P := Tryz.prog) (w := w) 33 3 i (.int .i64 0) ht hi hz .i64 .i64 N N (by omega) (Int.le_refl _) (by rw [hsize]; simp; omega) (by rw [hby]; omega) (by omega)
  rw [Int.toNat_natCast, hsize, Nat.mul_one] at h
  have e : (Go.madeCells #[.int .i64 0] N) = ivs (foundL (fun _ => 0) N) := by
    apply Array.ext_getElem?
    intro k
    by_cases hk : k < N
    · unfold ivs foundL
      simp [Go.madeCells, hk, Nat.mod_one]
    · rw [Array.getElem?_eq_none (by simp [Go.madeCells]; omega), Array.getElem?_eq_none (by rw [ivs_size, foundL_len]; omega)]
  rw [← e]
  exact h

def MadeI (L : List Int) (w : World) (e : Ending) (w' : World) : Prop := ∃ g, e = .returned (.slice (some ⟨g, 0, none⟩) L.length L.length) ∧ w.heap.size ≤ g ∧ Blk w' g 3 (ivs L) ∧ Aft w w'
theorem begF_succ (R : List Int) (k : Nat) (h : k < R.length) : begF (refL (R.take (k + 1))) = setF (begF (refL (R.take k))) R[k] 2 := by
  rw [refL_succ R k h]
  funext n
  unfold begF setM setF
  by_cases e : n = R[k]
  · rw [if_pos e, if_pos e]; rfl
  · rw [if_neg e, if_neg e]

set_option maxRecDepth 100000 in
set_option maxHeartbeats 2000000 in
theorem begin_any (N : Nat) (s1 s2 : Option Addr) (n1 n2 c1 c2 : Nat) (A : Option Addr) (R : List Int) (c : Nat) (w : World) (hN : 1 ≤ N ∧ N ≤ 14) (hA : Ints w A R) (hR : ∀ x ∈ R, 0 ≤ x ∧ x < N) :
    Calls Tryz.prog 99 #[.agg #[.int .i64 N, .slice s1 n1 c1, .slice s2 n2 c2], .slice A R.length c] w (MadeI (foundL (begF (refL R)) N) w) := by
  have hl := hA.len
  have H0 := Lib.hid (Aft.alloc w (.cells #[.int .i64 N, .slice s1 n1 c1, .slice s2 n2 c2] 31))
  have HB := Lib.hid (Blk.new w 31 #[.int .i64 N, .slice s1 n1 c1, .slice s2 n2 c2])
  have HA := Lib.hid (hA.aft H0.out)
  have hmk := ivs_make (w.alloc (.cells #[.int .i64 N, .slice s1 n1 c1, .slice s2 n2 c2] 31)) N (by omega)
  clear hA
  obtain ⟨bC, hbC⟩ : ∃ bC, w.heap.size = bC := ⟨_, rfl⟩
  rw [hbC] at HB
  have HBC := Lib.hid hbC
  have hw0 : w.heap.size ≤ (w.alloc (.cells #[.int .i64 N, .slice s1 n1 c1, .slice s2 n2 c2] 31)).heap.size := H0.out.size
  rw [hbC] at hw0
  clear hbC
  obtain ⟨k0, k1, k2⟩ := box31 HB.out
  have k3 := HB.out.lt
  unfold MadeI
  rw [foundL_len]
  go_enter Tryz.func99, Tryz.ntmps99
  go_upto_region 1 with fail
  rw [HBC.out]
  generalize w.alloc (.cells #[.int .i64 N, .slice s1 n1 c1, .slice s2 n2 c2] 31) = W0 at *
  go_upto_block 0 with fail
  have HB2 := Lib.hid (Blk.new W0 3 (ivs (foundL (fun _ => 0) N)))
  have HA1 := Lib.hid (Aft.alloc W0 (.cells (ivs (foundL (fun _ => 0) N)) 3))
  obtain ⟨g, hg⟩ : ∃ g, W0.heap.size = g := ⟨_, rfl⟩
  rw [hg] at HB2 hw0 ⊢
  have HG := Lib.hid hg
  clear hmk hg k0 k1 k2 k3 HB
  generalize W0.alloc (.cells (ivs (foundL (fun _ => 0) N)) 3) = W1 at *
  refine wp_block ?_
  go_loopw [6] (fun i wr => ∃ k : Nat, i = .int .i64 k ∧ k ≤ R.length ∧ Aft W0 wr ∧ Blk wr g 3 (ivs (foundL (begF (refL (R.take k))) N))) (fun i _ => R.length - (intOf i).toNat)
  case atStart =>
    refine ⟨0, rfl, by omega, HA1.out, ?_⟩
    have : begF (refL (R.take 0)) = fun _ => 0 := by funext n; simp [begF, refL]
    rw [this]
    exact HB2.out
  case round =>
    obtain ⟨k, rfl, hk, hy, hbk⟩ := hrel
    have HY := Lib.hid hy
    have HK := Lib.hid hbk
    clear hy hbk
    by_cases hkl : k < R.length
    · have t1 : decide (k < R.length) = true := by simpa using hkl
      have ik : (0 : Int) ≤ (k : Int) ∧ (k : Int) < (R.length : Int) := by omega
      obtain ⟨b, o, rfl, hb, hc⟩ := (HA.out.aft HY.out).at hkl
      have x0 := hc k hkl
      have hx := hR R[k] (List.getElem_mem hkl)
      have HSU := Lib.hid (begF_succ R k hkl)
      obtain ⟨x, hxe⟩ := Int.eq_ofNat_of_zero_le hx.1
      rw [hxe] at x0 hx HSU
      have hxN : x < N := by omega
      have ix : (0 : Int) ≤ (x : Int) ∧ (x : Int) < (N : Int) := by omega
      have y0 := ivs_cell HK.out (i := x) (by rw [foundL_len]; exact hxN)
      have y1 := HK.out.frozen x
      have y2 := HK.out.lt
      clear hc hxe hx
      generalize hvv : (foundL (begF (refL (R.take k))) N)[x]'(by rw [foundL_len]; exact hxN) = vv at y0
      clear hvv
      go_wp2_with fail
      have hs : wr.grownBy (wr.setCell ⟨g, x, none⟩ (.int .i64 2)) (some g) := only_setCell (only_refl wr (some g)) (p := ⟨g, x, none⟩) (.inl rfl) _
      refine ⟨⟨k + 1, by go_num, by omega, HY.out.grown hs (fun j e => by cases e; exact Nat.le_of_eq HG.out), ?_⟩, by simp [intOf]; omega⟩
      have := HK.out.store x (.int .i64 2)
      rw [ivs_set, show ((2 : Int)) = ((2 : Nat) : Int) from rfl, foundL_set _ hxN, ← HSU.out] at this
      exact this
    · have t1 : decide (k < R.length) = false := by simpa using hkl
      have HK2 : Hid (Blk wr g 3 (ivs (foundL (begF (refL R)) N))) := Lib.hid (by
        have := HK.out
        rwa [List.take_of_length_le (by omega)] at this)
      clear HK
      go_wp2_with fail
      go_ret
      exact ⟨g, rfl, by rw [HBC.out]; exact hw0, HK2.out, H0.out.trans HY.out⟩

set_option maxRecDepth 100000 in
set_option maxHeartbeats 4000000 in
theorem heardR_any (C : CaseL) (a1 a2 : Option Addr) (c1 c2 : Nat) (N : Nat) (f : Int → Nat) (A : Option Addr) (c : Nat) (n : Nat) (w : World) (hC : CRep w C a1 a2) (hN : N ≤ 14) (hin : ∀ s ∈ C.strikes, 0 ≤ s.1 ∧ s.1 < N) (hA : Ints w A (foundL f N)) (hn : n < N) :
    Calls Tryz.prog 100 #[(.agg #[.int .i64 C.claims, .slice a1 C.strikes.length c1, .slice a2 C.surveys.length c2]), .slice A N c, .int .i64 n] w fun e w' => e = .returned (.int .i64 (heard1 C.strikes noS f n : Nat)) ∧ Aft w w' := by
  have hl := hC.strikes.len
  have H0 := Lib.hid (Aft.alloc w (.cells #[.int .i64 C.claims, .slice a1 C.strikes.length c1, .slice a2 C.surveys.length c2] 31))
  have HB := Lib.hid (Blk.new w 31 #[.int .i64 C.claims, .slice a1 C.strikes.length c1, .slice a2 C.surveys.length c2])
  have HA := Lib.hid (hA.aft H0.out)
  have HS := Lib.hid (hC.strikes.aft H0.out)
  clear hA hC
  have iN : (0 : Int) ≤ (n : Int) ∧ (n : Int) < (N : Int) := by omega
  obtain ⟨bC, hbC⟩ : ∃ bC, w.heap.size = bC := ⟨_, rfl⟩
  rw [hbC] at HB
  have HBC := Lib.hid hbC
  obtain ⟨hv, hhv⟩ : ∃ hv, heard1 C.strikes noS f n = hv := ⟨_, rfl⟩
  have HHV := Lib.hid hhv
  rw [hhv]
  clear hbC hhv
  obtain ⟨bA, oA, rfl, hltA, -⟩ := HA.out.at (k := 0) (by rw [foundL_len]; omega)
  have HC : Hid (∀ W, Aft (w.alloc (.cells #[.int .i64 C.claims, .slice a1 C.strikes.length c1, .slice a2 C.surveys.length c2] 31)) W → ∀ i : Nat, i < N → W.cell? ⟨bA, oA + i, none⟩ = some (.int .i64 ((f i : Nat) : Int))) := Lib.hid fun W h i hi => by
    obtain ⟨b', o', e', _, hc'⟩ := (HA.out.aft h).at (show i < (foundL f N).length by rw [foundL_len]; exact hi)
    cases e'
    have := hc' i (by rw [foundL_len]; exact hi)
    rw [foundL_get] at this
    exact this
  obtain ⟨fn, hfn⟩ : ∃ fn, f n = fn := ⟨_, rfl⟩
  have x0 := HC.out _ (Aft.refl _) n hn
  rw [hfn] at x0
  have HFN := Lib.hid hfn
  clear hfn HA
  go_enter Tryz.func100, Tryz.ntmps100
  go_upto_region 1 with fail
  rw [HBC.out]
  generalize w.alloc (.cells #[.int .i64 C.claims, .slice a1 C.strikes.length c1, .slice a2 C.surveys.length c2] 31) = W0 at *
  by_cases hf0 : fn = 0
  · have t0 : ((fn : Int) != 0) = false := by simp; omega
    have HHR : Hid (hv = rule C.strikes noS f n) := Lib.hid (by
      have := HHV.out
      unfold heard1 at this
      rw [if_pos (by rw [HFN.out]; exact hf0)] at this
      exact this.symm)
    go_upto_block 0 with fail
    clear x0 hf0 t0
    refine wp_block ?_
    go_loopw [7, 8] (fun o i wr => ∃ (k : Nat) (ov : Int), i = .int .i64 k ∧ o = .int .i64 ov ∧ k ≤ C.strikes.length ∧ Aft W0 wr ∧ Hid (ov = if struckB (C.strikes.take k) noS f n 0 then 0 else 1) ∧ Hid (struckB (C.strikes.take k) noS f n 1 = false)) (fun _ i _ => C.strikes.length - (intOf i).toNat)
    case atStart => exact ⟨0, 1, rfl, rfl, by omega, Aft.refl _, Lib.hid (by simp [struckB]), Lib.hid (by simp [struckB])⟩
    case round =>
      obtain ⟨k, ov, rfl, rfl, hk, hy, HOV, HNO⟩ := hrel
      have HY := Lib.hid hy
      clear hy
      obtain ⟨k0, k1, k2⟩ := box31 (HB.out.aft HY.out)
      have k3 := (HB.out.aft HY.out).lt
      by_cases hkl : k < C.strikes.length
      · have t1 : decide (k < C.strikes.length) = true := by simpa using hkl
        have ik : (0 : Int) ≤ (k : Int) ∧ (k : Int) < (C.strikes.length : Int) := by omega
        obtain ⟨bs, os, hbs, hlts, hcs⟩ := (HS.out.aft HY.out).at hkl
        subst hbs
        obtain ⟨x1, x2⟩ := hcs k hkl
        have hin1 := hin _ (List.getElem_mem hkl)
        have HS0 : Hid (struckB (C.strikes.take (k + 1)) noS f n 0 = (struckB (C.strikes.take k) noS f n 0 || (decide (C.strikes[k].2 = n) && !noS n && decide (f C.strikes[k].1 = 0)))) := Lib.hid (any_take_succ C.strikes _ k hkl)
        have HS1 : Hid (struckB (C.strikes.take (k + 1)) noS f n 1 = (struckB (C.strikes.take k) noS f n 1 || (decide (C.strikes[k].2 = n) && !noS n && decide (f C.strikes[k].1 = 1)))) := Lib.hid (any_take_succ C.strikes _ k hkl)
        have HIN : Hid (∀ v, (decide (C.strikes[k].2 = n) && !noS n && decide (f C.strikes[k].1 = v)) = true → struckB C.strikes noS f n v = true) := Lib.hid fun v h => List.any_eq_true.2 ⟨_, List.getElem_mem hkl, h⟩
        obtain ⟨⟨y, z⟩, hyz⟩ : ∃ s, C.strikes[k] = s := ⟨_, rfl⟩
        rw [hyz] at x1 x2 hin1 HS0 HS1 HIN
        dsimp only at x1 x2 hin1 HS0 HS1 HIN
        obtain ⟨Y, rfl⟩ := Int.eq_ofNat_of_zero_le hin1.1
        have hYN : Y < N := by omega
        have iY : (0 : Int) ≤ (Y : Int) ∧ (Y : Int) < (N : Int) := by omega
        have x3 := HC.out wr HY.out Y hYN
        obtain ⟨fv, hfv⟩ : ∃ fv, f Y = fv := ⟨_, rfl⟩
        rw [hfv] at x3 HS0 HS1 HIN
        have hns : noS (n : Int) = false := rfl
        rw [hns] at HS0 HS1 HIN
        simp only [Bool.not_false, Bool.and_true] at HS0 HS1 HIN
        clear hcs hyz hin1 hfv hns
        cases hzn : (z == (n : Int))
        · have HZ := Lib.hid (show decide (z = (n : Int)) = false by simpa using hzn)
          rw [HZ.out, Bool.false_and, Bool.or_false] at HS0 HS1
          go_wp2_with fail
          exact ⟨⟨k + 1, ov, by go_num, rfl, by omega, HY.out, Lib.hid (by rw [HS0.out]; exact HOV.out), Lib.hid (by rw [HS1.out]; exact HNO.out)⟩, by simp [intOf]; omega⟩
        · have HZ := Lib.hid (show decide (z = (n : Int)) = true by simpa using hzn)
          rw [HZ.out, Bool.true_and] at HS0 HS1
          rw [HZ.out] at HIN
          simp only [Bool.true_and] at HIN
          by_cases hf1 : fv = 1
          · have q1 : ((fv : Int) == 1) = true := by simp; omega
            go_wp2_with fail
            go_ret
            refine ⟨ret_int ?_, H0.out.trans HY.out⟩
            have h := HIN.out 1 (by simpa using hf1)
            rw [HHR.out, Court.rule_two.2 h]
            rfl
          · have q1 : ((fv : Int) == 1) = false := by simp; omega
            have d1 : decide (fv = 1) = false := by simpa using hf1
            rw [d1, Bool.or_false] at HS1
            by_cases hf0 : fv = 0
            · have q0 : ((fv : Int) == 0) = true := by simp; omega
              have d0 : decide (fv = 0) = true := by simpa using hf0
              rw [d0, Bool.or_true] at HS0
              go_wp2_with fail
              exact ⟨⟨k + 1, 0, by go_num, rfl, by omega, HY.out, Lib.hid (by rw [HS0.out]; rfl), Lib.hid (by rw [HS1.out]; exact HNO.out)⟩, by simp [intOf]; omega⟩
            · have q0 : ((fv : Int) == 0) = false := by simp; omega
              have d0 : decide (fv = 0) = false := by simpa using hf0
              rw [d0, Bool.or_false] at HS0
              go_wp2_with fail
              exact ⟨⟨k + 1, ov, by go_num, rfl, by omega, HY.out, Lib.hid (by rw [HS0.out]; exact HOV.out), Lib.hid (by rw [HS1.out]; exact HNO.out)⟩, by simp [intOf]; omega⟩
      · have t1 : decide (k < C.strikes.length) = false := by simpa using hkl
        have HOVE : Hid (ov = (hv : Int)) := Lib.hid (by
          have h0 := HOV.out
          have h1 := HNO.out
          rw [List.take_of_length_le (by omega)] at h0 h1
          rw [h0, HHR.out]
          unfold rule
          rw [h1]
          cases struckB C.strikes noS f n 0 <;> rfl)
        clear HOV HNO
        go_wp2_with fail
        go_ret
        exact ⟨ret_int HOVE.out, H0.out.trans HY.out⟩
  · have t0 : ((fn : Int) != 0) = true := by simp; omega
    have HHR : Hid (hv = fn) := Lib.hid (by
      have := HHV.out
      unfold heard1 at this
      rw [if_neg (by rw [HFN.out]; exact hf0), HFN.out] at this
      exact this.symm)
    go_wp2_with fail
    go_ret
    exact ⟨ret_int (by rw [HHR.out]), H0.out⟩

set_option maxRecDepth 100000 in
set_option maxHeartbeats 4000000 in
theorem strikesR_any (C : CaseL) (a1 a2 : Option Addr) (c1 c2 : Nat) (l : List Int) (A : Option Addr) (c : Nat) (n : Int) (w : World) (hC : CRep w C a1 a2) (hA : Ints w A l) :
    Calls Tryz.prog 104 #[(.agg #[.int .i64 C.claims, .slice a1 C.strikes.length c1, .slice a2 C.surveys.length c2]), .slice A l.length c, .int .i64 n] w fun e w' => e = .returned (.bool (strikeL C.strikes (refL l) n)) ∧ Aft w w' := by
  have hl := hC.strikes.len
  have hll := hA.len
  have H0 := Lib.hid (Aft.alloc w (.cells #[.int .i64 C.claims, .slice a1 C.strikes.length c1, .slice a2 C.surveys.length c2] 31))
  have HB := Lib.hid (Blk.new w 31 #[.int .i64 C.claims, .slice a1 C.strikes.length c1, .slice a2 C.surveys.length c2])
  have HA := Lib.hid (hA.aft H0.out)
  have HS := Lib.hid (hC.strikes.aft H0.out)
  clear hA hC
  obtain ⟨bC, hbC⟩ : ∃ bC, w.heap.size = bC := ⟨_, rfl⟩
  rw [hbC] at HB
  have HBC := Lib.hid hbC
  obtain ⟨hv, hhv⟩ : ∃ hv, strikeL C.strikes (refL l) n = hv := ⟨_, rfl⟩
  have HHV := Lib.hid hhv
  rw [hhv]
  clear hbC hhv
  go_enter Tryz.func104, Tryz.ntmps104
  go_upto_block 0 with fail
  rw [HBC.out]
  generalize w.alloc (.cells #[.int .i64 C.claims, .slice a1 C.strikes.length c1, .slice a2 C.surveys.length c2] 31) = W0 at *
  refine wp_block ?_
  go_loopw [7] (fun i wr => ∃ k : Nat, i = .int .i64 k ∧ k ≤ C.strikes.length ∧ Aft W0 wr ∧ Hid (strikeL (C.strikes.take k) (refL l) n = false)) (fun i _ => C.strikes.length - (intOf i).toNat)
  case atStart => exact ⟨0, rfl, by omega, Aft.refl _, Lib.hid (by simp [strikeL])⟩
  case round =>
    obtain ⟨k, rfl, hk, hy, HNO⟩ := hrel
    have HY := Lib.hid hy
    clear hy
    obtain ⟨k0, k1, k2⟩ := box31 (HB.out.aft HY.out)
    have k3 := (HB.out.aft HY.out).lt
    by_cases hkl : k < C.strikes.length
    · have t1 : decide (k < C.strikes.length) = true := by simpa using hkl
      have ik : (0 : Int) ≤ (k : Int) ∧ (k : Int) < (C.strikes.length : Int) := by omega
      obtain ⟨bs, os, hbs, hlts, hcs⟩ := (HS.out.aft HY.out).at hkl
      subst hbs
      obtain ⟨x1, x2⟩ := hcs k hkl
      have HS1 : Hid (strikeL (C.strikes.take (k + 1)) (refL l) n = (strikeL (C.strikes.take k) (refL l) n || (decide (C.strikes[k].2 = n) && refL l C.strikes[k].1))) := Lib.hid (any_take_succ C.strikes _ k hkl)
      have HIN : Hid ((decide (C.strikes[k].2 = n) && refL l C.strikes[k].1) = true → strikeL C.strikes (refL l) n = true) := Lib.hid fun h => List.any_eq_true.2 ⟨_, List.getElem_mem hkl, h⟩
      obtain ⟨⟨y, z⟩, hyz⟩ : ∃ s, C.strikes[k] = s := ⟨_, rfl⟩
      rw [hyz] at x1 x2 HS1 HIN
      dsimp only at x1 x2 HS1 HIN
      obtain ⟨bh, hbh⟩ : ∃ bh, refL l y = bh := ⟨_, rfl⟩
      have H64 : Hid (Calls Tryz.prog 64 #[.slice A l.length c, .int .i64 y] wr fun e w' => e = .returned (.bool bh) ∧ wr = w') := Lib.hid (by rw [← hbh]; exact hasR_any A l c y wr (HA.out.aft HY.out))
      rw [hbh] at HS1 HIN
      clear hcs hyz hbh
      cases hzn : (z == n)
      · have HZ := Lib.hid (show decide (z = n) = false by simpa using hzn)
        rw [HZ.out, Bool.false_and, Bool.or_false] at HS1
        go_wp2_with fail
        exact ⟨⟨k + 1, by go_num, by omega, HY.out, Lib.hid (by rw [HS1.out]; exact HNO.out)⟩, by simp [intOf]; omega⟩
      · have HZ := Lib.hid (show decide (z = n) = true by simpa using hzn)
        rw [HZ.out, Bool.true_and] at HS1 HIN
        cases bh
        · rw [Bool.or_false] at HS1
          go_wp2_with (go_at_call 64; refine H64.out.mono ?_; rintro e w4 ⟨rfl, rfl⟩)
          exact ⟨⟨k + 1, by go_num, by omega, HY.out, Lib.hid (by rw [HS1.out]; exact HNO.out)⟩, by simp [intOf]; omega⟩
        · go_wp2_with (go_at_call 64; refine H64.out.mono ?_; rintro e w4 ⟨rfl, rfl⟩)
          go_ret
          exact ⟨ret_bool (by rw [← HHV.out, HIN.out trivial]), H0.out.trans HY.out⟩
    · have t1 : decide (k < C.strikes.length) = false := by simpa using hkl
      have HF : Hid (hv = false) := Lib.hid (by
        have := HNO.out
        rw [List.take_of_length_le (by omega)] at this
        rw [← HHV.out, this])
      clear HNO
      go_wp2_with fail
      go_ret
      exact ⟨ret_bool HF.out.symm, H0.out.trans HY.out⟩
end Go.Proofs
end

section
namespace Go.Proofs
open Go.RowKit
open Court (refL begF noS struckB)
attribute [local go_sem] Oper.semAt_some

theorem eq84 (a b c d : Int) (W : World) : (binOp .eql 84 (.agg #[.int .i64 a, .int .i64 b]) (.agg #[.int .i64 c, .int .i64 d])).run Tryz.prog W = .ok (.bool (a == c && b == d)) W := by
  by_cases h : a = c <;> by_cases h2 : b = d <;> simp [go_sem, h, h2]

set_option maxRecDepth 100000 in
set_option maxHeartbeats 16000000 in
theorem checkR_any (C : CaseL) (a1 a2 : Option Addr) (c1 c2 : Nat) (w : World) (hC : CRep w C a1 a2) :
    Calls Tryz.prog 56 #[(.agg #[.int .i64 C.claims, .slice a1 C.strikes.length c1, .slice a2 C.surveys.length c2])] w fun e w' => e = .returned (.int .i64 (caseE C)) ∧ Aft w w' := by
  have hl := hC.strikes.len
  have hl2 := hC.surveys.len
  have H0 := Lib.hid (Aft.alloc w (.cells #[.int .i64 C.claims, .slice a1 C.strikes.length c1, .slice a2 C.surveys.length c2] 31))
  have HB := Lib.hid (Blk.new w 31 #[.int .i64 C.claims, .slice a1 C.strikes.length c1, .slice a2 C.surveys.length c2])
  have HS := Lib.hid (hC.strikes.aft H0.out)
  have HT := Lib.hid (hC.surveys.aft H0.out)
  clear hC
  obtain ⟨bC, hbC⟩ : ∃ bC, w.heap.size = bC := ⟨_, rfl⟩
  rw [hbC] at HB
  have HBC := Lib.hid hbC
  obtain ⟨E, hE⟩ : ∃ E, caseE C = E := ⟨_, rfl⟩
  have HE := Lib.hid hE
  rw [hE]
  unfold caseE at hE
  clear hbC
  obtain ⟨k0, k1, k2⟩ := box31 HB.out
  have k3 := HB.out.lt
  go_enter Tryz.func56, Tryz.ntmps56
  go_upto_region 1 with fail
  rw [HBC.out]
  generalize w.alloc (.cells #[.int .i64 C.claims, .slice a1 C.strikes.length c1, .slice a2 C.surveys.length c2] 31) = W0 at *
  go_cut [22] from 8 to 22 (fun s wx => s = .bool (!fromB C.claims 1 14 || decide (60 < C.strikes.length) || decide (6 < C.surveys.length)) ∧ wx = W0)
  case first =>
    cases h1 : fromB C.claims 1 14
    · (repeat (first | go_big_skip | go_big_want | go_big_move | go_big_op | go_step | go_upon | go_back))
      go_at_call 57
      refine (beside_any C.claims 1 14 W0).mono ?_
      rintro e w' ⟨rfl, rfl⟩
      dsimp only
      rw [h1]
      simp only [Bool.not_false]
      (repeat (first | go_big_skip | go_big_want | go_big_move | go_big_op | go_step | go_upon | go_back))
      go_meet
      exact ⟨congrArg Value.bool (by rw [h1]; rfl), rfl⟩
    · cases h2 : decide (60 < C.strikes.length)
      · have t2 : decide ((60 : Int) < (C.strikes.length : Int)) = false := by have := of_decide_eq_false h2; simp; omega
        have t3 : decide ((6 : Int) < (C.surveys.length : Int)) = decide (6 < C.surveys.length) := decide_eq_decide.2 (by omega)
        (repeat (first | go_big_skip | go_big_want | go_big_move | go_big_op | go_step | go_upon | go_back))
        go_at_call 57
        refine (beside_any C.claims 1 14 W0).mono ?_
        rintro e w' ⟨rfl, rfl⟩
        dsimp only
        rw [h1]
        simp only [Bool.not_true]
        (repeat (first | go_big_skip | go_big_want | go_big_move | go_big_op | go_step | go_upon | go_back))
        go_meet
        exact ⟨congrArg Value.bool (by rw [h1, h2]; rfl), rfl⟩
      · have t2 : decide ((60 : Int) < (C.strikes.length : Int)) = true := by have := of_decide_eq_true h2; simp; omega
        (repeat (first | go_big_skip | go_big_want | go_big_move | go_big_op | go_step | go_upon | go_back))
        go_at_call 57
        refine (beside_any C.claims 1 14 W0).mono ?_
        rintro e w' ⟨rfl, rfl⟩
        dsimp only
        rw [h1]
        simp only [Bool.not_true]
        (repeat (first | go_big_skip | go_big_want | go_big_move | go_big_op | go_step | go_upon | go_back))
        go_meet
        exact ⟨congrArg Value.bool (by rw [h1, h2]; rfl), rfl⟩
  obtain ⟨rfl, rfl⟩ := hcut
  obtain ⟨W0, rfl⟩ : ∃ W0, W0 = wc := ⟨_, rfl⟩
  clear k0 k1 k2 k3
  cases hcb : (!fromB C.claims 1 14 || decide (60 < C.strikes.length) || decide (6 < C.surveys.length))
  · rw [hcb, if_neg (by decide)] at hE
    have hcb' := hcb
    simp only [Bool.or_eq_false_iff, Bool.not_eq_false', decide_eq_false_iff_not] at hcb'
    obtain ⟨⟨hn, hn60⟩, hn6⟩ := hcb'
    have hn := fromB_iff.1 hn
    have e1 : IntKind.i64.wrap (C.claims - 1) = C.claims - 1 := by rw [IntWalk.i64_in _ (by omega)]
    have HEE := Lib.hid hE
    clear hE hcb
    go_upto_block 0 with fail
    refine wp_block ?_
    go_loopw [3] (fun i wr => ∃ k : Nat, i = .int .i64 k ∧ k ≤ C.strikes.length ∧ Aft W0 wr ∧ Hid (∀ j, (h : j < C.strikes.length) → j < k → inB C.claims C.strikes[j] = true)) (fun i _ => C.strikes.length - (intOf i).toNat)
    case atStart => exact ⟨0, rfl, by omega, Aft.refl _, Lib.hid fun j _ h => by omega⟩
    case round =>
      obtain ⟨k, rfl, hk, hy, HIN⟩ := hrel
      have HY := Lib.hid hy
      clear hy
      obtain ⟨k0, k1, k2⟩ := box31 (HB.out.aft HY.out)
      have k3 := (HB.out.aft HY.out).lt
      by_cases hkl : k < C.strikes.length
      · have t1 : decide (k < C.strikes.length) = true := by simpa using hkl
        have ik : (0 : Int) ≤ (k : Int) ∧ (k : Int) < (C.strikes.length : Int) := by omega
        obtain ⟨bs, os, hbs, hlts, hcs⟩ := (HS.out.aft HY.out).at hkl
        subst hbs
        obtain ⟨x1, x2⟩ := hcs k hkl
        have HIK : Hid (inB C.claims C.strikes[k] = (Cl C.strikes[k].1 C.claims && Cl C.strikes[k].2 C.claims)) := Lib.hid rfl
        obtain ⟨⟨y, z⟩, hyz⟩ : ∃ s, C.strikes[k] = s := ⟨_, rfl⟩
        have HYZ := Lib.hid hyz
        rw [hyz] at x1 x2 HIK
        dsimp only at x1 x2 HIK
        have HC0 : Hid (∀ W, Aft wr W → W.cell? ⟨bC, 0, none⟩ = some (.int .i64 C.claims)) := Lib.hid fun W h => (box31 (HB.out.aft (HY.out.trans h))).1
        have HC1 : Hid (∀ W, Aft wr W → W.cell? ⟨bC, 1, none⟩ = some (.slice (some ⟨bs, os, none⟩) C.strikes.length c1)) := Lib.hid fun W h => (box31 (HB.out.aft (HY.out.trans h))).2.1
        have HX1 : Hid (∀ W, Aft wr W → W.cell? ⟨bs, os + k * 2, none⟩ = some (.int .i64 y)) := Lib.hid fun W h => cellA x1 hlts h
        have HX2 : Hid (∀ W, Aft wr W → W.cell? ⟨bs, os + k * 2 + 1, none⟩ = some (.int .i64 z)) := Lib.hid fun W h => cellA x2 hlts h
        obtain ⟨b1, hb1⟩ : ∃ b1, (!fromB y 0 (C.claims - 1)) = b1 := ⟨_, rfl⟩
        obtain ⟨b2, hb2⟩ : ∃ b2, (!fromB z 0 (C.claims - 1)) = b2 := ⟨_, rfl⟩
        have H57 : Hid (∀ W, Calls Tryz.prog 57 #[.int .i64 y, .int .i64 0, .int .i64 (C.claims - 1)] W fun e w' => e = .returned (.bool b1) ∧ W = w') := Lib.hid fun W => by rw [← hb1]; exact beside_any y 0 (C.claims - 1) W
        have H58 : Hid (∀ W, Calls Tryz.prog 57 #[.int .i64 z, .int .i64 0, .int .i64 (C.claims - 1)] W fun e w' => e = .returned (.bool b2) ∧ W = w') := Lib.hid fun W => by rw [← hb2]; exact beside_any z 0 (C.claims - 1) W
        have HIB : Hid (inB C.claims (y, z) = (!b1 && !b2)) := Lib.hid (by rw [← hb1, ← hb2, Bool.not_not, Bool.not_not]; rfl)
        clear hcs hyz x1 x2 hb1 hb2 HIK
        go_upto_region 6 with fail
        clear k0 k1 k2 k3
        cases b1
        · skip
          refine wp_region_valsG (by kernel_rfl) 99 rfl (by kernel_rfl) (by kernel_rfl) [.pointer (some ⟨bC, 1, none⟩), .slice (some ⟨bs, os, none⟩) C.strikes.length c1, .int .i64 k, .pointer (some ⟨bs, os + k * 2, none⟩), .pointer (some ⟨bs, os + k * 2, none⟩), .int .i64 y, .pointer (some ⟨bC, 0, none⟩), .int .i64 C.claims, .int .i64 (C.claims - 1), .bool false, .bool false, .pointer (some ⟨bC, 1, none⟩), .slice (some ⟨bs, os, none⟩) C.strikes.length c1, .int .i64 k, .pointer (some ⟨bs, os + k * 2, none⟩), .pointer (some ⟨bs, os + k * 2 + 1, none⟩), .int .i64 z, .pointer (some ⟨bC, 0, none⟩), .int .i64 C.claims, .int .i64 (C.claims - 1), .bool b2, .bool b2] rfl (fun W => Aft wr W) (Aft.drew _) ?st1 ?fi1
          case st1 =>
            intro i o v ho hv
            match i, ho, hv with
            | 0, ho, hv =>
              cases ho; cases hv
              refine .inl ⟨rfl, fun a W hk hw K hK => ?_⟩
              have e1 := hk.same 1 (by decide)
              exact op_val (by simp [go_sem, ev' e1]) (hK _ hw)
            | 1, ho, hv =>
              cases ho; cases hv
              refine .inl ⟨rfl, fun a W hk hw K hK => ?_⟩
              have e30 := hk.at_ 0 _ 30 _ rfl (by decide) _ rfl rfl rfl
              exact op_val (by simp [go_sem, ev' e30, HC1.out W hw]) (hK _ hw)
            | 2, ho, hv =>
              cases ho; cases hv
              refine .inl ⟨rfl, fun a W hk hw K hK => ?_⟩
              have e3 := hk.same 3 (by decide)
              exact op_val (by simp [go_sem, ev' e3]) (hK _ hw)
            | 3, ho, hv =>
              cases ho; cases hv
              refine .inl ⟨rfl, fun a W hk hw K hK => ?_⟩
              have e31 := hk.at_ 1 _ 31 _ rfl (by decide) _ rfl rfl rfl
              have e32 := hk.at_ 2 _ 32 _ rfl (by decide) _ rfl rfl rfl
              exact op_val (by simp [go_sem, ev' e31, ev' e32, ik]) (hK _ hw)
            | 4, ho, hv =>
              cases ho; cases hv
              refine .inl ⟨rfl, fun a W hk hw K hK => ?_⟩
              have e33 := hk.at_ 3 _ 33 _ rfl (by decide) _ rfl rfl rfl
              exact op_val (by simp [go_sem, ev' e33]) (hK _ hw)
            | 5, ho, hv =>
              cases ho; cases hv
              refine .inl ⟨rfl, fun a W hk hw K hK => ?_⟩
              have e34 := hk.at_ 4 _ 34 _ rfl (by decide) _ rfl rfl rfl
              exact op_val (by simp [go_sem, ev' e34, HX1.out W hw]) (hK _ hw)
            | 6, ho, hv =>
              cases ho; cases hv
              refine .inl ⟨rfl, fun a W hk hw K hK => ?_⟩
              have e1 := hk.same 1 (by decide)
              exact op_val (by simp [go_sem, ev' e1]) (hK _ hw)
            | 7, ho, hv =>
              cases ho; cases hv
              refine .inl ⟨rfl, fun a W hk hw K hK => ?_⟩
              have e36 := hk.at_ 6 _ 36 _ rfl (by decide) _ rfl rfl rfl
              exact op_val (by simp [go_sem, ev' e36, HC0.out W hw]) (hK _ hw)
            | 8, ho, hv =>
              cases ho; cases hv
              refine .inl ⟨rfl, fun a W hk hw K hK => ?_⟩
              have e37 := hk.at_ 7 _ 37 _ rfl (by decide) _ rfl rfl rfl
              exact op_val (by simp [go_sem, ev' e37, e1]) (hK _ hw)
            | 9, ho, hv =>
              cases ho; cases hv
              refine .inl ⟨rfl, fun a W hk hw K hK => ?_⟩
              have e35 := hk.at_ 5 _ 35 _ rfl (by decide) _ rfl rfl rfl
              have e38 := hk.at_ 8 _ 38 _ rfl (by decide) _ rfl rfl rfl
              refine op_callN rfl rfl rfl _ rfl (vs := #[.int .i64 y, .int .i64 0, .int .i64 (C.claims - 1)]) (by simp [e35, e38, show ∀ v, a.eval (.const v) = v from fun _ => rfl]) (H57.out W) fun e w' h => ?_
              obtain ⟨rfl, rfl⟩ := h
              exact ⟨_, rfl, hK _ hw⟩
            | 10, ho, hv =>
              cases ho; cases hv
              refine .inl ⟨rfl, fun a W hk hw K hK => ?_⟩
              have e39 := hk.at_ 9 _ 39 _ rfl (by decide) _ rfl rfl rfl
              exact op_val (by simp [go_sem, ev' e39]) (hK _ hw)
            | 11, ho, hv =>
              cases ho; cases hv
              refine .inl ⟨rfl, fun a W hk hw K hK => ?_⟩
              have e1 := hk.same 1 (by decide)
              exact op_val (by simp [go_sem, ev' e1]) (hK _ hw)
            | 12, ho, hv =>
              cases ho; cases hv
              refine .inl ⟨rfl, fun a W hk hw K hK => ?_⟩
              have e41 := hk.at_ 11 _ 41 _ rfl (by decide) _ rfl rfl rfl
              exact op_val (by simp [go_sem, ev' e41, HC1.out W hw]) (hK _ hw)
            | 13, ho, hv =>
              cases ho; cases hv
              refine .inl ⟨rfl, fun a W hk hw K hK => ?_⟩
              have e3 := hk.same 3 (by decide)
              exact op_val (by simp [go_sem, ev' e3]) (hK _ hw)
            | 14, ho, hv =>
              cases ho; cases hv
              refine .inl ⟨rfl, fun a W hk hw K hK => ?_⟩
              have e42 := hk.at_ 12 _ 42 _ rfl (by decide) _ rfl rfl rfl
              have e43 := hk.at_ 13 _ 43 _ rfl (by decide) _ rfl rfl rfl
              exact op_val (by simp [go_sem, ev' e42, ev' e43, ik]) (hK _ hw)
            | 15, ho, hv =>
              cases ho; cases hv
              refine .inl ⟨rfl, fun a W hk hw K hK => ?_⟩
              have e44 := hk.at_ 14 _ 44 _ rfl (by decide) _ rfl rfl rfl
              exact op_val (by simp [go_sem, ev' e44]) (hK _ hw)
            | 16, ho, hv =>
              cases ho; cases hv
              refine .inl ⟨rfl, fun a W hk hw K hK => ?_⟩
              have e45 := hk.at_ 15 _ 45 _ rfl (by decide) _ rfl rfl rfl
              exact op_val (by simp [go_sem, ev' e45, HX2.out W hw]) (hK _ hw)
            | 17, ho, hv =>
              cases ho; cases hv
              refine .inl ⟨rfl, fun a W hk hw K hK => ?_⟩
              have e1 := hk.same 1 (by decide)
              exact op_val (by simp [go_sem, ev' e1]) (hK _ hw)
            | 18, ho, hv =>
              cases ho; cases hv
              refine .inl ⟨rfl, fun a W hk hw K hK => ?_⟩
              have e47 := hk.at_ 17 _ 47 _ rfl (by decide) _ rfl rfl rfl
              exact op_val (by simp [go_sem, ev' e47, HC0.out W hw]) (hK _ hw)
            | 19, ho, hv =>
              cases ho; cases hv
              refine .inl ⟨rfl, fun a W hk hw K hK => ?_⟩
              have e48 := hk.at_ 18 _ 48 _ rfl (by decide) _ rfl rfl rfl
              exact op_val (by simp [go_sem, ev' e48, e1]) (hK _ hw)
            | 20, ho, hv =>
              cases ho; cases hv
              refine .inl ⟨rfl, fun a W hk hw K hK => ?_⟩
              have e46 := hk.at_ 16 _ 46 _ rfl (by decide) _ rfl rfl rfl
              have e49 := hk.at_ 19 _ 49 _ rfl (by decide) _ rfl rfl rfl
              refine op_callN rfl rfl rfl _ rfl (vs := #[.int .i64 z, .int .i64 0, .int .i64 (C.claims - 1)]) (by simp [e46, e49, show ∀ v, a.eval (.const v) = v from fun _ => rfl]) (H58.out W) fun e w' h => ?_
              obtain ⟨rfl, rfl⟩ := h
              exact ⟨_, rfl, hK _ hw⟩
            | 21, ho, hv =>
              cases ho; cases hv
              refine .inl ⟨rfl, fun a W hk hw K hK => ?_⟩
              have e40 := hk.at_ 10 _ 40 _ rfl (by decide) _ rfl rfl rfl
              have e50 := hk.at_ 20 _ 50 _ rfl (by decide) _ rfl rfl rfl
              exact op_val (by simp [go_sem, ev' e40, ev' e50]) (hK _ hw)
            | _ + 22, _, hv => cases hv
          intro W hw
          simp only [List.drop_succ_cons, List.drop_zero, List.zip_cons_cons, List.zip_nil_right, putAll]
          simp only [Act.put, List.setIfInBounds_toArray, List.set]
          cases b2
          · have HIN2 : Hid (∀ j, (h : j < C.strikes.length) → j < k + 1 → inB C.claims C.strikes[j] = true) := Lib.hid fun j h h' => by
              by_cases e : j = k
              · subst e
                rw [HYZ.out, HIB.out]
                rfl
              · exact HIN.out j h (by omega)
            go_wp2_with fail
            exact ⟨⟨k + 1, by go_num, by omega, HY.out.trans hw, HIN2⟩, by simp [intOf]; omega⟩
          · have HF : Hid (E = 2) := Lib.hid (by
              have h : C.strikes.all (inB C.claims) = false := by
                rw [Bool.eq_false_iff]
                intro h
                have := List.all_eq_true.1 h _ (List.getElem_mem hkl)
                rw [HYZ.out, HIB.out] at this
                cases this
              have h2 := HEE.out
              rw [h, if_pos (by decide)] at h2
              exact h2.symm)
            go_wp2_with fail
            go_ret
            exact ⟨ret_int HF.out.symm, H0.out.trans (HY.out.trans hw)⟩
        · have HF : Hid (E = 2) := Lib.hid (by
            have h : C.strikes.all (inB C.claims) = false := by
              rw [Bool.eq_false_iff]
              intro h
              have := List.all_eq_true.1 h _ (List.getElem_mem hkl)
              rw [HYZ.out, HIB.out] at this
              cases this
            have h2 := HEE.out
            rw [h, if_pos (by decide)] at h2
            exact h2.symm)
          refine wp_region_valsG (by kernel_rfl) 99 rfl (by kernel_rfl) (by kernel_rfl) [.pointer (some ⟨bC, 1, none⟩), .slice (some ⟨bs, os, none⟩) C.strikes.length c1, .int .i64 k, .pointer (some ⟨bs, os + k * 2, none⟩), .pointer (some ⟨bs, os + k * 2, none⟩), .int .i64 y, .pointer (some ⟨bC, 0, none⟩), .int .i64 C.claims, .int .i64 (C.claims - 1), .bool true, .bool true, undef, undef, undef, undef, undef, undef, undef, undef, undef, undef, .bool true] rfl (fun W => Aft wr W) (Aft.drew _) ?st2 ?fi2
          case st2 =>
            intro i o v ho hv
            match i, ho, hv with
            | 0, ho, hv =>
              cases ho; cases hv
              refine .inl ⟨rfl, fun a W hk hw K hK => ?_⟩
              have e1 := hk.same 1 (by decide)
              exact op_val (by simp [go_sem, ev' e1]) (hK _ hw)
            | 1, ho, hv =>
              cases ho; cases hv
              refine .inl ⟨rfl, fun a W hk hw K hK => ?_⟩
              have e30 := hk.at_ 0 _ 30 _ rfl (by decide) _ rfl rfl rfl
              exact op_val (by simp [go_sem, ev' e30, HC1.out W hw]) (hK _ hw)
            | 2, ho, hv =>
              cases ho; cases hv
              refine .inl ⟨rfl, fun a W hk hw K hK => ?_⟩
              have e3 := hk.same 3 (by decide)
              exact op_val (by simp [go_sem, ev' e3]) (hK _ hw)
            | 3, ho, hv =>
              cases ho; cases hv
              refine .inl ⟨rfl, fun a W hk hw K hK => ?_⟩
              have e31 := hk.at_ 1 _ 31 _ rfl (by decide) _ rfl rfl rfl
              have e32 := hk.at_ 2 _ 32 _ rfl (by decide) _ rfl rfl rfl
              exact op_val (by simp [go_sem, ev' e31, ev' e32, ik]) (hK _ hw)
            | 4, ho, hv =>
              cases ho; cases hv
              refine .inl ⟨rfl, fun a W hk hw K hK => ?_⟩
              have e33 := hk.at_ 3 _ 33 _ rfl (by decide) _ rfl rfl rfl
              exact op_val (by simp [go_sem, ev' e33]) (hK _ hw)
            | 5, ho, hv =>
              cases ho; cases hv
              refine .inl ⟨rfl, fun a W hk hw K hK => ?_⟩
              have e34 := hk.at_ 4 _ 34 _ rfl (by decide) _ rfl rfl rfl
              exact op_val (by simp [go_sem, ev' e34, HX1.out W hw]) (hK _ hw)
            | 6, ho, hv =>
              cases ho; cases hv
              refine .inl ⟨rfl, fun a W hk hw K hK => ?_⟩
              have e1 := hk.same 1 (by decide)
              exact op_val (by simp [go_sem, ev' e1]) (hK _ hw)
            | 7, ho, hv =>
              cases ho; cases hv
              refine .inl ⟨rfl, fun a W hk hw K hK => ?_⟩
              have e36 := hk.at_ 6 _ 36 _ rfl (by decide) _ rfl rfl rfl
              exact op_val (by simp [go_sem, ev' e36, HC0.out W hw]) (hK _ hw)
            | 8, ho, hv =>
              cases ho; cases hv
              refine .inl ⟨rfl, fun a W hk hw K hK => ?_⟩
              have e37 := hk.at_ 7 _ 37 _ rfl (by decide) _ rfl rfl rfl
              exact op_val (by simp [go_sem, ev' e37, e1]) (hK _ hw)
            | 9, ho, hv =>
              cases ho; cases hv
              refine .inl ⟨rfl, fun a W hk hw K hK => ?_⟩
              have e35 := hk.at_ 5 _ 35 _ rfl (by decide) _ rfl rfl rfl
              have e38 := hk.at_ 8 _ 38 _ rfl (by decide) _ rfl rfl rfl
              refine op_callN rfl rfl rfl _ rfl (vs := #[.int .i64 y, .int .i64 0, .int .i64 (C.claims - 1)]) (by simp [e35, e38, show ∀ v, a.eval (.const v) = v from fun _ => rfl]) (H57.out W) fun e w' h => ?_
              obtain ⟨rfl, rfl⟩ := h
              exact ⟨_, rfl, hK _ hw⟩
            | 10, ho, hv =>
              cases ho; cases hv
              refine .inl ⟨rfl, fun a W hk hw K hK => ?_⟩
              have e39 := hk.at_ 9 _ 39 _ rfl (by decide) _ rfl rfl rfl
              exact op_val (by simp [go_sem, ev' e39]) (hK _ hw)
            | 11, ho, hv => cases ho; cases hv; exact .inr ⟨rfl, rfl⟩
            | 12, ho, hv => cases ho; cases hv; exact .inr ⟨rfl, rfl⟩
            | 13, ho, hv => cases ho; cases hv; exact .inr ⟨rfl, rfl⟩
            | 14, ho, hv => cases ho; cases hv; exact .inr ⟨rfl, rfl⟩
            | 15, ho, hv => cases ho; cases hv; exact .inr ⟨rfl, rfl⟩
            | 16, ho, hv => cases ho; cases hv; exact .inr ⟨rfl, rfl⟩
            | 17, ho, hv => cases ho; cases hv; exact .inr ⟨rfl, rfl⟩
            | 18, ho, hv => cases ho; cases hv; exact .inr ⟨rfl, rfl⟩
            | 19, ho, hv => cases ho; cases hv; exact .inr ⟨rfl, rfl⟩
            | 20, ho, hv => cases ho; cases hv; exact .inr ⟨rfl, rfl⟩
            | 21, ho, hv =>
              cases ho; cases hv
              refine .inl ⟨rfl, fun a W hk hw K hK => ?_⟩
              have e40 := hk.at_ 10 _ 40 _ rfl (by decide) _ rfl rfl rfl
              have e50 := hk.at_ 20 _ 50 _ rfl (by decide) _ rfl rfl rfl
              exact op_val (by simp [go_sem, ev' e40, ev' e50]) (hK _ hw)
            | _ + 22, _, hv => cases hv
          intro W hw
          simp only [List.drop_succ_cons, List.drop_zero, List.zip_cons_cons, List.zip_nil_right, putAll]
          simp only [Act.put, List.setIfInBounds_toArray, List.set]
          go_wp2_with fail
          go_ret
          exact ⟨ret_int HF.out.symm, H0.out.trans (HY.out.trans hw)⟩
      · have t1 : decide (k < C.strikes.length) = false := by simpa using hkl
        have HAL : Hid (C.strikes.all (inB C.claims) = true) := Lib.hid (by
          rw [List.all_eq_true]
          intro x hx
          obtain ⟨j, hj, rfl⟩ := List.mem_iff_getElem.1 hx
          exact HIN.out j hj (by omega))
        have HE2 : Hid ((if ¬ C.strikes.Nodup then 6 else surveysE C.claims C.surveys) = E) := Lib.hid (by
          have h2 := HEE.out
          rwa [HAL.out, if_neg (by decide)] at h2)
        obtain ⟨W1, rfl⟩ : ∃ W1, W1 = wr := ⟨_, rfl⟩
        replace HS := Lib.hid (HS.out.aft HY.out)
        replace HT := Lib.hid (HT.out.aft HY.out)
        replace HB := Lib.hid (HB.out.aft HY.out)
        replace H0 := Lib.hid (H0.out.trans HY.out)
        clear HIN HAL HEE HY hkl
        go_upto_block 2 with fail
        clear k0 k1 k2 k3 e1
        refine wp_block ?_
        go_loopw [4] (fun i wr => ∃ k : Nat, i = .int .i64 k ∧ k ≤ C.strikes.length ∧ Aft W1 wr ∧ Hid ((C.strikes.take k).Nodup)) (fun i _ => C.strikes.length - (intOf i).toNat)
        case atStart => exact ⟨0, rfl, by omega, Aft.refl _, Lib.hid (by simp)⟩
        case round =>
          obtain ⟨k, rfl, hk, hy, HNO⟩ := hrel
          have HY := Lib.hid hy
          clear hy
          obtain ⟨k0, k1, k2⟩ := box31 (HB.out.aft HY.out)
          have k3 := (HB.out.aft HY.out).lt
          by_cases hkl : k < C.strikes.length
          · have t2 : decide (k < C.strikes.length) = true := by simpa using hkl
            have ik : (0 : Int) ≤ (k : Int) ∧ (k : Int) < (C.strikes.length : Int) := by omega
            obtain ⟨W2, rfl⟩ : ∃ W2, W2 = wr := ⟨_, rfl⟩
            go_upto_block 4 with fail
            clear k0 k1 k2 k3
            refine wp_block ?_
            go_loopw [5] (fun i wr => ∃ j : Nat, i = .int .i64 j ∧ j ≤ k ∧ Aft W2 wr ∧ Hid (∀ i, (h : i < C.strikes.length) → i < j → C.strikes[i] ≠ C.strikes[k])) (fun i _ => k - (intOf i).toNat)
            case atStart => exact ⟨0, rfl, by omega, Aft.refl _, Lib.hid fun i _ h => by omega⟩
            case round =>
              obtain ⟨j, rfl, hj, hz, HNE⟩ := hrel
              have HZ := Lib.hid (HY.out.trans hz)
              have HZ2 := Lib.hid hz
              clear hz
              by_cases hjk : j < k
              · have t3 : decide (j < k) = true := by simpa using hjk
                have ij : (0 : Int) ≤ (j : Int) ∧ (j : Int) < (C.strikes.length : Int) := by omega
                obtain ⟨bs, os, hbs, hlts, hcs⟩ := (HS.out.aft HZ.out).at hkl
                subst hbs
                obtain ⟨x1, x2⟩ := hcs k hkl
                obtain ⟨x3, x4⟩ := hcs j (by omega)
                obtain ⟨⟨y, z⟩, hyz⟩ : ∃ s, C.strikes[k] = s := ⟨_, rfl⟩
                obtain ⟨⟨y', z'⟩, hyz'⟩ : ∃ s, C.strikes[j] = s := ⟨_, rfl⟩
                have HYZ := Lib.hid hyz
                have HYZ' := Lib.hid hyz'
                rw [hyz] at x1 x2
                rw [hyz'] at x3 x4
                dsimp only at x1 x2 x3 x4
                have HC1 : Hid (∀ W, Aft wr W → W.cell? ⟨bC, 1, none⟩ = some (.slice (some ⟨bs, os, none⟩) C.strikes.length c1)) := Lib.hid fun W h => (box31 (HB.out.aft (HZ.out.trans h))).2.1
                have HX1 : Hid (∀ W, Aft wr W → W.cell? ⟨bs, os + k * 2, none⟩ = some (.int .i64 y)) := Lib.hid fun W h => cellA x1 hlts h
                have HX2 : Hid (∀ W, Aft wr W → W.cell? ⟨bs, os + k * 2 + 1, none⟩ = some (.int .i64 z)) := Lib.hid fun W h => cellA x2 hlts h
                have HX3 : Hid (∀ W, Aft wr W → W.cell? ⟨bs, os + j * 2, none⟩ = some (.int .i64 y')) := Lib.hid fun W h => cellA x3 hlts h
                have HX4 : Hid (∀ W, Aft wr W → W.cell? ⟨bs, os + j * 2 + 1, none⟩ = some (.int .i64 z')) := Lib.hid fun W h => cellA x4 hlts h
                obtain ⟨bb, hbb⟩ : ∃ bb, (y == y' && z == z') = bb := ⟨_, rfl⟩
                have HBB : Hid (bb = true ↔ (y = y' ∧ z = z')) := Lib.hid (by rw [← hbb]; simp)
                clear hcs hyz hyz' x1 x2 x3 x4
                go_upto_region 14 with fail
                refine wp_region_valsG (by kernel_rfl) 99 rfl (by kernel_rfl) (by kernel_rfl) [.pointer (some ⟨bC, 1, none⟩), .slice (some ⟨bs, os, none⟩) C.strikes.length c1, .int .i64 k, .pointer (some ⟨bs, os + k * 2, none⟩), .agg #[.int .i64 y, .int .i64 z], .pointer (some ⟨bC, 1, none⟩), .slice (some ⟨bs, os, none⟩) C.strikes.length c1, .int .i64 j, .pointer (some ⟨bs, os + j * 2, none⟩), .agg #[.int .i64 y', .int .i64 z'], .bool bb] rfl (fun W => Aft wr W) (Aft.drew _) ?st3 ?fi3
                case st3 =>
                  intro i o v ho hv
                  match i, ho, hv with
                  | 0, ho, hv =>
                    cases ho; cases hv
                    refine .inl ⟨rfl, fun a W hk hw K hK => ?_⟩
                    have e1 := hk.same 1 (by decide)
                    exact op_val (by simp [go_sem, ev' e1]) (hK _ hw)
                  | 1, ho, hv =>
                    cases ho; cases hv
                    refine .inl ⟨rfl, fun a W hk hw K hK => ?_⟩
                    have e64 := hk.at_ 0 _ 64 _ rfl (by decide) _ rfl rfl rfl
                    exact op_val (by simp [go_sem, ev' e64, HC1.out W hw]) (hK _ hw)
                  | 2, ho, hv =>
                    cases ho; cases hv
                    refine .inl ⟨rfl, fun a W hk hw K hK => ?_⟩
                    have e4 := hk.same 4 (by decide)
                    exact op_val (by simp [go_sem, ev' e4]) (hK _ hw)
                  | 3, ho, hv =>
                    cases ho; cases hv
                    refine .inl ⟨rfl, fun a W hk hw K hK => ?_⟩
                    have e65 := hk.at_ 1 _ 65 _ rfl (by decide) _ rfl rfl rfl
                    have e66 := hk.at_ 2 _ 66 _ rfl (by decide) _ rfl rfl rfl
                    exact op_val (by simp [go_sem, ev' e65, ev' e66, ik]) (hK _ hw)
                  | 4, ho, hv =>
                    cases ho; cases hv
                    refine .inl ⟨rfl, fun a W hk hw K hK => ?_⟩
                    have e67 := hk.at_ 3 _ 67 _ rfl (by decide) _ rfl rfl rfl
                    exact op_val (by simp [go_sem, ev' e67, HX1.out W hw, HX2.out W hw]) (hK _ hw)
                  | 5, ho, hv =>
                    cases ho; cases hv
                    refine .inl ⟨rfl, fun a W hk hw K hK => ?_⟩
                    have e1 := hk.same 1 (by decide)
                    exact op_val (by simp [go_sem, ev' e1]) (hK _ hw)
                  | 6, ho, hv =>
                    cases ho; cases hv
                    refine .inl ⟨rfl, fun a W hk hw K hK => ?_⟩
                    have e69 := hk.at_ 5 _ 69 _ rfl (by decide) _ rfl rfl rfl
                    exact op_val (by simp [go_sem, ev' e69, HC1.out W hw]) (hK _ hw)
                  | 7, ho, hv =>
                    cases ho; cases hv
                    refine .inl ⟨rfl, fun a W hk hw K hK => ?_⟩
                    have e5 := hk.same 5 (by decide)
                    exact op_val (by simp [go_sem, ev' e5]) (hK _ hw)
                  | 8, ho, hv =>
                    cases ho; cases hv
                    refine .inl ⟨rfl, fun a W hk hw K hK => ?_⟩
                    have e70 := hk.at_ 6 _ 70 _ rfl (by decide) _ rfl rfl rfl
                    have e71 := hk.at_ 7 _ 71 _ rfl (by decide) _ rfl rfl rfl
                    exact op_val (by simp [go_sem, ev' e70, ev' e71, ij]) (hK _ hw)
                  | 9, ho, hv =>
                    cases ho; cases hv
                    refine .inl ⟨rfl, fun a W hk hw K hK => ?_⟩
                    have e72 := hk.at_ 8 _ 72 _ rfl (by decide) _ rfl rfl rfl
                    exact op_val (by simp [go_sem, ev' e72, HX3.out W hw, HX4.out W hw]) (hK _ hw)
                  | 10, ho, hv =>
                    cases ho; cases hv
                    refine .inl ⟨rfl, fun a W hk hw K hK => ?_⟩
                    have e68 := hk.at_ 4 _ 68 _ rfl (by decide) _ rfl rfl rfl
                    have e73 := hk.at_ 9 _ 73 _ rfl (by decide) _ rfl rfl rfl
                    exact op_val (v := .bool bb) (by by_cases g1 : y = y' <;> by_cases g2 : z = z' <;> simp [go_sem, ev' e68, ev' e73, g1, g2, ← hbb]) (hK _ hw)
                  | _ + 11, _, hv => cases hv
                intro W hw
                simp only [List.drop_succ_cons, List.drop_zero, List.zip_cons_cons, List.zip_nil_right, putAll]
                simp only [Act.put, List.setIfInBounds_toArray, List.set]
                cases bb
                · have HNE2 : Hid (∀ i, (h : i < C.strikes.length) → i < j + 1 → C.strikes[i] ≠ C.strikes[k]) := Lib.hid fun i h h' => by
                    by_cases e : i = j
                    · subst e
                      rw [HYZ.out, HYZ'.out]
                      intro e
                      cases e
                      have := HBB.out.2 ⟨rfl, rfl⟩
                      cases this
                    · exact HNE.out i h (by omega)
                  go_wp2_with fail
                  exact ⟨⟨j + 1, by go_num, by omega, HZ2.out.trans hw, HNE2⟩, by simp [intOf]; omega⟩
                · have HF : Hid (E = 6) := Lib.hid (by
                    have h2 := HE2.out
                    rw [if_pos] at h2
                    · exact h2.symm
                    · intro hnd
                      obtain ⟨e1, e2⟩ := HBB.out.1 rfl
                      have := nodup_of_take hkl hnd
                      refine this ?_
                      rw [List.mem_take_iff_getElem]
                      exact ⟨j, by omega, by rw [HYZ.out, HYZ'.out, e1, e2]⟩)
                  go_wp2_with fail
                  go_ret
                  exact ⟨ret_int HF.out.symm, H0.out.trans (HZ.out.trans hw)⟩
              · have t3 : decide (j < k) = false := by simpa using hjk
                have HNO2 : Hid ((C.strikes.take (k + 1)).Nodup) := Lib.hid (nodup_take_succ hkl HNO.out fun hm => by
                  rw [List.mem_take_iff_getElem] at hm
                  obtain ⟨i, hi, e⟩ := hm
                  exact HNE.out i (by omega) (by omega) e)
                clear HNE HNO hjk
                go_wp2_with fail
                exact ⟨⟨k + 1, by go_num, by omega, HZ.out, HNO2⟩, by simp [intOf]; omega⟩
          · have t2 : decide (k < C.strikes.length) = false := by simpa using hkl
            have HE3 : Hid (surveysE C.claims C.surveys = E) := Lib.hid (by
              have h := HNO.out
              rw [List.take_of_length_le (by omega)] at h
              have h2 := HE2.out
              rwa [if_neg (fun hn => hn h)] at h2)
            obtain ⟨W2, rfl⟩ : ∃ W2, W2 = wr := ⟨_, rfl⟩
            replace HT := Lib.hid (HT.out.aft HY.out)
            replace HB := Lib.hid (HB.out.aft HY.out)
            replace H0 := Lib.hid (H0.out.trans HY.out)
            clear HNO HE2 HY hkl HS
            go_upto_block 6 with fail
            clear k0 k1 k2 k3
            refine wp_block ?_
            go_loopw [6] (fun i wr => ∃ k : Nat, i = .int .i64 k ∧ k ≤ C.surveys.length ∧ Aft W2 wr ∧ Hid (SvL C.claims C.surveys k 0)) (fun i _ => C.surveys.length - (intOf i).toNat)
            case atStart => exact ⟨0, rfl, by omega, Aft.refl _, Lib.hid (SvL.start _ _)⟩
            case round =>
              obtain ⟨k, rfl, hk, hy, HSV⟩ := hrel
              have HY := Lib.hid hy
              clear hy
              obtain ⟨k0, k1, k2⟩ := box31 (HB.out.aft HY.out)
              have k3 := (HB.out.aft HY.out).lt
              by_cases hkl : k < C.surveys.length
              · have t4 : decide (k < C.surveys.length) = true := by simpa using hkl
                have ik : (0 : Int) ≤ (k : Int) ∧ (k : Int) < (C.surveys.length : Int) := by omega
                obtain ⟨bt, ot, A', c', hbt, hltt, x1, hil⟩ := (HT.out.aft HY.out).row hkl
                subst hbt
                have HSC := fun hf => Lib.hid (HSV.out.count hkl hf)
                have HSL := fun hf => Lib.hid (HSV.out.listed hkl hf)
                obtain ⟨l, hl0⟩ : ∃ l, C.surveys[k] = l := ⟨_, rfl⟩
                rw [hl0] at x1 hil HSC HSL
                have HIL := Lib.hid hil
                have hll := hil.len
                have H72 : Hid (∀ W, Aft wr W → Calls Tryz.prog 72 #[.agg #[.int .i64 C.claims, .slice a1 C.strikes.length c1, .slice (some ⟨bt, ot, none⟩) C.surveys.length c2], .slice A' l.length c'] W fun e w' => e = .returned (.int .i64 (listedE C.claims l)) ∧ Aft W w') := Lib.hid fun W h => listedR_any C.claims a1 (some ⟨bt, ot, none⟩) C.strikes.length C.surveys.length c1 c2 A' l c' W hn (HIL.out.aft h)
                have HC0 : Hid (∀ W, Aft wr W → W.cell? ⟨bC, 0, none⟩ = some (.int .i64 C.claims) ∧ W.cell? ⟨bC, 1, none⟩ = some (.slice a1 C.strikes.length c1) ∧ W.cell? ⟨bC, 2, none⟩ = some (.slice (some ⟨bt, ot, none⟩) C.surveys.length c2)) := Lib.hid fun W h => box31 (HB.out.aft (HY.out.trans h))
                have HX1 : Hid (∀ W, Aft wr W → W.cell? ⟨bt, ot + k, none⟩ = some (.slice A' l.length c')) := Lib.hid fun W h => cellA x1 hltt h
                clear hl0 hil
                cases hf : fromB (l.length : Int) 1 6
                · have HF := Lib.hid ((HSC hf).out.done (.inr (by decide)))
                  go_wp2_with (go_at_call 57; refine (beside_any (l.length : Int) 1 6 wr).mono ?_; rintro e w' ⟨rfl, rfl⟩; rw [hf])
                  go_ret
                  exact ⟨ret_int (by rw [← HE3.out]; exact HF.out), H0.out.trans HY.out⟩
                · have HSL2 := HSL hf
                  clear HSC HSL
                  obtain ⟨E2, hE2⟩ : ∃ E2, listedE C.claims l = E2 := ⟨_, rfl⟩
                  rw [hE2] at H72 HSL2
                  clear hE2
                  go_upto_region 21 with (go_at_call 57; refine (beside_any (l.length : Int) 1 6 wr).mono ?_; rintro e w' ⟨rfl, rfl⟩; rw [hf])
                  clear k0 k1 k2 k3 x1 hf
                  refine wp_region_valsT (by kernel_rfl) 7 99 rfl (by kernel_rfl) (by kernel_rfl) (by kernel_rfl) [(.agg #[.int .i64 C.claims, .slice a1 C.strikes.length c1, .slice (some ⟨bt, ot, none⟩) C.surveys.length c2]), .pointer (some ⟨bC, 2, none⟩), .slice (some ⟨bt, ot, none⟩) C.surveys.length c2, .int .i64 k, .pointer (some ⟨bt, ot + k, none⟩), .slice A' l.length c', .int .i64 E2] rfl (fun done W => Aft wr W) (Aft.drew _) ?st4 ?fi4
                  case st4 =>
                    intro i o v ho hv
                    match i, ho, hv with
                    | 0, ho, hv =>
                      cases ho; cases hv
                      refine .inl ⟨rfl, fun done a W hd hp hk hw K hK => ?_⟩
                      have e1 := hk.same 1 (by decide)
                      obtain ⟨j0, j1, j2⟩ := HC0.out W hw
                      exact op_val (v := (.agg #[.int .i64 C.claims, .slice a1 C.strikes.length c1, .slice (some ⟨bt, ot, none⟩) C.surveys.length c2])) (by simp [go_sem, ev' e1, j0, j1, j2]) (hK _ hw)
                    | 1, ho, hv =>
                      cases ho; cases hv
                      refine .inl ⟨rfl, fun done a W hd hp hk hw K hK => ?_⟩
                      have e1 := hk.same 1 (by decide)
                      exact op_val (by simp [go_sem, ev' e1]) (hK _ hw)
                    | 2, ho, hv =>
                      cases ho; cases hv
                      refine .inl ⟨rfl, fun done a W hd hp hk hw K hK => ?_⟩
                      have e90 := hk.at_ 1 _ 90 _ rfl (by decide) _ rfl rfl rfl
                      exact op_val (by simp [go_sem, ev' e90, (HC0.out W hw).2.2]) (hK _ hw)
                    | 3, ho, hv =>
                      cases ho; cases hv
                      refine .inl ⟨rfl, fun done a W hd hp hk hw K hK => ?_⟩
                      have e6 := hk.same 6 (by decide)
                      exact op_val (by simp [go_sem, ev' e6]) (hK _ hw)
                    | 4, ho, hv =>
                      cases ho; cases hv
                      refine .inl ⟨rfl, fun done a W hd hp hk hw K hK => ?_⟩
                      have e91 := hk.at_ 2 _ 91 _ rfl (by decide) _ rfl rfl rfl
                      have e92 := hk.at_ 3 _ 92 _ rfl (by decide) _ rfl rfl rfl
                      exact op_val (by simp [go_sem, ev' e91, ev' e92, ik]) (hK _ hw)
                    | 5, ho, hv =>
                      cases ho; cases hv
                      refine .inl ⟨rfl, fun done a W hd hp hk hw K hK => ?_⟩
                      have e93 := hk.at_ 4 _ 93 _ rfl (by decide) _ rfl rfl rfl
                      exact op_val (by simp [go_sem, ev' e93, HX1.out W hw]) (hK _ hw)
                    | 6, ho, hv =>
                      cases ho; cases hv
                      refine .inl ⟨rfl, fun done a W hd hp hk hw K hK => ?_⟩
                      have e89 := hk.at_ 0 _ 89 _ rfl (by decide) _ rfl rfl rfl
                      have e94 := hk.at_ 5 _ 94 _ rfl (by decide) _ rfl rfl rfl
                      refine op_callN rfl rfl rfl _ rfl (vs := #[(.agg #[.int .i64 C.claims, .slice a1 C.strikes.length c1, .slice (some ⟨bt, ot, none⟩) C.surveys.length c2]), .slice A' l.length c']) (by simp [e89, e94]) (H72.out W hw) fun e w' h => ?_
                      obtain ⟨rfl, ha⟩ := h
                      exact ⟨_, rfl, hK _ (hw.trans ha)⟩
                    | _ + 7, _, hv => cases hv
                  intro done W hd hw
                  simp only [List.drop_succ_cons, List.drop_zero, List.zip_cons_cons, List.zip_nil_right, putAll]
                  simp only [Act.put, List.setIfInBounds_toArray, List.set]
                  by_cases hE2 : E2 = 0
                  · subst hE2
                    go_wp2_with fail
                    exact ⟨⟨k + 1, by go_num, by omega, HY.out.trans hw, HSL2⟩, by simp [intOf]; omega⟩
                  · have t5 : (E2 != 0) = true := by simpa using hE2
                    have HF := Lib.hid (HSL2.out.done (.inr hE2))
                    go_wp2_with fail
                    go_ret
                    exact ⟨ret_int (by rw [← HE3.out]; exact HF.out), H0.out.trans (HY.out.trans hw)⟩
              · have t4 : decide (k < C.surveys.length) = false := by simpa using hkl
                have HF := Lib.hid (HSV.out.done (.inl (by omega)))
                go_wp2_with fail
                go_ret
                exact ⟨ret_int (by rw [← HE3.out]; exact HF.out), H0.out.trans HY.out⟩
  · rw [hcb, if_pos rfl] at hE
    clear hcb
    go_wp2_with fail
    go_ret
    exact ⟨ret_int hE, H0.out⟩

set_option maxRecDepth 100000 in
set_option maxHeartbeats 2000000 in
theorem refutedR_any (C : CaseL) (a1 a2 : Option Addr) (c1 c2 : Nat) (R : List Int) (A : Option Addr) (c : Nat) (w : World) (hC : CRep w C a1 a2) (hA : Ints w A R) :
    Calls Tryz.prog 66 #[(.agg #[.int .i64 C.claims, .slice a1 C.strikes.length c1, .slice a2 C.surveys.length c2]), .slice A R.length c] w fun e w' => e = .returned (.int .i64 (openE C R)) ∧ Aft w w' := by
  have H0 := Lib.hid (Aft.alloc w (.cells #[.int .i64 C.claims, .slice a1 C.strikes.length c1, .slice a2 C.surveys.length c2] 31))
  have HB := Lib.hid (Blk.new w 31 #[.int .i64 C.claims, .slice a1 C.strikes.length c1, .slice a2 C.surveys.length c2])
  unfold openE
  by_cases h1 : caseE C = 0
  · rw [if_pos h1]
    have hok := caseE_ok h1
    have H1 : Hid (∀ W, Aft w W → Calls Tryz.prog 56 #[(.agg #[.int .i64 C.claims, .slice a1 C.strikes.length c1, .slice a2 C.surveys.length c2])] W fun e w' => e = .returned (.int .i64 0) ∧ Aft W w') := Lib.hid fun W h => by rw [← h1]; exact checkR_any C a1 a2 c1 c2 W (hC.aft h)
    have H2 : Hid (∀ W, Aft w W → Calls Tryz.prog 72 #[(.agg #[.int .i64 C.claims, .slice a1 C.strikes.length c1, .slice a2 C.surveys.length c2]), .slice A R.length c] W fun e w' => e = .returned (.int .i64 (listedE C.claims R)) ∧ Aft W w') := Lib.hid fun W h => listedR_any C.claims a1 a2 _ _ c1 c2 A R c W ⟨hok.n1, hok.n2⟩ (hA.aft h)
    obtain ⟨k0, k1, k2⟩ := box31 HB.out
    have hlt := HB.out.lt
    clear hC hA h1 hok
    generalize listedE C.claims R = E at *
    go_enter Tryz.func66, Tryz.ntmps66
    go_wp2_with (first | (go_at_call 56; refine (H1.out _ H0.out).mono ?_; rintro e w1 ⟨rfl, ha1⟩; have HA1 := Lib.hid ha1; obtain ⟨j0, j1, j2⟩ := box31 (HB.out.aft ha1); have hlt1 := (HB.out.aft ha1).lt; clear ha1) | (go_at_call 72; refine (H2.out _ (H0.out.trans HA1.out)).mono ?_; rintro e w2 ⟨rfl, ha2⟩; have HA2 := Lib.hid ha2; clear ha2))
    go_ret
    exact ⟨rfl, (H0.out.trans HA1.out).trans HA2.out⟩
  · rw [if_neg h1]
    have H1 : Hid (∀ W, Aft w W → Calls Tryz.prog 56 #[(.agg #[.int .i64 C.claims, .slice a1 C.strikes.length c1, .slice a2 C.surveys.length c2])] W fun e w' => e = .returned (.int .i64 (caseE C)) ∧ Aft W w') := Lib.hid fun W h => checkR_any C a1 a2 c1 c2 W (hC.aft h)
    have t1 : (caseE C != 0) = true := by simpa using h1
    obtain ⟨k0, k1, k2⟩ := box31 HB.out
    have hlt := HB.out.lt
    clear hC hA h1
    generalize caseE C = E at *
    go_enter Tryz.func66, Tryz.ntmps66
    go_wp2_with (go_at_call 56; refine (H1.out _ H0.out).mono ?_; rintro e w1 ⟨rfl, ha1⟩; have HA1 := Lib.hid ha1; clear ha1)
    go_ret
    exact ⟨rfl, H0.out.trans HA1.out⟩
end Go.Proofs
end

section
namespace Go.Proofs
open Go.RowKit
open Court (refL begF noS struckB heard1 rule setF award manyOnce atOnce)
attribute [local go_sem] Oper.semAt_some

def stepT (S : List (Int × Int)) (f : Int → Nat) (n : Nat) : Int → Nat := fun i => if i < n then heard1 S noS f i else 0
theorem stepT_succ (S : List (Int × Int)) (f : Int → Nat) (n N : Nat) : foundL (setF (stepT S f n) n (heard1 S noS f n)) N = foundL (stepT S f (n + 1)) N := by
  unfold foundL
  refine List.map_congr_left fun i _ => ?_
  unfold setF stepT
  by_cases e : (i : Int) = n
  · rw [if_pos e, if_pos (by omega), e]
  · rw [if_neg e]
    by_cases h : (i : Int) < n
    · rw [if_pos h, if_pos (by omega)]
    · rw [if_neg h, if_neg (by omega)]
theorem stepT_end (S : List (Int × Int)) (f : Int → Nat) (N : Nat) : foundL (stepT S f N) N = foundL (atOnce S noS N f) N := by
  unfold foundL
  refine List.map_congr_left fun i hi => ?_
  have := List.mem_range.1 hi
  unfold stepT atOnce
  rw [if_pos (by omega), if_pos (by omega)]

set_option maxRecDepth 100000 in
set_option maxHeartbeats 4000000 in
theorem awardR_any (N : Nat) (S : List (Int × Int)) (T : List (List Int)) (a1 a2 : Option Addr) (c1 c2 : Nat) (R : List Int) (A : Option Addr) (c : Nat) (w : World) (hC : CRep w ⟨N, S, T⟩ a1 a2) (hN : 1 ≤ N ∧ N ≤ 14) (hin : ∀ s ∈ S, 0 ≤ s.1 ∧ s.1 < N) (hA : Ints w A R) (hR : ∀ x ∈ R, 0 ≤ x ∧ x < N) :
    Calls Tryz.prog 65 #[(.agg #[.int .i64 N, .slice a1 S.length c1, .slice a2 T.length c2]), .slice A R.length c] w (MadeI (foundL (award S noS N (begF (refL R))) N) w) := by
  have hl := hC.strikes.len
  have H0 := Lib.hid (Aft.alloc w (.cells #[.int .i64 N, .slice a1 S.length c1, .slice a2 T.length c2] 31))
  have HB := Lib.hid (Blk.new w 31 #[.int .i64 N, .slice a1 S.length c1, .slice a2 T.length c2])
  have HC := Lib.hid (hC.aft H0.out)
  have HA := Lib.hid (hA.aft H0.out)
  have HAW : Hid (manyOnce S noS N (N + 1) (begF (refL R)) = award S noS N (begF (refL R))) := Lib.hid (Court.many_award (Court.begF_three _) (by omega))
  clear hA hC
  obtain ⟨bC, hbC⟩ : ∃ bC, w.heap.size = bC := ⟨_, rfl⟩
  rw [hbC] at HB
  have HBC := Lib.hid hbC
  have hw0 : w.heap.size ≤ (w.alloc (.cells #[.int .i64 N, .slice a1 S.length c1, .slice a2 T.length c2] 31)).heap.size := H0.out.size
  rw [hbC] at hw0
  clear hbC
  obtain ⟨k0, k1, k2⟩ := box31 HB.out
  have k3 := HB.out.lt
  unfold MadeI
  rw [foundL_len]
  obtain ⟨f1, hf1⟩ : ∃ f1, award S noS N (begF (refL R)) = f1 := ⟨_, rfl⟩
  rw [hf1] at HAW ⊢
  clear hf1
  go_enter Tryz.func65, Tryz.ntmps65
  go_upto_region 1 with fail
  rw [HBC.out]
  generalize w.alloc (.cells #[.int .i64 N, .slice a1 S.length c1, .slice a2 T.length c2] 31) = W0 at *
  have H99 := Lib.hid (begin_any N a1 a2 S.length T.length c1 c2 A R c W0 hN HA.out hR)
  have hfl := foundL_len (begF (refL R)) N
  go_upto_block 0 with (go_at_call 99; refine H99.out.mono ?_; rintro e W1 ⟨g0, rfl, hg, hb, ha⟩; have HG0 := Lib.hid hb; have HA1 := Lib.hid ha; have HGE := Lib.hid hg; rw [hfl]; clear hg hb ha)
  clear k0 k1 k2 k3 H99 hfl
  refine wp_block ?_
  go_loopw [5, 6] (fun v i wr => ∃ (r g : Nat) (F : Int → Nat), i = .int .i64 r ∧ v = .slice (some ⟨g, 0, none⟩) N N ∧ r ≤ N + 1 ∧ bC ≤ g ∧ Blk wr g 3 (ivs (foundL F N)) ∧ Aft W0 wr ∧ Hid (manyOnce S noS N (N + 1 - r) F = f1)) (fun _ i _ => N + 1 - (intOf i).toNat)
  case atStart => exact ⟨0, g0, begF (refL R), rfl, rfl, by omega, Nat.le_trans hw0 HGE.out, HG0.out, HA1.out, HAW⟩
  case round =>
    obtain ⟨r, g, F, rfl, rfl, hr, hbg, hb, hy, HM⟩ := hrel
    have HG := Lib.hid hb
    have HY := Lib.hid hy
    clear hb hy
    obtain ⟨k0, k1, k2⟩ := box31 (HB.out.aft HY.out)
    have k3 := (HB.out.aft HY.out).lt
    by_cases hrN : r ≤ N
    · have t1 : decide (r ≤ N) = true := by simpa using hrN
      obtain ⟨W1, rfl⟩ : ∃ W1, W1 = wr := ⟨_, rfl⟩
      have hmk := ivs_make W1 N (by omega)
      go_upto_block 2 with fail
      have HB2 := Lib.hid (Blk.new W1 3 (ivs (foundL (fun _ => 0) N)))
      have HA2 := Lib.hid (Aft.alloc W1 (.cells (ivs (foundL (fun _ => 0) N)) 3))
      obtain ⟨h, hh⟩ : ∃ h, W1.heap.size = h := ⟨_, rfl⟩
      have hhb : bC ≤ W1.heap.size := Nat.le_of_lt k3
      rw [hh] at HB2 hhb ⊢
      have HH := Lib.hid hh
      clear hmk hh k0 k1 k2 k3
      generalize W1.alloc (.cells (ivs (foundL (fun _ => 0) N)) 3) = W2 at *
      refine wp_block ?_
      go_loopw [8] (fun i wr => ∃ n : Nat, i = .int .i64 n ∧ n ≤ N ∧ Aft W1 wr ∧ Blk wr h 3 (ivs (foundL (stepT S F n) N))) (fun i _ => N - (intOf i).toNat)
      case atStart =>
        refine ⟨0, rfl, by omega, HA2.out, ?_⟩
        have : foundL (stepT S F 0) N = foundL (fun _ => 0) N := by
          unfold foundL
          refine List.map_congr_left fun i _ => ?_
          unfold stepT
          rw [if_neg (by omega)]
        rw [this]
        exact HB2.out
      case round =>
        obtain ⟨n, rfl, hn, hz, hb⟩ := hrel
        have HZ := Lib.hid hz
        have HK := Lib.hid hb
        clear hz hb
        obtain ⟨k0, k1, k2⟩ := box31 (HB.out.aft (HY.out.trans HZ.out))
        have k3 := (HB.out.aft (HY.out.trans HZ.out)).lt
        by_cases hnN : n < N
        · have t2 : decide (n < N) = true := by simpa using hnN
          have iN : (0 : Int) ≤ (n : Int) ∧ (n : Int) < (N : Int) := by omega
          have H100 := Lib.hid (heardR_any ⟨N, S, T⟩ a1 a2 c1 c2 N F (some ⟨g, 0, none⟩) N n wr (HC.out.aft (HY.out.trans HZ.out)) hN.2 hin (ivs_ints (HG.out.aft HZ.out) (by rw [foundL_len]; omega)) hnN)
          obtain ⟨hv, hhv⟩ : ∃ hv, heard1 S noS F n = hv := ⟨_, rfl⟩
          have HST := Lib.hid (stepT_succ S F n N)
          rw [hhv] at HST
          dsimp only at H100
          rw [hhv] at H100
          clear hhv
          go_wp2_with (go_at_call 100; refine H100.out.mono ?_; rintro e W4 ⟨rfl, ha⟩; have HA4 := Lib.hid ha; have y0 := ivs_cell (HK.out.aft ha) (i := n) (by rw [foundL_len]; exact hnN); have y1 := (HK.out.aft ha).frozen n; have y2 := (HK.out.aft ha).lt; clear ha; generalize (foundL (stepT S F n) N)[n]'(by rw [foundL_len]; exact hnN) = vv at y0)
          have hs : W4.grownBy (W4.setCell ⟨h, n, none⟩ (.int .i64 hv)) (some h) := only_setCell (only_refl W4 (some h)) (p := ⟨h, n, none⟩) (.inl rfl) _
          refine ⟨⟨n + 1, by go_num, by omega, (HZ.out.trans HA4.out).grown hs (fun j e => by cases e; exact Nat.le_of_eq HH.out), ?_⟩, by simp [intOf]; omega⟩
          have := (HK.out.aft HA4.out).store n (.int .i64 hv)
          rw [ivs_set, foundL_set _ hnN, HST.out] at this
          exact this
        · have t2 : decide (n < N) = false := by simpa using hnN
          obtain rfl : n = N := by omega
          have HK2 : Hid (Blk wr h 3 (ivs (foundL (atOnce S noS n F) n))) := Lib.hid (by
            have := HK.out
            rwa [stepT_end] at this)
          have HM2 : Hid (manyOnce S noS n (n + 1 - (r + 1)) (atOnce S noS n F) = f1) := Lib.hid (by
            have := HM.out
            rw [show n + 1 - r = (n + 1 - (r + 1)) + 1 by omega] at this
            exact this)
          clear HK HM
          go_wp2_with fail
          exact ⟨⟨r + 1, h, atOnce S noS n F, by go_num, rfl, by omega, hhb, HK2.out, HY.out.trans HZ.out, HM2⟩, by simp [intOf]; omega⟩
    · have t1 : decide (r ≤ N) = false := by simpa using hrN
      have HK2 : Hid (Blk wr g 3 (ivs (foundL f1 N))) := Lib.hid (by
        have h1 := HM.out
        rw [show N + 1 - r = 0 by omega] at h1
        have h2 : F = f1 := h1
        rw [← h2]
        exact HG.out)
      clear HM HG
      go_wp2_with fail
      go_ret
      exact ⟨g, rfl, by rw [HBC.out]; exact hbg, HK2.out, H0.out.trans HY.out⟩

def MadeE (L : List Int) (w : World) (e : Ending) (w' : World) : Prop := ∃ g, e = .returned (.tuple #[.slice (some ⟨g, 0, none⟩) L.length L.length, .int .i64 0]) ∧ w.heap.size ≤ g ∧ Blk w' g 3 (ivs L) ∧ Aft w w'

set_option maxRecDepth 100000 in
set_option maxHeartbeats 2000000 in
theorem awardTop_bad (C : CaseL) (a1 a2 : Option Addr) (c1 c2 : Nat) (R : List Int) (A : Option Addr) (c : Nat) (w : World) (hC : CRep w C a1 a2) (hA : Ints w A R) (he : openE C R ≠ 0) :
    Calls Tryz.prog 22 #[(.agg #[.int .i64 C.claims, .slice a1 C.strikes.length c1, .slice a2 C.surveys.length c2]), .slice A R.length c] w (BadS (openE C R) w) := by
  have H0 := Lib.hid (Aft.alloc w (.cells #[.int .i64 C.claims, .slice a1 C.strikes.length c1, .slice a2 C.surveys.length c2] 31))
  have HB := Lib.hid (Blk.new w 31 #[.int .i64 C.claims, .slice a1 C.strikes.length c1, .slice a2 C.surveys.length c2])
  have H1 := Lib.hid (refutedR_any C a1 a2 c1 c2 R A c _ (hC.aft H0.out) (hA.aft H0.out))
  have t1 : (openE C R != 0) = true := by simpa using he
  obtain ⟨k0, k1, k2⟩ := box31 HB.out
  have hlt := HB.out.lt
  unfold BadS
  clear hC hA he
  generalize openE C R = E at *
  go_enter Tryz.func22, Tryz.ntmps22
  go_wp2_with (go_at_call 66; refine H1.out.mono ?_; rintro e w1 ⟨rfl, ha1⟩; have HA1 := Lib.hid ha1; clear ha1)
  go_ret2
  exact ⟨rfl, H0.out.trans HA1.out⟩

set_option maxRecDepth 100000 in
set_option maxHeartbeats 2000000 in
theorem awardTop_good (N : Nat) (S : List (Int × Int)) (T : List (List Int)) (a1 a2 : Option Addr) (c1 c2 : Nat) (R : List Int) (A : Option Addr) (c : Nat) (w : World) (hC : CRep w ⟨N, S, T⟩ a1 a2) (hA : Ints w A R) (he : openE ⟨N, S, T⟩ R = 0) :
    Calls Tryz.prog 22 #[(.agg #[.int .i64 N, .slice a1 S.length c1, .slice a2 T.length c2]), .slice A R.length c] w (MadeE (foundL (award S noS N (begF (refL R))) N) w) := by
  have H0 := Lib.hid (Aft.alloc w (.cells #[.int .i64 N, .slice a1 S.length c1, .slice a2 T.length c2] 31))
  have HB := Lib.hid (Blk.new w 31 #[.int .i64 N, .slice a1 S.length c1, .slice a2 T.length c2])
  have H1 : Hid (Calls Tryz.prog 66 #[(.agg #[.int .i64 N, .slice a1 S.length c1, .slice a2 T.length c2]), .slice A R.length c] (w.alloc (.cells #[.int .i64 N, .slice a1 S.length c1, .slice a2 T.length c2] 31)) fun e w' => e = .returned (.int .i64 0) ∧ Aft (w.alloc (.cells #[.int .i64 N, .slice a1 S.length c1, .slice a2 T.length c2] 31)) w') := Lib.hid (by rw [← he]; exact refutedR_any ⟨N, S, T⟩ a1 a2 c1 c2 R A c _ (hC.aft H0.out) (hA.aft H0.out))
  have hok := caseE_ok (openE_ok he).1
  have hR := (listedE_ok (openE_ok he).2).1
  have hn1 := hok.n1
  have hn2 := hok.n2
  have hin := hok.ins
  dsimp only at hn1 hn2 hR hin
  have H2 : Hid (∀ W, Aft w W → Calls Tryz.prog 65 #[(.agg #[.int .i64 N, .slice a1 S.length c1, .slice a2 T.length c2]), .slice A R.length c] W (MadeI (foundL (award S noS N (begF (refL R))) N) W)) := Lib.hid fun W h => awardR_any N S T a1 a2 c1 c2 R A c W (hC.aft h) (by omega) (fun s hs => (hin s hs).1) (hA.aft h) hR
  obtain ⟨k0, k1, k2⟩ := box31 HB.out
  have hlt := HB.out.lt
  have hfl := foundL_len (award S noS N (begF (refL R))) N
  unfold MadeE
  clear hC hA he hok hR hin
  generalize foundL (award S noS N (begF (refL R))) N = F at *
  rw [hfl]
  go_enter Tryz.func22, Tryz.ntmps22
  go_wp2_with (first | (go_at_call 66; refine H1.out.mono ?_; rintro e w1 ⟨rfl, ha1⟩; have HA1 := Lib.hid (H0.out.trans ha1); obtain ⟨j0, j1, j2⟩ := box31 (HB.out.aft ha1); have hlt1 := (HB.out.aft ha1).lt; clear ha1) | (go_at_call 65; refine (H2.out _ HA1.out).mono ?_; rintro e w2 ⟨g, rfl, hg, hb, ha⟩; have HG := Lib.hid hb; have HGE := Lib.hid (Nat.le_trans HA1.out.size hg); have HA2 := Lib.hid (HA1.out.trans ha); rw [hfl]; clear hg hb ha))
  go_ret2
  exact ⟨g, rfl, HGE.out, HG.out, HA2.out⟩
end Go.Proofs
end
