/- Own texts, merged: CtF CtG CtH CtI CtJ CtK CtL0 CtL CtM Own2 Own3. -/
import Derived.Test.YtbchfakfdikkjaaP02
import Derived.Test.YtbchfakfdikkjaaP03
import Derived.Laws.StructEq
import Derived.Deep.WholeRow
import Derived.Maps.AppendAt
import Derived.Deep.Onto
set_option linter.unusedSimpArgs false
set_option linter.unusedVariables false
set_option linter.unnecessarySimpa false
section
namespace Go.Proofs
open Go.RowKit
open Court (refL begF noS)
attribute [local go_sem] Oper.semAt_some

def strikers (S : List (Int × Int)) (sure : Int → Bool) (n : Int) : List Int := (S.filter fun s => decide (s.2 = n) && !sure n).map (·.1)
theorem strikers_succ (S : List (Int × Int)) (sure : Int → Bool) (n : Int) (k : Nat) (h : k < S.length) : strikers (S.take (k + 1)) sure n = strikers (S.take k) sure n ++ if decide (S[k].2 = n) && !sure n then [S[k].1] else [] := by
  unfold strikers
  rw [List.take_succ_eq_append_getElem h, List.filter_append, List.map_append]
  congr 1
  by_cases e : (decide (S[k].2 = n) && !sure n) = true
  · rw [if_pos e, List.filter_cons, if_pos e]; rfl
  · rw [if_neg e, List.filter_cons, if_neg e]; rfl
theorem strikers_get (S : List (Int × Int)) (sure : Int → Bool) (n : Int) (k : Nat) (h : k < S.length) (he : (decide (S[k].2 = n) && !sure n) = true) :
    (strikers S sure n)[(strikers (S.take k) sure n).length]? = some S[k].1 := by
  have h1 : strikers S sure n = strikers (S.take (k + 1)) sure n ++ strikers (S.drop (k + 1)) sure n := by
    unfold strikers
    rw [← List.map_append, ← List.filter_append, List.take_append_drop]
  rw [h1, strikers_succ S sure n k h, if_pos he, List.append_assoc, List.getElem?_append_right (Nat.le_refl _), Nat.sub_self]
  rfl

def RepS (w0 : World) (bd bn d : Nat) (C : CaseL) (a1 a2 : Option Addr) (c1 c2 : Nat) (ref sure : Int → Bool) (n : Int) (W : World) : Prop :=
  W.cell? ⟨bd, 0, none⟩ = some (.pointer (some ⟨d, 0, none⟩)) ∧ W.cell? ⟨bn, 0, none⟩ = some (.int .i64 n) ∧ bd < W.heap.size ∧ bn < W.heap.size ∧ ∃ f r, DeskAt w0 W d C a1 a2 c1 c2 ref sure f r
def GivesS (L : List Int) (k : Nat) (_ _ : World) (v : Value) : Prop := ∃ x, L[k]? = some x ∧ v = .int .i64 x
def YieldS (J : Nat → World → Prop) (Jx : World → Prop) (B k : Nat) (W1 : World) (e : Ending) (W' : World) : Prop :=
  (e = .returned (.bool true) ∧ J (k + 1) W' ∧ W'.heap[B + 2]? = W1.heap[B + 2]? ∧ W1.heap.size ≤ W'.heap.size) ∨ (e = .returned (.bool false) ∧ Jx W')
def IterS (J : Nat → World → Prop) (Jx : World → Prop) (N : Nat) (e : Ending) (W : World) : Prop := (∃ v, e = .returned v) ∧ (J N W ∨ Jx W)

set_option maxRecDepth 100000 in
set_option maxHeartbeats 2000000 in
theorem iter118 (fu : Nat) (w0 : World) (bd bn d B : Nat) (C : CaseL) (a1 a2 : Option Addr) (c1 c2 : Nat) (ref sure : Int → Bool) (n : Nat) (hn : n < 14) :
    IterOk fu 85 #[.pointer (some ⟨bd, 0, none⟩), .pointer (some ⟨bn, 0, none⟩)] B (strikers C.strikes sure n).length (GivesS (strikers C.strikes sure n)) (RepS w0 bd bn d C a1 a2 c1 c2 ref sure n) := by
  intro l J Jx W hsz hJ hrep hY h0
  obtain ⟨k1, k2, k3, k4, f0, r0, hD⟩ := hrep 0 W h0
  have hll := hD.strs.len
  have d1 := hD.k1
  have d2 := hD.lt
  have HJ := Lib.hid hJ
  have HR := Lib.hid hrep
  have HY : Hid (∀ k v W0 W1, k < (strikers C.strikes sure n).length → J k W0 → Aft W0 W1 → B + 3 ≤ W0.heap.size → GivesS (strikers C.strikes sure n) k W0 W1 v → YieldAt Fence.wide (fu - 1) Try.prog l #[v] W1 (YieldS J Jx B k W1)) := Lib.hid hY
  have H0 := Lib.hid h0
  have HT0 := Lib.hid (show strikers (C.strikes.take 0) sure n = [] from rfl)
  have HTE := Lib.hid (show strikers (C.strikes.take C.strikes.length) sure n = strikers C.strikes sure n by rw [List.take_of_length_le (Nat.le_refl _)])
  clear hJ hrep hY h0 hD
  refine callsIn_wide.2 ?_
  show Calls Try.prog 85 #[.func (.yield l) #[] #[], .pointer (some ⟨bd, 0, none⟩), .pointer (some ⟨bn, 0, none⟩)] W (IterS J Jx (strikers C.strikes sure n).length)
  go_enter Try.func85, Try.ntmps85
  go_wp2_with fail
  clear k1 k2 k3 k4 d1 d2
  go_loopw [12] (fun i wr => ∃ k : Nat, i = .int .i64 k ∧ k ≤ C.strikes.length ∧ J (strikers (C.strikes.take k) sure n).length wr ∧ B + 2 ≤ wr.heap.size) (fun i _ => C.strikes.length - (intOf i).toNat)
  case atStart => exact ⟨0, rfl, by omega, by rw [HT0.out]; exact H0.out, by omega⟩
  case round =>
    obtain ⟨k, rfl, hk, hj, hsz2⟩ := hrel
    have HJK := Lib.hid hj
    obtain ⟨k1, k2, k3, k4, f, r, hD⟩ := HR.out _ _ hj
    by_cases hkl : k < C.strikes.length
    · obtain ⟨b, o, rfl, hb, hc⟩ := hD.strs.at hkl
      obtain ⟨h1, h2⟩ := hc k hkl
      have d1 := hD.lt
      have d2 := hD.sr hn
      have HSU := Lib.hid (strikers_succ C.strikes sure n k hkl)
      have HGE := Lib.hid (strikers_get C.strikes sure n k hkl)
      have hb3 : B + 3 ≤ (wr.alloc (.cells #[.int .i64 C.strikes[k].1, .int .i64 C.strikes[k].2] 56)).heap.size := by simp; omega
      have hg3 : wr.grownBy (wr.alloc (.cells #[.int .i64 C.strikes[k].1, .int .i64 C.strikes[k].2] 56)) (some (B + 2)) := only_of_aft (Aft.alloc _ _) _
      have HJ3 := Lib.hid (HJ.out _ _ _ HJK.out hg3)
      have HB3 := Lib.hid hb3
      have HRP := Lib.hid (HR.out _ _ HJ3.out)
      have hn14 : (0 : Int) ≤ (n : Int) ∧ (n : Int) < 14 := by omega
      clear hc hD hj hg3 hb3
      obtain ⟨x, hx⟩ : ∃ x, C.strikes[k].1 = x := ⟨_, rfl⟩
      obtain ⟨y, hy⟩ : ∃ y, C.strikes[k].2 = y := ⟨_, rfl⟩
      rw [hx] at h1 HJ3 HB3 HSU HGE HRP
      rw [hy] at h2 HJ3 HB3 HSU HGE HRP
      clear hx hy
      go_upto_region 3 with (fail)
      have q0' := (Blk.new wr 56 #[.int .i64 x, .int .i64 y]).cell 0
      have q1' := (Blk.new wr 56 #[.int .i64 x, .int .i64 y]).cell 1
      have q2' := HRP.out.2.1
      have q3' := HRP.out.1
      have q4' : (wr.alloc (.cells #[.int .i64 x, .int .i64 y] 56)).cell? ⟨d, 17 + n, none⟩ = some (.bool (sure n)) := by simp [go_sem, d1, d2]
      obtain ⟨X, hX⟩ : ∃ X, (wr.alloc (.cells #[.int .i64 x, .int .i64 y] 56)).drew = X := ⟨_, rfl⟩
      have HX : Hid (J (strikers (C.strikes.take k) sure n).length X ∧ B + 3 ≤ X.heap.size) := Lib.hid (by rw [← hX]; exact ⟨HJ.out _ _ _ HJ3.out (only_drew (only_refl _ _)), HB3.out⟩)
      have q0 : X.cell? ⟨wr.heap.size, 0, none⟩ = some (.int .i64 x) := by rw [← hX]; exact q0'
      have q1 : X.cell? ⟨wr.heap.size, 1, none⟩ = some (.int .i64 y) := by rw [← hX]; exact q1'
      have q2 : X.cell? ⟨bn, 0, none⟩ = some (.int .i64 n) := by rw [← hX]; exact q2'
      have q3 : X.cell? ⟨bd, 0, none⟩ = some (.pointer (some ⟨d, 0, none⟩)) := by rw [← hX]; exact q3'
      have q4 : X.cell? ⟨d, 17 + n, none⟩ = some (.bool (sure n)) := by rw [← hX]; exact q4'
      clear q0' q1' q2' q3' q4' HJ3 HB3 HRP h1 h2 d1 d2 k1 k2
      generalize hbs : wr.heap.size = b3 at *
      by_cases hyn : y = n
      · have t1 : (y == (n : Int)) = true := by simpa using hyn
        cases hs : sure n
        · rw [hs] at q4 HSU HGE
          have HSU2 : Hid (strikers (C.strikes.take (k + 1)) sure n = strikers (C.strikes.take k) sure n ++ [x]) := Lib.hid (by rw [HSU.out, if_pos (by simp [hyn])])
          have HGE2 : Hid ((strikers C.strikes sure n)[(strikers (C.strikes.take k) sure n).length]? = some x) := Lib.hid (HGE.out (by simp [hyn]))
          clear hs HSU HGE hyn
          have hlt3 : (strikers (C.strikes.take k) sure n).length < (strikers C.strikes sure n).length := (List.getElem?_eq_some_iff.1 HGE2.out).1
          obtain ⟨fn, tmps, assign, body, hy, hR⟩ := HY.out _ (.int .i64 x) X X hlt3 HX.out.1 (Aft.refl _) HX.out.2 ⟨x, HGE2.out, rfl⟩
          have HRR := Lib.hid hR
          clear hR
          refine (wpIn_wide (n := fu)).1 ?_
          refine region_valsTIn (by kernel_rfl) (fun _ => trivial) lift_wide 17 37 rfl (by kernel_rfl) (by kernel_rfl) (by kernel_rfl) [.pointer (some ⟨b3, 1, none⟩), .int .i64 y, .int .i64 n, .bool true, .bool true, .pointer (some ⟨d, 0, none⟩), .int .i64 n, .pointer (some ⟨d, 0, none⟩), .pointer (some ⟨d, 17, none⟩), .pointer (some ⟨d, 17 + n, none⟩), .bool false, .bool true, .bool true, .bool true, .func (.yield l) #[] #[], .pointer (some ⟨b3, 0, none⟩), .int .i64 x] rfl (fun _ W => W = X) (hX) ?st1 ?fi1
          case st1 =>
            intro i o v ho hv
            match i, ho, hv with
            | 0, ho, hv =>
              cases ho; cases hv
              refine .inl ⟨rfl, fun done a W hd hp hk hw K hK => ?_⟩
              have e5 := hk.same 5 (by decide)
              exact op_val (by simp [go_sem, ev' e5]) (hK _ hw)
            | 1, ho, hv =>
              cases ho; cases hv
              refine .inl ⟨rfl, fun done a W hd hp hk hw K hK => ?_⟩
              have e16 := hk.at_ 0 _ 16 _ rfl (by decide) _ rfl rfl rfl
              exact op_val (by simp [go_sem, ev' e16, hw, q1]) (hK _ hw)
            | 2, ho, hv =>
              cases ho; cases hv
              refine .inl ⟨rfl, fun done a W hd hp hk hw K hK => ?_⟩
              have e2 := hk.same 2 (by decide)
              exact op_val (by simp [go_sem, ev' e2, hw, q2]) (hK _ hw)
            | 3, ho, hv =>
              cases ho; cases hv
              refine .inl ⟨rfl, fun done a W hd hp hk hw K hK => ?_⟩
              have e17 := hk.at_ 1 _ 17 _ rfl (by decide) _ rfl rfl rfl
              have e18 := hk.at_ 2 _ 18 _ rfl (by decide) _ rfl rfl rfl
              exact op_val (by simp [go_sem, ev' e17, ev' e18, t1]) (hK _ hw)
            | 4, ho, hv =>
              cases ho; cases hv
              refine .inl ⟨rfl, fun done a W hd hp hk hw K hK => ?_⟩
              have e19 := hk.at_ 3 _ 19 _ rfl (by decide) _ rfl rfl rfl
              exact op_val (by simp [go_sem, ev' e19]) (hK _ hw)
            | 5, ho, hv =>
              cases ho; cases hv
              refine .inl ⟨rfl, fun done a W hd hp hk hw K hK => ?_⟩
              have e1 := hk.same 1 (by decide)
              exact op_val (by simp [go_sem, ev' e1, hw, q3]) (hK _ hw)
            | 6, ho, hv =>
              cases ho; cases hv
              refine .inl ⟨rfl, fun done a W hd hp hk hw K hK => ?_⟩
              have e2 := hk.same 2 (by decide)
              exact op_val (by simp [go_sem, ev' e2, hw, q2]) (hK _ hw)
            | 7, ho, hv =>
              cases ho; cases hv
              refine .inl ⟨rfl, fun done a W hd hp hk hw K hK => ?_⟩
              have e21 := hk.at_ 5 _ 21 _ rfl (by decide) _ rfl rfl rfl
              exact op_val (by simp [go_sem, ev' e21]) (hK _ hw)
            | 8, ho, hv =>
              cases ho; cases hv
              refine .inl ⟨rfl, fun done a W hd hp hk hw K hK => ?_⟩
              have e23 := hk.at_ 7 _ 23 _ rfl (by decide) _ rfl rfl rfl
              exact op_val (by simp [go_sem, ev' e23]) (hK _ hw)
            | 9, ho, hv =>
              cases ho; cases hv
              refine .inl ⟨rfl, fun done a W hd hp hk hw K hK => ?_⟩
              have e22 := hk.at_ 6 _ 22 _ rfl (by decide) _ rfl rfl rfl
              have e24 := hk.at_ 8 _ 24 _ rfl (by decide) _ rfl rfl rfl
              exact op_val (by simp [go_sem, ev' e22, ev' e24, hn14]) (hK _ hw)
            | 10, ho, hv =>
              cases ho; cases hv
              refine .inl ⟨rfl, fun done a W hd hp hk hw K hK => ?_⟩
              have e25 := hk.at_ 9 _ 25 _ rfl (by decide) _ rfl rfl rfl
              exact op_val (by simp [go_sem, ev' e25, hw, q4]) (hK _ hw)
            | 11, ho, hv =>
              cases ho; cases hv
              refine .inl ⟨rfl, fun done a W hd hp hk hw K hK => ?_⟩
              have e26 := hk.at_ 10 _ 26 _ rfl (by decide) _ rfl rfl rfl
              exact op_val (by simp [go_sem, ev' e26]) (hK _ hw)
            | 12, ho, hv =>
              cases ho; cases hv
              refine .inl ⟨rfl, fun done a W hd hp hk hw K hK => ?_⟩
              have e20 := hk.at_ 4 _ 20 _ rfl (by decide) _ rfl rfl rfl
              have e27 := hk.at_ 11 _ 27 _ rfl (by decide) _ rfl rfl rfl
              exact op_val (by simp [go_sem, ev' e20, ev' e27]) (hK _ hw)
            | 13, ho, hv =>
              cases ho; cases hv
              refine .inl ⟨rfl, fun done a W hd hp hk hw K hK => ?_⟩
              have e28 := hk.at_ 12 _ 28 _ rfl (by decide) _ rfl rfl rfl
              exact op_val (by simp [go_sem, ev' e28]) (hK _ hw)
            | 14, ho, hv =>
              cases ho; cases hv
              refine .inl ⟨rfl, fun done a W hd hp hk hw K hK => ?_⟩
              have e0 := hk.same 0 (by decide)
              exact op_val (by simp [go_sem, ev' e0]) (hK _ hw)
            | 15, ho, hv =>
              cases ho; cases hv
              refine .inl ⟨rfl, fun done a W hd hp hk hw K hK => ?_⟩
              have e5 := hk.same 5 (by decide)
              exact op_val (by simp [go_sem, ev' e5]) (hK _ hw)
            | 16, ho, hv =>
              cases ho; cases hv
              refine .inl ⟨rfl, fun done a W hd hp hk hw K hK => ?_⟩
              have e31 := hk.at_ 15 _ 31 _ rfl (by decide) _ rfl rfl rfl
              exact op_val (by simp [go_sem, ev' e31, hw, q0]) (hK _ hw)
            | _ + 17, _, hv => cases hv
          intro done W hd hw
          simp only [List.drop_succ_cons, List.drop_zero, List.zip_cons_cons, List.zip_nil_right, putAll]
          simp only [Act.put, List.setIfInBounds_toArray, List.set]
          clear hd
          subst hw
          gi_wp2_with fail
          refine ⟨(fun h => by cases h), HRR.out.mono ?_⟩
          rintro e W3 (⟨rfl, hJ3, hk3, hs3⟩ | ⟨rfl, hJx3⟩)
          · have hs3' : B + 3 ≤ W3.heap.size := Nat.le_trans HX.out.2 hs3
            have HJ4 : Hid (J (strikers (C.strikes.take (k + 1)) sure n).length W3) := Lib.hid (by rw [HSU2.out, List.length_append]; exact hJ3)
            clear hy HRR hJ3 hk3 hs3
            gi_wp2_with fail
            go_wp2_with fail
            exact ⟨⟨k + 1, by go_num, by omega, HJ4.out, by omega⟩, by simp [intOf]; omega⟩
          · clear hy HRR
            gi_wp2_with fail
            go_wp2_with fail
            go_end0
            exact ⟨⟨_, rfl⟩, .inr hJx3⟩
        · rw [hs] at q4 HSU
          have HSU2 : Hid (strikers (C.strikes.take (k + 1)) sure n = strikers (C.strikes.take k) sure n) := Lib.hid (by rw [HSU.out]; simp)
          clear hs HSU HGE hyn
          refine wp_region_valsT (by kernel_rfl) 17 37 rfl (by kernel_rfl) (by kernel_rfl) (by kernel_rfl) [.pointer (some ⟨b3, 1, none⟩), .int .i64 y, .int .i64 n, .bool true, .bool true, .pointer (some ⟨d, 0, none⟩), .int .i64 n, .pointer (some ⟨d, 0, none⟩), .pointer (some ⟨d, 17, none⟩), .pointer (some ⟨d, 17 + n, none⟩), .bool true, .bool false, .bool false, .bool false, undef, undef, undef] rfl (fun _ W => W = X) (hX) ?st2 ?fi2
          case st2 =>
            intro i o v ho hv
            match i, ho, hv with
            | 0, ho, hv =>
              cases ho; cases hv
              refine .inl ⟨rfl, fun done a W hd hp hk hw K hK => ?_⟩
              have e5 := hk.same 5 (by decide)
              exact op_val (by simp [go_sem, ev' e5]) (hK _ hw)
            | 1, ho, hv =>
              cases ho; cases hv
              refine .inl ⟨rfl, fun done a W hd hp hk hw K hK => ?_⟩
              have e16 := hk.at_ 0 _ 16 _ rfl (by decide) _ rfl rfl rfl
              exact op_val (by simp [go_sem, ev' e16, hw, q1]) (hK _ hw)
            | 2, ho, hv =>
              cases ho; cases hv
              refine .inl ⟨rfl, fun done a W hd hp hk hw K hK => ?_⟩
              have e2 := hk.same 2 (by decide)
              exact op_val (by simp [go_sem, ev' e2, hw, q2]) (hK _ hw)
            | 3, ho, hv =>
              cases ho; cases hv
              refine .inl ⟨rfl, fun done a W hd hp hk hw K hK => ?_⟩
              have e17 := hk.at_ 1 _ 17 _ rfl (by decide) _ rfl rfl rfl
              have e18 := hk.at_ 2 _ 18 _ rfl (by decide) _ rfl rfl rfl
              exact op_val (by simp [go_sem, ev' e17, ev' e18, t1]) (hK _ hw)
            | 4, ho, hv =>
              cases ho; cases hv
              refine .inl ⟨rfl, fun done a W hd hp hk hw K hK => ?_⟩
              have e19 := hk.at_ 3 _ 19 _ rfl (by decide) _ rfl rfl rfl
              exact op_val (by simp [go_sem, ev' e19]) (hK _ hw)
            | 5, ho, hv =>
              cases ho; cases hv
              refine .inl ⟨rfl, fun done a W hd hp hk hw K hK => ?_⟩
              have e1 := hk.same 1 (by decide)
              exact op_val (by simp [go_sem, ev' e1, hw, q3]) (hK _ hw)
            | 6, ho, hv =>
              cases ho; cases hv
              refine .inl ⟨rfl, fun done a W hd hp hk hw K hK => ?_⟩
              have e2 := hk.same 2 (by decide)
              exact op_val (by simp [go_sem, ev' e2, hw, q2]) (hK _ hw)
            | 7, ho, hv =>
              cases ho; cases hv
              refine .inl ⟨rfl, fun done a W hd hp hk hw K hK => ?_⟩
              have e21 := hk.at_ 5 _ 21 _ rfl (by decide) _ rfl rfl rfl
              exact op_val (by simp [go_sem, ev' e21]) (hK _ hw)
            | 8, ho, hv =>
              cases ho; cases hv
              refine .inl ⟨rfl, fun done a W hd hp hk hw K hK => ?_⟩
              have e23 := hk.at_ 7 _ 23 _ rfl (by decide) _ rfl rfl rfl
              exact op_val (by simp [go_sem, ev' e23]) (hK _ hw)
            | 9, ho, hv =>
              cases ho; cases hv
              refine .inl ⟨rfl, fun done a W hd hp hk hw K hK => ?_⟩
              have e22 := hk.at_ 6 _ 22 _ rfl (by decide) _ rfl rfl rfl
              have e24 := hk.at_ 8 _ 24 _ rfl (by decide) _ rfl rfl rfl
              exact op_val (by simp [go_sem, ev' e22, ev' e24, hn14]) (hK _ hw)
            | 10, ho, hv =>
              cases ho; cases hv
              refine .inl ⟨rfl, fun done a W hd hp hk hw K hK => ?_⟩
              have e25 := hk.at_ 9 _ 25 _ rfl (by decide) _ rfl rfl rfl
              exact op_val (by simp [go_sem, ev' e25, hw, q4]) (hK _ hw)
            | 11, ho, hv =>
              cases ho; cases hv
              refine .inl ⟨rfl, fun done a W hd hp hk hw K hK => ?_⟩
              have e26 := hk.at_ 10 _ 26 _ rfl (by decide) _ rfl rfl rfl
              exact op_val (by simp [go_sem, ev' e26]) (hK _ hw)
            | 12, ho, hv =>
              cases ho; cases hv
              refine .inl ⟨rfl, fun done a W hd hp hk hw K hK => ?_⟩
              have e20 := hk.at_ 4 _ 20 _ rfl (by decide) _ rfl rfl rfl
              have e27 := hk.at_ 11 _ 27 _ rfl (by decide) _ rfl rfl rfl
              exact op_val (by simp [go_sem, ev' e20, ev' e27]) (hK _ hw)
            | 13, ho, hv =>
              cases ho; cases hv
              refine .inl ⟨rfl, fun done a W hd hp hk hw K hK => ?_⟩
              have e28 := hk.at_ 12 _ 28 _ rfl (by decide) _ rfl rfl rfl
              exact op_val (by simp [go_sem, ev' e28]) (hK _ hw)
            | 14, ho, hv => cases ho; cases hv; exact .inr ⟨rfl, rfl, fun _ _ h => h⟩
            | 15, ho, hv => cases ho; cases hv; exact .inr ⟨rfl, rfl, fun _ _ h => h⟩
            | 16, ho, hv => cases ho; cases hv; exact .inr ⟨rfl, rfl, fun _ _ h => h⟩
            | _ + 17, _, hv => cases hv
          intro done W hd hw
          simp only [List.drop_succ_cons, List.drop_zero, List.zip_cons_cons, List.zip_nil_right, putAll]
          simp only [Act.put, List.setIfInBounds_toArray, List.set]
          clear hd
          subst hw
          go_wp2_with fail
          exact ⟨⟨k + 1, by go_num, by omega, by rw [HSU2.out]; exact HX.out.1, by have := HX.out.2; omega⟩, by simp [intOf]; omega⟩
      · have t1 : (y == (n : Int)) = false := by simpa using hyn
        have HSU2 : Hid (strikers (C.strikes.take (k + 1)) sure n = strikers (C.strikes.take k) sure n) := Lib.hid (by rw [HSU.out, decide_eq_false hyn]; simp)
        clear HSU HGE hyn
        refine wp_region_valsT (by kernel_rfl) 17 37 rfl (by kernel_rfl) (by kernel_rfl) (by kernel_rfl) [.pointer (some ⟨b3, 1, none⟩), .int .i64 y, .int .i64 n, .bool false, .bool false, undef, undef, undef, undef, undef, undef, undef, .bool false, .bool false, undef, undef, undef] rfl (fun _ W => W = X) (hX) ?st3 ?fi3
        case st3 =>
          intro i o v ho hv
          match i, ho, hv with
          | 0, ho, hv =>
            cases ho; cases hv
            refine .inl ⟨rfl, fun done a W hd hp hk hw K hK => ?_⟩
            have e5 := hk.same 5 (by decide)
            exact op_val (by simp [go_sem, ev' e5]) (hK _ hw)
          | 1, ho, hv =>
            cases ho; cases hv
            refine .inl ⟨rfl, fun done a W hd hp hk hw K hK => ?_⟩
            have e16 := hk.at_ 0 _ 16 _ rfl (by decide) _ rfl rfl rfl
            exact op_val (by simp [go_sem, ev' e16, hw, q1]) (hK _ hw)
          | 2, ho, hv =>
            cases ho; cases hv
            refine .inl ⟨rfl, fun done a W hd hp hk hw K hK => ?_⟩
            have e2 := hk.same 2 (by decide)
            exact op_val (by simp [go_sem, ev' e2, hw, q2]) (hK _ hw)
          | 3, ho, hv =>
            cases ho; cases hv
            refine .inl ⟨rfl, fun done a W hd hp hk hw K hK => ?_⟩
            have e17 := hk.at_ 1 _ 17 _ rfl (by decide) _ rfl rfl rfl
            have e18 := hk.at_ 2 _ 18 _ rfl (by decide) _ rfl rfl rfl
            exact op_val (by simp [go_sem, ev' e17, ev' e18, t1]) (hK _ hw)
          | 4, ho, hv =>
            cases ho; cases hv
            refine .inl ⟨rfl, fun done a W hd hp hk hw K hK => ?_⟩
            have e19 := hk.at_ 3 _ 19 _ rfl (by decide) _ rfl rfl rfl
            exact op_val (by simp [go_sem, ev' e19]) (hK _ hw)
          | 5, ho, hv => cases ho; cases hv; exact .inr ⟨rfl, rfl, fun _ _ h => h⟩
          | 6, ho, hv => cases ho; cases hv; exact .inr ⟨rfl, rfl, fun _ _ h => h⟩
          | 7, ho, hv => cases ho; cases hv; exact .inr ⟨rfl, rfl, fun _ _ h => h⟩
          | 8, ho, hv => cases ho; cases hv; exact .inr ⟨rfl, rfl, fun _ _ h => h⟩
          | 9, ho, hv => cases ho; cases hv; exact .inr ⟨rfl, rfl, fun _ _ h => h⟩
          | 10, ho, hv => cases ho; cases hv; exact .inr ⟨rfl, rfl, fun _ _ h => h⟩
          | 11, ho, hv => cases ho; cases hv; exact .inr ⟨rfl, rfl, fun _ _ h => h⟩
          | 12, ho, hv =>
            cases ho; cases hv
            refine .inl ⟨rfl, fun done a W hd hp hk hw K hK => ?_⟩
            have e20 := hk.at_ 4 _ 20 _ rfl (by decide) _ rfl rfl rfl
            have e27 := hk.at_ 11 _ 27 _ rfl (by decide) _ rfl rfl rfl
            exact op_val (by simp [go_sem, ev' e20, ev' e27]) (hK _ hw)
          | 13, ho, hv =>
            cases ho; cases hv
            refine .inl ⟨rfl, fun done a W hd hp hk hw K hK => ?_⟩
            have e28 := hk.at_ 12 _ 28 _ rfl (by decide) _ rfl rfl rfl
            exact op_val (by simp [go_sem, ev' e28]) (hK _ hw)
          | 14, ho, hv => cases ho; cases hv; exact .inr ⟨rfl, rfl, fun _ _ h => h⟩
          | 15, ho, hv => cases ho; cases hv; exact .inr ⟨rfl, rfl, fun _ _ h => h⟩
          | 16, ho, hv => cases ho; cases hv; exact .inr ⟨rfl, rfl, fun _ _ h => h⟩
          | _ + 17, _, hv => cases hv
        intro done W hd hw
        simp only [List.drop_succ_cons, List.drop_zero, List.zip_cons_cons, List.zip_nil_right, putAll]
        simp only [Act.put, List.setIfInBounds_toArray, List.set]
        clear hd
        subst hw
        go_wp2_with fail
        exact ⟨⟨k + 1, by go_num, by omega, by rw [HSU2.out]; exact HX.out.1, by have := HX.out.2; omega⟩, by simp [intOf]; omega⟩
    · obtain rfl : k = C.strikes.length := by omega
      rw [HTE.out] at HJK
      clear hj hD k1 k2 k3 k4
      go_wp2_with fail
      go_end0
      exact ⟨⟨_, rfl⟩, .inl HJK.out⟩
end Go.Proofs
end

section
namespace Go.Proofs
open Go.RowKit
open Court (refL begF noS struckB)
attribute [local go_sem] Oper.semAt_some

structure Fr (w : World) (B : Nat) (bs : List (Nat × TypeId × Array Value)) (W : World) : Prop where
  aft : Aft w W
  blks : ∀ x ∈ bs, x.1 < B ∧ w.heap.size ≤ x.1 ∧ Blk W x.1 x.2.1 x.2.2
  size : B ≤ W.heap.size
  ge : w.heap.size ≤ B
section
variable {w W W' : World} {B : Nat} {bs : List (Nat × TypeId × Array Value)}
theorem Fr.later (h : Fr w B bs W) (ha : Aft W W') : Fr w B bs W' := ⟨h.aft.trans ha, fun x hx => let ⟨h1, h2, h3⟩ := h.blks x hx; ⟨h1, h2, h3.aft ha⟩, Nat.le_trans h.size ha.size, h.ge⟩
theorem Fr.grown (h : Fr w B bs W) {r : Nat} (hg : W.grownBy W' (some r)) (hr : B ≤ r) : Fr w B bs W' :=
  ⟨h.aft.grown hg (fun k e => by cases e; exact Nat.le_trans h.ge hr), fun x hx => let ⟨h1, h2, h3⟩ := h.blks x hx; ⟨h1, h2, h3.grown hg (fun e => by cases e; omega)⟩, Nat.le_trans h.size hg.size, h.ge⟩
theorem Fr.blk (h : Fr w B bs W) {g : Nat} {t : TypeId} {cs : Array Value} (hx : (g, t, cs) ∈ bs) : Blk W g t cs := (h.blks _ hx).2.2
theorem Fr.nth (h : Fr w B bs W) (i : Nat) {g : Nat} {t : TypeId} {cs : Array Value} (hx : bs[i]? = some (g, t, cs)) : Blk W g t cs := h.blk (List.mem_of_getElem? hx)
theorem Fr.store (h : Fr w B bs W) {g : Nat} {t : TypeId} {cs : Array Value} (hx : (g, t, cs) ∈ bs) (i : Nat) (v : Value) {bs' : List (Nat × TypeId × Array Value)} (hs : ∀ x ∈ bs', x = (g, t, cs.setIfInBounds i v) ∨ (x ∈ bs ∧ x.1 ≠ g)) : Fr w B bs' (W.setCell ⟨g, i, none⟩ v) :=
  ⟨h.aft.then_setCell (h.blks _ hx).2.1 _, fun x hx' => by
    rcases hs x hx' with rfl | ⟨h1, h2⟩
    · exact ⟨(h.blks _ hx).1, (h.blks _ hx).2.1, (h.blks _ hx).2.2.store i v⟩
    · exact ⟨(h.blks _ h1).1, (h.blks _ h1).2.1, (h.blks _ h1).2.2.far (p := ⟨g, i, none⟩) h2 _⟩, by have := h.size; simpa [World.setCell] using this, h.ge⟩
theorem Fr.three {β : Type} {bs : β → List (Nat × TypeId × Array Value)} {p : β → Prop} : Three B (fun s W => Fr w B (bs s) W ∧ p s) := fun _ _ _ _ h hg h1 _ => ⟨h.1.grown hg h1, h.2⟩
end

theorem striking_any (d : Nat) (n : Int) (w : World) :
    Calls Try.prog 71 #[.pointer (some ⟨d, 0, none⟩), .int .i64 n] w fun e w' => e = .returned (.func (.func 85) #[] #[.pointer (some ⟨w.heap.size, 0, none⟩), .pointer (some ⟨w.heap.size + 1, 0, none⟩)]) ∧ w' = (w.alloc (.cells #[.pointer (some ⟨d, 0, none⟩)] 66)).alloc (.cells #[.int .i64 n] 3) := by
  go_enter Try.func71, Try.ntmps71
  go_wp2_with fail
  go_ret
  exact ⟨rfl, rfl⟩

theorem runs_118 (args : Array Value) (w : World) : (callFunc 85 args).run Try.prog w = .ok (.enter 85 args) w := by simp [go_sem]

theorem wpIn_striking {g : Operand} {p : Tmp} {assign body : Code} {Q : Exit → Act → World → Prop} {a : Act} {w : World} {n : Nat} {w0 : World} {bd bn d : Nat} {C : CaseL} {a1 a2 : Option Addr} {c1 c2 : Nat} {ref sure : Int → Bool} {m : Nat} (hm : m < 14)
    (hg : a.eval g = .func (.func 85) #[] #[.pointer (some ⟨bd, 0, none⟩), .pointer (some ⟨bn, 0, none⟩)])
    (I : Nat → World → Prop) (Ix : Code → World → Prop) (hI : Three w.heap.size I) (hIa : ∀ k W W', I k W → Aft W W' → I k W') (hIx : ∀ c, Three w.heap.size (fun (_ : Unit) => Ix c)) (hrep : ∀ k W, I k W → RepS w0 bd bn d C a1 a2 c1 c2 ref sure m W) (h0 : I 0 w) (a₁ : Value → Act)
    (hassign : ∀ (l : Nat) (v : Value) (W : World) (K : Act → World → Prop), K (a₁ v) W →
      assign.wpIn (Fence.wide.inRound l) (n - 1 - 1) Try.prog (Exit.then K (fun _ _ _ => False)) { tmps := a.tmps.setIfInBounds p v, defers := [] } W)
    (hbody : ∀ (l k : Nat) (x : Int) (W : World), (strikers C.strikes sure m)[k]? = some x → I k W → w.heap.size + 3 ≤ W.heap.size → body.wpIn (Fence.wide.inRound l) (n - 1 - 1) Try.prog (post3 w.heap.size I Ix (k + 1) W) (a₁ (.int .i64 x)) W)
    (hdone : ∀ (D : Nat) (W : World), w.heap.size = D → I (strikers C.strikes sure m).length W → W.heap[D]? = some (.deferred (some [])) → Q .normal { a with defers := { target := .collected D, args := #[] } :: a.defers } W)
    (hstop : ∀ (D : Nat) (c : Code) (W : World), w.heap.size = D → Ix c W → W.heap[D]? = some (.deferred (some [])) → c.wpIn Fence.wide n Try.prog Q { a with defers := { target := .collected D, args := #[] } :: a.defers } W) :
    (Code.rangeFunc g #[p] assign body).wpIn Fence.wide n Try.prog Q a w := by
  refine wpIn_range3 hg runs_118 (iter118 (n - 1) w0 bd bn d w.heap.size C a1 a2 c1 c2 ref sure m hm) (fun k W0 W v r o h _ => h) I Ix hI hIx hrep h0 a₁ hassign (fun l k v W0 W hk hi ha hB hv => ?_) hdone hstop
  obtain ⟨x, hx, rfl⟩ := hv
  exact hbody l k x W hx (hIa _ _ _ hi ha) (Nat.le_trans hB ha.size)
theorem wpIn_striking2 {g : Operand} {p : Tmp} {body : Code} {rid : Nat} {q : Tmp} {oq : Oper} {Q : Exit → Act → World → Prop} {a : Act} {w : World} {n : Nat} {w0 : World} {bd bn d : Nat} {C : CaseL} {a1 a2 : Option Addr} {c1 c2 : Nat} {ref sure : Int → Bool} {m : Nat} (hm : m < 14)
    (hg : a.eval g = .func (.func 85) #[] #[.pointer (some ⟨bd, 0, none⟩), .pointer (some ⟨bn, 0, none⟩)])
    (I : Nat → World → Prop) (Ix : Code → World → Prop) (hI : Three w.heap.size I) (hIa : ∀ k W W', I k W → Aft W W' → I k W') (hIx : ∀ c, Three w.heap.size (fun (_ : Unit) => Ix c)) (hrep : ∀ k W, I k W → RepS w0 bd bn d C a1 a2 c1 c2 ref sure m W) (h0 : I 0 w) (hq : oq.op = .assign (.tmp p)) (hqd : oq.dst = some q) (hqg : oq.guard = none) (hp : p < a.tmps.size)
    (hbody : ∀ (l k : Nat) (x : Int) (W : World), (strikers C.strikes sure m)[k]? = some x → I k W → w.heap.size + 3 ≤ W.heap.size → body.wpIn (Fence.wide.inRound l) (n - 1 - 1) Try.prog (post3 w.heap.size I Ix (k + 1) W) { tmps := (a.tmps.setIfInBounds p (.int .i64 x)).setIfInBounds q (.int .i64 x), defers := [] } W)
    (hdone : ∀ (D : Nat) (W : World), w.heap.size = D → I (strikers C.strikes sure m).length W → W.heap[D]? = some (.deferred (some [])) → Q .normal { a with defers := { target := .collected D, args := #[] } :: a.defers } W)
    (hstop : ∀ (D : Nat) (c : Code) (W : World), w.heap.size = D → Ix c W → W.heap[D]? = some (.deferred (some [])) → c.wpIn Fence.wide n Try.prog Q { a with defers := { target := .collected D, args := #[] } :: a.defers } W) :
    (Code.rangeFunc g #[p] (Code.region rid #[oq] false) body).wpIn Fence.wide n Try.prog Q a w := by
  refine wpIn_striking (a₁ := fun v => { tmps := (a.tmps.setIfInBounds p v).setIfInBounds q v, defers := [] }) hm hg I Ix hI hIa hIx hrep h0 (fun l v W K hK => ?_) hbody hdone hstop
  refine wpIn_region_of_list (xs := [oq]) (by simp [noDefers, hq]) ?_
  refine wpList_val (w' := W) (v := v) hqg ?_ ?_
  · unfold execOp
    simp [hq, Act.eval, hp, go_sem]
  · show OnlyN _ .normal _ W
    refine OnlyN.normal ?_
    rw [hqd]
    exact hK
end Go.Proofs
end

section
namespace Go.Proofs
open Go.RowKit
open Court (refL begF noS struckB)
attribute [local go_sem] Oper.semAt_some

theorem Fr.start (w : World) : Fr w w.heap.size [] w := ⟨Aft.refl _, (fun x hx => by cases hx), Nat.le_refl _, Nat.le_refl _⟩
theorem Fr.alloc {w W : World} {B : Nat} {bs : List (Nat × TypeId × Array Value)} (h : Fr w B bs W) (hB : W.heap.size = B) (t : TypeId) (cs : Array Value) : Fr w (B + 1) (bs ++ [(B, t, cs)]) (W.alloc (.cells cs t)) :=
  ⟨h.aft.then_alloc _, fun x hx => by
    rcases List.mem_append.1 hx with hx | hx
    · obtain ⟨h1, h2, h3⟩ := h.blks x hx
      exact ⟨by omega, h2, h3.alloc _⟩
    · rw [List.mem_singleton] at hx
      subst hx
      subst hB
      exact ⟨by simp, h.ge, Blk.new _ _ _⟩, by rw [World.size_alloc]; omega, by have := h.ge; omega⟩
theorem struck_strikers (S : List (Int × Int)) (sure : Int → Bool) (f : Int → Nat) (n : Int) (v : Nat) : struckB S sure f n v = (strikers S sure n).any fun x => decide (f x = v) := by
  unfold struckB strikers
  induction S with
  | nil => rfl
  | cons s S ih =>
    rw [List.any_cons, ih, List.filter_cons]
    by_cases e : (decide (s.2 = n) && !sure n) = true
    · rw [if_pos e, List.map_cons, List.any_cons, e, Bool.true_and]
    · rw [if_neg e, Bool.eq_false_iff.2 e, Bool.false_and, Bool.false_or]
theorem strikers_mem {S : List (Int × Int)} {sure : Int → Bool} {n x : Int} (h : x ∈ strikers S sure n) : ∃ s ∈ S, s.1 = x := by
  unfold strikers at h
  obtain ⟨s, hs, rfl⟩ := List.mem_map.1 h
  exact ⟨s, (List.mem_filter.1 hs).1, rfl⟩

set_option maxRecDepth 100000 in
set_option maxHeartbeats 2000000 in
theorem struck_any (w0 w : World) (d : Nat) (C : CaseL) (a1 a2 : Option Addr) (c1 c2 : Nat) (ref sure : Int → Bool) (f r : Int → Nat) (hD : DeskAt w0 w d C a1 a2 c1 c2 ref sure f r) (n v : Nat) (hn : n < 14) (hS : ∀ s ∈ C.strikes, 0 ≤ s.1 ∧ s.1 < 14) :
    Calls Try.prog 69 #[.pointer (some ⟨d, 0, none⟩), .int .i64 n, .int .i64 v] w fun e w' => e = .returned (.bool (struckB C.strikes sure f n v)) ∧ Aft w w' := by
  rw [struck_strikers]
  have HL : Hid (∀ (k : Nat) (x : Int), (strikers C.strikes sure n)[k]? = some x → 0 ≤ x ∧ x < 14) := Lib.hid fun k x h => by
    obtain ⟨s, hs, rfl⟩ := strikers_mem (List.mem_of_getElem? h)
    exact hS s hs
  have HD := Lib.hid hD
  have F0 := (((((Fr.start w).alloc rfl 66 #[.pointer (some ⟨d, 0, none⟩)]).alloc (by simp) 3 #[.int .i64 v]).alloc (by simp) 4 #[.bool false]).alloc (by simp) 66 #[.pointer (some ⟨d, 0, none⟩)]).alloc (by simp) 3 #[.int .i64 n]
  simp only [List.nil_append, List.cons_append] at F0
  have HF0 := Lib.hid F0
  clear hD hS F0
  refine (callsIn_wide (n := 5)).1 ?_
  refine callsIn_of_wp_marks Try.func69 rfl trivial ?_ rfl
  simp only [Try.ntmps69, List.size_toArray, List.length_cons, List.length_nil, Nat.reduceAdd, Nat.reduceSub, Array.replicate_succ, Array.replicate_zero, List.push_toArray, List.append_toArray, List.nil_append, List.cons_append]
  refine wpIn_wide.2 ?_
  go_upto_block 0 with (go_at_call 71; refine (striking_any d n _).mono ?_; rintro e w' ⟨rfl, rfl⟩)
  have hz : (((((w.alloc (.cells #[.pointer (some ⟨d, 0, none⟩)] 66)).alloc (.cells #[.int .i64 v] 3)).alloc (.cells #[.bool false] 4)).alloc (.cells #[.pointer (some ⟨d, 0, none⟩)] 66)).alloc (.cells #[.int .i64 n] 3)).heap.size = w.heap.size + 1 + 1 + 1 + 1 + 1 := by simp
  generalize (((((w.alloc (.cells #[.pointer (some ⟨d, 0, none⟩)] 66)).alloc (.cells #[.int .i64 v] 3)).alloc (.cells #[.bool false] 4)).alloc (.cells #[.pointer (some ⟨d, 0, none⟩)] 66)).alloc (.cells #[.int .i64 n] 3)) = W5 at *
  have HL0 := Lib.hid (show ∀ (j : Nat) (x : Int), j < 0 → (strikers C.strikes sure n)[j]? = some x → f x ≠ v from fun j x h => absurd h (Nat.not_lt_zero _))
  obtain ⟨S, hS⟩ : ∃ S, w.heap.size = S := ⟨_, rfl⟩
  rw [hS] at HF0 hz ⊢
  refine wp_block ?_
  refine (wpIn_wide (n := 5)).1 ?_
  refine wpIn_striking (w0 := w0) (bd := S + 1 + 1 + 1) (bn := S + 1 + 1 + 1 + 1) (d := d) (C := C) (a1 := a1) (a2 := a2) (c1 := c1) (c2 := c2) (ref := ref) (sure := sure) (m := n) hn rfl
    (fun k W => Fr w (S + 1 + 1 + 1 + 1 + 1) [(S, 66, #[.pointer (some ⟨d, 0, none⟩)]), (S + 1, 3, #[.int .i64 v]), (S + 1 + 1, 4, #[.bool false]), (S + 1 + 1 + 1, 66, #[.pointer (some ⟨d, 0, none⟩)]), (S + 1 + 1 + 1 + 1, 3, #[.int .i64 n])] W ∧ ∀ (j : Nat) (x : Int), j < k → (strikers C.strikes sure n)[j]? = some x → f x ≠ v)
    (fun c W => Fr w (S + 1 + 1 + 1 + 1 + 1) [(S + 1 + 1, 4, #[.bool true])] W ∧ c = .ret ∧ ((strikers C.strikes sure n).any fun x => decide (f x = v)) = true)
    (by rw [hz]; exact Fr.three) (fun k W W' h ha => ⟨h.1.later ha, h.2⟩) (fun c => by rw [hz]; exact Fr.three)
    (fun k W h => ⟨(h.1.nth 3 rfl).cell 0, (h.1.nth 4 rfl).cell 0, (h.1.nth 3 rfl).lt, (h.1.nth 4 rfl).lt, f, r, HD.out.later h.1.aft⟩) ⟨HF0.out, HL0.out⟩
    (fun v' => { tmps := #[.pointer (some ⟨d, 0, none⟩), .int .i64 n, .int .i64 v, .pointer (some ⟨S, 0, none⟩), undef, .pointer (some ⟨S + 1, 0, none⟩), .pointer (some ⟨S + 1 + 1, 0, none⟩), v', .pointer (some ⟨d, 0, none⟩), .int .i64 n, .func (.func 85) #[] #[.pointer (some ⟨S + 1 + 1 + 1, 0, none⟩), .pointer (some ⟨S + 1 + 1 + 1 + 1, 0, none⟩)], v', undef, undef, undef, undef, undef, undef, undef, undef], defers := [] }) ?assign ?body ?done ?stop
  case assign =>
    intro l v W K hK
    gi_wp2_with fail
    exact hK
  case body =>
    intro l k x W hx hI hsz
    obtain ⟨x0, x1⟩ := HL.out k x hx
    obtain ⟨m, rfl⟩ : ∃ m : Nat, x = m := ⟨x.toNat, by omega⟩
    have hm14 : m < 14 := by omega
    have hDW := HD.out.later hI.1.aft
    have q1 := hDW.found hm14
    have q2 : W.cell? ⟨S, 0, none⟩ = some (.pointer (some ⟨d, 0, none⟩)) := (hI.1.nth 0 rfl).cell 0
    have q3 : W.cell? ⟨S + 1, 0, none⟩ = some (.int .i64 v) := (hI.1.nth 1 rfl).cell 0
    have b2 := hI.1.nth 2 rfl
    have q4 := b2.cell 0
    have q5 := b2.frozen 0
    have q6 := b2.lt
    have hn14 : (0 : Int) ≤ (m : Int) ∧ (m : Int) < 14 := by omega
    have HI := Lib.hid hI
    clear hI hDW b2
    refine wpIn_block ?_
    refine wpIn_seq_k fun K1 H1 => ?_
    refine wpIn_region_valsT (by kernel_rfl) (by kernel_rfl) 7 20 rfl (by kernel_rfl) (by kernel_rfl) (by kernel_rfl) [.pointer (some ⟨d, 0, none⟩), .int .i64 m, .pointer (some ⟨d, 0, none⟩), .pointer (some ⟨d, 31, none⟩), .pointer (some ⟨d, 31 + m, none⟩), .int .i64 (f m : Nat), .int .i64 v] rfl (fun _ W' => W' = W.drew) (rfl) ?st1 ?fi1
    case st1 =>
      intro i o v ho hv
      match i, ho, hv with
      | 0, ho, hv =>
        cases ho; cases hv
        refine .inl ⟨rfl, fun done a W hd hp hk hw K hK => ?_⟩
        have e3 := hk.same 3 (by decide)
        exact op_val (by simp [go_sem, ev' e3, hw, q2]) (hK _ hw)
      | 1, ho, hv =>
        cases ho; cases hv
        refine .inl ⟨rfl, fun done a W hd hp hk hw K hK => ?_⟩
        have e7 := hk.same 7 (by decide)
        exact op_val (by simp [go_sem, ev' e7]) (hK _ hw)
      | 2, ho, hv =>
        cases ho; cases hv
        refine .inl ⟨rfl, fun done a W hd hp hk hw K hK => ?_⟩
        have e12 := hk.at_ 0 _ 12 _ rfl (by decide) _ rfl rfl rfl
        exact op_val (by simp [go_sem, ev' e12]) (hK _ hw)
      | 3, ho, hv =>
        cases ho; cases hv
        refine .inl ⟨rfl, fun done a W hd hp hk hw K hK => ?_⟩
        have e14 := hk.at_ 2 _ 14 _ rfl (by decide) _ rfl rfl rfl
        exact op_val (by simp [go_sem, ev' e14]) (hK _ hw)
      | 4, ho, hv =>
        cases ho; cases hv
        refine .inl ⟨rfl, fun done a W hd hp hk hw K hK => ?_⟩
        have e13 := hk.at_ 1 _ 13 _ rfl (by decide) _ rfl rfl rfl
        have e15 := hk.at_ 3 _ 15 _ rfl (by decide) _ rfl rfl rfl
        exact op_val (by simp [go_sem, ev' e13, ev' e15, hn14]) (hK _ hw)
      | 5, ho, hv =>
        cases ho; cases hv
        refine .inl ⟨rfl, fun done a W hd hp hk hw K hK => ?_⟩
        have e16 := hk.at_ 4 _ 16 _ rfl (by decide) _ rfl rfl rfl
        exact op_val (by simp [go_sem, ev' e16, hw, q1]) (hK _ hw)
      | 6, ho, hv =>
        cases ho; cases hv
        refine .inl ⟨rfl, fun done a W hd hp hk hw K hK => ?_⟩
        have e5 := hk.same 5 (by decide)
        exact op_val (by simp [go_sem, ev' e5, hw, q3]) (hK _ hw)
      | _ + 7, _, hv => cases hv
    intro done W hd hw
    simp only [List.drop_succ_cons, List.drop_zero, List.zip_cons_cons, List.zip_nil_right, putAll]
    simp only [Act.put, List.setIfInBounds_toArray, List.set]
    clear hd
    subst hw
    by_cases hfv : f m = v
    · have t1 : (((f m : Nat) : Int) == (v : Int)) = true := by simp [hfv]
      go_wp2_with fail
      change K1 _ _
      refine H1 _ _ ?_
      clear H1
      refine wpIn_cond_true (by simp [Act.eval]) ?_
      refine wpIn_seq_k fun K2 H2 => ?_
      refine wpIn_region_of_list (by kernel_rfl) ?_
      go_wp2_with fail
      change K2 _ _
      refine H2 _ _ ?_
      clear H2
      refine wpIn_ret ?_
      refine ⟨(Kept3.of_aft (Aft.drew W) (by omega)).setCell (p := ⟨S + 1 + 1, 0, none⟩) (by left; show S + 1 + 1 < W5.heap.size; omega) _, ((HI.out.1.later (Aft.drew W)).store (g := S + 1 + 1) (t := 4) (cs := #[.bool false]) (by simp) 0 (.bool true) (by simp)), rfl, List.any_eq_true.2 ⟨_, List.mem_of_getElem? hx, by simpa using hfv⟩⟩
    · have t1 : (((f m : Nat) : Int) == (v : Int)) = false := by simp; omega
      go_wp2_with fail
      change K1 _ _
      refine H1 _ _ ?_
      clear H1
      refine wpIn_cond_false (by simp [Act.eval]) ?_
      refine wpIn_skip ?_
      refine ⟨Kept3.of_aft (Aft.drew W) (by omega), HI.out.1.later (Aft.drew W), fun j x hj hjx => ?_⟩
      by_cases e : j < k
      · exact HI.out.2 j x e hjx
      · obtain rfl : j = k := by omega
        rw [hx] at hjx
        cases hjx
        exact hfv
  case done =>
    intro D W hDD hI hd
    have b2 := hI.1.nth 2 rfl
    have q4 := b2.cell 0
    have q5 := b2.frozen 0
    have q6 := b2.lt
    have HI := Lib.hid hI
    have HN : Hid (((strikers C.strikes sure n).any fun x => decide (f x = v)) = false) := Lib.hid (by
      rw [Bool.eq_false_iff]
      intro h
      obtain ⟨x, hx, h2⟩ := List.any_eq_true.1 h
      obtain ⟨j, hj, rfl⟩ := List.getElem_of_mem hx
      exact hI.2 j _ hj (List.getElem?_eq_getElem hj) (by simpa using h2))
    have hd2 : (W.setCell ⟨S + 1 + 1, 0, none⟩ (.bool false)).heap[D]? = some (.deferred (some [])) := (Below.heap_setCell W ⟨S + 1 + 1, 0, none⟩ (.bool false) D (by show D ≠ S + 1 + 1; omega)).trans hd
    have HB2 := Lib.hid (b2.store 0 (.bool false))
    have HD2 := Lib.hid hd2
    clear hI b2 hd2 hd
    go_wp2_with fail
    refine ⟨by simp, .inl ⟨_, _, rfl, run_takeDeferred HD2.out, ?_⟩⟩
    have y1 := (HB2.out.grown (grownBy_putObj' _ D (.deferred none)) (fun e => by cases e; omega)).cell 0
    refine ⟨.bool false, ?_, by rw [HN.out], (HI.out.1.aft.then_setCell (p := ⟨S + 1 + 1, 0, none⟩) (by show w.heap.size ≤ S + 1 + 1; omega) _).grown (grownBy_putObj' _ D (.deferred none)) (fun k e => by cases e; omega)⟩
    generalize ((W.setCell ⟨S + 1 + 1, 0, none⟩ (.bool false)).putObj D (.deferred none)) = X at *
    have y1' : X.cell? ⟨S + 1 + 1, 0, none⟩ = some (.bool false) := y1
    simp [results, Try.results69, go_sem, y1']
  case stop =>
    intro D c W hDD hI hd
    obtain ⟨hF, rfl, hany⟩ := hI
    refine wpIn_ret ?_
    refine ⟨by simp, .inl ⟨_, _, rfl, run_takeDeferred hd, ?_⟩⟩
    have y1 := ((hF.nth 0 rfl).grown (grownBy_putObj' W D (.deferred none)) (fun e => by cases e; omega)).cell 0
    refine ⟨.bool true, ?_, by rw [hany], hF.aft.grown (grownBy_putObj' _ D (.deferred none)) (fun k e => by cases e; omega)⟩
    generalize (W.putObj D (.deferred none)) = X at *
    have y1' : X.cell? ⟨S + 1 + 1, 0, none⟩ = some (.bool true) := y1
    simp [results, Try.results69, go_sem, y1']
end Go.Proofs
end

section
namespace Go.Proofs
open Go.RowKit
open Court (refL begF noS struckB nextR)
attribute [local go_sem] Oper.semAt_some

def nx (r : Int → Nat) (L : List Int) : Nat := L.foldl (fun m x => max m (r x + 1)) 1
theorem next_strikers (S : List (Int × Int)) (sure : Int → Bool) (r : Int → Nat) (n : Int) : nextR S sure r n = nx r (strikers S sure n) := by
  unfold nextR strikers nx
  have key : ∀ m : Nat, S.foldl (fun m s => if decide (s.2 = n) && !sure n then max m (r s.1 + 1) else m) m = ((S.filter fun s => decide (s.2 = n) && !sure n).map (·.1)).foldl (fun m x => max m (r x + 1)) m := by
    induction S with
    | nil => exact fun _ => rfl
    | cons s S ih =>
      intro m
      rw [List.foldl_cons, List.filter_cons]
      by_cases e : (decide (s.2 = n) && !sure n) = true
      · rw [if_pos e, if_pos e, List.map_cons, List.foldl_cons, ih]
      · rw [if_neg e, if_neg e, ih]
  exact key 1
theorem nx_succ (r : Int → Nat) (L : List Int) {k : Nat} {x : Int} (h : L[k]? = some x) : nx r (L.take (k + 1)) = max (nx r (L.take k)) (r x + 1) := by
  obtain ⟨hk, rfl⟩ := List.getElem?_eq_some_iff.1 h
  unfold nx
  rw [List.take_succ_eq_append_getElem hk, List.foldl_append]
  rfl
theorem nx_le (r : Int → Nat) (b : Nat) (hr : ∀ x, r x ≤ b) (L : List Int) : nx r L ≤ b + 1 := by
  unfold nx
  have : ∀ (L : List Int) (m : Nat), m ≤ b + 1 → L.foldl (fun m x => max m (r x + 1)) m ≤ b + 1 := by
    intro L
    induction L with
    | nil => exact fun m h => h
    | cons x L ih => exact fun m h => ih (max m (r x + 1)) (by have := hr x; omega)
  exact this L 1 (by omega)

set_option maxRecDepth 100000 in
set_option maxHeartbeats 2000000 in
theorem next_any (w0 w : World) (d : Nat) (C : CaseL) (a1 a2 : Option Addr) (c1 c2 : Nat) (ref sure : Int → Bool) (f r : Int → Nat) (hD : DeskAt w0 w d C a1 a2 c1 c2 ref sure f r) (n : Nat) (hn : n < 14) (hS : ∀ s ∈ C.strikes, 0 ≤ s.1 ∧ s.1 < 14) (hr : ∀ x, r x ≤ 1000) :
    Calls Try.prog 68 #[.pointer (some ⟨d, 0, none⟩), .int .i64 n] w fun e w' => e = .returned (.int .i64 (nextR C.strikes sure r n : Nat)) ∧ Aft w w' := by
  rw [next_strikers]
  have HL : Hid (∀ (k : Nat) (x : Int), (strikers C.strikes sure n)[k]? = some x → 0 ≤ x ∧ x < 14) := Lib.hid fun k x h => by
    obtain ⟨s, hs, rfl⟩ := strikers_mem (List.mem_of_getElem? h)
    exact hS s hs
  have HD := Lib.hid hD
  have HR := Lib.hid hr
  have F0 := ((((Fr.start w).alloc rfl 66 #[.pointer (some ⟨d, 0, none⟩)]).alloc (by simp) 3 #[.int .i64 (1 : Nat)]).alloc (by simp) 66 #[.pointer (some ⟨d, 0, none⟩)]).alloc (by simp) 3 #[.int .i64 n]
  simp only [List.nil_append, List.cons_append] at F0
  have HF0 := Lib.hid F0
  clear hD hS F0 hr
  refine (callsIn_wide (n := 5)).1 ?_
  refine callsIn_of_wp_marks Try.func68 rfl trivial ?_ rfl
  simp only [Try.ntmps68, List.size_toArray, List.length_cons, List.length_nil, Nat.reduceAdd, Nat.reduceSub, Array.replicate_succ, Array.replicate_zero, List.push_toArray, List.append_toArray, List.nil_append, List.cons_append]
  refine wpIn_wide.2 ?_
  go_upto_block 0 with (go_at_call 71; refine (striking_any d n _).mono ?_; rintro e w' ⟨rfl, rfl⟩)
  have hz : ((((w.alloc (.cells #[.pointer (some ⟨d, 0, none⟩)] 66)).alloc (.cells #[.int .i64 (1 : Nat)] 3)).alloc (.cells #[.pointer (some ⟨d, 0, none⟩)] 66)).alloc (.cells #[.int .i64 n] 3)).heap.size = w.heap.size + 1 + 1 + 1 + 1 := by simp
  change Code.wp _ _ _ _ ((((w.alloc (.cells #[.pointer (some ⟨d, 0, none⟩)] 66)).alloc (.cells #[.int .i64 (1 : Nat)] 3)).alloc (.cells #[.pointer (some ⟨d, 0, none⟩)] 66)).alloc (.cells #[.int .i64 n] 3))
  generalize (((w.alloc (.cells #[.pointer (some ⟨d, 0, none⟩)] 66)).alloc (.cells #[.int .i64 (1 : Nat)] 3)).alloc (.cells #[.pointer (some ⟨d, 0, none⟩)] 66)).alloc (.cells #[.int .i64 n] 3) = W5 at *
  obtain ⟨S, hS⟩ : ∃ S, w.heap.size = S := ⟨_, rfl⟩
  rw [hS] at HF0 hz ⊢
  refine wp_block ?_
  refine (wpIn_wide (n := 5)).1 ?_
  refine wpIn_striking (w0 := w0) (bd := S + 1 + 1) (bn := S + 1 + 1 + 1) (d := d) (C := C) (a1 := a1) (a2 := a2) (c1 := c1) (c2 := c2) (ref := ref) (sure := sure) (m := n) hn rfl
    (fun k W => Fr w (S + 1 + 1 + 1 + 1) [(S, 66, #[.pointer (some ⟨d, 0, none⟩)]), (S + 1, 3, #[.int .i64 (nx r ((strikers C.strikes sure n).take k) : Nat)]), (S + 1 + 1, 66, #[.pointer (some ⟨d, 0, none⟩)]), (S + 1 + 1 + 1, 3, #[.int .i64 n])] W)
    (fun _ _ => False)
    (by rw [hz]; exact fun _ _ _ _ h hg h1 _ => h.grown hg h1) (fun k W W' h ha => h.later ha) (fun c => fun _ _ _ _ h _ _ _ => h)
    (fun k W h => ⟨(h.nth 2 rfl).cell 0, (h.nth 3 rfl).cell 0, (h.nth 2 rfl).lt, (h.nth 3 rfl).lt, f, r, HD.out.later h.aft⟩) HF0.out
    (fun v' => { tmps := #[.pointer (some ⟨d, 0, none⟩), .int .i64 n, .pointer (some ⟨S, 0, none⟩), undef, .int .i64 0, .pointer (some ⟨S + 1, 0, none⟩), v', .pointer (some ⟨d, 0, none⟩), .int .i64 n, .func (.func 85) #[] #[.pointer (some ⟨S + 1 + 1, 0, none⟩), .pointer (some ⟨S + 1 + 1 + 1, 0, none⟩)], v', undef, undef, undef, undef, undef, undef, undef, undef, undef, undef], defers := [] }) ?assign ?body ?done (fun _ _ _ _ h _ => h.elim)
  case assign =>
    intro l v W K hK
    gi_wp2_with fail
    exact hK
  case body =>
    intro l k x W hx hI hsz
    obtain ⟨x0, x1⟩ := HL.out k x hx
    have HNX := Lib.hid (nx_succ r _ hx)
    have hnb := nx_le r 1000 HR.out ((strikers C.strikes sure n).take k)
    obtain ⟨m, rfl⟩ : ∃ m : Nat, x = m := ⟨x.toNat, by omega⟩
    have hm14 : m < 14 := by omega
    have hrm := HR.out m
    have hDW := HD.out.later hI.aft
    have q1 := hDW.rank hm14
    have q2 : W.cell? ⟨S, 0, none⟩ = some (.pointer (some ⟨d, 0, none⟩)) := (hI.nth 0 rfl).cell 0
    have b2 := hI.nth 1 rfl
    have q3 : W.cell? ⟨S + 1, 0, none⟩ = some (.int .i64 (nx r ((strikers C.strikes sure n).take k) : Nat)) := b2.cell 0
    have q5 := b2.frozen 0
    have q6 := b2.lt
    have hn14 : (0 : Int) ≤ (m : Int) ∧ (m : Int) < 14 := by omega
    have HI := Lib.hid hI
    clear hI hDW b2
    generalize nx r ((strikers C.strikes sure n).take k) = c at *
    generalize r m = y at *
    refine wpIn_block ?_
    have hwr : IntKind.i64.wrap ((y : Int) + 1) = (y : Int) + 1 := IntWalk.i64_in _ (by omega)
    refine wpIn_region_valsT (by kernel_rfl) (by kernel_rfl) 8 21 rfl (by kernel_rfl) (by kernel_rfl) (by kernel_rfl) [.int .i64 (c : Nat), .pointer (some ⟨d, 0, none⟩), .int .i64 m, .pointer (some ⟨d, 0, none⟩), .pointer (some ⟨d, 45, none⟩), .pointer (some ⟨d, 45 + m, none⟩), .int .i64 (y : Nat), .int .i64 ((y : Int) + 1)] rfl (fun _ W' => W' = W.drew) (rfl) ?st1 ?fi1
    case st1 =>
      intro i o v ho hv
      match i, ho, hv with
      | 0, ho, hv =>
        cases ho; cases hv
        refine .inl ⟨rfl, fun done a W hd hp hk hw K hK => ?_⟩
        have e5 := hk.same 5 (by decide)
        exact op_val (by simp [go_sem, ev' e5, hw, q3]) (hK _ hw)
      | 1, ho, hv =>
        cases ho; cases hv
        refine .inl ⟨rfl, fun done a W hd hp hk hw K hK => ?_⟩
        have e2 := hk.same 2 (by decide)
        exact op_val (by simp [go_sem, ev' e2, hw, q2]) (hK _ hw)
      | 2, ho, hv =>
        cases ho; cases hv
        refine .inl ⟨rfl, fun done a W hd hp hk hw K hK => ?_⟩
        have e6 := hk.same 6 (by decide)
        exact op_val (by simp [go_sem, ev' e6]) (hK _ hw)
      | 3, ho, hv =>
        cases ho; cases hv
        refine .inl ⟨rfl, fun done a W hd hp hk hw K hK => ?_⟩
        have e12 := hk.at_ 1 _ 12 _ rfl (by decide) _ rfl rfl rfl
        exact op_val (by simp [go_sem, ev' e12]) (hK _ hw)
      | 4, ho, hv =>
        cases ho; cases hv
        refine .inl ⟨rfl, fun done a W hd hp hk hw K hK => ?_⟩
        have e14 := hk.at_ 3 _ 14 _ rfl (by decide) _ rfl rfl rfl
        exact op_val (by simp [go_sem, ev' e14]) (hK _ hw)
      | 5, ho, hv =>
        cases ho; cases hv
        refine .inl ⟨rfl, fun done a W hd hp hk hw K hK => ?_⟩
        have e13 := hk.at_ 2 _ 13 _ rfl (by decide) _ rfl rfl rfl
        have e15 := hk.at_ 4 _ 15 _ rfl (by decide) _ rfl rfl rfl
        exact op_val (by simp [go_sem, ev' e13, ev' e15, hn14]) (hK _ hw)
      | 6, ho, hv =>
        cases ho; cases hv
        refine .inl ⟨rfl, fun done a W hd hp hk hw K hK => ?_⟩
        have e16 := hk.at_ 5 _ 16 _ rfl (by decide) _ rfl rfl rfl
        exact op_val (by simp [go_sem, ev' e16, hw, q1]) (hK _ hw)
      | 7, ho, hv =>
        cases ho; cases hv
        refine .inl ⟨rfl, fun done a W hd hp hk hw K hK => ?_⟩
        have e17 := hk.at_ 6 _ 17 _ rfl (by decide) _ rfl rfl rfl
        exact op_val (by simp [go_sem, ev' e17, hwr]) (hK _ hw)
      | _ + 8, _, hv => cases hv
    intro done W hd hw
    simp only [List.drop_succ_cons, List.drop_zero, List.zip_cons_cons, List.zip_nil_right, putAll]
    simp only [Act.put, List.setIfInBounds_toArray, List.set]
    clear hd
    subst hw
    clear hwr
    have key : ∀ (z : Int), z = ((max c (y + 1) : Nat) : Int) → post3 (S + 1 + 1 + 1 + 1) (fun k W => Fr w (S + 1 + 1 + 1 + 1) [(S, 66, #[.pointer (some ⟨d, 0, none⟩)]), (S + 1, 3, #[.int .i64 (nx r ((strikers C.strikes sure n).take k) : Nat)]), (S + 1 + 1, 66, #[.pointer (some ⟨d, 0, none⟩)]), (S + 1 + 1 + 1, 3, #[.int .i64 n])] W) (fun _ _ => False) (k + 1) W .normal ⟨#[], []⟩ (W.drew.setCell ⟨S + 1, 0, none⟩ (.int .i64 z)) := by
      rintro z rfl
      refine ⟨(Kept3.of_aft (Aft.drew W) (by omega)).setCell (p := ⟨S + 1, 0, none⟩) (by left; show S + 1 < S + 1 + 1 + 1 + 1; omega) _, ?_⟩
      dsimp only
      rw [HNX.out]
      exact (HI.out.later (Aft.drew W)).store (g := S + 1) (t := 3) (cs := #[.int .i64 (c : Nat)]) (by simp) 0 _ (by simp; omega)
    have HKEY := Lib.hid key
    clear key
    go_wp2_with fail
    · rename_i h
      exact OnlyN.normal (HKEY.out _ (by omega))
    · rename_i h
      exact OnlyN.normal (HKEY.out _ (by omega))
  case done =>
    intro D W hDD hI hd
    have b2 := hI.nth 1 rfl
    have q3 : W.cell? ⟨S + 1, 0, none⟩ = some (.int .i64 (nx r ((strikers C.strikes sure n).take (strikers C.strikes sure n).length) : Nat)) := b2.cell 0
    rw [List.take_of_length_le (Nat.le_refl _)] at q3
    have q6 := b2.lt
    have HI := Lib.hid hI
    have HDF := Lib.hid hd
    clear hI b2 hd
    go_wp2_with fail
    refine ⟨by simp, .inl ⟨_, _, rfl, run_takeDeferred HDF.out, ?_⟩⟩
    exact ⟨_, by simp [results, Try.results68, go_sem], rfl, HI.out.aft.grown (grownBy_putObj' _ D (.deferred none)) (fun k e => by cases e; omega)⟩
end Go.Proofs
end

section
namespace Go.Proofs
open Go.RowKit
open Court (refL begF noS struckB nextR)
attribute [local go_sem] Oper.semAt_some

set_option maxRecDepth 100000 in
set_option maxHeartbeats 2000000 in
theorem strikes_any (w0 w : World) (d : Nat) (C : CaseL) (a1 a2 : Option Addr) (c1 c2 : Nat) (ref sure : Int → Bool) (f r : Int → Nat) (hD : DeskAt w0 w d C a1 a2 c1 c2 ref sure f r) (L : Int → Bool) (n : Nat) (hn : n < 14) (hS : ∀ s ∈ C.strikes, 0 ≤ s.1 ∧ s.1 < 14) :
    Calls Try.prog 74 #[.pointer (some ⟨d, 0, none⟩), .agg (mk L), .int .i64 n] w fun e w' => e = .returned (.bool ((strikers C.strikes sure n).any L)) ∧ Aft w w' := by
  have HL : Hid (∀ (k : Nat) (x : Int), (strikers C.strikes sure n)[k]? = some x → 0 ≤ x ∧ x < 14) := Lib.hid fun k x h => by
    obtain ⟨s, hs, rfl⟩ := strikers_mem (List.mem_of_getElem? h)
    exact hS s hs
  have HD := Lib.hid hD
  have F0 := ((((Fr.start w).alloc rfl 72 (mk L)).alloc (by simp) 4 #[.bool false]).alloc (by simp) 66 #[.pointer (some ⟨d, 0, none⟩)]).alloc (by simp) 3 #[.int .i64 n]
  simp only [List.nil_append, List.cons_append] at F0
  have HF0 := Lib.hid F0
  clear hD hS F0
  refine (callsIn_wide (n := 5)).1 ?_
  refine callsIn_of_wp_marks Try.func74 rfl trivial ?_ rfl
  simp only [Try.ntmps74, List.size_toArray, List.length_cons, List.length_nil, Nat.reduceAdd, Nat.reduceSub, Array.replicate_succ, Array.replicate_zero, List.push_toArray, List.append_toArray, List.nil_append, List.cons_append]
  refine wpIn_wide.2 ?_
  go_upto_block 0 with (go_at_call 71; refine (striking_any d n _).mono ?_; rintro e w' ⟨rfl, rfl⟩)
  have hz : ((((w.alloc (.cells (mk L) 72)).alloc (.cells #[.bool false] 4)).alloc (.cells #[.pointer (some ⟨d, 0, none⟩)] 66)).alloc (.cells #[.int .i64 n] 3)).heap.size = w.heap.size + 1 + 1 + 1 + 1 := by simp
  generalize (((w.alloc (.cells (mk L) 72)).alloc (.cells #[.bool false] 4)).alloc (.cells #[.pointer (some ⟨d, 0, none⟩)] 66)).alloc (.cells #[.int .i64 n] 3) = W5 at *
  have HL0 := Lib.hid (show ∀ (j : Nat) (x : Int), j < 0 → (strikers C.strikes sure n)[j]? = some x → L x = false from fun j x h => absurd h (Nat.not_lt_zero _))
  obtain ⟨S, hS⟩ : ∃ S, w.heap.size = S := ⟨_, rfl⟩
  rw [hS] at HF0 hz ⊢
  refine wp_block ?_
  refine (wpIn_wide (n := 5)).1 ?_
  refine wpIn_striking (w0 := w0) (bd := S + 1 + 1) (bn := S + 1 + 1 + 1) (d := d) (C := C) (a1 := a1) (a2 := a2) (c1 := c1) (c2 := c2) (ref := ref) (sure := sure) (m := n) hn rfl
    (fun k W => Fr w (S + 1 + 1 + 1 + 1) [(S, 72, mk L), (S + 1, 4, #[.bool false]), (S + 1 + 1, 66, #[.pointer (some ⟨d, 0, none⟩)]), (S + 1 + 1 + 1, 3, #[.int .i64 n])] W ∧ ∀ (j : Nat) (x : Int), j < k → (strikers C.strikes sure n)[j]? = some x → L x = false)
    (fun c W => Fr w (S + 1 + 1 + 1 + 1) [(S + 1, 4, #[.bool true])] W ∧ c = .ret ∧ ((strikers C.strikes sure n).any L) = true)
    (by rw [hz]; exact Fr.three) (fun k W W' h ha => ⟨h.1.later ha, h.2⟩) (fun c => by rw [hz]; exact Fr.three)
    (fun k W h => ⟨(h.1.nth 2 rfl).cell 0, (h.1.nth 3 rfl).cell 0, (h.1.nth 2 rfl).lt, (h.1.nth 3 rfl).lt, f, r, HD.out.later h.1.aft⟩) ⟨HF0.out, HL0.out⟩
    (fun v' => { tmps := #[.pointer (some ⟨d, 0, none⟩), .agg (mk L), .int .i64 n, undef, .pointer (some ⟨S, 0, none⟩), undef, .pointer (some ⟨S + 1, 0, none⟩), v', .pointer (some ⟨d, 0, none⟩), .int .i64 n, .func (.func 85) #[] #[.pointer (some ⟨S + 1 + 1, 0, none⟩), .pointer (some ⟨S + 1 + 1 + 1, 0, none⟩)], v', undef, undef, undef], defers := [] }) ?assign ?body ?done ?stop
  case assign =>
    intro l v W K hK
    gi_wp2_with fail
    exact hK
  case body =>
    intro l k x W hx hI hsz
    obtain ⟨x0, x1⟩ := HL.out k x hx
    obtain ⟨m, rfl⟩ : ∃ m : Nat, x = m := ⟨x.toNat, by omega⟩
    have hm14 : m < 14 := by omega
    have q1 := ((hI.1.nth 0 rfl).cell m).trans (mk_get L hm14)
    have q7 := (hI.1.nth 0 rfl).lt
    have b2 := hI.1.nth 1 rfl
    have q5 := b2.frozen 0
    have q4 := b2.cell 0
    have q6 := b2.lt
    have hn14 : (0 : Int) ≤ (m : Int) ∧ (m : Int) < 14 := by omega
    have HI := Lib.hid hI
    clear hI b2
    refine wpIn_block ?_
    refine wpIn_seq_k fun K1 H1 => ?_
    refine wpIn_region_of_list (by kernel_rfl) ?_
    cases hfv : L m
    · have HFV := Lib.hid hfv
      rw [hfv] at q1
      clear hfv
      go_wp2_with fail
      change K1 _ _
      refine H1 _ _ ?_
      clear H1
      refine wpIn_cond_false (by simp [Act.eval]) ?_
      refine wpIn_skip ?_
      refine ⟨Kept3.of_aft (Aft.refl W) (by omega), HI.out.1, fun j x hj hjx => ?_⟩
      by_cases e : j < k
      · exact HI.out.2 j x e hjx
      · obtain rfl : j = k := by omega
        rw [hx] at hjx
        cases hjx
        exact HFV.out
    · have HFV := Lib.hid hfv
      rw [hfv] at q1
      clear hfv
      go_wp2_with fail
      change K1 _ _
      refine H1 _ _ ?_
      clear H1
      refine wpIn_cond_true (by simp [Act.eval]) ?_
      refine wpIn_seq_k fun K2 H2 => ?_
      refine wpIn_region_of_list (by kernel_rfl) ?_
      go_wp2_with fail
      change K2 _ _
      refine H2 _ _ ?_
      clear H2
      refine wpIn_ret ?_
      refine ⟨(Kept3.of_aft (Aft.refl W) (by omega)).setCell (p := ⟨S + 1, 0, none⟩) (by left; show S + 1 < W5.heap.size; omega) _, (HI.out.1.store (g := S + 1) (t := 4) (cs := #[.bool false]) (by simp) 0 (.bool true) (by simp)), rfl, List.any_eq_true.2 ⟨_, List.mem_of_getElem? hx, HFV.out⟩⟩
  case done =>
    intro D W hDD hI hd
    have b2 := hI.1.nth 1 rfl
    have q4 := b2.cell 0
    have q5 := b2.frozen 0
    have q6 := b2.lt
    have HI := Lib.hid hI
    have HN : Hid (((strikers C.strikes sure n).any L) = false) := Lib.hid (by
      rw [Bool.eq_false_iff]
      intro h
      obtain ⟨x, hx, h2⟩ := List.any_eq_true.1 h
      obtain ⟨j, hj, rfl⟩ := List.getElem_of_mem hx
      rw [hI.2 j _ hj (List.getElem?_eq_getElem hj)] at h2
      cases h2)
    have hd2 : (W.setCell ⟨S + 1, 0, none⟩ (.bool false)).heap[D]? = some (.deferred (some [])) := (Below.heap_setCell W ⟨S + 1, 0, none⟩ (.bool false) D (by show D ≠ S + 1; omega)).trans hd
    have HB2 := Lib.hid (b2.store 0 (.bool false))
    have HD2 := Lib.hid hd2
    clear hI b2 hd2 hd
    go_wp2_with fail
    refine ⟨by simp, .inl ⟨_, _, rfl, run_takeDeferred HD2.out, ?_⟩⟩
    have y1 := (HB2.out.grown (grownBy_putObj' _ D (.deferred none)) (fun e => by cases e; omega)).cell 0
    refine ⟨.bool false, ?_, by rw [HN.out], (HI.out.1.aft.then_setCell (p := ⟨S + 1, 0, none⟩) (by show w.heap.size ≤ S + 1; omega) _).grown (grownBy_putObj' _ D (.deferred none)) (fun k e => by cases e; omega)⟩
    generalize ((W.setCell ⟨S + 1, 0, none⟩ (.bool false)).putObj D (.deferred none)) = X at *
    have y1' : X.cell? ⟨S + 1, 0, none⟩ = some (.bool false) := y1
    simp [results, Try.results74, go_sem, y1']
  case stop =>
    intro D c W hDD hI hd
    obtain ⟨hF, rfl, hany⟩ := hI
    refine wpIn_ret ?_
    refine ⟨by simp, .inl ⟨_, _, rfl, run_takeDeferred hd, ?_⟩⟩
    have y1 := ((hF.nth 0 rfl).grown (grownBy_putObj' W D (.deferred none)) (fun e => by cases e; omega)).cell 0
    refine ⟨.bool true, ?_, by rw [hany], hF.aft.grown (grownBy_putObj' _ D (.deferred none)) (fun k e => by cases e; omega)⟩
    generalize (W.putObj D (.deferred none)) = X at *
    have y1' : X.cell? ⟨S + 1, 0, none⟩ = some (.bool true) := y1
    simp [results, Try.results74, go_sem, y1']

def freeB (S : List (Int × Int)) (sure : Int → Bool) (f : Int → Nat) (n : Int) : Bool := !struckB S sure f n 1 && !struckB S sure f n 0

set_option maxHeartbeats 1000000 in
theorem free_any (w0 w : World) (d : Nat) (C : CaseL) (a1 a2 : Option Addr) (c1 c2 : Nat) (ref sure : Int → Bool) (f r : Int → Nat) (hD : DeskAt w0 w d C a1 a2 c1 c2 ref sure f r) (n : Nat) (hn : n < 14) (hS : ∀ s ∈ C.strikes, 0 ≤ s.1 ∧ s.1 < 14) :
    Calls Try.prog 70 #[.pointer (some ⟨d, 0, none⟩), .int .i64 n] w fun e w' => e = .returned (.bool (freeB C.strikes sure f n)) ∧ Aft w w' := by
  have H1 : Hid (∀ W, Aft w W → Calls Try.prog 69 #[.pointer (some ⟨d, 0, none⟩), .int .i64 n, .int .i64 1] W fun e w' => e = .returned (.bool (struckB C.strikes sure f n 1)) ∧ Aft W w') := Lib.hid fun W h => struck_any w0 W d C a1 a2 c1 c2 ref sure f r (hD.later h) n 1 hn hS
  have H0 : Hid (∀ W, Aft w W → Calls Try.prog 69 #[.pointer (some ⟨d, 0, none⟩), .int .i64 n, .int .i64 0] W fun e w' => e = .returned (.bool (struckB C.strikes sure f n 0)) ∧ Aft W w') := Lib.hid fun W h => struck_any w0 W d C a1 a2 c1 c2 ref sure f r (hD.later h) n 0 hn hS
  clear hD hS
  unfold freeB
  go_enter Try.func70, Try.ntmps70
  cases h1 : struckB C.strikes sure f n 1
  · rw [h1] at H1
    cases h0 : struckB C.strikes sure f n 0
    all_goals
      rw [h0] at H0
      clear h0 h1
      go_wp2_with (first | (go_at_call_of 69 (Value.int IntKind.i64 1); refine (H1.out _ (Aft.refl _)).mono ?_; rintro e w' ⟨rfl, u, rfl⟩) | (go_at_call_of 69 (Value.int IntKind.i64 0); refine (H0.out _ (Aft.lat _ _)).mono ?_; rintro e w' ⟨rfl, u2, rfl⟩))
      go_ret
      exact ⟨rfl, (Aft.lat _ _).then_lat _⟩
  · rw [h1] at H1
    clear h1
    go_wp2_with (go_at_call_of 69 (Value.int IntKind.i64 1); refine (H1.out _ (Aft.refl _)).mono ?_; rintro e w' ⟨rfl, u, rfl⟩)
    go_ret
    exact ⟨rfl, Aft.lat _ _⟩

set_option maxHeartbeats 1000000 in
theorem step1_any (w0 w : World) (d b : Nat) (C : CaseL) (a1 a2 : Option Addr) (c1 c2 : Nat) (ref sure : Int → Bool) (f r : Int → Nat) (hD : DeskAt w0 w d C a1 a2 c1 c2 ref sure f r) (n : Nat) (hn : n < 14) (hS : ∀ s ∈ C.strikes, 0 ≤ s.1 ∧ s.1 < 14) (hb : Blk w b 66 #[.pointer (some ⟨d, 0, none⟩)]) :
    Calls Try.prog 84 #[.int .i64 n, .pointer (some ⟨b, 0, none⟩)] w fun e w' => e = .returned (.bool (struckB C.strikes sure f n 1)) ∧ Aft w w' := by
  have H1 : Hid (∀ W, Aft w W → Calls Try.prog 69 #[.pointer (some ⟨d, 0, none⟩), .int .i64 n, .int .i64 1] W fun e w' => e = .returned (.bool (struckB C.strikes sure f n 1)) ∧ Aft W w') := Lib.hid fun W h => struck_any w0 W d C a1 a2 c1 c2 ref sure f r (hD.later h) n 1 hn hS
  have k0 : w.cell? ⟨b, 0, none⟩ = some (.pointer (some ⟨d, 0, none⟩)) := hb.cell 0
  have hlt := hb.lt
  clear hD hS hb
  go_enter Try.func84, Try.ntmps84
  go_wp2_with (go_at_call 69; refine (H1.out _ (Aft.refl _)).mono ?_; rintro e w' ⟨rfl, u, rfl⟩)
  go_ret
  exact ⟨rfl, Aft.lat _ _⟩

set_option maxHeartbeats 1000000 in
theorem steps_any (d : Nat) (w : World) :
    Calls Try.prog 67 #[.pointer (some ⟨d, 0, none⟩)] w fun e w' => e = .returned (.agg #[.func (.func 84) #[] #[.pointer (some ⟨w.heap.size, 0, none⟩)], .int .i64 2, .func (.func 70) #[.pointer (some ⟨d, 0, none⟩)] #[], .int .i64 1]) ∧ Aft w w' ∧ Blk w' w.heap.size 66 #[.pointer (some ⟨d, 0, none⟩)] := by
  go_enter Try.func67, Try.ntmps67
  go_wp2_with fail
  refine bodyPost_ret (v := .agg #[.func (.func 84) #[] #[.pointer (some ⟨w.heap.size, 0, none⟩)], .int .i64 2, .func (.func 70) #[.pointer (some ⟨d, 0, none⟩)] #[], .int .i64 1]) (by simp [results, Try.results67, go_sem]) rfl ?_
  exact ⟨rfl, (Aft.alloc _ _).then_alloc _, (Blk.new w 66 _).alloc _⟩
end Go.Proofs
end

section
namespace Go.Proofs
open Go.RowKit
open Court (refL begF noS struckB nextR hearR rule setF)
attribute [local go_sem] Oper.semAt_some

def Hearing (w0 w : World) (d : Nat) (C : CaseL) (a1 a2 : Option Addr) (c1 c2 : Nat) (ref sure : Int → Bool) (f r : Int → Nat) (e : Ending) (w' : World) : Prop := (∃ v, e = .returned v) ∧ w.grownBy w' (some d) ∧ DeskAt w0 w' d C a1 a2 c1 c2 ref sure f r

theorem hearR_no {S : List (Int × Int)} {sure : Int → Bool} {f r : Int → Nat} {n : Int} (h : f n ≠ 0) : hearR S sure (f, r) n = (f, r) := by unfold hearR; rw [if_neg (fun h' => h h'.1)]
theorem hearR_two {S : List (Int × Int)} {sure : Int → Bool} {f r : Int → Nat} {n : Int} (h : f n = 0) (h1 : struckB S sure f n 1 = true) : hearR S sure (f, r) n = (setF f n 2, setF r n (nextR S sure r n)) := by
  have hr : rule S sure f n = 2 := Court.rule_two.2 h1
  unfold hearR; rw [if_pos ⟨h, by rw [hr]; decide⟩, hr]
theorem hearR_one {S : List (Int × Int)} {sure : Int → Bool} {f r : Int → Nat} {n : Int} (h : f n = 0) (h1 : struckB S sure f n 1 = false) (h2 : freeB S sure f n = true) : hearR S sure (f, r) n = (setF f n 1, setF r n (nextR S sure r n)) := by
  have hr : rule S sure f n = 1 := Court.rule_one.2 ⟨h1, by unfold freeB at h2; rw [h1] at h2; simpa using h2⟩
  unfold hearR; rw [if_pos ⟨h, by rw [hr]; decide⟩, hr]
theorem hearR_zero {S : List (Int × Int)} {sure : Int → Bool} {f r : Int → Nat} {n : Int} (h1 : struckB S sure f n 1 = false) (h2 : freeB S sure f n = false) : hearR S sure (f, r) n = (f, r) := by
  have hr : rule S sure f n = 0 := Court.rule_zero.2 ⟨h1, by unfold freeB at h2; rw [h1] at h2; simpa using h2⟩
  unfold hearR; rw [if_neg (fun h => h.2 hr)]

structure HearI (S : List (Int × Int)) (sure : Int → Bool) (f : Int → Nat) (n : Int) (w1 : World) (k : Nat) (wr : World) : Prop where
  le : k ≤ 2
  aft : Aft w1 wr
  one : 1 ≤ k → struckB S sure f n 1 = false
  two : k = 2 → freeB S sure f n = false

set_option maxRecDepth 100000 in
theorem index138_0 (g1 g2 : Value) (x y : Int) (h1 : g1.cells = #[g1]) (W : World) (f1 f2 : Fn) (a b c e : Array Value) (e1 : g1 = .func f1 a b) (e2 : g2 = .func f2 c e) : (Instr.index 94 (.agg #[g1, .int .i64 x, g2, .int .i64 y]) (.int .i64 0)).run Try.prog W = .ok (.agg #[g1, .int .i64 x]) W := by
  subst e1 e2; kernel_rfl
set_option maxRecDepth 100000 in
theorem index138_1 (f1 f2 : Fn) (a b c e : Array Value) (x y : Int) (W : World) : (Instr.index 94 (.agg #[.func f1 a b, .int .i64 x, .func f2 c e, .int .i64 y]) (.int .i64 1)).run Try.prog W = .ok (.agg #[.func f2 c e, .int .i64 y]) W := by kernel_rfl

set_option maxRecDepth 100000 in
set_option maxHeartbeats 2000000 in
theorem hear_any (w0 w : World) (d : Nat) (C : CaseL) (a1 a2 : Option Addr) (c1 c2 : Nat) (ref sure : Int → Bool) (f r : Int → Nat) (hD : DeskAt w0 w d C a1 a2 c1 c2 ref sure f r) (n : Nat) (hn : n < 14) (hS : ∀ s ∈ C.strikes, 0 ≤ s.1 ∧ s.1 < 14) (hr : ∀ x, r x ≤ 1000) :
    Calls Try.prog 38 #[.pointer (some ⟨d, 0, none⟩), .int .i64 n] w (Hearing w0 w d C a1 a2 c1 c2 ref sure (hearR C.strikes sure (f, r) n).1 (hearR C.strikes sure (f, r) n).2) := by
  have HD := Lib.hid hD
  have q1 := hD.found hn
  have hlt := hD.lt
  have hn14 : (0 : Int) ≤ (n : Int) ∧ (n : Int) < 14 := by omega
  have H1 : Hid (∀ W b, Aft w W → Blk W b 66 #[.pointer (some ⟨d, 0, none⟩)] → Calls Try.prog 84 #[.int .i64 n, .pointer (some ⟨b, 0, none⟩)] W fun e w' => e = .returned (.bool (struckB C.strikes sure f n 1)) ∧ Aft W w') := Lib.hid fun W b h hb => step1_any w0 W d b C a1 a2 c1 c2 ref sure f r (hD.later h) n hn hS hb
  have H2 : Hid (∀ W, Aft w W → Calls Try.prog 70 #[.pointer (some ⟨d, 0, none⟩), .int .i64 n] W fun e w' => e = .returned (.bool (freeB C.strikes sure f n)) ∧ Aft W w') := Lib.hid fun W h => free_any w0 W d C a1 a2 c1 c2 ref sure f r (hD.later h) n hn hS
  have H3 : Hid (∀ W f', DeskAt w0 W d C a1 a2 c1 c2 ref sure f' r → Calls Try.prog 68 #[.pointer (some ⟨d, 0, none⟩), .int .i64 n] W fun e w' => e = .returned (.int .i64 (nextR C.strikes sure r n : Nat)) ∧ Aft W w') := Lib.hid fun W f' h => next_any w0 W d C a1 a2 c1 c2 ref sure f' r h n hn hS hr
  clear hD hS hr
  by_cases h0 : f n = 0
  · have t0 : (((f n : Nat) : Int) != 0) = false := by simp [h0]
    have HF0 := Lib.hid h0
    clear h0
    go_enter Try.func38, Try.ntmps38
    go_wp2_with (go_at_call 67; refine (steps_any d w).mono ?_; rintro e w1 ⟨rfl, ha1, hb1⟩; have HA1 := Lib.hid ha1; have HB1 := Lib.hid hb1; clear ha1 hb1)
    go_loopw [15] (fun i wr => ∃ k : Nat, i = .int .i64 k ∧ HearI C.strikes sure f n w1 k wr) (fun i _ => 2 - (intOf i).toNat)
    case atStart => exact ⟨0, rfl, by omega, Aft.refl _, fun h => by omega, fun h => by omega⟩
    case round =>
      obtain ⟨k, rfl, hki⟩ := hrel
      have hk := hki.le
      have HKI := Lib.hid hki
      have HAR := Lib.hid (HA1.out.trans hki.aft)
      have HBR := Lib.hid (HB1.out.aft hki.aft)
      have hszr := (HA1.out.trans hki.aft).size
      have hdr : d < wr.heap.size := by omega
      clear hki
      by_cases hk0 : k = 0
      · subst hk0
        have hix := index138_0 (.func (.func 84) #[] #[.pointer (some ⟨w.heap.size, 0, none⟩)]) (.func (.func 70) #[.pointer (some ⟨d, 0, none⟩)] #[]) 2 1 rfl wr _ _ _ _ _ _ rfl rfl
        cases hs : struckB C.strikes sure f n 1
        · have HS1 := Lib.hid hs
          rw [hs] at H1
          clear hs
          go_wp2_with (go_at_call 84; refine (H1.out _ _ (HAR.out.then_alloc _) (HBR.out.alloc _)).mono ?_; rintro e w' ⟨rfl, u, rfl⟩)
          exact ⟨⟨1, by go_num, by omega, ((HKI.out.aft.then_alloc _).then_lat _), fun _ => HS1.out, fun h => by omega⟩, by simp [intOf]⟩
        · have HS1 := Lib.hid hs
          rw [hs] at H1
          clear hs
          have HH := Lib.hid (hearR_two (r := r) HF0.out HS1.out)
          go_upto_region 5 with (go_at_call 84; refine (H1.out _ _ (HAR.out.then_alloc _) (HBR.out.alloc _)).mono ?_; rintro e w' ⟨rfl, u, rfl⟩)
          have HBX := Lib.hid ((Blk.new wr 93 #[.func (.func 84) #[] #[.pointer (some ⟨w.heap.size, 0, none⟩)], .int .i64 2]).lat u)
          obtain ⟨X0, hX0⟩ : ∃ X0, ((wr.alloc (.cells #[.func (.func 84) #[] #[.pointer (some ⟨w.heap.size, 0, none⟩)], .int .i64 2] 93)).lat u) = X0 := ⟨_, rfl⟩
          have HAX : Hid (Aft w X0) := Lib.hid (hX0 ▸ (HAR.out.then_alloc _).then_lat _)
          have HBX2 : Hid (Blk X0 wr.heap.size 93 #[.func (.func 84) #[] #[.pointer (some ⟨w.heap.size, 0, none⟩)], .int .i64 (2 : Nat)]) := Lib.hid (hX0 ▸ HBX.out)
          rw [hX0]
          have HDX : Hid (DeskAt w0 X0.drew d C a1 a2 c1 c2 ref sure f r) := Lib.hid ((HD.out.later HAX.out).later (Aft.drew _))
          have z1 := HBX2.out.cell 1
          simp only [List.getElem?_toArray, List.getElem?_cons_zero, List.getElem?_cons_succ] at z1
          have hb5 := HBX2.out.lt
          have hb5d : some wr.heap.size ≠ some d := by simp; omega
          clear hX0 HBX hix
          generalize wr.heap.size = b5 at *
          refine wp_region_valsT (by kernel_rfl) 15 38 rfl (by kernel_rfl) (by kernel_rfl) (by kernel_rfl) [.pointer (some ⟨d, 0, none⟩), .int .i64 n, .pointer (some ⟨d, 0, none⟩), .int .i64 n, .pointer (some ⟨b5, 1, none⟩), .int .i64 (2 : Nat), .pointer (some ⟨d, 0, none⟩), .int .i64 n, .int .i64 (nextR C.strikes sure r n : Nat), .pointer (some ⟨d, 0, none⟩), .pointer (some ⟨d, 31, none⟩), .pointer (some ⟨d, 31 + n, none⟩), undef, .pointer (some ⟨d, 0, none⟩), .pointer (some ⟨d, 45, none⟩)] rfl (fun done W => X0.grownBy W (some d) ∧ DeskAt w0 W d C a1 a2 c1 c2 ref sure (if done 12 = true then setF f n 2 else f) r) (⟨only_drew (only_refl _ _), HDX.out⟩) ?st1 ?fi1
          case st1 =>
            intro i o v ho hv
            match i, ho, hv with
            | 0, ho, hv =>
              cases ho; cases hv
              refine .inl ⟨rfl, fun done a W hd hp hk hw K hK => ?_⟩
              have e0 := hk.same 0 (by decide)
              exact op_val (by simp [go_sem, ev' e0]) (hK _ hw)
            | 1, ho, hv =>
              cases ho; cases hv
              refine .inl ⟨rfl, fun done a W hd hp hk hw K hK => ?_⟩
              have e1 := hk.same 1 (by decide)
              exact op_val (by simp [go_sem, ev' e1]) (hK _ hw)
            | 2, ho, hv =>
              cases ho; cases hv
              refine .inl ⟨rfl, fun done a W hd hp hk hw K hK => ?_⟩
              have e0 := hk.same 0 (by decide)
              exact op_val (by simp [go_sem, ev' e0]) (hK _ hw)
            | 3, ho, hv =>
              cases ho; cases hv
              refine .inl ⟨rfl, fun done a W hd hp hk hw K hK => ?_⟩
              have e1 := hk.same 1 (by decide)
              exact op_val (by simp [go_sem, ev' e1]) (hK _ hw)
            | 4, ho, hv =>
              cases ho; cases hv
              refine .inl ⟨rfl, fun done a W hd hp hk hw K hK => ?_⟩
              have e5 := hk.same 5 (by decide)
              exact op_val (by simp [go_sem, ev' e5]) (hK _ hw)
            | 5, ho, hv =>
              cases ho; cases hv
              refine .inl ⟨rfl, fun done a W hd hp hk hw K hK => ?_⟩
              have e26 := hk.at_ 4 _ 26 _ rfl (by decide) _ rfl rfl rfl
              exact op_val (by simp [go_sem, ev' e26, cell_grown9 hw.1 hb5 hb5d, z1]) (hK _ hw)
            | 6, ho, hv =>
              cases ho; cases hv
              refine .inl ⟨rfl, fun done a W hd hp hk hw K hK => ?_⟩
              have e0 := hk.same 0 (by decide)
              exact op_val (by simp [go_sem, ev' e0]) (hK _ hw)
            | 7, ho, hv =>
              cases ho; cases hv
              refine .inl ⟨rfl, fun done a W hd hp hk hw K hK => ?_⟩
              have e1 := hk.same 1 (by decide)
              exact op_val (by simp [go_sem, ev' e1]) (hK _ hw)
            | 8, ho, hv =>
              cases ho; cases hv
              refine .inl ⟨rfl, fun done a W hd hp hk hw K hK => ?_⟩
              have e28 := hk.at_ 6 _ 28 _ rfl (by decide) _ rfl rfl rfl
              have e29 := hk.at_ 7 _ 29 _ rfl (by decide) _ rfl rfl rfl
              refine op_callN rfl rfl rfl _ rfl (vs := #[.pointer (some ⟨d, 0, none⟩), .int .i64 n]) (by simp [e28, e29]) (H3.out _ _ hw.2) ?_
              rintro e w' ⟨rfl, hw'⟩
              exact ⟨_, rfl, hK _ ⟨only_aft hw.1 hw', hw.2.later hw'⟩⟩
            | 9, ho, hv =>
              cases ho; cases hv
              refine .inl ⟨rfl, fun done a W hd hp hk hw K hK => ?_⟩
              have e22 := hk.at_ 0 _ 22 _ rfl (by decide) _ rfl rfl rfl
              exact op_val (by simp [go_sem, ev' e22]) (hK _ hw)
            | 10, ho, hv =>
              cases ho; cases hv
              refine .inl ⟨rfl, fun done a W hd hp hk hw K hK => ?_⟩
              have e31 := hk.at_ 9 _ 31 _ rfl (by decide) _ rfl rfl rfl
              exact op_val (by simp [go_sem, ev' e31]) (hK _ hw)
            | 11, ho, hv =>
              cases ho; cases hv
              refine .inl ⟨rfl, fun done a W hd hp hk hw K hK => ?_⟩
              have e23 := hk.at_ 1 _ 23 _ rfl (by decide) _ rfl rfl rfl
              have e32 := hk.at_ 10 _ 32 _ rfl (by decide) _ rfl rfl rfl
              exact op_val (by simp [go_sem, ev' e23, ev' e32, hn14]) (hK _ hw)
            | 12, ho, hv =>
              cases ho; cases hv
              refine .inl ⟨rfl, fun done a W hd hp hk hw K hK => ?_⟩
              have e27 := hk.at_ 5 _ 27 _ rfl (by decide) _ rfl rfl rfl
              have e33 := hk.at_ 11 _ 33 _ rfl (by decide) _ rfl rfl rfl
              have c1 := hw.2.found hn
              have c2 := hw.2.fz (31 + n)
              have c3 := hw.2.lt
              refine op_skipW (w' := W.setCell ⟨d, 31 + n, none⟩ (.int .i64 (2 : Nat))) (by simp [go_sem, ev' e33, ev' e27, c1, c2, c3]) (hK _ ⟨only_setCell hw.1 (.inl rfl) _, ?_⟩)
              have h12 : done 12 = false := hd
              have := hw.2.setFound hn 2
              rw [h12, if_neg (by decide)] at this
              rw [show upd done 12 12 = true from rfl, if_pos rfl]
              exact this
            | 13, ho, hv =>
              cases ho; cases hv
              refine .inl ⟨rfl, fun done a W hd hp hk hw K hK => ?_⟩
              have e24 := hk.at_ 2 _ 24 _ rfl (by decide) _ rfl rfl rfl
              exact op_val (by simp [go_sem, ev' e24]) (hK _ hw)
            | 14, ho, hv =>
              cases ho; cases hv
              refine .inl ⟨rfl, fun done a W hd hp hk hw K hK => ?_⟩
              have e34 := hk.at_ 13 _ 34 _ rfl (by decide) _ rfl rfl rfl
              exact op_val (by simp [go_sem, ev' e34]) (hK _ hw)
            | _ + 15, _, hv => cases hv
          intro done W hd hw
          simp only [List.drop_succ_cons, List.drop_zero, List.zip_cons_cons, List.zip_nil_right, putAll]
          simp only [Act.put, List.setIfInBounds_toArray, List.set]
          have hw2 := hw.2
          rw [hd 12 (by decide), if_pos rfl] at hw2
          have c1 := hw2.rank hn
          have c2 := hw2.fz (45 + n)
          have c3 := hw2.lt
          have HW2 := Lib.hid (hw2.setRank hn (nextR C.strikes sure r n))
          have HG := Lib.hid hw.1
          clear hw hw2 hd
          go_wp2_with fail
          refine bodyPost_ret (v := .tuple #[]) (by simp [results, Try.results38, go_sem]) rfl ?_
          rw [HH.out]
          exact ⟨⟨_, rfl⟩, only_setCell ((only_of_aft HAX.out (some d)).trans HG.out) (.inl rfl) _, HW2.out⟩
      · by_cases hk1 : k = 1
        · subst hk1
          have hix := index138_1 (.func 84) (.func 70) #[] #[.pointer (some ⟨w.heap.size, 0, none⟩)] #[.pointer (some ⟨d, 0, none⟩)] #[] 2 1 wr
          cases hs : freeB C.strikes sure f n
          · have HS1 := Lib.hid hs
            rw [hs] at H2
            clear hs
            go_wp2_with (go_at_call 70; refine (H2.out _ (HAR.out.then_alloc _)).mono ?_; rintro e w' ⟨rfl, u, rfl⟩)
            exact ⟨⟨2, by go_num, by omega, ((HKI.out.aft.then_alloc _).then_lat _), fun _ => HKI.out.one (by omega), fun _ => HS1.out⟩, by simp [intOf]⟩
          · have HS1 := Lib.hid hs
            rw [hs] at H2
            clear hs
            have HH := Lib.hid (hearR_one (r := r) HF0.out (HKI.out.one (by omega)) HS1.out)
            go_upto_region 5 with (go_at_call 70; refine (H2.out _ (HAR.out.then_alloc _)).mono ?_; rintro e w' ⟨rfl, u, rfl⟩)
            have HBX := Lib.hid ((Blk.new wr 93 #[.func (.func 70) #[.pointer (some ⟨d, 0, none⟩)] #[], .int .i64 1]).lat u)
            obtain ⟨X0, hX0⟩ : ∃ X0, ((wr.alloc (.cells #[.func (.func 70) #[.pointer (some ⟨d, 0, none⟩)] #[], .int .i64 1] 93)).lat u) = X0 := ⟨_, rfl⟩
            have HAX : Hid (Aft w X0) := Lib.hid (hX0 ▸ (HAR.out.then_alloc _).then_lat _)
            have HBX2 : Hid (Blk X0 wr.heap.size 93 #[.func (.func 70) #[.pointer (some ⟨d, 0, none⟩)] #[], .int .i64 (1 : Nat)]) := Lib.hid (hX0 ▸ HBX.out)
            rw [hX0]
            have HDX : Hid (DeskAt w0 X0.drew d C a1 a2 c1 c2 ref sure f r) := Lib.hid ((HD.out.later HAX.out).later (Aft.drew _))
            have z1 := HBX2.out.cell 1
            simp only [List.getElem?_toArray, List.getElem?_cons_zero, List.getElem?_cons_succ] at z1
            have hb5 := HBX2.out.lt
            have hb5d : some wr.heap.size ≠ some d := by simp; omega
            clear hX0 HBX hix
            generalize wr.heap.size = b5 at *
            refine wp_region_valsT (by kernel_rfl) 15 38 rfl (by kernel_rfl) (by kernel_rfl) (by kernel_rfl) [.pointer (some ⟨d, 0, none⟩), .int .i64 n, .pointer (some ⟨d, 0, none⟩), .int .i64 n, .pointer (some ⟨b5, 1, none⟩), .int .i64 (1 : Nat), .pointer (some ⟨d, 0, none⟩), .int .i64 n, .int .i64 (nextR C.strikes sure r n : Nat), .pointer (some ⟨d, 0, none⟩), .pointer (some ⟨d, 31, none⟩), .pointer (some ⟨d, 31 + n, none⟩), undef, .pointer (some ⟨d, 0, none⟩), .pointer (some ⟨d, 45, none⟩)] rfl (fun done W => X0.grownBy W (some d) ∧ DeskAt w0 W d C a1 a2 c1 c2 ref sure (if done 12 = true then setF f n 1 else f) r) (⟨only_drew (only_refl _ _), HDX.out⟩) ?st2 ?fi2
            case st2 =>
              intro i o v ho hv
              match i, ho, hv with
              | 0, ho, hv =>
                cases ho; cases hv
                refine .inl ⟨rfl, fun done a W hd hp hk hw K hK => ?_⟩
                have e0 := hk.same 0 (by decide)
                exact op_val (by simp [go_sem, ev' e0]) (hK _ hw)
              | 1, ho, hv =>
                cases ho; cases hv
                refine .inl ⟨rfl, fun done a W hd hp hk hw K hK => ?_⟩
                have e1 := hk.same 1 (by decide)
                exact op_val (by simp [go_sem, ev' e1]) (hK _ hw)
              | 2, ho, hv =>
                cases ho; cases hv
                refine .inl ⟨rfl, fun done a W hd hp hk hw K hK => ?_⟩
                have e0 := hk.same 0 (by decide)
                exact op_val (by simp [go_sem, ev' e0]) (hK _ hw)
              | 3, ho, hv =>
                cases ho; cases hv
                refine .inl ⟨rfl, fun done a W hd hp hk hw K hK => ?_⟩
                have e1 := hk.same 1 (by decide)
                exact op_val (by simp [go_sem, ev' e1]) (hK _ hw)
              | 4, ho, hv =>
                cases ho; cases hv
                refine .inl ⟨rfl, fun done a W hd hp hk hw K hK => ?_⟩
                have e5 := hk.same 5 (by decide)
                exact op_val (by simp [go_sem, ev' e5]) (hK _ hw)
              | 5, ho, hv =>
                cases ho; cases hv
                refine .inl ⟨rfl, fun done a W hd hp hk hw K hK => ?_⟩
                have e26 := hk.at_ 4 _ 26 _ rfl (by decide) _ rfl rfl rfl
                exact op_val (by simp [go_sem, ev' e26, cell_grown9 hw.1 hb5 hb5d, z1]) (hK _ hw)
              | 6, ho, hv =>
                cases ho; cases hv
                refine .inl ⟨rfl, fun done a W hd hp hk hw K hK => ?_⟩
                have e0 := hk.same 0 (by decide)
                exact op_val (by simp [go_sem, ev' e0]) (hK _ hw)
              | 7, ho, hv =>
                cases ho; cases hv
                refine .inl ⟨rfl, fun done a W hd hp hk hw K hK => ?_⟩
                have e1 := hk.same 1 (by decide)
                exact op_val (by simp [go_sem, ev' e1]) (hK _ hw)
              | 8, ho, hv =>
                cases ho; cases hv
                refine .inl ⟨rfl, fun done a W hd hp hk hw K hK => ?_⟩
                have e28 := hk.at_ 6 _ 28 _ rfl (by decide) _ rfl rfl rfl
                have e29 := hk.at_ 7 _ 29 _ rfl (by decide) _ rfl rfl rfl
                refine op_callN rfl rfl rfl _ rfl (vs := #[.pointer (some ⟨d, 0, none⟩), .int .i64 n]) (by simp [e28, e29]) (H3.out _ _ hw.2) ?_
                rintro e w' ⟨rfl, hw'⟩
                exact ⟨_, rfl, hK _ ⟨only_aft hw.1 hw', hw.2.later hw'⟩⟩
              | 9, ho, hv =>
                cases ho; cases hv
                refine .inl ⟨rfl, fun done a W hd hp hk hw K hK => ?_⟩
                have e22 := hk.at_ 0 _ 22 _ rfl (by decide) _ rfl rfl rfl
                exact op_val (by simp [go_sem, ev' e22]) (hK _ hw)
              | 10, ho, hv =>
                cases ho; cases hv
                refine .inl ⟨rfl, fun done a W hd hp hk hw K hK => ?_⟩
                have e31 := hk.at_ 9 _ 31 _ rfl (by decide) _ rfl rfl rfl
                exact op_val (by simp [go_sem, ev' e31]) (hK _ hw)
              | 11, ho, hv =>
                cases ho; cases hv
                refine .inl ⟨rfl, fun done a W hd hp hk hw K hK => ?_⟩
                have e23 := hk.at_ 1 _ 23 _ rfl (by decide) _ rfl rfl rfl
                have e32 := hk.at_ 10 _ 32 _ rfl (by decide) _ rfl rfl rfl
                exact op_val (by simp [go_sem, ev' e23, ev' e32, hn14]) (hK _ hw)
              | 12, ho, hv =>
                cases ho; cases hv
                refine .inl ⟨rfl, fun done a W hd hp hk hw K hK => ?_⟩
                have e27 := hk.at_ 5 _ 27 _ rfl (by decide) _ rfl rfl rfl
                have e33 := hk.at_ 11 _ 33 _ rfl (by decide) _ rfl rfl rfl
                have c1 := hw.2.found hn
                have c2 := hw.2.fz (31 + n)
                have c3 := hw.2.lt
                refine op_skipW (w' := W.setCell ⟨d, 31 + n, none⟩ (.int .i64 (1 : Nat))) (by simp [go_sem, ev' e33, ev' e27, c1, c2, c3]) (hK _ ⟨only_setCell hw.1 (.inl rfl) _, ?_⟩)
                have h12 : done 12 = false := hd
                have := hw.2.setFound hn 1
                rw [h12, if_neg (by decide)] at this
                rw [show upd done 12 12 = true from rfl, if_pos rfl]
                exact this
              | 13, ho, hv =>
                cases ho; cases hv
                refine .inl ⟨rfl, fun done a W hd hp hk hw K hK => ?_⟩
                have e24 := hk.at_ 2 _ 24 _ rfl (by decide) _ rfl rfl rfl
                exact op_val (by simp [go_sem, ev' e24]) (hK _ hw)
              | 14, ho, hv =>
                cases ho; cases hv
                refine .inl ⟨rfl, fun done a W hd hp hk hw K hK => ?_⟩
                have e34 := hk.at_ 13 _ 34 _ rfl (by decide) _ rfl rfl rfl
                exact op_val (by simp [go_sem, ev' e34]) (hK _ hw)
              | _ + 15, _, hv => cases hv
            intro done W hd hw
            simp only [List.drop_succ_cons, List.drop_zero, List.zip_cons_cons, List.zip_nil_right, putAll]
            simp only [Act.put, List.setIfInBounds_toArray, List.set]
            have hw2 := hw.2
            rw [hd 12 (by decide), if_pos rfl] at hw2
            have c1 := hw2.rank hn
            have c2 := hw2.fz (45 + n)
            have c3 := hw2.lt
            have HW2 := Lib.hid (hw2.setRank hn (nextR C.strikes sure r n))
            have HG := Lib.hid hw.1
            clear hw hw2 hd
            go_wp2_with fail
            refine bodyPost_ret (v := .tuple #[]) (by simp [results, Try.results38, go_sem]) rfl ?_
            rw [HH.out]
            exact ⟨⟨_, rfl⟩, only_setCell ((only_of_aft HAX.out (some d)).trans HG.out) (.inl rfl) _, HW2.out⟩
        · obtain rfl : k = 2 := by omega
          have HH := Lib.hid (hearR_zero (r := r) (HKI.out.one (by omega)) (HKI.out.two rfl))
          go_wp2_with fail
          go_end0
          rw [HH.out]
          exact ⟨⟨_, rfl⟩, only_of_aft HAR.out _, HD.out.later HAR.out⟩
  · rw [hearR_no h0]
    have t0 : (((f n : Nat) : Int) != 0) = true := by simp [h0]
    clear h0
    go_enter Try.func38, Try.ntmps38
    go_wp2_with fail
    refine bodyPost_ret (v := .tuple #[]) (by simp [results, Try.results38, go_sem]) rfl ?_
    exact ⟨⟨_, rfl⟩, only_refl _ _, HD.out⟩
end Go.Proofs
end

section
namespace Go.Proofs
open Go.RowKit

theorem all_range_int : ∀ (xs ys : List Int), xs.length = ys.length → ((List.range xs.length).all fun i => xs.getD i 0 == ys.getD i 0) = (xs == ys)
  | [], [], _ => rfl
  | x :: xs, y :: ys, h => by
    have ih := all_range_int xs ys (by simpa using h)
    rw [List.length_cons, List.range_succ_eq_map, List.all_cons, List.all_map]
    simp only [List.getD_cons_zero, Function.comp_def, List.getD_cons_succ, ih]
    simp [List.cons_beq_cons]
  | [], _ :: _, h => by simp at h
  | _ :: _, [], h => by simp at h

theorem run_equalIn_ints {P : Program} (w : World) (d : Nat) (t e : TypeId) (n : Nat) (ht : P.underlying t = some (.array n e)) (he : P.underlying e = some (.int .i64)) (hsz : ∀ w, (sizeOf e).run P w = .ok 1 w)
    (xs ys : List Int) (hx : xs.length = n) (hy : ys.length = n) :
    (Op.equalIn (d + 2) t (.agg (xs.map (Value.int .i64)).toArray) (.agg (ys.map (Value.int .i64)).toArray)).run P w = .ok (xs == ys) w := by
  rw [← all_range_int xs ys (hx.trans hy.symm), hx, List.range_eq_range', Op.equalIn]
  simp only [Sem.run_bind, run_underlying ht, Result.andThen_ok, hsz, Std.Legacy.Range.forIn_eq_forIn_range', Std.Legacy.Range.size, Nat.sub_zero, Nat.add_sub_cancel, Nat.div_one]
  have hl : ∀ i ∈ List.range' 0 n 1, i < n := fun i hi => by simpa using (List.mem_range'_1.1 hi).2
  generalize List.range' 0 n 1 = l at hl ⊢
  induction l with
  | nil => simp
  | cons i l ih =>
    have hi : i < n := hl i (by simp)
    have px : (part e (xs.map (Value.int .i64)).toArray (i * 1)).run P w = .ok (.int .i64 (xs.getD i 0)) w := by
      simp [part, isAgg, run_underlying he, List.getD, List.getElem?_eq_getElem (show i < xs.length by omega)]
    have py : (part e (ys.map (Value.int .i64)).toArray (i * 1)).run P w = .ok (.int .i64 (ys.getD i 0)) w := by
      simp [part, isAgg, run_underlying he, List.getD, List.getElem?_eq_getElem (show i < ys.length by omega)]
    have pe : (Op.equalIn (d + 1) e (.int .i64 (xs.getD i 0)) (.int .i64 (ys.getD i 0))).run P w = .ok (xs.getD i 0 == ys.getD i 0) w := by
      rw [run_equalIn_int w d e .i64 .i64 _ _ he]
    simp only [List.forIn_cons, Sem.run_bind, px, py, pe, Result.andThen_ok, List.all_cons]
    cases hb : (xs.getD i 0 == ys.getD i 0)
    · simp
    · simp only [Bool.not_true, Bool.false_eq_true, if_false, Sem.run_pure, Result.andThen_ok, Bool.true_and]
      exact ih fun j hj => hl j (by simp [hj])

theorem run_eql_ints {P : Program} (w : World) (t e : TypeId) (n : Nat) (ht : P.underlying t = some (.array n e)) (he : P.underlying e = some (.int .i64)) (hsz : ∀ w, (sizeOf e).run P w = .ok 1 w)
    (xs ys : List Int) (hx : xs.length = n) (hy : ys.length = n) :
    (binOp .eql t (.agg (xs.map (Value.int .i64)).toArray) (.agg (ys.map (Value.int .i64)).toArray)).run P w = .ok (.bool (xs == ys)) w := by
  rw [run_eql_struct, run_equalIn_ints w 9998 t e n ht he hsz xs ys hx hy]
  rfl

def i14 (f : Int → Nat) : List Int := (List.range 14).map fun (i : Nat) => ((f i : Nat) : Int)
theorem mnL_i14 (f : Int → Nat) : mnL f = (i14 f).map (Value.int .i64) := by unfold mnL i14; rw [List.map_map]; rfl
theorem i14_len (f : Int → Nat) : (i14 f).length = 14 := by unfold i14; rw [List.length_map, List.length_range]
theorem i14_eq {f g : Int → Nat} : (i14 f == i14 g) = true ↔ ∀ n : Nat, n < 14 → f n = g n := by
  rw [beq_iff_eq]
  unfold i14
  constructor
  · intro h n hn
    have := congrArg (fun l => l[n]?) h
    simp only [List.getElem?_map, List.getElem?_range hn, Option.map_some] at this
    injection this with this
    exact Int.ofNat.inj this
  · intro h
    refine List.map_congr_left fun n hn => ?_
    rw [h n (List.mem_range.1 hn)]
theorem guard92 : (Try.prog.eqGuardType Try.prog.depth 73) = false := by kernel_rfl
theorem size3 (w : World) : (sizeOf 3).run Try.prog w = .ok 1 w := by kernel_rfl
theorem eql_found (f g : Int → Nat) (w : World) : (binOp .eql 73 (.agg (mnL f).toArray) (.agg (mnL g).toArray)).run Try.prog w = .ok (.bool (i14 f == i14 g)) w := by
  rw [mnL_i14, mnL_i14]
  exact run_eql_ints w 73 3 14 Try.underlying73 Try.underlying3 size3 _ _ (i14_len f) (i14_len g)
theorem op_eql_found {o : Oper} {a : Act} {w : World} {x y : Operand} (ho : o.op = .binOp .eql 73 x y 73) {f g : Int → Nat} (hx : a.eval x = .agg (mnL f).toArray) (hy : a.eval y = .agg (mnL g).toArray) :
    (execOp a.eval o).run Try.prog w = .ok (.value (.bool (i14 f == i14 g))) w := by
  unfold execOp
  simp only [ho, hx, hy]
  simp [eqGuard, guard92, eql_found, Sem.run_bind]
theorem wpList_store_new {P : Program} {ops : Array Oper} {Q : Exit → Act → World → Prop} {o : Oper} {rest : List Oper} {a : Act} {w : World} (hgd : o.guard = none) (ty : TypeId) (x y : Operand) (ho : o.op = .store ty x y) {c c' : Array Value} (hx : a.eval x = .pointer (some ⟨w.heap.size, 0, none⟩)) (hy : a.eval y = .agg c')
    (hi : (P.info? ty).map (·.size) = some c'.size) (hs : c.size = c'.size) (h1 : c'.all (·.oneCell') = true) (h : wpList P ops Q rest (a.put o.dst undef) (w.alloc (.cells c' ty))) : wpList P ops Q (o :: rest) a (w.alloc (.cells c ty)) :=
  wpList_plain hgd fun K hK => by
    unfold Oper.wp execOp
    simp only [ho, hx, hy, run_storeAt_new w ty c c' hi hs h1, Sem.run_bind, Result.andThen_ok, Sem.run_pure]
    exact hK _ _ h
end Go.Proofs
end

section
namespace Go.Proofs
open Go.RowKit
open Court (refL begF noS struckB nextR hearR hearsR rule setF allN RankOk openN round)
attribute [local go_sem] Oper.semAt_some

def HeardS (S : List (Int × Int)) (sure : Int → Bool) (N : Nat) (f0 f r : Int → Nat) : Prop := ∃ o : List Int, (∀ n ∈ o, 0 ≤ n ∧ n < N) ∧ (f, r) = hearsR S sure (f0, fun _ => 0) o
section
variable {S : List (Int × Int)} {sure : Int → Bool} {N : Nat} {f0 f r : Int → Nat}
theorem HeardS.start (S : List (Int × Int)) (sure : Int → Bool) (N : Nat) (f0 : Int → Nat) : HeardS S sure N f0 f0 (fun _ => 0) := ⟨[], by simp, rfl⟩
theorem HeardS.ok (h : HeardS S sure N f0 f r) (h3 : Court.Three f0) : RankOk S sure N f0 (f, r) := by
  obtain ⟨o, ho, e⟩ := h
  rw [e]
  exact (RankOk.start h3 N).hears o ho
theorem HeardS.rank (h : HeardS S sure N f0 f r) (h3 : Court.Three f0) (n : Int) : r n ≤ N := by
  have h1 : r n + openN N f ≤ N := (h.ok h3).few n
  omega
theorem HeardS.step (h : HeardS S sure N f0 f r) {n : Int} (hn : 0 ≤ n ∧ n < N) : HeardS S sure N f0 (hearR S sure (f, r) n).1 (hearR S sure (f, r) n).2 := by
  obtain ⟨o, ho, e⟩ := h
  refine ⟨o ++ [n], fun k hk => ?_, ?_⟩
  · rcases List.mem_append.1 hk with hk | hk
    · exact ho k hk
    · rw [List.mem_singleton] at hk; subst hk; exact hn
  · unfold hearsR at e ⊢
    rw [List.foldl_append, ← e]
    rfl
theorem HeardS.reach (h : HeardS S sure N f0 f r) : Court.Reach S sure N f0 f := by
  obtain ⟨o, ho, e⟩ := h
  exact ⟨o, ho, by have := Court.hearsR_fst (S := S) (sure := sure) o (f0, fun _ => 0); rw [← e] at this; exact this⟩
end
def allTo (k : Nat) : List Int := (List.range k).map fun (i : Nat) => (i : Int)
theorem allTo_succ (k : Nat) : allTo (k + 1) = allTo k ++ [(k : Int)] := by unfold allTo; rw [List.range_succ, List.map_append]; rfl
theorem hearsR_to (S : List (Int × Int)) (sure : Int → Bool) (x : (Int → Nat) × (Int → Nat)) (k : Nat) : hearsR S sure x (allTo (k + 1)) = hearR S sure (hearsR S sure x (allTo k)) k := by
  unfold hearsR
  rw [allTo_succ, List.foldl_append]
  rfl
theorem round_fst (S : List (Int × Int)) (sure : Int → Bool) (N : Nat) (f r : Int → Nat) : (hearsR S sure (f, r) (allTo N)).1 = round S sure N f := Court.hearsR_fst _ _
theorem round_14 {S : List (Int × Int)} {sure : Int → Bool} {N : Nat} {f : Int → Nat} (hN : N ≤ 14) (h : (i14 (round S sure N f) == i14 f) = true) : round S sure N f = f := by
  funext n
  by_cases hn : 0 ≤ n ∧ n < 14
  · have := i14_eq.1 h n.toNat (by omega)
    rwa [show ((n.toNat : Nat) : Int) = n by omega] at this
  · exact Court.hears_out _ _ _ fun hm => hn (by have := Court.mem_allN.1 hm; omega)

def Awarded (w0 w : World) (d : Nat) (C : CaseL) (a1 a2 : Option Addr) (c1 c2 : Nat) (ref sure : Int → Bool) (N : Nat) (f0 : Int → Nat) (e : Ending) (w' : World) : Prop :=
  e = .returned (.pointer (some ⟨d, 0, none⟩)) ∧ w.grownBy w' (some d) ∧ ∃ f r, DeskAt w0 w' d C a1 a2 c1 c2 ref sure f r ∧ HeardS C.strikes sure N f0 f r ∧ Court.Done C.strikes sure N f

structure AwI (w0 w : World) (d b : Nat) (C : CaseL) (a1 a2 : Option Addr) (c1 c2 : Nat) (ref sure : Int → Bool) (N : Nat) (f0 f1 r1 : Int → Nat) (k : Nat) (W : World) : Prop where
  le : k ≤ N
  was : Blk W b 73 (mnL f1).toArray
  ge : w.heap.size ≤ b
  grown : w.grownBy W (some d)
  desk : DeskAt w0 W d C a1 a2 c1 c2 ref sure (hearsR C.strikes sure (f1, r1) (allTo k)).1 (hearsR C.strikes sure (f1, r1) (allTo k)).2
  heard : HeardS C.strikes sure N f0 (hearsR C.strikes sure (f1, r1) (allTo k)).1 (hearsR C.strikes sure (f1, r1) (allTo k)).2
theorem AwI.step {w0 w W W' : World} {d b : Nat} {C : CaseL} {a1 a2 : Option Addr} {c1 c2 : Nat} {ref sure : Int → Bool} {N : Nat} {f0 f1 r1 : Int → Nat} {k : Nat} (h : AwI w0 w d b C a1 a2 c1 c2 ref sure N f0 f1 r1 k W) (hk : k < N) (hd : d < w.heap.size) {e : Ending}
    (hh : Hearing w0 W d C a1 a2 c1 c2 ref sure (hearR C.strikes sure ((hearsR C.strikes sure (f1, r1) (allTo k)).1, (hearsR C.strikes sure (f1, r1) (allTo k)).2) k).1 (hearR C.strikes sure ((hearsR C.strikes sure (f1, r1) (allTo k)).1, (hearsR C.strikes sure (f1, r1) (allTo k)).2) k).2 e W') : AwI w0 w d b C a1 a2 c1 c2 ref sure N f0 f1 r1 (k + 1) W' := by
  obtain ⟨_, hg, hd'⟩ := hh
  refine ⟨by omega, h.was.grown hg (fun e => by cases e; have := h.ge; omega), h.ge, h.grown.trans hg, ?_, ?_⟩
  · rw [hearsR_to]; exact hd'
  · rw [hearsR_to]; exact h.heard.step (by omega)

set_option maxRecDepth 100000 in
set_option maxHeartbeats 2000000 in
theorem award_any (w0 w : World) (d : Nat) (C : CaseL) (a1 a2 : Option Addr) (c1 c2 : Nat) (ref sure : Int → Bool) (f0 f r : Int → Nat) (hD : DeskAt w0 w d C a1 a2 c1 c2 ref sure f r) (N : Nat) (hN : C.claims = N) (hN14 : N ≤ 14) (hS : ∀ s ∈ C.strikes, 0 ≤ s.1 ∧ s.1 < 14) (h3 : Court.Three f0) (hH : HeardS C.strikes sure N f0 f r) :
    Calls Try.prog 43 #[.pointer (some ⟨d, 0, none⟩)] w (Awarded w0 w d C a1 a2 c1 c2 ref sure N f0) := by
  have HD := Lib.hid hD
  have HH := Lib.hid hH
  have H3 := Lib.hid h3
  have HN := Lib.hid hN
  have HS := Lib.hid hS
  clear hD hH h3 hN hS
  go_enter Try.func43, Try.ntmps43
  go_wp2_with fail
  go_loopg [] (openN N f) (fun gk wr => ∃ f r, openN N f = gk ∧ w.grownBy wr (some d) ∧ DeskAt w0 wr d C a1 a2 c1 c2 ref sure f r ∧ HeardS C.strikes sure N f0 f r)
  case atStart => exact ⟨f, r, rfl, only_refl _ _, HD.out, HH.out⟩
  case round =>
    obtain ⟨f1, r1, hgk, hg, hd1, hh1⟩ := hrel
    have HGK := Lib.hid hgk
    have HG := Lib.hid hg
    have HD1 := Lib.hid hd1
    have HH1 := Lib.hid hh1
    have HR1 := Lib.hid hd1.founds
    have k0 := hd1.k0
    have hlt := hd1.lt
    rw [HN.out] at k0
    clear hgk hg hd1 hh1
    go_upto_block 2 with (first | (refine wpList_load_mid rfl 73 (.tmp 7) rfl d 31 rfl (mnL f1) _ HR1.out Try.underlying73 rfl (by rw [info92, mnL_len]) ?_) | (refine wpList_store_new rfl 73 (.tmp 3) (.tmp 8) rfl rfl rfl (by rw [info92, List.size_toArray, mnL_len]) (by simp [mnL_len]) (all_oneCell_toArray (mnL_one f1)) ?_))
    have HI0 : Hid (AwI w0 w d wr.heap.size C a1 a2 c1 c2 ref sure N f0 f1 r1 0 (wr.alloc (.cells (mnL f1).toArray 73))) := Lib.hid ⟨by omega, Blk.new _ _ _, HG.out.size, only_aft HG.out (Aft.alloc _ _), HD1.out.later (Aft.alloc _ _), HH1.out⟩
    have hdw := HD.out.lt
    generalize (wr.alloc (.cells (mnL f1).toArray 73)) = W2 at *
    generalize wr.heap.size = b at *
    clear k0 hlt
    refine wp_block ?_
    go_loopw [14] (fun i wr => ∃ k : Nat, i = .int .i64 k ∧ AwI w0 w d b C a1 a2 c1 c2 ref sure N f0 f1 r1 k wr) (fun i _ => N - (intOf i).toNat)
    case atStart => exact ⟨0, rfl, HI0.out⟩
    case round =>
      obtain ⟨k, rfl, hi⟩ := hrel
      have hk := hi.le
      have HI := Lib.hid hi
      clear hi
      by_cases hkN : k < N
      · have t1 : decide (k < N) = true := by simpa using hkN
        have HE := Lib.hid (fun (hr : ∀ x, (hearsR C.strikes sure (f1, r1) (allTo k)).2 x ≤ 1000) => hear_any w0 wr d C a1 a2 c1 c2 ref sure _ _ HI.out.desk k (by omega) HS.out hr)
        have HE2 := Lib.hid (HE.out (fun x => by have := HI.out.heard.rank H3.out x; omega))
        go_wp2_with (go_at_call 38; refine HE2.out.mono ?_; rintro e w' hh; have HH2 := Lib.hid (HI.out.step hkN hdw hh); obtain ⟨⟨v, rfl⟩, -, -⟩ := hh)
        exact ⟨⟨k + 1, by go_num, HH2.out⟩, by simp [intOf]; omega⟩
      · have t1 : decide (k < N) = false := by simpa using hkN
        obtain rfl : N = k := by omega
        clear hkN
        go_upto_region 7 with (fail)
        obtain ⟨g, hg⟩ : ∃ g, (hearsR C.strikes sure (f1, r1) (allTo N)).1 = g := ⟨_, rfl⟩
        obtain ⟨s, hs⟩ : ∃ s, (hearsR C.strikes sure (f1, r1) (allTo N)).2 = s := ⟨_, rfl⟩
        have HGR : Hid (round C.strikes sure N f1 = g) := Lib.hid (by rw [← round_fst (r := r1)]; exact hg)
        have hdk := HI.out.desk
        have hhd := HI.out.heard
        rw [hg, hs] at hdk hhd
        have HDK := Lib.hid hdk
        have HHD := Lib.hid hhd
        clear hdk hhd hg hs
        refine wp_region_valsT (by kernel_rfl) 5 28 rfl (by kernel_rfl) (by kernel_rfl) (by kernel_rfl) [.pointer (some ⟨d, 0, none⟩), .pointer (some ⟨d, 0, none⟩), .pointer (some ⟨d, 31, none⟩), .agg (mnL g).toArray, .agg (mnL f1).toArray] rfl (fun _ W => W = wr.drew) (rfl) ?st1 ?fi1
        case st1 =>
          intro i o v ho hv
          match i, ho, hv with
          | 0, ho, hv =>
            cases ho; cases hv
            refine .inl ⟨rfl, fun done a W hd hp hk hw K hK => ?_⟩
            have e0 := hk.same 0 (by decide)
            exact op_val (by simp [go_sem, ev' e0]) (hK _ hw)
          | 1, ho, hv =>
            cases ho; cases hv
            refine .inl ⟨rfl, fun done a W hd hp hk hw K hK => ?_⟩
            have e21 := hk.at_ 0 _ 21 _ rfl (by decide) _ rfl rfl rfl
            exact op_val (by simp [go_sem, ev' e21]) (hK _ hw)
          | 2, ho, hv =>
            cases ho; cases hv
            refine .inl ⟨rfl, fun done a W hd hp hk hw K hK => ?_⟩
            have e22 := hk.at_ 1 _ 22 _ rfl (by decide) _ rfl rfl rfl
            exact op_val (by simp [go_sem, ev' e22]) (hK _ hw)
          | 3, ho, hv =>
            cases ho; cases hv
            refine .inl ⟨rfl, fun done a W hd hp hk hw K hK => ?_⟩
            have e23 := hk.at_ 2 _ 23 _ rfl (by decide) _ rfl rfl rfl
            exact wp_load_mid 73 (.tmp 23) rfl d 31 e23 (mnL g) _ (by rw [hw]; exact (HDK.out.later (Aft.drew _)).founds) Try.underlying73 rfl (by rw [info92, mnL_len]) (hK _ hw)
          | 4, ho, hv =>
            cases ho; cases hv
            refine .inl ⟨rfl, fun done a W hd hp hk hw K hK => ?_⟩
            have e3 := hk.same 3 (by decide)
            exact wp_load_mid 73 (.tmp 3) rfl b 0 e3 (mnL f1) _ (by rw [hw]; exact blk_range (HI.out.was.drew)) Try.underlying73 rfl (by rw [info92, mnL_len]) (hK _ hw)
          | _ + 5, _, hv => cases hv
        intro done W hd hw
        simp only [List.drop_succ_cons, List.drop_zero, List.zip_cons_cons, List.zip_nil_right, putAll]
        simp only [Act.put, List.setIfInBounds_toArray, List.set]
        clear hd
        subst hw
        refine wpList_val (w' := wr.drew) rfl (op_eql_found rfl (f := g) (g := f1) rfl rfl) ?_
        simp only [Act.put, List.setIfInBounds_toArray, List.set]
        cases he : (i14 g == i14 f1)
        · have HNE : Hid (openN N g < gk) := Lib.hid (by
            rw [← HGK.out, ← HGR.out]
            refine Court.round_less fun e => ?_
            rw [HGR.out] at e
            rw [e] at he
            simp at he)
          clear he
          go_wp2_with fail
          go_roundg (openN N g)
          case measure => exact HNE.out
          case rel => exact ⟨g, s, rfl, only_drew HI.out.grown, HDK.out.later (Aft.drew _), HHD.out⟩
        · have HEQ : Hid (g = f1) := Lib.hid (by rw [← HGR.out] at he ⊢; exact round_14 hN14 he)
          clear he
          go_wp2_with fail
          go_ret
          refine ⟨rfl, only_drew HI.out.grown, g, s, HDK.out.later (Aft.drew _), HHD.out, ?_⟩
          rw [HEQ.out]
          exact Court.done_of_round (HGR.out.trans HEQ.out)
end Go.Proofs
end

section
namespace Go.Proofs
open Go.RowKit
open Court (refL begF noS struckB nextR hearR hearsR rule setF allN RankOk openN round award)

def foundL (f : Int → Nat) (N : Nat) : List Int := (List.range N).map fun (i : Nat) => ((f i : Nat) : Int)
theorem foundL_len (f : Int → Nat) (N : Nat) : (foundL f N).length = N := by unfold foundL; rw [List.length_map, List.length_range]
theorem foundL_get (f : Int → Nat) (N : Nat) {i : Nat} (h : i < (foundL f N).length) : (foundL f N)[i] = (f i : Nat) := by simp [foundL]
theorem own_base {w : World} {b b' : Nat} {e : TypeId} {size : Nat} {v : Value} {n : Nat} {xs : List Value} (h : w.ownsRow b e size v n xs) (hb : b' ≤ b) : w.ownsRow b' e size v n xs := by
  refine ⟨h.1, ?_⟩
  rcases h.2 with h2 | ⟨g, cap, cur, h1, hg, h3⟩
  · exact .inl h2
  · exact .inr ⟨g, cap, cur, h1, Nat.le_trans hb hg, h3⟩
def BadL (C : CaseL) (R : List Int) (w : World) (e : Ending) (w' : World) : Prop := e = .returned (.tuple #[.slice none 0 0, .int .i64 (openE C R)]) ∧ Aft w w'
def GoodL (L : List Int) (w : World) (e : Ending) (w' : World) : Prop := ∃ v, e = .returned (.tuple #[v, .int .i64 0]) ∧ w'.ownsRow w.heap.size 3 1 v L.length (L.map (Value.int .i64)) ∧ Aft w w'
theorem DeskAt.foundInts {w0 w : World} {d : Nat} {C : CaseL} {a1 a2 : Option Addr} {c1 c2 : Nat} {ref sure : Int → Bool} {f r : Int → Nat} (h : DeskAt w0 w d C a1 a2 c1 c2 ref sure f r) {N : Nat} (hN : N ≤ 14) : Ints w (some ⟨d, 31, none⟩) (foundL f N) :=
  ⟨by rw [foundL_len]; omega, .inr ⟨d, 31, rfl, h.lt, fun i hi => ⟨_, rfl, rfl, fun j hj => by
    have hj0 : j = 0 := by simp at hj; omega
    subst hj0
    rw [foundL_len] at hi
    rw [foundL_get]
    have := h.found (i := i) (by omega)
    simpa using this⟩⟩⟩
theorem DeskAt.rankInts {w0 w : World} {d : Nat} {C : CaseL} {a1 a2 : Option Addr} {c1 c2 : Nat} {ref sure : Int → Bool} {f r : Int → Nat} (h : DeskAt w0 w d C a1 a2 c1 c2 ref sure f r) {N : Nat} (hN : N ≤ 14) : Ints w (some ⟨d, 45, none⟩) (foundL r N) :=
  ⟨by rw [foundL_len]; omega, .inr ⟨d, 45, rfl, h.lt, fun i hi => ⟨_, rfl, rfl, fun j hj => by
    have hj0 : j = 0 := by simp at hj; omega
    subst hj0
    rw [foundL_len] at hi
    rw [foundL_get]
    have := h.rank (i := i) (by omega)
    simpa using this⟩⟩⟩
theorem openE_facts {C : CaseL} {R : List Int} (h : openE C R = 0) : CaseOk C ∧ (∀ n ∈ R, 0 ≤ n ∧ n < C.claims) ∧ risesB R = true := ⟨caseE_ok (openE_ok h).1, (listedE_ok (openE_ok h).2).1, (listedE_ok (openE_ok h).2).2⟩

set_option maxRecDepth 100000 in
set_option maxHeartbeats 2000000 in
theorem award_bad (C : CaseL) (a1 a2 : Option Addr) (c1 c2 : Nat) (R : List Int) (A : Option Addr) (c : Nat) (w : World) (hC : CRep w C a1 a2) (hA : Ints w A R) (he : openE C R ≠ 0) :
    Calls Try.prog 14 #[(.agg #[.int .i64 C.claims, .slice a1 C.strikes.length c1, .slice a2 C.surveys.length c2]), .slice A R.length c] w (BadL C R w) := by
  have h0 : Aft w (w.alloc (.cells #[.int .i64 C.claims, .slice a1 C.strikes.length c1, .slice a2 C.surveys.length c2] 25)) := Aft.alloc _ _
  have H1 : Hid (∀ W, Aft w W → Calls Try.prog 36 #[(.agg #[.int .i64 C.claims, .slice a1 C.strikes.length c1, .slice a2 C.surveys.length c2]), .slice A R.length c] W fun e w' => e = .returned (.tuple #[.pointer none, .int .i64 (openE C R)]) ∧ Aft W w') := Lib.hid fun W h => opened_bad C a1 a2 c1 c2 R A c W (hC.aft h) (hA.aft h) he
  have H0 := Lib.hid h0
  have t1 : (openE C R != 0) = true := by simpa using he
  clear hC hA h0 he
  unfold BadL
  generalize openE C R = E at *
  go_enter Try.func14, Try.ntmps14
  go_wp2_with (go_at_call 36; refine (H1.out _ H0.out).mono ?_; rintro e w' ⟨rfl, u, rfl⟩)
  go_ret2
  exact ⟨rfl, H0.out.then_lat _⟩

set_option maxRecDepth 100000 in
set_option maxHeartbeats 2000000 in
theorem award_good (C : CaseL) (a1 a2 : Option Addr) (c1 c2 : Nat) (R : List Int) (A : Option Addr) (c : Nat) (w : World) (hC : CRep w C a1 a2) (hA : Ints w A R) (he : openE C R = 0) (N : Nat) (hN : C.claims = N) :
    Calls Try.prog 14 #[(.agg #[.int .i64 C.claims, .slice a1 C.strikes.length c1, .slice a2 C.surveys.length c2]), .slice A R.length c] w (GoodL (foundL (award C.strikes noS N (begF (refL R))) N) w) := by
  obtain ⟨hok, -, -⟩ := openE_facts he
  have hN14 : N ≤ 14 := by have := hok.n2; omega
  have HS := Lib.hid (show ∀ s ∈ C.strikes, 0 ≤ s.1 ∧ s.1 < 14 from fun s hs => by have := (hok.ins s hs).1; have := hok.n2; omega)
  have h0 : Aft w (w.alloc (.cells #[.int .i64 C.claims, .slice a1 C.strikes.length c1, .slice a2 C.surveys.length c2] 25)) := Aft.alloc _ _
  have H1 : Hid (∀ W, Aft w W → Calls Try.prog 36 #[(.agg #[.int .i64 C.claims, .slice a1 C.strikes.length c1, .slice a2 C.surveys.length c2]), .slice A R.length c] W (Opened C a1 a2 c1 c2 R W)) := Lib.hid fun W h => opened_good C a1 a2 c1 c2 R A c W (hC.aft h) (hA.aft h) he
  have H0 := Lib.hid h0
  have HB := Lib.hid (Blk.new w 25 #[.int .i64 C.claims, .slice a1 C.strikes.length c1, .slice a2 C.surveys.length c2])
  have HN := Lib.hid hN
  clear hC hA h0 he hok hN
  go_enter Try.func14, Try.ntmps14
  go_upto_region 4 with (go_at_call 36; refine (H1.out _ H0.out).mono ?_; rintro e w1 ⟨d, rfl, hd⟩; have HD := Lib.hid hd; clear hd)
  have HA1 : Hid (Aft w w1) := Lib.hid (H0.out.trans HD.out.aft)
  have hdw : w.heap.size < d := by have := HD.out.base; simp at this; omega
  have HB1 := Lib.hid (HB.out.aft HD.out.aft)
  generalize (w.alloc (.cells #[.int .i64 C.claims, .slice a1 C.strikes.length c1, .slice a2 C.surveys.length c2] 25)) = W0 at *
  have HAW := Lib.hid (award_any W0 w1.drew d C a1 a2 c1 c2 (refL R) noS (begF (refL R)) (begF (refL R)) (fun _ => 0) (HD.out.later (Aft.drew _)) N HN.out hN14 HS.out (Court.begF_three _) (HeardS.start _ _ _ _))
  have z0 : w1.drew.cell? ⟨w.heap.size, 0, none⟩ = some (.int .i64 N) := by rw [← HN.out]; exact HB1.out.drew.cell 0
  have hlt0 : w.heap.size < w1.drew.heap.size := HB1.out.drew.lt
  refine wp_region_valsT (by kernel_rfl) 6 25 rfl (by kernel_rfl) (by kernel_rfl) (by kernel_rfl) [.pointer (some ⟨d, 0, none⟩), .pointer (some ⟨d, 0, none⟩), .pointer (some ⟨d, 0, none⟩), .pointer (some ⟨d, 31, none⟩), .pointer (some ⟨w.heap.size, 0, none⟩), .int .i64 N] rfl (fun done W => w1.drew.grownBy W (some d) ∧ (done 1 = true → ∃ f r, DeskAt W0 W d C a1 a2 c1 c2 (refL R) noS f r ∧ HeardS C.strikes noS N (begF (refL R)) f r ∧ Court.Done C.strikes noS N f) ∧ (done 1 = false → W = w1.drew)) (⟨only_refl _ _, (fun h => by cases h), fun _ => rfl⟩) ?st1 ?fi1
  case st1 =>
    intro i o v ho hv
    match i, ho, hv with
    | 0, ho, hv =>
      cases ho; cases hv
      refine .inl ⟨rfl, fun done a W hd hp hk hw K hK => ?_⟩
      have e6 := hk.same 6 (by decide)
      exact op_val (by simp [go_sem, ev' e6]) (hK _ hw)
    | 1, ho, hv =>
      cases ho; cases hv
      refine .inl ⟨rfl, fun done a W hd hp hk hw K hK => ?_⟩
      have e17 := hk.at_ 0 _ 17 _ rfl (by decide) _ rfl rfl rfl
      have e1 : W = w1.drew := hw.2.2 hd
      subst e1
      refine op_callN rfl rfl rfl _ rfl (vs := #[.pointer (some ⟨d, 0, none⟩)]) (by simp [e17]) HAW.out ?_
      rintro e w' ⟨rfl, hg, hx⟩
      exact ⟨_, rfl, hK _ ⟨hg, (fun _ => hx), fun h => by cases h⟩⟩
    | 2, ho, hv =>
      cases ho; cases hv
      refine .inl ⟨rfl, fun done a W hd hp hk hw K hK => ?_⟩
      have e18 := hk.at_ 1 _ 18 _ rfl (by decide) _ rfl rfl rfl
      exact op_val (by simp [go_sem, ev' e18]) (hK _ hw)
    | 3, ho, hv =>
      cases ho; cases hv
      refine .inl ⟨rfl, fun done a W hd hp hk hw K hK => ?_⟩
      have e19 := hk.at_ 2 _ 19 _ rfl (by decide) _ rfl rfl rfl
      exact op_val (by simp [go_sem, ev' e19]) (hK _ hw)
    | 4, ho, hv =>
      cases ho; cases hv
      refine .inl ⟨rfl, fun done a W hd hp hk hw K hK => ?_⟩
      have e2 := hk.same 2 (by decide)
      exact op_val (by simp [go_sem, ev' e2]) (hK _ hw)
    | 5, ho, hv =>
      cases ho; cases hv
      refine .inl ⟨rfl, fun done a W hd hp hk hw K hK => ?_⟩
      have e21 := hk.at_ 4 _ 21 _ rfl (by decide) _ rfl rfl rfl
      exact op_val (by simp [go_sem, ev' e21, cell_grown9 hw.1 hlt0 (by simp; omega), z0]) (hK _ hw)
    | _ + 6, _, hv => cases hv
  intro done W hd hw
  simp only [List.drop_succ_cons, List.drop_zero, List.zip_cons_cons, List.zip_nil_right, putAll]
  simp only [Act.put, List.setIfInBounds_toArray, List.set]
  obtain ⟨f, r, hdk, hhd, hdone⟩ := hw.2.1 (hd 1 (by decide))
  have HF : Hid (f = award C.strikes noS N (begF (refL R))) := Lib.hid (Court.award_eq (Court.begF_three _) hhd.reach hdone)
  have HHD := Lib.hid hhd
  have HDK := Lib.hid hdk
  have HCL := Lib.hid (clone84 (some ⟨d, 31, none⟩) (foundL f N) 14 W (hdk.foundInts hN14))
  rw [foundL_len] at HCL
  have HG := Lib.hid hw.1
  have i1 : (0 : Int) ≤ (N : Int) ∧ (N : Int) ≤ 14 := by omega
  clear hw hdk hhd hdone hd
  go_wp2_with (go_at_call 39; refine HCL.out.mono ?_; rintro e w9 ⟨v, rfl, hown, ha9⟩; have HO := Lib.hid hown; have HA9 := Lib.hid ha9; clear hown ha9)
  go_ret2
  have hbig : Aft w w9 := ((HA1.out.trans (Aft.drew _)).grown HG.out (fun k e => by cases e; omega)).trans HA9.out
  have hsz := (HA1.out.trans (Aft.drew _)).size
  have hsz2 := HG.out.size
  refine ⟨v, rfl, ?_, hbig⟩
  rw [foundL_len]
  have := HO.out
  rw [foundL_len, HF.out] at this
  exact own_base this (by omega)

def GoodR (S : List (Int × Int)) (sure : Int → Bool) (N : Nat) (f0 : Int → Nat) (w : World) (e : Ending) (w' : World) : Prop := ∃ r, HeardS S sure N f0 (award S sure N f0) r ∧ GoodL (foundL r N) w e w'

set_option maxRecDepth 100000 in
set_option maxHeartbeats 2000000 in
theorem ranks_bad (C : CaseL) (a1 a2 : Option Addr) (c1 c2 : Nat) (R : List Int) (A : Option Addr) (c : Nat) (w : World) (hC : CRep w C a1 a2) (hA : Ints w A R) (he : openE C R ≠ 0) :
    Calls Try.prog 16 #[(.agg #[.int .i64 C.claims, .slice a1 C.strikes.length c1, .slice a2 C.surveys.length c2]), .slice A R.length c] w (BadL C R w) := by
  have h0 : Aft w (w.alloc (.cells #[.int .i64 C.claims, .slice a1 C.strikes.length c1, .slice a2 C.surveys.length c2] 25)) := Aft.alloc _ _
  have H1 : Hid (∀ W, Aft w W → Calls Try.prog 36 #[(.agg #[.int .i64 C.claims, .slice a1 C.strikes.length c1, .slice a2 C.surveys.length c2]), .slice A R.length c] W fun e w' => e = .returned (.tuple #[.pointer none, .int .i64 (openE C R)]) ∧ Aft W w') := Lib.hid fun W h => opened_bad C a1 a2 c1 c2 R A c W (hC.aft h) (hA.aft h) he
  have H0 := Lib.hid h0
  have t1 : (openE C R != 0) = true := by simpa using he
  clear hC hA h0 he
  unfold BadL
  generalize openE C R = E at *
  go_enter Try.func16, Try.ntmps16
  go_wp2_with (go_at_call 36; refine (H1.out _ H0.out).mono ?_; rintro e w' ⟨rfl, u, rfl⟩)
  go_ret2
  exact ⟨rfl, H0.out.then_lat _⟩

set_option maxRecDepth 100000 in
set_option maxHeartbeats 2000000 in
theorem ranks_good (C : CaseL) (a1 a2 : Option Addr) (c1 c2 : Nat) (R : List Int) (A : Option Addr) (c : Nat) (w : World) (hC : CRep w C a1 a2) (hA : Ints w A R) (he : openE C R = 0) (N : Nat) (hN : C.claims = N) :
    Calls Try.prog 16 #[(.agg #[.int .i64 C.claims, .slice a1 C.strikes.length c1, .slice a2 C.surveys.length c2]), .slice A R.length c] w (GoodR C.strikes noS N (begF (refL R)) w) := by
  obtain ⟨hok, -, -⟩ := openE_facts he
  have hN14 : N ≤ 14 := by have := hok.n2; omega
  have HS := Lib.hid (show ∀ s ∈ C.strikes, 0 ≤ s.1 ∧ s.1 < 14 from fun s hs => by have := (hok.ins s hs).1; have := hok.n2; omega)
  have h0 : Aft w (w.alloc (.cells #[.int .i64 C.claims, .slice a1 C.strikes.length c1, .slice a2 C.surveys.length c2] 25)) := Aft.alloc _ _
  have H1 : Hid (∀ W, Aft w W → Calls Try.prog 36 #[(.agg #[.int .i64 C.claims, .slice a1 C.strikes.length c1, .slice a2 C.surveys.length c2]), .slice A R.length c] W (Opened C a1 a2 c1 c2 R W)) := Lib.hid fun W h => opened_good C a1 a2 c1 c2 R A c W (hC.aft h) (hA.aft h) he
  have H0 := Lib.hid h0
  have HB := Lib.hid (Blk.new w 25 #[.int .i64 C.claims, .slice a1 C.strikes.length c1, .slice a2 C.surveys.length c2])
  have HN := Lib.hid hN
  clear hC hA h0 he hok hN
  go_enter Try.func16, Try.ntmps16
  go_upto_region 4 with (go_at_call 36; refine (H1.out _ H0.out).mono ?_; rintro e w1 ⟨d, rfl, hd⟩; have HD := Lib.hid hd; clear hd)
  have HA1 : Hid (Aft w w1) := Lib.hid (H0.out.trans HD.out.aft)
  have hdw : w.heap.size < d := by have := HD.out.base; simp at this; omega
  have HB1 := Lib.hid (HB.out.aft HD.out.aft)
  generalize (w.alloc (.cells #[.int .i64 C.claims, .slice a1 C.strikes.length c1, .slice a2 C.surveys.length c2] 25)) = W0 at *
  have HAW := Lib.hid (award_any W0 w1.drew d C a1 a2 c1 c2 (refL R) noS (begF (refL R)) (begF (refL R)) (fun _ => 0) (HD.out.later (Aft.drew _)) N HN.out hN14 HS.out (Court.begF_three _) (HeardS.start _ _ _ _))
  have z0 : w1.drew.cell? ⟨w.heap.size, 0, none⟩ = some (.int .i64 N) := by rw [← HN.out]; exact HB1.out.drew.cell 0
  have hlt0 : w.heap.size < w1.drew.heap.size := HB1.out.drew.lt
  refine wp_region_valsT (by kernel_rfl) 6 25 rfl (by kernel_rfl) (by kernel_rfl) (by kernel_rfl) [.pointer (some ⟨d, 0, none⟩), .pointer (some ⟨d, 0, none⟩), .pointer (some ⟨d, 0, none⟩), .pointer (some ⟨d, 45, none⟩), .pointer (some ⟨w.heap.size, 0, none⟩), .int .i64 N] rfl (fun done W => w1.drew.grownBy W (some d) ∧ (done 1 = true → ∃ f r, DeskAt W0 W d C a1 a2 c1 c2 (refL R) noS f r ∧ HeardS C.strikes noS N (begF (refL R)) f r ∧ Court.Done C.strikes noS N f) ∧ (done 1 = false → W = w1.drew)) (⟨only_refl _ _, (fun h => by cases h), fun _ => rfl⟩) ?st2 ?fi2
  case st2 =>
    intro i o v ho hv
    match i, ho, hv with
    | 0, ho, hv =>
      cases ho; cases hv
      refine .inl ⟨rfl, fun done a W hd hp hk hw K hK => ?_⟩
      have e6 := hk.same 6 (by decide)
      exact op_val (by simp [go_sem, ev' e6]) (hK _ hw)
    | 1, ho, hv =>
      cases ho; cases hv
      refine .inl ⟨rfl, fun done a W hd hp hk hw K hK => ?_⟩
      have e17 := hk.at_ 0 _ 17 _ rfl (by decide) _ rfl rfl rfl
      have e1 : W = w1.drew := hw.2.2 hd
      subst e1
      refine op_callN rfl rfl rfl _ rfl (vs := #[.pointer (some ⟨d, 0, none⟩)]) (by simp [e17]) HAW.out ?_
      rintro e w' ⟨rfl, hg, hx⟩
      exact ⟨_, rfl, hK _ ⟨hg, (fun _ => hx), fun h => by cases h⟩⟩
    | 2, ho, hv =>
      cases ho; cases hv
      refine .inl ⟨rfl, fun done a W hd hp hk hw K hK => ?_⟩
      have e18 := hk.at_ 1 _ 18 _ rfl (by decide) _ rfl rfl rfl
      exact op_val (by simp [go_sem, ev' e18]) (hK _ hw)
    | 3, ho, hv =>
      cases ho; cases hv
      refine .inl ⟨rfl, fun done a W hd hp hk hw K hK => ?_⟩
      have e19 := hk.at_ 2 _ 19 _ rfl (by decide) _ rfl rfl rfl
      exact op_val (by simp [go_sem, ev' e19]) (hK _ hw)
    | 4, ho, hv =>
      cases ho; cases hv
      refine .inl ⟨rfl, fun done a W hd hp hk hw K hK => ?_⟩
      have e2 := hk.same 2 (by decide)
      exact op_val (by simp [go_sem, ev' e2]) (hK _ hw)
    | 5, ho, hv =>
      cases ho; cases hv
      refine .inl ⟨rfl, fun done a W hd hp hk hw K hK => ?_⟩
      have e21 := hk.at_ 4 _ 21 _ rfl (by decide) _ rfl rfl rfl
      exact op_val (by simp [go_sem, ev' e21, cell_grown9 hw.1 hlt0 (by simp; omega), z0]) (hK _ hw)
    | _ + 6, _, hv => cases hv
  intro done W hd hw
  simp only [List.drop_succ_cons, List.drop_zero, List.zip_cons_cons, List.zip_nil_right, putAll]
  simp only [Act.put, List.setIfInBounds_toArray, List.set]
  obtain ⟨f, r, hdk, hhd, hdone⟩ := hw.2.1 (hd 1 (by decide))
  have HF : Hid (f = award C.strikes noS N (begF (refL R))) := Lib.hid (Court.award_eq (Court.begF_three _) hhd.reach hdone)
  have HHD := Lib.hid hhd
  have HDK := Lib.hid hdk
  have HCL := Lib.hid (clone84 (some ⟨d, 45, none⟩) (foundL r N) 14 W (hdk.rankInts hN14))
  rw [foundL_len] at HCL
  have HG := Lib.hid hw.1
  have i1 : (0 : Int) ≤ (N : Int) ∧ (N : Int) ≤ 14 := by omega
  clear hw hdk hhd hdone hd
  go_wp2_with (go_at_call 39; refine HCL.out.mono ?_; rintro e w9 ⟨v, rfl, hown, ha9⟩; have HO := Lib.hid hown; have HA9 := Lib.hid ha9; clear hown ha9)
  go_ret2
  have hbig : Aft w w9 := ((HA1.out.trans (Aft.drew _)).grown HG.out (fun k e => by cases e; omega)).trans HA9.out
  have hsz := (HA1.out.trans (Aft.drew _)).size
  have hsz2 := HG.out.size
  have hh := HHD.out
  rw [HF.out] at hh
  refine ⟨r, hh, v, rfl, ?_, hbig⟩
  rw [foundL_len]
  have := HO.out
  rw [foundL_len] at this
  exact own_base this (by omega)
end Go.Proofs
end

section
namespace Go.Proofs
open Go.RowKit

theorem ty41 : SliceTy Try.prog 23 26 1 24 := .mk' (z := .slice none 0 0) Try.underlying23 (by kernel_rfl) rfl (by decide)

structure OwnLs (W : World) (base : Nat) (v : Value) (vs : List Value) (ls : List (List Int)) : Prop where
  own : W.ownsRow base 26 1 v ls.length vs
  rows : ∀ i, (h : i < ls.length) → (h' : i < vs.length) → W.ownsRow base 3 1 vs[i] ls[i].length (ls[i].map (Value.int .i64))
  apart : ∀ i, (h : i < vs.length) → ∀ g, vs[i].ownBlock = some g → v.ownBlock ≠ some g ∧ ∀ j, (h' : j < vs.length) → j ≠ i → vs[j].ownBlock ≠ some g

def OwnLists (W : World) (base : Nat) (v : Value) (ls : List (List Int)) : Prop := ∃ vs, OwnLs W base v vs ls

section
variable {W W' : World} {base : Nat} {v : Value} {vs : List Value} {ls : List (List Int)}
theorem OwnLs.len (h : OwnLs W base v vs ls) : vs.length = ls.length := by simpa using h.own.1
theorem OwnLs.nil : OwnLs W base (.slice none 0 0) [] [] := ⟨World.ownsRow_nil _ _ 26 1, fun i h => by simp at h, fun i h => by simp at h⟩
theorem OwnLs.aft (h : OwnLs W base v vs ls) (ha : Aft W W') : OwnLs W' base v vs ls :=
  ⟨own_aft h.own ha, fun i hi hi' => own_aft (h.rows i hi hi') ha, h.apart⟩
theorem OwnLists.aft (h : OwnLists W base v ls) (ha : Aft W W') : OwnLists W' base v ls := let ⟨vs, h⟩ := h; ⟨vs, h.aft ha⟩
theorem OwnLs.mono (h : OwnLs W base v vs ls) {b : Nat} (hb : b ≤ base) : OwnLs W b v vs ls :=
  ⟨World.ownsRow.mono h.own hb, fun i hi hi' => World.ownsRow.mono (h.rows i hi hi') hb, h.apart⟩
theorem OwnLists.mono (h : OwnLists W base v ls) {b : Nat} (hb : b ≤ base) : OwnLists W b v ls := let ⟨vs, h⟩ := h; ⟨vs, h.mono hb⟩

theorem OwnLs.push (h : OwnLs W base v vs ls) {W2 W3 : World} (ha : Aft W W2) {r v' : Value} {l : List Int} (hr : W2.ownsRow W.heap.size 3 1 r l.length (l.map (Value.int .i64))) (hbase : base ≤ W.heap.size)
    (hown : W3.ownsRow base 26 1 v' (ls.length + 1) (vs ++ [r])) (hg : W2.grownBy W3 v.ownBlock) (hat : v'.ownBlock = v.ownBlock ∨ v'.ownBlock = some W2.heap.size) : OwnLs W3 base v' (vs ++ [r]) (ls ++ [l]) := by
  have hlen := h.len
  have old : ∀ i, (hi : i < vs.length) → ∀ g, vs[i].ownBlock = some g → g < W.heap.size := fun i hi g hg => ((h.rows i (by omega) hi).lt g hg).2
  have vold : ∀ g, v.ownBlock = some g → g < W.heap.size := fun g hg => (h.own.lt g hg).2
  have rnew : ∀ g, r.ownBlock = some g → W.heap.size ≤ g ∧ g < W2.heap.size := fun g hg => hr.lt g hg
  have hs := ha.size
  refine ⟨by simpa using hown, fun i hi hi' => ?_, fun i hi g hgi => ?_⟩
  · by_cases e : i < vs.length
    · rw [List.getElem_append_left e]
      have e' : i < ls.length := by omega
      simp only [List.getElem_append_left e']
      refine (own_aft (h.rows i e' e) ha).kept hg ?_
      cases hb : vs[i].ownBlock with
      | none => left; rfl
      | some g => right; intro e2; exact (h.apart i e g hb).1 e2.symm
    · have e2 : i = vs.length := by simp at hi'; omega
      subst e2
      have e3 : vs.length = ls.length := hlen
      rw [List.getElem_append_right (Nat.le_refl _)]
      simp only [Nat.sub_self, List.getElem_cons_zero]
      have : (ls ++ [l])[vs.length]'hi = l := by simp [e3]
      rw [this]
      refine World.ownsRow.mono (hr.kept hg ?_) hbase
      cases hb : r.ownBlock with
      | none => left; rfl
      | some g => right; intro e2; have := vold g e2.symm; have := (rnew g hb).1; omega
  · by_cases e : i < vs.length
    · rw [List.getElem_append_left e] at hgi
      have hlt := old i e g hgi
      refine ⟨fun e2 => ?_, fun j hj hne => ?_⟩
      · rcases hat with h1 | h1
        · rw [h1] at e2; exact (h.apart i e g hgi).1 e2
        · rw [h1] at e2; cases e2; omega
      · by_cases ej : j < vs.length
        · rw [List.getElem_append_left ej]; exact (h.apart i e g hgi).2 j ej hne
        · have e2 : j = vs.length := by simp at hj; omega
          subst e2
          rw [List.getElem_append_right (Nat.le_refl _)]
          simp only [Nat.sub_self, List.getElem_cons_zero]
          intro e2; have := (rnew g e2).1; omega
    · have e2 : i = vs.length := by simp at hi; omega
      subst e2
      rw [List.getElem_append_right (Nat.le_refl _)] at hgi
      simp only [Nat.sub_self, List.getElem_cons_zero] at hgi
      have := rnew g hgi
      refine ⟨fun e2 => ?_, fun j hj hne => ?_⟩
      · rcases hat with h1 | h1
        · rw [h1] at e2; have := vold g e2; omega
        · rw [h1] at e2; cases e2; omega
      · have ej : j < vs.length := by simp at hj; omega
        rw [List.getElem_append_left ej]
        intro e2; have := old j ej g e2; omega

theorem OwnLs.lists (h : OwnLs W base v vs ls) (hl : ls.length ≤ 17592186043904) (hr : ∀ l ∈ ls, l.length ≤ 17592186043904) : ∃ A c, v = .slice A ls.length c ∧ ls.length ≤ c ∧ Lists W A ls := by
  rcases h.own.2 with ⟨rfl, h0⟩ | ⟨g, cap, cur, rfl, hg, hh, hc, hm, hs, ht⟩
  · have : ls = [] := List.eq_nil_of_length_eq_zero h0
    subst this
    exact ⟨none, 0, rfl, Nat.le_refl _, by simp, .inl rfl⟩
  · refine ⟨_, cap, rfl, hc, by omega, .inr ⟨g, 0, rfl, (Array.getElem?_eq_some_iff.1 hh).1, fun i hi => ?_⟩⟩
    have hiv : i < vs.length := by rw [h.len]; exact hi
    obtain ⟨A, c, e, _, hi2⟩ := own_ints (h.rows i hi hiv) (hr _ (List.getElem_mem hi))
    refine ⟨[vs[i]], rfl, ⟨A, c, by rw [e], hi2⟩, fun j hj => ?_⟩
    have := h.own.cells (g := g) rfl i vs[i] (by simp [hiv])
    rw [Addr.add_lit] at this
    simp at hj
    subst hj
    simpa using this
theorem OwnLists.lists (h : OwnLists W base v ls) (hl : ls.length ≤ 17592186043904) (hr : ∀ l ∈ ls, l.length ≤ 17592186043904) : ∃ A c, v = .slice A ls.length c ∧ ls.length ≤ c ∧ Lists W A ls := let ⟨_, h⟩ := h; h.lists hl hr
end

theorem wpList_app_list {w : World} {ops : Array Oper} {rest : List Oper} {o : Oper} {a : Act} {Q : Exit → Act → World → Prop}
    (hgd : o.guard = none) (s x : Operand) (ho : o.op = .call { callee := .builtin .append, args := #[s, x], argTypes := #[23, 23] })
    {base : Nat} {v : Value} {vs : List Value} {ls : List (List Int)} {W : World} (h : OwnLs W base v vs ls) (hbase : base ≤ W.heap.size) (hs : a.eval s = v)
    {r : Value} {l : List Int} {c : Nat} {b : Nat} (hx : a.eval x = .slice (some ⟨b, 0, none⟩) 1 c) (hb : w.cell? ⟨b, 0, none⟩ = some r) (h1 : r.oneCell' = true)
    (ha : Aft W w) (hr : w.ownsRow W.heap.size 3 1 r l.length (l.map (Value.int .i64))) (hl : ls.length ≤ 1000000)
    (hn : ∀ v' vs' w', OwnLs w' base v' vs' (ls ++ [l]) → w.grownBy w' v.ownBlock → wpList Try.prog ops Q rest (a.put o.dst v') w') : wpList Try.prog ops Q (o :: rest) a w := by
  obtain ⟨ht, ⟨i, z, hi, hz, hsize, hby, hzs⟩, hsz⟩ := ty41
  refine wpList_append_own_at (w := w) hgd s x 23 ho base 26 i z 1 24 ht hi hz hsize hby hzs hsz v ls.length vs hs (own_aft h.own ha) ⟨b, 0, none⟩ 1 c [r] hx rfl (fun j u hj => ?_) (fun u hu => by rw [List.mem_singleton] at hu; subst hu; exact h1)
    (by unfold maxLen; omega) (by omega) (Nat.le_trans hbase ha.size) fun v' w' h2 h3 _ h5 => hn v' _ w' (h.push ha hr hbase h2 h3 h5) h3
  match j, hj with
  | 0, hj => simp at hj; subst hj; rw [Addr.add_lit]; simpa using hb



theorem own_cell1 {w : World} {base : Nat} {v : Value} {l : List Int} (h : w.ownsRow base 3 1 v l.length (l.map (Value.int .i64))) : v.oneCell' = true := by
  rcases h.2 with ⟨rfl, _⟩ | ⟨g, cap, cur, rfl, _⟩ <;> rfl
end Go.Proofs
end

section
namespace Go.Proofs
open Go.RowKit

theorem cell_new1 (w : World) (v : Value) (t : TypeId) : (w.alloc (.cells #[v] t)).cell? ⟨w.heap.size, 0, none⟩ = some v := by simp

theorem wpList_push {w : World} {ops : Array Oper} {rest : List Oper} {o : Oper} {a : Act} {Q : Exit → Act → World → Prop}
    (hgd : o.guard = none) (s x : Operand) (ho : o.op = .call { callee := .builtin .append, args := #[s, x], argTypes := #[26, 26] })
    {base : Nat} {v : Value} {l : List Int} (hown : w.ownsRow base 3 1 v l.length (l.map (Value.int .i64))) (hbase : base ≤ w.heap.size) (hs : a.eval s = v)
    {y : Int} {c : Nat} {b : Nat} (hx : a.eval x = .slice (some ⟨b, 0, none⟩) 1 c) (hb : w.cell? ⟨b, 0, none⟩ = some (.int .i64 y)) (hl : l.length ≤ 1000000)
    (hn : ∀ v' w', w'.ownsRow base 3 1 v' (l ++ [y]).length ((l ++ [y]).map (Value.int .i64)) → w.grownBy w' v.ownBlock → wpList Try.prog ops Q rest (a.put o.dst v') w') : wpList Try.prog ops Q (o :: rest) a w := by
  refine wpList_app_at ty24 hgd s x ho hbase hs hown hx (news := [.int .i64 y]) rfl (by intro h; cases h) (fun ad e j u h => ?_) (one_int y) (by omega) (by decide) fun v' w' h1 h2 => hn v' w' (by simpa using h1) h2
  cases e
  match j, h with
  | 0, h => simp at h; subst h; rw [Addr.add_lit]; simpa using hb

end Go.Proofs
end
