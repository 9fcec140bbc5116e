/- Own texts, merged: CtPr CtRk CtQr CtGr CtEq. -/
import Derived.Test.YtbchfakfdikkjaaGreatF01
import Derived.Test.YtbchfakfdikkjaaGreatH02
import Derived.Test.YtbchfakfdikkjaaGreatH03
import Derived.Test.YtbchfakfdikkjaaGreatP17
import Derived.Test.YtbchfakfdikkjaaGreatW01
import Derived.ProofKit
import Derived.Deep.Slices
import Derived.Deep.Strs
import Derived.ChangeArms
import Derived.OpenShut
set_option linter.unusedSimpArgs false
set_option linter.unusedVariables false
set_option linter.unnecessarySimpa false
section
namespace Go.Proofs
open Go.RowKit
open Court (refL begF noS award FewIs winB)

def PairR (L : List Int) (E : Int) (w : World) (e : Ending) (w' : World) : Prop := ∃ A c, e = .returned (.tuple #[.slice A L.length c, .int .i64 E]) ∧ Ints w' A L ∧ Aft w w'
theorem PairR.bad {E : Int} {w : World} {e : Ending} {w' : World} (h : BadS E w e w') : PairR [] E w e w' := ⟨none, 0, h.1, ints_none w', h.2⟩
theorem PairR.goodI {L : List Int} {w : World} {e : Ending} {w' : World} (h : GoodI L w e w') : PairR L 0 w e w' := h
theorem PairR.goodL {L : List Int} {w : World} {e : Ending} {w' : World} (hl : L.length ≤ 1000000) (h : GoodL L w e w') : PairR L 0 w e w' := by
  obtain ⟨v, rfl, ho, ha⟩ := h
  obtain ⟨A, c, rfl, _, hi⟩ := own_ints ho (by omega)
  exact ⟨A, c, rfl, hi, ha⟩
theorem PairR.made {L : List Int} {w : World} {e : Ending} {w' : World} (hl : L.length ≤ 1000000) (h : MadeE L w e w') : PairR L 0 w e w' := by
  obtain ⟨g, rfl, _, hb, ha⟩ := h
  exact ⟨_, _, rfl, ivs_ints hb (by omega), ha⟩
theorem case_nat {C : CaseL} (h : caseE C = 0) : ∃ N : Nat, ∃ S T, C = ⟨N, S, T⟩ ∧ 1 ≤ N ∧ N ≤ 14 := by
  have hok := caseE_ok h
  obtain ⟨n, S, T⟩ := C
  have h1 := hok.n1
  have h2 := hok.n2
  dsimp only at h1 h2
  obtain ⟨N, rfl⟩ := Int.eq_ofNat_of_zero_le (show 0 ≤ n by omega)
  exact ⟨N, S, T, rfl, by omega, by omega⟩
theorem idxL_ext {p q : Nat → Bool} {k m : Nat} (hm : k ≤ m) (h : ∀ i, i < k → p i = q i) (h2 : ∀ i, k ≤ i → q i = false) : idxL q m = idxL p k := by
  refine Court.sorted_ext (idxL_sorted _ _) (idxL_sorted _ _) fun x => ?_
  rw [mem_idxL, mem_idxL]
  constructor
  · rintro ⟨⟨h0, h1⟩, h3⟩
    by_cases hx : x.toNat < k
    · exact ⟨⟨h0, by omega⟩, by rw [h _ hx]; exact h3⟩
    · rw [h2 _ (by omega)] at h3
      cases h3
  · rintro ⟨⟨h0, h1⟩, h3⟩
    exact ⟨⟨h0, by omega⟩, by rw [← h _ (by omega)]; exact h3⟩

theorem decides_pair (C : CaseL) (s : Int) : ∃ (L : List Int) (E : Int),
    (∀ A1 A2 k1 k2 X, CRep X C A1 A2 → Calls Tryz.prog 15 #[.agg #[.int .i64 C.claims, .slice A1 C.strikes.length k1, .slice A2 C.surveys.length k2], .int .i64 s] X (PairR L E X)) ∧
    (∀ A1 A2 k1 k2 X, CRep X C A1 A2 → Calls Tryz.prog 16 #[.agg #[.int .i64 C.claims, .slice A1 C.strikes.length k1, .slice A2 C.surveys.length k2], .int .i64 s] X (PairR L E X)) := by
  by_cases he : decidingE C s = 0
  · have he2 := he
    unfold decidingE at he2
    by_cases h1 : caseE C = 0
    · rw [if_pos h1] at he2
      have hf : fromB s 0 ((C.surveys.length : Int) - 1) = true := by
        cases h : fromB s 0 ((C.surveys.length : Int) - 1)
        · rw [h] at he2; cases he2
        · rfl
      obtain ⟨n, rfl⟩ := Int.eq_ofNat_of_zero_le (fromB_iff.1 hf).1
      obtain ⟨N, S, T, rfl, hN1, hN14⟩ := case_nat h1
      refine ⟨idxL (fun (i : Nat) => decT ⟨N, S, T⟩ (T.getD n []) N (2 ^ (T.getD n []).length) i) N, 0, fun A1 A2 k1 k2 X hX => ?_, fun A1 A2 k1 k2 X hX => ?_⟩
      · have h := decides15_good ⟨N, S, T⟩ A1 A2 k1 k2 n X hX he
        have e : idxL (fun (i : Nat) => decidesB ⟨N, S, T⟩ n i) 14 = idxL (fun (i : Nat) => decT ⟨N, S, T⟩ (T.getD n []) N (2 ^ (T.getD n []).length) i) N := by
          refine idxL_ext hN14 (fun i _ => rfl) fun i hi => ?_
          show decT ⟨N, S, T⟩ (T.getD n []) (N : Int).toNat (2 ^ (T.getD n []).length) i = false
          unfold decT
          rw [decide_eq_false (by omega)]
          rfl
        rw [e] at h
        exact h.mono fun e w' h => PairR.goodI h
      · exact (decidesTop_good N S T A1 A2 k1 k2 n X hX he).mono fun e w' h => PairR.goodL (by have := idxL_len (fun (i : Nat) => decT ⟨N, S, T⟩ (T.getD n []) N (2 ^ (T.getD n []).length) i) N; omega) h
    · rw [if_neg h1] at he2
      exact absurd he2 h1
  · exact ⟨[], decidingE C s, fun A1 A2 k1 k2 X hX => (decides15_bad C A1 A2 k1 k2 s X hX he).mono fun e w' h => PairR.bad h, fun A1 A2 k1 k2 X hX => (decidesTop_bad C A1 A2 k1 k2 s X hX he).mono fun e w' h => PairR.bad h⟩

theorem surveys_pair (C : CaseL) (s : Int) : ∃ (L : List Int) (E : Int),
    (∀ A1 A2 k1 k2 X, CRep X C A1 A2 → Calls Tryz.prog 18 #[.agg #[.int .i64 C.claims, .slice A1 C.strikes.length k1, .slice A2 C.surveys.length k2], .int .i64 s] X (PairR L E X)) ∧
    (∀ A1 A2 k1 k2 X, CRep X C A1 A2 → Calls Tryz.prog 19 #[.agg #[.int .i64 C.claims, .slice A1 C.strikes.length k1, .slice A2 C.surveys.length k2], .int .i64 s] X (PairR L E X)) := by
  by_cases he : surveyingE C s = 0
  · have he2 := he
    unfold surveyingE at he2
    by_cases h1 : caseE C = 0
    · rw [if_pos h1] at he2
      have hf : Cl s C.claims = true := by
        cases h : Cl s C.claims
        · rw [h] at he2; cases he2
        · rfl
      obtain ⟨n, rfl⟩ := Int.eq_ofNat_of_zero_le (Cl_iff.1 hf).1
      obtain ⟨N, S, T, rfl, hN1, hN14⟩ := case_nat h1
      have h6 := (caseE_ok h1).fews
      refine ⟨idxL (fun i => decT ⟨N, S, T⟩ (T.getD i []) N (2 ^ (T.getD i []).length) n) T.length, 0, fun A1 A2 k1 k2 X hX => ?_, fun A1 A2 k1 k2 X hX => ?_⟩
      · exact (surveys_good ⟨N, S, T⟩ A1 A2 k1 k2 n X hX he).mono fun e w' h => PairR.goodI h
      · refine (surveysTop_good N S T A1 A2 k1 k2 n X hX he).mono fun e w' h => PairR.goodL ?_ h
        have := idxL_len (fun i => decT ⟨N, S, T⟩ (T.getD i []) N (2 ^ (T.getD i []).length) n) T.length
        dsimp only at h6
        omega
    · rw [if_neg h1] at he2
      exact absurd he2 h1
  · exact ⟨[], surveyingE C s, fun A1 A2 k1 k2 X hX => (surveys_bad C A1 A2 k1 k2 s X hX he).mono fun e w' h => PairR.bad h, fun A1 A2 k1 k2 X hX => (surveysTop_bad C A1 A2 k1 k2 s X hX he).mono fun e w' h => PairR.bad h⟩

def UpR (NN n : Nat) (w : World) (e : Ending) (w' : World) : Prop := ∃ g, e = .returned (.tuple #[.slice (some ⟨g, 0, none⟩) NN NN, .int .i64 0]) ∧ Aft w w' ∧ g < w'.heap.size ∧ w'.cell? ⟨g, n, none⟩ = some (.int .i64 1)
def FewP (C : CaseL) (q : Int) (m : Nat) (E : Int) (w : World) (e : Ending) (w' : World) : Prop := ∃ A c L, e = .returned (.tuple #[.slice A m c, .int .i64 E]) ∧ m ≤ 14 ∧ Ints w' A L ∧ Aft w w' ∧ (E = 0 → ∃ (NN n : Nat), q = n ∧ n < NN ∧ NN ≤ 14 ∧ ∀ A1 A2 k1 k2 A c X, CRep X C A1 A2 → Ints X A L → Calls Tryz.prog 22 #[.agg #[.int .i64 C.claims, .slice A1 C.strikes.length k1, .slice A2 C.surveys.length k2], .slice A m c] X (UpR NN n X))
theorem up_of (N : Nat) (S : List (Int × Int)) (T : List (List Int)) (L : List Int) (n : Nat) (hn : n < N) (hN : N ≤ 14) (ho : openE ⟨N, S, T⟩ L = 0) (hw : award S noS N (begF (refL L)) n = 1) (A1 A2 : Option Addr) (k1 k2 : Nat) (A : Option Addr) (c : Nat) (X : World) (hC : CRep X ⟨N, S, T⟩ A1 A2) (hA : Ints X A L) :
    Calls Tryz.prog 22 #[.agg #[.int .i64 N, .slice A1 S.length k1, .slice A2 T.length k2], .slice A L.length c] X (UpR N n X) := by
  refine (awardTop_good N S T A1 A2 k1 k2 L A c X hC hA ho).mono fun e w' h => ?_
  obtain ⟨g, rfl, _, hb, ha⟩ := h
  refine ⟨g, by rw [foundL_len], ha, hb.lt, ?_⟩
  have := ivs_cell hb (i := n) (by rw [foundL_len]; exact hn)
  rw [foundL_get, hw] at this
  exact this
theorem few_pair (C : CaseL) (q : Int) : ∃ (m : Nat) (E : Int),
    (∀ A1 A2 k1 k2 X, CRep X C A1 A2 → Calls Tryz.prog 20 #[.agg #[.int .i64 C.claims, .slice A1 C.strikes.length k1, .slice A2 C.surveys.length k2], .int .i64 q] X (FewP C q m E X)) ∧
    (∀ A1 A2 k1 k2 X, CRep X C A1 A2 → Calls Tryz.prog 21 #[.agg #[.int .i64 C.claims, .slice A1 C.strikes.length k1, .slice A2 C.surveys.length k2], .int .i64 q] X (ManyE m E X)) := by
  by_cases h1 : caseE C = 0
  · by_cases hcl : Cl q C.claims = true
    · obtain ⟨n, rfl⟩ := Int.eq_ofNat_of_zero_le (Cl_iff.1 hcl).1
      obtain ⟨N, S, T, rfl, hN1, hN14⟩ := case_nat h1
      have hn : n < N := by have := (Cl_iff.1 hcl).2; dsimp only at this; omega
      have hM := fun A1 A2 k1 k2 X (hX : CRep X ⟨N, S, T⟩ A1 A2) => many_in N S T A1 A2 k1 k2 n X hX h1 hn
      have hcl2 : Cl (n : Int) (⟨N, S, T⟩ : CaseL).claims = true := hcl
      by_cases hs : ((n : Int), (n : Int)) ∈ S
      · have hE : fewE ⟨N, S, T⟩ n = 7 := by unfold fewE; rw [if_pos h1, if_pos hcl2, if_pos hs]
        rw [if_pos hs, if_pos hs] at hM
        refine ⟨0, 7, fun A1 A2 k1 k2 X hX => ?_, hM⟩
        refine (few20_bad ⟨N, S, T⟩ A1 A2 k1 k2 n X hX (by rw [hE]; decide)).mono fun e w' h => ?_
        obtain ⟨rfl, ha⟩ := h
        exact ⟨none, 0, [], by rw [hE], by omega, ints_none w', ha, fun h => by cases h⟩
      · have hE : fewE ⟨N, S, T⟩ n = 0 := by unfold fewE; rw [if_pos h1, if_pos hcl2, if_neg hs]
        rw [if_neg hs, if_neg hs] at hM
        have hok := caseE_ok h1
        have hin := hok.ins
        dsimp only at hin
        refine ⟨manyTo S N n (2 ^ N), 0, fun A1 A2 k1 k2 X hX => ?_, hM⟩
        refine (few20_good ⟨N, S, T⟩ A1 A2 k1 k2 n X hX hE).mono fun e w' h => ?_
        obtain ⟨L, hL, v, rfl, ho, ha⟩ := h
        have hL : FewIs S N n L := hL
        obtain ⟨⟨hs1, hs2⟩, hw, -⟩ := hL.facts
        have hlN : L.length < N := by
          obtain ⟨m, hm1, hm2⟩ := hL
          have hb := Court.few_bound (S := S) (N := N) (c := (n : Int)) ⟨by omega, by omega⟩ hs (fun s hs => (hin s hs).1) hm2
          unfold Court.tryW at hm1
          have := Court.combos_len (List.mem_of_find?_eq_some hm1)
          omega
        have hlen := many_few ⟨by omega, by omega⟩ hL hlN
        obtain ⟨A, c, rfl, _, hi⟩ := own_ints ho (by omega)
        have ho2 : openE ⟨N, S, T⟩ L = 0 := openE_zero h1 (fun x hx => by have := hs2 x hx; exact ⟨this.1, this.2.1⟩) (risesB_true L fun k hk => List.pairwise_iff_getElem.1 hs1 k (k + 1) (by omega) hk (by omega))
        refine ⟨A, c, L, by rw [hlen], by omega, hi, ha, fun _ => ⟨N, n, rfl, hn, hN14, fun B1 B2 j1 j2 A' c' X' hX' hA' => ?_⟩⟩
        rw [hlen]
        exact up_of N S T L n hn hN14 ho2 (of_decide_eq_true hw) B1 B2 j1 j2 A' c' X' hX' hA'
    · have hE : fewE C q = 2 := by unfold fewE; rw [if_pos h1, if_neg hcl]
      refine ⟨0, 2, fun A1 A2 k1 k2 X hX => ?_, fun A1 A2 k1 k2 X hX => ?_⟩
      · refine (few20_bad C A1 A2 k1 k2 q X hX (by rw [hE]; decide)).mono fun e w' h => ?_
        obtain ⟨rfl, ha⟩ := h
        exact ⟨none, 0, [], by rw [hE], by omega, ints_none w', ha, fun h => by cases h⟩
      · rw [← hE]
        exact many_arg C A1 A2 k1 k2 q X hX (.inr (by cases h : Cl q C.claims; rfl; exact absurd h hcl))
  · have hE : fewE C q = caseE C := by unfold fewE; rw [if_neg h1]
    refine ⟨0, caseE C, fun A1 A2 k1 k2 X hX => ?_, fun A1 A2 k1 k2 X hX => ?_⟩
    · refine (few20_bad C A1 A2 k1 k2 q X hX (by rw [hE]; exact h1)).mono fun e w' h => ?_
      obtain ⟨rfl, ha⟩ := h
      exact ⟨none, 0, [], by rw [hE], by omega, ints_none w', ha, fun h => absurd h h1⟩
    · rw [← hE]
      exact many_arg C A1 A2 k1 k2 q X hX (.inl h1)
end Go.Proofs
end

section
namespace Go.Proofs
open Go.RowKit
open Court (refL begF noS struckB strikeL standB coverB fullB)
attribute [local go_sem] Oper.semAt_some

def FullP (F : List (List Int)) (E : Int) (w : World) (e : Ending) (w' : World) : Prop := ∃ A c, e = .returned (.tuple #[.slice A F.length c, .int .i64 E]) ∧ Lists w' A F ∧ Aft w w'
def fullsR (S : List (Int × Int)) (R : List Int) (N : Nat) : List (List Int) := fullTo (fullB S (refL R) N) N (2 ^ N)

set_option maxRecDepth 100000 in
set_option maxHeartbeats 4000000 in
theorem fullTop_bad (C : CaseL) (a1 a2 : Option Addr) (c1 c2 : Nat) (R : List Int) (A : Option Addr) (c : Nat) (w : World) (hC : CRep w C a1 a2) (hA : Ints w A R) (he : openE C R ≠ 0) :
    Calls Tryz.prog 28 #[(.agg #[.int .i64 C.claims, .slice a1 C.strikes.length c1, .slice a2 C.surveys.length c2]), .slice A R.length c] w (FullP [] (openE C R) w) := by
  have H0 := Lib.hid (Aft.alloc w (.cells #[.int .i64 C.claims, .slice a1 C.strikes.length c1, .slice a2 C.surveys.length c2] 31))
  have HB := Lib.hid (Blk.new w 31 #[.int .i64 C.claims, .slice a1 C.strikes.length c1, .slice a2 C.surveys.length c2])
  have H1 := Lib.hid (refutedR_any C a1 a2 c1 c2 R A c _ (hC.aft H0.out) (hA.aft H0.out))
  have t1 : (openE C R != 0) = true := by simpa using he
  obtain ⟨k0, k1, k2⟩ := box31 HB.out
  have hlt := HB.out.lt
  unfold FullP
  clear hC hA he
  generalize openE C R = E at *
  go_enter Tryz.func28, Tryz.ntmps28
  go_wp2_with (go_at_call 66; refine H1.out.mono ?_; rintro e w1 ⟨rfl, ha1⟩; have HA1 := Lib.hid ha1; clear ha1)
  go_ret2
  exact ⟨none, 0, rfl, ⟨by simp, .inl rfl⟩, H0.out.trans HA1.out⟩

set_option maxRecDepth 100000 in
set_option maxHeartbeats 4000000 in
theorem fullTop_good (N : Nat) (S : List (Int × Int)) (T : List (List Int)) (a1 a2 : Option Addr) (c1 c2 : Nat) (R : List Int) (A : Option Addr) (c : Nat) (w : World) (hC : CRep w ⟨N, S, T⟩ a1 a2) (hA : Ints w A R) (he : openE ⟨N, S, T⟩ R = 0) :
    Calls Tryz.prog 28 #[(.agg #[.int .i64 N, .slice a1 S.length c1, .slice a2 T.length c2]), .slice A R.length c] w (FullP (if 50 < (fullsR S R N).length then [] else fullsR S R N) (if 50 < (fullsR S R N).length then 11 else 0) w) := by
  have H0 := Lib.hid (Aft.alloc w (.cells #[.int .i64 N, .slice a1 S.length c1, .slice a2 T.length c2] 31))
  have HB := Lib.hid (Blk.new w 31 #[.int .i64 N, .slice a1 S.length c1, .slice a2 T.length c2])
  have H1 : Hid (Calls Tryz.prog 66 #[(.agg #[.int .i64 N, .slice a1 S.length c1, .slice a2 T.length c2]), .slice A R.length c] (w.alloc (.cells #[.int .i64 N, .slice a1 S.length c1, .slice a2 T.length c2] 31)) fun e w' => e = .returned (.int .i64 0) ∧ Aft (w.alloc (.cells #[.int .i64 N, .slice a1 S.length c1, .slice a2 T.length c2] 31)) w') := Lib.hid (by rw [← he]; exact refutedR_any ⟨N, S, T⟩ a1 a2 c1 c2 R A c _ (hC.aft H0.out) (hA.aft H0.out))
  have hok := caseE_ok (openE_ok he).1
  have hn1 := hok.n1
  have hn2 := hok.n2
  have hss := hok.few
  have hin := hok.ins
  dsimp only at hn1 hn2 hin hss
  have H2 : Hid (∀ W, Aft w W → Calls Tryz.prog 76 #[(.agg #[.int .i64 N, .slice a1 S.length c1, .slice a2 T.length c2]), .slice A R.length c] W fun e w' => ∃ v vs, e = .returned v ∧ OutR w' W.heap.size v vs (fullsR S R N) ∧ Aft W w') := Lib.hid fun W h => fullR_any N S T a1 a2 c1 c2 R A c W (hC.aft h) (by omega) hss (fun s hs => (hin s hs).1) (hA.aft h)
  have hfl : (fullsR S R N).length ≤ 16384 := Nat.le_trans (fullTo_le _ _ _) (Nat.le_trans (Nat.pow_le_pow_right (by omega) (show N ≤ 14 by omega)) (by decide))
  have HFM : Hid (∀ x ∈ fullsR S R N, x.length ≤ 14) := Lib.hid fun x hx => by
    obtain ⟨m', _, e⟩ := fullTo_mem hx
    rw [e]
    have := idxL_len (fun i => m'.testBit i) N
    unfold setL
    omega
  obtain ⟨k0, k1, k2⟩ := box31 HB.out
  have hlt := HB.out.lt
  unfold FullP
  clear hC hA he hok hin
  generalize fullsR S R N = F at *
  by_cases h50 : 50 < F.length
  · rw [if_pos h50, if_pos h50]
    have t5 : decide ((50 : Int) < (F.length : Int)) = true := decide_eq_true (by omega)
    clear h50
    go_enter Tryz.func28, Tryz.ntmps28
    go_wp2_with (first | (go_at_call 66; refine H1.out.mono ?_; rintro e w1 ⟨rfl, ha1⟩; have HA1 := Lib.hid (H0.out.trans ha1); obtain ⟨j0, j1, j2⟩ := box31 (HB.out.aft ha1); have hlt1 := (HB.out.aft ha1).lt; clear ha1) | (go_at_call 76; refine (H2.out _ HA1.out).mono ?_; rintro e w2 ⟨v, vs, rfl, ho, ha⟩; obtain ⟨A9, c9, rfl, _, hls⟩ := ho.lists (by omega) (fun x hx => by have := HFM.out x hx; omega); have HLS := Lib.hid hls; have HA2 := Lib.hid (HA1.out.trans ha); clear ho ha hls))
    go_ret2
    exact ⟨none, 0, rfl, ⟨by simp, .inl rfl⟩, HA2.out⟩
  · rw [if_neg h50, if_neg h50]
    have t5 : decide ((50 : Int) < (F.length : Int)) = false := decide_eq_false (by omega)
    clear h50
    go_enter Tryz.func28, Tryz.ntmps28
    go_wp2_with (first | (go_at_call 66; refine H1.out.mono ?_; rintro e w1 ⟨rfl, ha1⟩; have HA1 := Lib.hid (H0.out.trans ha1); obtain ⟨j0, j1, j2⟩ := box31 (HB.out.aft ha1); have hlt1 := (HB.out.aft ha1).lt; clear ha1) | (go_at_call 76; refine (H2.out _ HA1.out).mono ?_; rintro e w2 ⟨v, vs, rfl, ho, ha⟩; obtain ⟨A9, c9, rfl, _, hls⟩ := ho.lists (by omega) (fun x hx => by have := HFM.out x hx; omega); have HLS := Lib.hid hls; have HA2 := Lib.hid (HA1.out.trans ha); clear ho ha hls))
    go_ret2
    exact ⟨A9, c9, rfl, HLS.out, HA2.out⟩

set_option maxRecDepth 100000 in
set_option maxHeartbeats 4000000 in
theorem alwaysTop_bad (C : CaseL) (a1 a2 : Option Addr) (c1 c2 : Nat) (R : List Int) (A : Option Addr) (c : Nat) (w : World) (hC : CRep w C a1 a2) (hA : Ints w A R) (he : openE C R ≠ 0) :
    Calls Tryz.prog 31 #[(.agg #[.int .i64 C.claims, .slice a1 C.strikes.length c1, .slice a2 C.surveys.length c2]), .slice A R.length c] w (BadS (openE C R) w) := by
  have H0 := Lib.hid (Aft.alloc w (.cells #[.int .i64 C.claims, .slice a1 C.strikes.length c1, .slice a2 C.surveys.length c2] 31))
  have HB := Lib.hid (Blk.new w 31 #[.int .i64 C.claims, .slice a1 C.strikes.length c1, .slice a2 C.surveys.length c2])
  have H1 := Lib.hid (refutedR_any C a1 a2 c1 c2 R A c _ (hC.aft H0.out) (hA.aft H0.out))
  have t1 : (openE C R != 0) = true := by simpa using he
  obtain ⟨k0, k1, k2⟩ := box31 HB.out
  have hlt := HB.out.lt
  unfold BadS
  clear hC hA he
  generalize openE C R = E at *
  go_enter Tryz.func31, Tryz.ntmps31
  go_wp2_with (go_at_call 66; refine H1.out.mono ?_; rintro e w1 ⟨rfl, ha1⟩; have HA1 := Lib.hid ha1; clear ha1)
  go_ret2
  exact ⟨rfl, H0.out.trans HA1.out⟩

set_option maxRecDepth 100000 in
set_option maxHeartbeats 8000000 in
theorem alwaysTop_good (N : Nat) (S : List (Int × Int)) (T : List (List Int)) (a1 a2 : Option Addr) (c1 c2 : Nat) (R : List Int) (A : Option Addr) (c : Nat) (w : World) (hC : CRep w ⟨N, S, T⟩ a1 a2) (hA : Ints w A R) (he : openE ⟨N, S, T⟩ R = 0) (F : List (List Int)) (hF : fullsR S R N = F) :
    Calls Tryz.prog 31 #[(.agg #[.int .i64 N, .slice a1 S.length c1, .slice a2 T.length c2]), .slice A R.length c] w fun e w' => (F = [] → BadS 7 w e w') ∧ (F ≠ [] → PairR (everyL F N) 0 w e w') := by
  have H0 := Lib.hid (Aft.alloc w (.cells #[.int .i64 N, .slice a1 S.length c1, .slice a2 T.length c2] 31))
  have HB := Lib.hid (Blk.new w 31 #[.int .i64 N, .slice a1 S.length c1, .slice a2 T.length c2])
  have H1 : Hid (Calls Tryz.prog 66 #[(.agg #[.int .i64 N, .slice a1 S.length c1, .slice a2 T.length c2]), .slice A R.length c] (w.alloc (.cells #[.int .i64 N, .slice a1 S.length c1, .slice a2 T.length c2] 31)) fun e w' => e = .returned (.int .i64 0) ∧ Aft (w.alloc (.cells #[.int .i64 N, .slice a1 S.length c1, .slice a2 T.length c2] 31)) w') := Lib.hid (by rw [← he]; exact refutedR_any ⟨N, S, T⟩ a1 a2 c1 c2 R A c _ (hC.aft H0.out) (hA.aft H0.out))
  have hok := caseE_ok (openE_ok he).1
  have hn1 := hok.n1
  have hn2 := hok.n2
  have hss := hok.few
  have hin := hok.ins
  dsimp only at hn1 hn2 hin hss
  have H2 : Hid (∀ W, Aft w W → Calls Tryz.prog 76 #[(.agg #[.int .i64 N, .slice a1 S.length c1, .slice a2 T.length c2]), .slice A R.length c] W fun e w' => ∃ v vs, e = .returned v ∧ OutR w' W.heap.size v vs F ∧ Aft W w') := Lib.hid fun W h => by
    have := fullR_any N S T a1 a2 c1 c2 R A c W (hC.aft h) (by omega) hss (fun s hs => (hin s hs).1) (hA.aft h)
    rw [show fullTo (fullB S (refL R) N) N (2 ^ N) = F from hF] at this
    exact this
  have hfl : F.length ≤ 16384 := by
    rw [← hF]
    exact Nat.le_trans (fullTo_le _ _ _) (Nat.le_trans (Nat.pow_le_pow_right (by omega) (show N ≤ 14 by omega)) (by decide))
  have HFM : Hid (∀ x ∈ F, x.length ≤ 14) := Lib.hid fun x hx => by
    rw [← hF] at hx
    obtain ⟨m', _, e⟩ := fullTo_mem hx
    rw [e]
    have := idxL_len (fun i => m'.testBit i) N
    unfold setL
    omega
  obtain ⟨bC, hbC⟩ : ∃ bC, w.heap.size = bC := ⟨_, rfl⟩
  rw [hbC] at HB
  have HBC := Lib.hid hbC
  clear hC hA he hok hin hF hbC
  obtain ⟨PF, hPF⟩ : ∃ PF : Nat → Bool, PF = fun (n : Nat) => F.all fun l => hasB l (n : Int) := ⟨_, rfl⟩
  have HPF : Hid (∀ n : Nat, PF n = F.all fun l => hasB l (n : Int)) := Lib.hid fun n => by rw [hPF]
  rw [show everyL F N = idxL PF N by rw [hPF]; rfl]
  clear hPF
  unfold PairR BadS
  go_enter Tryz.func31, Tryz.ntmps31
  go_upto_region 1 with fail
  rw [HBC.out]
  generalize w.alloc (.cells #[.int .i64 N, .slice a1 S.length c1, .slice a2 T.length c2] 31) = W0 at *
  obtain ⟨k0, k1, k2⟩ := box31 HB.out
  have k3 := HB.out.lt
  go_upto_region 5 with (first | (go_at_call 66; refine H1.out.mono ?_; rintro e w1 ⟨rfl, ha1⟩; have HA1 := Lib.hid ha1; have HB1 := Lib.hid (HB.out.aft ha1); obtain ⟨j0, j1, j2⟩ := box31 HB1.out; have hlt1 := HB1.out.lt; clear ha1) | (go_at_call 76; refine (H2.out _ (H0.out.trans HA1.out)).mono ?_; rintro e W2 ⟨v, vs, rfl, ho, ha⟩; obtain ⟨A9, c9, rfl, _, hls⟩ := ho.lists (by omega) (fun x hx => by have := HFM.out x hx; omega); have HLS := Lib.hid hls; have HA2 := Lib.hid (HA1.out.trans ha); clear ho ha hls))
  clear k0 k1 k2 k3 j0 j1 j2 hlt1 H1 H2 HB1
  by_cases h0 : F.length = 0
  · have t5 : ((F.length : Int) == 0) = true := by rw [h0]; rfl
    have HF0 : Hid (F = []) := Lib.hid (List.eq_nil_of_length_eq_zero h0)
    clear h0
    go_wp2_with fail
    go_ret2
    exact ⟨fun _ => ⟨rfl, H0.out.trans HA2.out⟩, fun h => absurd HF0.out h⟩
  · have t5 : ((F.length : Int) == 0) = false := by rw [beq_eq_false_iff_ne]; omega
    have HF0 : Hid (F ≠ []) := Lib.hid fun e => h0 (by rw [e]; rfl)
    go_upto_block 0 with fail
    clear t5 h0
    have HO0 := Lib.hid (World.ownsRow_nil W2 W2.heap.size 3 1)
    refine wp_block ?_
    go_loopw [8, 9] (fun v i wr => ∃ k : Nat, i = .int .i64 k ∧ k ≤ N ∧ wr.ownsRow W2.heap.size 3 1 v (idxL PF k).length ((idxL PF k).map (Value.int .i64)) ∧ Aft W2 wr) (fun _ i _ => N - (intOf i).toNat)
    case atStart => exact ⟨0, rfl, by omega, HO0.out, Aft.refl _⟩
    case round =>
      obtain ⟨k, rfl, hk, hown, hz⟩ := hrel
      have HO := Lib.hid hown
      have HZ := Lib.hid hz
      clear hown hz
      obtain ⟨k0, k1, k2⟩ := box31 (HB.out.aft (HA2.out.trans HZ.out))
      have k3 := (HB.out.aft (HA2.out.trans HZ.out)).lt
      by_cases hkN : k < N
      · have t2 : decide (k < N) = true := by simpa using hkN
        have HP := Lib.hid (idxL_succ PF k)
        have hpl := idxL_len PF k
        obtain ⟨W3, rfl⟩ : ∃ W3, W3 = wr := ⟨_, rfl⟩
        go_upto_block 2 with fail
        clear k0 k1 k2 k3
        refine wp_block ?_
        go_loopw [10, 11] (fun b i wr => ∃ (j : Nat) (bv : Bool), i = .int .i64 j ∧ b = .bool bv ∧ j ≤ F.length ∧ Aft W3 wr ∧ Hid (bv = (F.take j).all fun l => hasB l (k : Int))) (fun _ i _ => F.length - (intOf i).toNat)
        case atStart => exact ⟨0, true, rfl, rfl, by omega, Aft.refl _, Lib.hid (by simp)⟩
        case round =>
          obtain ⟨j, bv, rfl, rfl, hj, hy, HBV⟩ := hrel
          have HY := Lib.hid hy
          clear hy
          by_cases hjl : j < F.length
          · have t3 : decide (j < F.length) = true := by simpa using hjl
            have ij : (0 : Int) ≤ (j : Int) ∧ (j : Int) < (F.length : Int) := by omega
            obtain ⟨bt, ot, A', c', hbt, hltt, x1, hil⟩ := (HLS.out.aft (HZ.out.trans HY.out)).row hjl
            subst hbt
            have HTS : Hid (((F.take (j + 1)).all fun l => hasB l (k : Int)) = (((F.take j).all fun l => hasB l (k : Int)) && hasB F[j] (k : Int))) := Lib.hid (by
              rw [List.take_succ_eq_append_getElem hjl, List.all_append]
              simp)
            rw [← HBV.out] at HTS
            have h64 := hasR_any A' F[j] c' k wr hil
            obtain ⟨r, hr⟩ : ∃ r, F[j] = r := ⟨_, rfl⟩
            rw [hr] at x1 h64 HTS
            obtain ⟨bh, hbh⟩ : ∃ bh, hasB r (k : Int) = bh := ⟨_, rfl⟩
            rw [hbh] at h64 HTS
            have H64 := Lib.hid h64
            clear hil h64 hr hbh HBV
            cases bv
            · go_wp2_with fail
              exact ⟨⟨j + 1, false, by go_num, rfl, by omega, HY.out, Lib.hid (by rw [HTS.out]; rfl)⟩, by simp [intOf]; omega⟩
            · go_wp2_with (go_at_call 64; refine H64.out.mono ?_; rintro e wz ⟨rfl, rfl⟩)
              exact ⟨⟨j + 1, bh, by go_num, rfl, by omega, HY.out, Lib.hid (by rw [HTS.out, Bool.true_and])⟩, by simp [intOf]; omega⟩
          · have t3 : decide (j < F.length) = false := by simpa using hjl
            have HBP : Hid (PF k = bv) := Lib.hid (by
              have := HBV.out
              rw [List.take_of_length_le (by omega)] at this
              rw [HPF.out, this])
            rw [HBP.out] at HP
            clear HBV hjl
            cases bv
            · rw [if_neg (by decide), List.append_nil] at HP
              go_wp2_with fail
              exact ⟨⟨k + 1, by go_num, by omega, by rw [HP.out]; exact own_aft HO.out HY.out, HZ.out.trans HY.out⟩, by simp [intOf]; omega⟩
            · rw [if_pos rfl] at HP
              have HTA := Lib.hid (own_aft (own_aft HO.out HY.out) (Aft.alloc wr (.cells #[.int .i64 k] 3)))
              have hbase : W2.heap.size ≤ (wr.alloc (.cells #[.int .i64 k] 3)).heap.size := Nat.le_trans (HZ.out.trans HY.out).size (Aft.alloc _ _).size
              have hge := own_ge HO.out
              go_wp2_with (at_builtin; refine wpList_push rfl _ _ rfl HTA.out hbase rfl rfl (cell_new1 _ _ _) (by omega) ?_; intro v6 w6 ho6 hg6; have HO6 := Lib.hid ho6; have HG6 := Lib.hid hg6; clear ho6 hg6)
              exact ⟨⟨k + 1, by go_num, by omega, by rw [HP.out]; exact HO6.out, ((HZ.out.trans HY.out).then_alloc _).grown HG6.out hge⟩, by simp [intOf]; omega⟩
      · have t2 : decide (k < N) = false := by simpa using hkN
        obtain rfl : k = N := by omega
        have hpl := idxL_len PF k
        obtain ⟨A8, c8, rfl, _, hi8⟩ := own_ints HO.out (by omega)
        have HI8 := Lib.hid hi8
        clear hi8 HO
        go_wp2_with fail
        go_ret2
        exact ⟨fun h => absurd h HF0.out, fun _ => ⟨A8, c8, rfl, HI8.out, H0.out.trans (HA2.out.trans HZ.out)⟩⟩

theorem full_pair (C : CaseL) (R : List Int) : ∃ (F : List (List Int)) (E : Int),
    (∀ A1 A2 k1 k2 A c X, CRep X C A1 A2 → Ints X A R → Calls Tryz.prog 27 #[.agg #[.int .i64 C.claims, .slice A1 C.strikes.length k1, .slice A2 C.surveys.length k2], .slice A R.length c] X (FullP F E X)) ∧
    (∀ A1 A2 k1 k2 A c X, CRep X C A1 A2 → Ints X A R → Calls Tryz.prog 28 #[.agg #[.int .i64 C.claims, .slice A1 C.strikes.length k1, .slice A2 C.surveys.length k2], .slice A R.length c] X (FullP F E X)) := by
  by_cases he : openE C R = 0
  · obtain ⟨N, S, T, rfl, hN1, hN14⟩ := case_nat (openE_ok he).1
    have hlen : (fullsL ⟨N, S, T⟩ R).length = (fullsR S R N).length := by
      unfold fullsR
      rw [fullTo_len]
      rfl
    refine ⟨if 50 < (fullsR S R N).length then [] else fullsR S R N, if 50 < (fullsR S R N).length then 11 else 0, fun A1 A2 k1 k2 A c X hX hA => ?_, fun A1 A2 k1 k2 A c X hX hA => fullTop_good N S T A1 A2 k1 k2 R A c X hX hA he⟩
    by_cases h : 50 < (fullsR S R N).length
    · have hf : fullE ⟨N, S, T⟩ R = 11 := by unfold fullE; rw [if_pos he, if_pos (by rw [hlen]; exact h)]
      rw [if_pos h, if_pos h]
      refine (full27_bad ⟨N, S, T⟩ A1 A2 k1 k2 R A c X hX hA (by rw [hf]; decide)).mono fun e w' h => ?_
      obtain ⟨rfl, ha⟩ := h
      exact ⟨none, 0, by rw [hf]; rfl, ⟨by simp, .inl rfl⟩, ha⟩
    · have hf : fullE ⟨N, S, T⟩ R = 0 := by unfold fullE; rw [if_pos he, if_neg (by rw [hlen]; exact h)]
      rw [if_neg h, if_neg h]
      refine (full27_good ⟨N, S, T⟩ A1 A2 k1 k2 R A c X hX hA hf).mono fun e w' h => ?_
      obtain ⟨A', c', L, rfl, hL, hp, hs, ha⟩ := h
      have e2 : L = fullsR S R N := fullTo_eq S (refL R) N hp hs
      rw [e2] at hL
      exact ⟨A', c', by rw [e2], hL, ha⟩
  · have hf : fullE C R = openE C R := by unfold fullE; rw [if_neg he]
    refine ⟨[], openE C R, fun A1 A2 k1 k2 A c X hX hA => ?_, fun A1 A2 k1 k2 A c X hX hA => fullTop_bad C A1 A2 k1 k2 R A c X hX hA he⟩
    refine (full27_bad C A1 A2 k1 k2 R A c X hX hA (by rw [hf]; exact he)).mono fun e w' h => ?_
    obtain ⟨rfl, ha⟩ := h
    exact ⟨none, 0, by rw [hf]; rfl, ⟨by simp, .inl rfl⟩, ha⟩
theorem always_pair (C : CaseL) (R : List Int) : ∃ (L : List Int) (E : Int),
    (∀ A1 A2 k1 k2 A c X, CRep X C A1 A2 → Ints X A R → Calls Tryz.prog 30 #[.agg #[.int .i64 C.claims, .slice A1 C.strikes.length k1, .slice A2 C.surveys.length k2], .slice A R.length c] X (PairR L E X)) ∧
    (∀ A1 A2 k1 k2 A c X, CRep X C A1 A2 → Ints X A R → Calls Tryz.prog 31 #[.agg #[.int .i64 C.claims, .slice A1 C.strikes.length k1, .slice A2 C.surveys.length k2], .slice A R.length c] X (PairR L E X)) := by
  by_cases he : openE C R = 0
  · obtain ⟨N, S, T, rfl, hN1, hN14⟩ := case_nat (openE_ok he).1
    have hp : (fullsR S R N).Perm (fullsA ⟨N, S, T⟩ R) := fullTo_full S (refL R) N
    by_cases hF : fullsA ⟨N, S, T⟩ R = []
    · have hE : alwaysE ⟨N, S, T⟩ R = 7 := by unfold alwaysE; rw [if_pos he, if_pos hF]
      have hR0 : fullsR S R N = [] := by rw [hF] at hp; exact hp.eq_nil
      refine ⟨[], 7, fun A1 A2 k1 k2 A c X hX hA => ?_, fun A1 A2 k1 k2 A c X hX hA => ?_⟩
      · refine (always_bad ⟨N, S, T⟩ A1 A2 k1 k2 R A c X hX hA (by rw [hE]; decide)).mono fun e w' h => ?_
        obtain ⟨rfl, ha⟩ := h
        exact ⟨none, 0, by rw [hE]; rfl, ints_none w', ha⟩
      · exact (alwaysTop_good N S T A1 A2 k1 k2 R A c X hX hA he _ hR0).mono fun e w' h => PairR.bad (h.1 rfl)
    · have hE : alwaysE ⟨N, S, T⟩ R = 0 := by unfold alwaysE; rw [if_pos he, if_neg hF]
      have hR0 : fullsR S R N ≠ [] := fun e => hF (by rw [e] at hp; exact hp.symm.eq_nil)
      have hev := every_always ⟨N, S, T⟩ R (F := fullsR S R N) (N := N) rfl hp hF
      refine ⟨alwaysL ⟨N, S, T⟩ R, 0, fun A1 A2 k1 k2 A c X hX hA => ?_, fun A1 A2 k1 k2 A c X hX hA => ?_⟩
      · exact (always_good ⟨N, S, T⟩ A1 A2 k1 k2 R A c X hX hA hE).mono fun e w' h => PairR.goodI h
      · refine (alwaysTop_good N S T A1 A2 k1 k2 R A c X hX hA he _ rfl).mono fun e w' h => ?_
        rw [← hev]
        exact h.2 hR0
  · have hE : alwaysE C R = openE C R := by unfold alwaysE; rw [if_neg he]
    refine ⟨[], openE C R, fun A1 A2 k1 k2 A c X hX hA => ?_, fun A1 A2 k1 k2 A c X hX hA => (alwaysTop_bad C A1 A2 k1 k2 R A c X hX hA he).mono fun e w' h => PairR.bad h⟩
    refine (always_bad C A1 A2 k1 k2 R A c X hX hA (by rw [hE]; exact he)).mono fun e w' h => ?_
    obtain ⟨rfl, ha⟩ := h
    exact ⟨none, 0, by rw [hE]; rfl, ints_none w', ha⟩
end Go.Proofs
end

section
namespace Go.Proofs
open Go.RowKit Go.WideShapes Go.ChangeShapes

section rows
variable {α : Type}
def RowsQ (w : World) (A : Option Addr) (sz : Nat) (R : World → α → List Value → Prop) (l : List α) : Prop :=
  l.length ≤ 9223372036854775807 ∧ (l = [] ∨ ∃ b o, A = some ⟨b, o, none⟩ ∧ b < w.heap.size ∧
    ∀ i, (h : i < l.length) → ∃ vs : List Value, vs.length = sz ∧ R w l[i] vs ∧ ∀ j, (hj : j < vs.length) → w.cell? ⟨b, o + i * sz + j, none⟩ = some vs[j])
theorem RowsQ.lat {w : World} {A : Option Addr} {sz : Nat} {R : World → α → List Value → Prop} {l : List α} (hR : MonoR R) (h : RowsQ w A sz R l) (u : Later w) : RowsQ (w.lat u) A sz R l := by
  refine ⟨h.1, ?_⟩
  rcases h.2 with h | ⟨b, o, rfl, hb, hc⟩
  · exact .inl h
  · refine .inr ⟨b, o, rfl, Nat.lt_of_lt_of_le hb (w.lat_size u), fun i hi => ?_⟩
    obtain ⟨vs, h1, h2, h3⟩ := hc i hi
    exact ⟨vs, h1, hR _ _ _ _ h2, fun j hj => by rw [World.lat_cell _ _ _ _ hb]; exact h3 j hj⟩
theorem RowsQ.aft {w w' : World} {A : Option Addr} {sz : Nat} {R : World → α → List Value → Prop} {l : List α} (hR : MonoR R) (h : RowsQ w A sz R l) (hl : Aft w w') : RowsQ w' A sz R l := by
  obtain ⟨u, rfl⟩ := hl; exact h.lat hR u
theorem RowsQ.at {w : World} {A : Option Addr} {sz : Nat} {R : World → α → List Value → Prop} {l : List α} (h : RowsQ w A sz R l) {k : Nat} (hk : k < l.length) :
    ∃ b o, A = some ⟨b, o, none⟩ ∧ b < w.heap.size ∧ ∀ i, (h : i < l.length) → ∃ vs : List Value, vs.length = sz ∧ R w l[i] vs ∧ ∀ j, (hj : j < vs.length) → w.cell? ⟨b, o + i * sz + j, none⟩ = some vs[j] := by
  rcases h.2 with rfl | h
  · simp at hk
  · exact h
theorem RowsQ.small {w : World} {A : Option Addr} {sz : Nat} {R R' : World → α → List Value → Prop} {l : List α} (h : RowsQ w A sz R l) (hs : l.length * sz ≤ 17592186043904) (hR : ∀ x ∈ l, ∀ vs, R w x vs → R' w x vs) : RowsP w A sz R' l := by
  refine ⟨hs, ?_⟩
  rcases h.2 with h | ⟨b, o, rfl, hb, hc⟩
  · exact .inl h
  · refine .inr ⟨b, o, rfl, hb, fun i hi => ?_⟩
    obtain ⟨vs, h1, h2, h3⟩ := hc i hi
    exact ⟨vs, h1, hR _ (List.getElem_mem hi) _ h2, h3⟩
end rows
def IntsQ (w : World) (A : Option Addr) (l : List Int) : Prop := RowsQ w A 1 IntR l
theorem IntsQ.aft {w w' : World} {A : Option Addr} {l : List Int} (h : IntsQ w A l) (ha : Aft w w') : IntsQ w' A l := RowsQ.aft IntR.mono h ha
theorem IntsQ.lat {w : World} {A : Option Addr} {l : List Int} (h : IntsQ w A l) (u : Later w) : IntsQ (w.lat u) A l := RowsQ.lat IntR.mono h u
theorem IntsQ.small {w : World} {A : Option Addr} {l : List Int} (h : IntsQ w A l) (hs : l.length ≤ 1000000) : Ints w A l := RowsQ.small h (by omega) fun _ _ _ h => h
def ListQ : World → List Int → List Value → Prop := fun w l vs => ∃ A c, vs = [.slice A l.length c] ∧ IntsQ w A l
theorem ListQ.mono : MonoR ListQ := fun _ u _ _ ⟨A, c, h1, h2⟩ => ⟨A, c, h1, h2.lat u⟩
def ListsQ (w : World) (A : Option Addr) (l : List (List Int)) : Prop := RowsQ w A 1 ListQ l
theorem ListsQ.aft {w w' : World} {A : Option Addr} {l : List (List Int)} (h : ListsQ w A l) (ha : Aft w w') : ListsQ w' A l := RowsQ.aft ListQ.mono h ha
theorem ListsQ.at {w : World} {A : Option Addr} {l : List (List Int)} (h : ListsQ w A l) {k : Nat} (hk : k < l.length) :
    ∃ b o, A = some ⟨b, o, none⟩ ∧ b < w.heap.size ∧ ∀ i, (h : i < l.length) → ∃ Ai ci, w.cell? ⟨b, o + i, none⟩ = some (.slice Ai l[i].length ci) ∧ IntsQ w Ai l[i] := by
  obtain ⟨b, o, rfl, hb, hc⟩ := RowsQ.at h hk
  refine ⟨b, o, rfl, hb, fun i hi => ?_⟩
  obtain ⟨vs, h1, ⟨Ai, ci, rfl, h2⟩, h3⟩ := hc i hi
  exact ⟨Ai, ci, by simpa using h3 0 (by simp), h2⟩
theorem ListsQ.small {w : World} {A : Option Addr} {l : List (List Int)} (h : ListsQ w A l) (hs : l.length ≤ 1000000) (hl : ∀ x ∈ l, x.length ≤ 1000000) : Lists w A l :=
  RowsQ.small h (by omega) fun x hx vs ⟨A', c', h1, h2⟩ => ⟨A', c', h1, h2.small (hl x hx)⟩
structure CRepQ (w : World) (C : CaseL) (a1 a2 : Option Addr) : Prop where
  strikes : RowsQ w a1 2 StrR C.strikes
  surveys : ListsQ w a2 C.surveys
theorem CRepQ.aft {w w' : World} {C : CaseL} {a1 a2 : Option Addr} (h : CRepQ w C a1 a2) (ha : Aft w w') : CRepQ w' C a1 a2 := ⟨h.strikes.aft StrR.mono ha, h.surveys.aft ha⟩
structure Small (C : CaseL) (ls : List (List Int)) : Prop where
  lists : ∀ l ∈ ls, l.length ≤ 30
  surveys : ∀ l ∈ C.surveys, l.length ≤ 10
  few : C.strikes.length ≤ 70
  fews : C.surveys.length ≤ 9
theorem CRepQ.small {w : World} {C : CaseL} {a1 a2 : Option Addr} {ls : List (List Int)} (h : CRepQ w C a1 a2) (hs : Small C ls) : CRep w C a1 a2 :=
  ⟨RowsQ.small h.strikes (by have := hs.few; omega) fun _ _ _ h => h, h.surveys.small (by have := hs.fews; omega) fun x hx => by have := hs.surveys x hx; omega⟩

theorem listTwo {α : Type} {l : List α} (h : l.length = 2) : ∃ a b, l = [a, b] := by
  match l, h with
  | [a, b], _ => exact ⟨a, b, rfl⟩
theorem listThree {α : Type} {l : List α} (h : l.length = 3) : ∃ a b c, l = [a, b, c] := by
  match l, h with
  | [a, b, c], _ => exact ⟨a, b, c, rfl⟩
theorem listOne {α : Type} {l : List α} (h : l.length = 1) : ∃ a, l = [a] := by
  match l, h with
  | [a], _ => exact ⟨a, rfl⟩
section
variable {H : Type} {enc : TypeId × Value → H} {W : World} {base : Nat} {spare : Nat → Bool} {held : Bool}

theorem rowsQ_of {α : Type} [Inhabited α] {t e : TypeId} {sz fuel : Nat} {R : World → α → List Value → Prop} {v : Value} {y : DataW H × List MemPlace} (ht : Tryz.prog.underlying t = some (.slice e)) (hsz : Tryz.prog.cellsOf e = sz) (hp : 0 < sz)
    (hR : ∀ n cs y, cs.length = sz → DataW.trod enc Tryz.prog W base spare held n e cs = some y → ∃ x : α, R W x cs) (h : DataW.trod enc Tryz.prog W base spare held fuel t [v] = some y) :
    ∃ A c, ∃ l : List α, v = .slice A l.length c ∧ RowsQ W A sz R l := by
  rcases Go.Deep.open_slice ht h with ⟨hcs, _⟩ | ⟨a, len, cap, m, n, D, Pl, hcs, _, hl, hcm, hm, _, hx⟩
  · cases hcs
    exact ⟨none, 0, [], rfl, by simp, .inl rfl⟩
  · cases hcs
    have hlm : len ≤ m := by rw [hm]; split <;> omega
    obtain ⟨f, hf⟩ := Go.Deep.choose_lt (n := len) (p := fun i x => ∃ cs', W.cells? base (a.add (i * sz)) sz = some cs' ∧ R W x cs') (fun i hi => by
      obtain ⟨cs', h1, h2⟩ := hx i (by omega)
      rw [hsz] at h1
      obtain ⟨_, hlen, _⟩ := World.cells?_some h1
      obtain ⟨x, hx⟩ := hR _ _ _ hlen h2
      exact ⟨x, cs', h1, hx⟩)
    refine ⟨some a, cap, (List.range len).map f, by simp, ?_, ?_⟩
    · have : maxLen = 9223372036854775807 := rfl
      rw [List.length_map, List.length_range]
      omega
    by_cases h0 : len = 0
    · exact .inl (by rw [h0]; rfl)
    obtain ⟨b, off, spot⟩ := a
    obtain ⟨cs0, h1, -⟩ := hf 0 (by omega)
    obtain ⟨_, hlen, hcell⟩ := World.cells?_some h1
    have h00 := hcell 0 hp
    rw [List.getElem?_eq_getElem (by omega)] at h00
    have hspot : spot = none := by simpa [Addr.add] using World.cell?_spot h00
    subst hspot
    have hb : b < W.heap.size := by
      have := World.block_lt_of_cell? _ _ h00
      simpa [add_plain] using this
    refine .inr ⟨b, off, rfl, hb, fun i hi => ?_⟩
    have hi' : i < len := by simpa using hi
    obtain ⟨cs', h1, h2⟩ := hf i hi'
    obtain ⟨_, hlen, hcell⟩ := World.cells?_some h1
    refine ⟨cs', hlen, by simpa using h2, fun j hj => ?_⟩
    have := hcell j (by omega)
    rw [add_plain, add_plain, List.getElem?_eq_getElem hj] at this
    exact this
theorem intR_of {n : Nat} {cs : List Value} {y : DataW H × List MemPlace} (h : DataW.trod enc Tryz.prog W base spare held n 3 cs = some y) : ∃ x : Int, IntR W x cs := by
  obtain ⟨x, rfl, _, _⟩ := DataW.trod_int Tryz.underlying3 h
  exact ⟨x, rfl⟩
theorem intsQ_of {fuel : Nat} {v : Value} {y : DataW H × List MemPlace} (h : DataW.trod enc Tryz.prog W base spare held fuel 33 [v] = some y) : ∃ A c, ∃ l : List Int, v = .slice A l.length c ∧ IntsQ W A l :=
  rowsQ_of Tryz.underlying33 (by kernel_rfl) (by decide) (fun _ _ _ _ h => intR_of h) h
theorem listsQ_of {fuel : Nat} {v : Value} {y : DataW H × List MemPlace} (h : DataW.trod enc Tryz.prog W base spare held fuel 23 [v] = some y) : ∃ A c, ∃ l : List (List Int), v = .slice A l.length c ∧ ListsQ W A l :=
  rowsQ_of Tryz.underlying23 (by kernel_rfl) (by decide) (fun _ cs _ hl h => by
    obtain ⟨v, rfl⟩ := listOne hl
    obtain ⟨A, c, l, rfl, hi⟩ := intsQ_of h
    exact ⟨l, A, c, rfl, hi⟩) h
theorem cellsOf3 : Tryz.prog.cellsOf 3 = 1 := by kernel_rfl
theorem cellsOf22 : Tryz.prog.cellsOf 22 = 1 := by kernel_rfl
theorem cellsOf23 : Tryz.prog.cellsOf 23 = 1 := by kernel_rfl
theorem cellsOf25 : Tryz.prog.cellsOf 25 = 3 := by kernel_rfl
theorem strsQ_of {fuel : Nat} {v : Value} {y : DataW H × List MemPlace} (h : DataW.trod enc Tryz.prog W base spare held fuel 22 [v] = some y) : ∃ A c, ∃ l : List (Int × Int), v = .slice A l.length c ∧ RowsQ W A 2 StrR l :=
  rowsQ_of Tryz.underlying22 (by kernel_rfl) (by decide) (fun _ cs _ hl h => by
    obtain ⟨xs, n, _, _, _, hxl, hf⟩ := DataW.trod_struct Tryz.underlying57 h
    obtain ⟨y0, y1, rfl⟩ := listTwo hxl
    obtain ⟨v0, v1, rfl⟩ := listTwo hl
    have g0 : DataW.trod enc Tryz.prog W base spare held n 3 [v0] = some y0 := by simpa [Value.cells, cellsOf3] using hf 0 _ rfl
    have g1 : DataW.trod enc Tryz.prog W base spare held n 3 [v1] = some y1 := by simpa [Value.cells, cellsOf3] using hf 1 _ rfl
    obtain ⟨x0, e0, _, _⟩ := DataW.trod_int Tryz.underlying3 g0
    obtain ⟨x1, e1, _, _⟩ := DataW.trod_int Tryz.underlying3 g1
    cases e0; cases e1
    exact ⟨(x0, x1), rfl⟩) h
theorem array3 {α : Type} {cs : Array α} (h : cs.size = 3) : ∃ c0 c1 c2, cs = #[c0, c1, c2] := by
  obtain ⟨l⟩ := cs
  match l, h with
  | [c0, c1, c2], _ => exact ⟨c0, c1, c2, rfl⟩
set_option maxRecDepth 100000 in
theorem caseQ_of {r : Reach} {b0 : Nat} {v : Value} {d : DataW H} {p : List MemPlace} (hv : Value.okWide Tryz.prog W r b0 25 v) (h : DataW.Trod enc Tryz.prog W base spare held 25 v d p) :
    ∃ C : CaseL, ∃ (a1 a2 : Option Addr) (c1 c2 : Nat), v = (.agg #[.int .i64 C.claims, .slice a1 C.strikes.length c1, .slice a2 C.surveys.length c2]) ∧ CRepQ W C a1 a2 := by
  obtain ⟨cs, rfl, hsz⟩ := okWide_struct Tryz.underlying25 hv
  obtain ⟨v0, v1, v2, rfl⟩ := array3 (hsz.trans cellsOf25)
  obtain ⟨fuel, hf⟩ := h
  obtain ⟨xs, n, _, _, _, hxl, hf⟩ := DataW.trod_struct Tryz.underlying25 hf
  obtain ⟨y0, y1, y2, rfl⟩ := listThree hxl
  have g0 : DataW.trod enc Tryz.prog W base spare held n 3 [v0] = some y0 := by simpa [Value.cells, cellsOf3, cellsOf22, cellsOf23] using hf 0 _ rfl
  have g1 : DataW.trod enc Tryz.prog W base spare held n 22 [v1] = some y1 := by simpa [Value.cells, cellsOf3, cellsOf22, cellsOf23] using hf 1 _ rfl
  have g2 : DataW.trod enc Tryz.prog W base spare held n 23 [v2] = some y2 := by simpa [Value.cells, cellsOf3, cellsOf22, cellsOf23] using hf 2 _ rfl
  obtain ⟨x0, e0, _, _⟩ := DataW.trod_int Tryz.underlying3 g0
  obtain ⟨A1, d1, l1, rfl, i1⟩ := strsQ_of g1
  obtain ⟨A2, d2, l2, rfl, i2⟩ := listsQ_of g2
  cases e0
  exact ⟨⟨x0, l1, l2⟩, A1, A2, d1, d2, rfl, i1, i2⟩
set_option maxRecDepth 100000 in
theorem intsQ_arg {v : Value} {r : Reach} {b0 : Nat} {d : DataW H} {p : List MemPlace} (hv : Value.okWide Tryz.prog W r b0 33 v) (h : DataW.Trod enc Tryz.prog W base spare held 33 v d p) : ∃ A c, ∃ l : List Int, v = .slice A l.length c ∧ IntsQ W A l := by
  obtain ⟨a0, len0, cap0, rfl⟩ := okWide_slice Tryz.underlying33 hv
  obtain ⟨fuel, hf⟩ := h
  exact intsQ_of (by simpa [Value.cells] using hf)
end
end Go.Proofs
end

section
namespace Go.Proofs
open Go.RowKit
attribute [local go_sem] Oper.semAt_some
def GreatR (C : CaseL) (ls : List (List Int)) (w : World) (e : Ending) (w' : World) : Prop := ∃ b, e = .returned (.bool b) ∧ (b = false → Small C ls) ∧ Aft w w'

set_option maxRecDepth 100000 in
set_option maxHeartbeats 4000000 in
theorem great_any (C : CaseL) (a1 a2 : Option Addr) (c1 c2 : Nat) (most : Int) (ls : List (List Int)) (AL : Option Addr) (cL : Nat) (w : World) (hC : CRepQ w C a1 a2) (hL : ListsQ w AL ls) :
    Calls Tryz.prog 11 #[(.agg #[.int .i64 C.claims, .slice a1 C.strikes.length c1, .slice a2 C.surveys.length c2]), .int .i64 most, .slice AL ls.length cL] w (GreatR C ls w) := by
  have H0 := Lib.hid (Aft.alloc w (.cells #[.int .i64 C.claims, .slice a1 C.strikes.length c1, .slice a2 C.surveys.length c2] 25))
  have HB := Lib.hid (Blk.new w 25 #[.int .i64 C.claims, .slice a1 C.strikes.length c1, .slice a2 C.surveys.length c2])
  have HL := Lib.hid (hL.aft H0.out)
  have HC := Lib.hid (hC.aft H0.out)
  have hls := hL.1
  have hsv := hC.surveys.1
  have hst := hC.strikes.1
  clear hC hL
  obtain ⟨bC, hbC⟩ : ∃ bC, w.heap.size = bC := ⟨_, rfl⟩
  rw [hbC] at HB
  have HBC := Lib.hid hbC
  clear hbC
  unfold GreatR
  go_enter Tryz.func11, Tryz.ntmps11
  go_upto_block 0 with fail
  rw [HBC.out]
  generalize w.alloc (.cells #[.int .i64 C.claims, .slice a1 C.strikes.length c1, .slice a2 C.surveys.length c2] 25) = W0 at *
  refine wp_block ?_
  go_loopw [13] (fun i wr => ∃ k : Nat, i = .int .i64 k ∧ k ≤ ls.length ∧ Aft W0 wr ∧ Hid (∀ j, (h : j < ls.length) → j < k → ls[j].length ≤ 30)) (fun i _ => ls.length - (intOf i).toNat)
  case atStart => exact ⟨0, rfl, by omega, Aft.refl _, Lib.hid fun j _ h => by omega⟩
  case round =>
    obtain ⟨k, rfl, hk, hy, HS⟩ := hrel
    have HY := Lib.hid hy
    clear hy
    by_cases hkl : k < ls.length
    · have t1 : decide (k < ls.length) = true := by simpa using hkl
      have ik : (0 : Int) ≤ (k : Int) ∧ (k : Int) < (ls.length : Int) := by omega
      obtain ⟨b, o, hb0, hb, hc⟩ := (HL.out.aft HY.out).at hkl
      subst hb0
      obtain ⟨Ai, ci, x0, -⟩ := hc k hkl
      obtain ⟨l, hl0⟩ : ∃ l, ls[k] = l := ⟨_, rfl⟩
      have HLK := Lib.hid hl0
      rw [hl0] at x0
      clear hc hl0
      by_cases hl : 30 < l.length
      · have t2 : decide ((30 : Int) < (l.length : Int)) = true := by simp; omega
        go_wp2_with fail
        go_ret
        exact ⟨true, rfl, fun h => (by cases h), H0.out.trans HY.out⟩
      · have t2 : decide ((30 : Int) < (l.length : Int)) = false := by simp; omega
        have HS2 : Hid (∀ j, (h : j < ls.length) → j < k + 1 → ls[j].length ≤ 30) := Lib.hid fun j h h' => by
          by_cases e : j = k
          · subst e
            rw [HLK.out]
            omega
          · exact HS.out j h (by omega)
        go_wp2_with fail
        exact ⟨⟨k + 1, by go_num, by omega, HY.out, HS2⟩, by simp [intOf]; omega⟩
    · have t1 : decide (k < ls.length) = false := by simpa using hkl
      have HS1 : Hid (∀ l ∈ ls, l.length ≤ 30) := Lib.hid fun l hl => by
        obtain ⟨j, hj, rfl⟩ := List.mem_iff_getElem.1 hl
        exact HS.out j hj (by omega)
      obtain ⟨W1, rfl⟩ : ∃ W1, W1 = wr := ⟨_, rfl⟩
      obtain ⟨k0, k1, k2⟩ := box25 (HB.out.aft HY.out)
      have k3 := (HB.out.aft HY.out).lt
      replace HC := Lib.hid (HC.out.aft HY.out)
      replace HB := Lib.hid (HB.out.aft HY.out)
      replace H0 := Lib.hid (H0.out.trans HY.out)
      clear HS HY hkl
      go_upto_block 2 with fail
      clear k0 k1 k2 k3
      refine wp_block ?_
      go_loopw [24] (fun i wr => ∃ k : Nat, i = .int .i64 k ∧ k ≤ C.surveys.length ∧ Aft W1 wr ∧ Hid (∀ j, (h : j < C.surveys.length) → j < k → C.surveys[j].length ≤ 10)) (fun i _ => C.surveys.length - (intOf i).toNat)
      case atStart => exact ⟨0, rfl, by omega, Aft.refl _, Lib.hid fun j _ h => by omega⟩
      case round =>
        obtain ⟨k, rfl, hk, hy, HS⟩ := hrel
        have HY := Lib.hid hy
        clear hy
        by_cases hkl : k < C.surveys.length
        · have t3 : decide (k < C.surveys.length) = true := by simpa using hkl
          have ik : (0 : Int) ≤ (k : Int) ∧ (k : Int) < (C.surveys.length : Int) := by omega
          obtain ⟨b, o, hb0, hb, hc⟩ := (HC.out.surveys.aft HY.out).at hkl
          subst hb0
          obtain ⟨Ai, ci, x0, -⟩ := hc k hkl
          obtain ⟨l, hl0⟩ : ∃ l, C.surveys[k] = l := ⟨_, rfl⟩
          have HLK := Lib.hid hl0
          rw [hl0] at x0
          clear hc hl0
          by_cases hl : 10 < l.length
          · have t4 : decide ((10 : Int) < (l.length : Int)) = true := by simp; omega
            go_wp2_with fail
            go_ret
            exact ⟨true, rfl, fun h => (by cases h), H0.out.trans HY.out⟩
          · have t4 : decide ((10 : Int) < (l.length : Int)) = false := by simp; omega
            have HS2 : Hid (∀ j, (h : j < C.surveys.length) → j < k + 1 → C.surveys[j].length ≤ 10) := Lib.hid fun j h h' => by
              by_cases e : j = k
              · subst e
                rw [HLK.out]
                omega
              · exact HS.out j h (by omega)
            go_wp2_with fail
            exact ⟨⟨k + 1, by go_num, by omega, HY.out, HS2⟩, by simp [intOf]; omega⟩
        · have t3 : decide (k < C.surveys.length) = false := by simpa using hkl
          have HS3 : Hid (∀ l ∈ C.surveys, l.length ≤ 10) := Lib.hid fun l hl => by
            obtain ⟨j, hj, rfl⟩ := List.mem_iff_getElem.1 hl
            exact HS.out j hj (by omega)
          obtain ⟨k0, k1, k2⟩ := box25 (HB.out.aft HY.out)
          have k3 := (HB.out.aft HY.out).lt
          clear HS
          by_cases h1 : 70 < C.strikes.length
          · have t5 : decide ((70 : Int) < (C.strikes.length : Int)) = true := by simp; omega
            go_wp2_with fail
            go_ret
            exact ⟨true, rfl, fun h => (by cases h), H0.out.trans HY.out⟩
          · have t5 : decide ((70 : Int) < (C.strikes.length : Int)) = false := by simp; omega
            by_cases h2 : 9 < C.surveys.length
            · have t6 : decide ((9 : Int) < (C.surveys.length : Int)) = true := by simp; omega
              go_wp2_with fail
              go_ret
              exact ⟨true, rfl, fun h => (by cases h), H0.out.trans HY.out⟩
            · have t6 : decide ((9 : Int) < (C.surveys.length : Int)) = false := by simp; omega
              have HSM : Hid (Small C ls) := Lib.hid ⟨HS1.out, HS3.out, by omega, by omega⟩
              clear h1 h2 HS1 HS3
              cases h3 : decide (most < C.claims)
              · go_wp2_with fail
                go_ret
                exact ⟨_, rfl, fun _ => HSM.out, H0.out.trans HY.out⟩
              · go_wp2_with fail
                go_ret
                exact ⟨_, rfl, fun _ => HSM.out, H0.out.trans HY.out⟩
end Go.Proofs
end

section
namespace Go.Proofs
open Go.RowKit
attribute [local go_sem] Oper.semAt_some

theorem ne57 (a b c d : Int) (W : World) : (binOp .neq 57 (.agg #[.int .i64 a, .int .i64 b]) (.agg #[.int .i64 c, .int .i64 d])).run Tryz.prog W = .ok (.bool (!(a == c && b == d))) W := by
  by_cases h : a = c <;> by_cases h2 : b = d <;> simp [go_sem, h, h2]

set_option maxRecDepth 100000 in
set_option maxHeartbeats 4000000 in
theorem kitEqual_str (A A' : Option Addr) (L L' : List (Int × Int)) (c c' : Nat) (w : World) (hA : Strs w A L) (hA' : Strs w A' L') :
    Calls Tryz.prog 67 #[.slice A L.length c, .slice A' L'.length c'] w fun e w' => e = .returned (.bool (eqB L L')) ∧ Aft w w' := by
  have hl := hA.len
  have hl' := hA'.len
  have HA := Lib.hid hA
  have HA' := Lib.hid hA'
  clear hA hA'
  go_enter Tryz.func67, Tryz.ntmps67
  go_upto_block 0 with fail
  refine wp_block ?_
  go_loopw [8] (fun i wr => ∃ k : Nat, i = .int .i64 k ∧ k ≤ L.length ∧ k ≤ L'.length ∧ Hid (∀ j, (h : j < L.length) → (h' : j < L'.length) → j < k → L[j] = L'[j]) ∧ Aft w wr) (fun i _ => L.length - (intOf i).toNat)
  case atStart => exact ⟨0, rfl, by omega, by omega, Lib.hid fun j _ _ h => by omega, Aft.refl _⟩
  case round =>
    obtain ⟨k, rfl, hk, hk', HH, hw⟩ := hrel
    have HW := Lib.hid hw
    clear hw
    by_cases hkl : k < L.length
    · have t1 : decide (k < L.length) = true := by simpa using hkl
      have ik : (0 : Int) ≤ (k : Int) ∧ (k : Int) < (L.length : Int) := by omega
      obtain ⟨bs, os, hbs, hlts, hcs⟩ := (HA.out.aft HW.out).at hkl
      subst hbs
      obtain ⟨x1, x2⟩ := hcs k hkl
      obtain ⟨⟨y, z⟩, hyz⟩ : ∃ s, L[k] = s := ⟨_, rfl⟩
      have HYZ := Lib.hid hyz
      rw [hyz] at x1 x2
      dsimp only at x1 x2
      have HX1 : Hid (∀ W, Aft wr W → W.cell? ⟨bs, os + k * 2, none⟩ = some (.int .i64 y)) := Lib.hid fun W h => cellA x1 hlts h
      have HX2 : Hid (∀ W, Aft wr W → W.cell? ⟨bs, os + k * 2 + 1, none⟩ = some (.int .i64 z)) := Lib.hid fun W h => cellA x2 hlts h
      clear hcs hyz x1 x2
      by_cases hkl' : k < L'.length
      · have ik' : (0 : Int) ≤ (k : Int) ∧ (k : Int) < (L'.length : Int) := by omega
        have hge : decide ((L'.length : Int) ≤ (k : Int)) = false := by simp; omega
        have hgeN : decide (L'.length ≤ k) = false := by simp; omega
        obtain ⟨bt, ot, hbt, hltt, hct⟩ := (HA'.out.aft HW.out).at hkl'
        subst hbt
        obtain ⟨x3, x4⟩ := hct k hkl'
        obtain ⟨⟨y', z'⟩, hyz'⟩ : ∃ s, L'[k] = s := ⟨_, rfl⟩
        have HYZ' := Lib.hid hyz'
        rw [hyz'] at x3 x4
        dsimp only at x3 x4
        have HX3 : Hid (∀ W, Aft wr W → W.cell? ⟨bt, ot + k * 2, none⟩ = some (.int .i64 y')) := Lib.hid fun W h => cellA x3 hltt h
        have HX4 : Hid (∀ W, Aft wr W → W.cell? ⟨bt, ot + k * 2 + 1, none⟩ = some (.int .i64 z')) := Lib.hid fun W h => cellA x4 hltt h
        obtain ⟨bb, hbb⟩ : ∃ bb, (!(y == y' && z == z')) = bb := ⟨_, rfl⟩
        have HBB : Hid (bb = false ↔ (y = y' ∧ z = z')) := Lib.hid (by rw [← hbb]; simp)
        clear hct hyz' x3 x4
        go_upto_region 4 with fail
        refine wp_region_valsG (by kernel_rfl) 32 rfl (by kernel_rfl) (by kernel_rfl) [.int .i64 k, .slice (some ⟨bt, ot, none⟩) L'.length c', .int .i64 L'.length, .bool false, .bool false, .slice (some ⟨bs, os, none⟩) L.length c, .int .i64 k, .pointer (some ⟨bs, os + k * 2, none⟩), .agg #[.int .i64 y, .int .i64 z], .slice (some ⟨bt, ot, none⟩) L'.length c', .int .i64 k, .pointer (some ⟨bt, ot + k * 2, none⟩), .agg #[.int .i64 y', .int .i64 z'], .bool bb, .bool bb] rfl (fun W => Aft wr W) (Aft.drew _) ?st1 ?fi1
        case st1 =>
          intro i o v ho hv
          match i, ho, hv with
          | 0, ho, hv =>
            cases ho; cases hv
            refine .inl ⟨rfl, fun a W hk hw K hK => ?_⟩
            have e5 := hk.same 5 (by decide)
            exact op_val (by simp [go_sem, ev' e5]) (hK _ hw)
          | 1, ho, hv =>
            cases ho; cases hv
            refine .inl ⟨rfl, fun a W hk hw K hK => ?_⟩
            have e1 := hk.same 1 (by decide)
            exact op_val (by simp [go_sem, ev' e1]) (hK _ hw)
          | 2, ho, hv =>
            cases ho; cases hv
            refine .inl ⟨rfl, fun a W hk hw K hK => ?_⟩
            have e12 := hk.at_ 1 _ 12 _ rfl (by decide) _ rfl rfl rfl
            exact op_val (by simp [go_sem, ev' e12]) (hK _ hw)
          | 3, ho, hv =>
            cases ho; cases hv
            refine .inl ⟨rfl, fun a W hk hw K hK => ?_⟩
            have e11 := hk.at_ 0 _ 11 _ rfl (by decide) _ rfl rfl rfl
            have e13 := hk.at_ 2 _ 13 _ rfl (by decide) _ rfl rfl rfl
            exact op_val (by simp [go_sem, ev' e11, ev' e13, hge, hgeN]) (hK _ hw)
          | 4, ho, hv =>
            cases ho; cases hv
            refine .inl ⟨rfl, fun a W hk hw K hK => ?_⟩
            have e14 := hk.at_ 3 _ 14 _ rfl (by decide) _ rfl rfl rfl
            exact op_val (by simp [go_sem, ev' e14]) (hK _ hw)
          | 5, ho, hv =>
            cases ho; cases hv
            refine .inl ⟨rfl, fun a W hk hw K hK => ?_⟩
            have e0 := hk.same 0 (by decide)
            exact op_val (by simp [go_sem, ev' e0]) (hK _ hw)
          | 6, ho, hv =>
            cases ho; cases hv
            refine .inl ⟨rfl, fun a W hk hw K hK => ?_⟩
            have e5 := hk.same 5 (by decide)
            exact op_val (by simp [go_sem, ev' e5]) (hK _ hw)
          | 7, ho, hv =>
            cases ho; cases hv
            refine .inl ⟨rfl, fun a W hk hw K hK => ?_⟩
            have e16 := hk.at_ 5 _ 16 _ rfl (by decide) _ rfl rfl rfl
            have e17 := hk.at_ 6 _ 17 _ rfl (by decide) _ rfl rfl rfl
            exact op_val (by simp [go_sem, ev' e16, ev' e17, ik]) (hK _ hw)
          | 8, ho, hv =>
            cases ho; cases hv
            refine .inl ⟨rfl, fun a W hk hw K hK => ?_⟩
            have e18 := hk.at_ 7 _ 18 _ rfl (by decide) _ rfl rfl rfl
            exact op_val (by simp [go_sem, ev' e18, HX1.out W hw, HX2.out W hw]) (hK _ hw)
          | 9, ho, hv =>
            cases ho; cases hv
            refine .inl ⟨rfl, fun a W hk hw K hK => ?_⟩
            have e1 := hk.same 1 (by decide)
            exact op_val (by simp [go_sem, ev' e1]) (hK _ hw)
          | 10, ho, hv =>
            cases ho; cases hv
            refine .inl ⟨rfl, fun a W hk hw K hK => ?_⟩
            have e5 := hk.same 5 (by decide)
            exact op_val (by simp [go_sem, ev' e5]) (hK _ hw)
          | 11, ho, hv =>
            cases ho; cases hv
            refine .inl ⟨rfl, fun a W hk hw K hK => ?_⟩
            have e20 := hk.at_ 9 _ 20 _ rfl (by decide) _ rfl rfl rfl
            have e21 := hk.at_ 10 _ 21 _ rfl (by decide) _ rfl rfl rfl
            exact op_val (by simp [go_sem, ev' e20, ev' e21, ik']) (hK _ hw)
          | 12, ho, hv =>
            cases ho; cases hv
            refine .inl ⟨rfl, fun a W hk hw K hK => ?_⟩
            have e22 := hk.at_ 11 _ 22 _ rfl (by decide) _ rfl rfl rfl
            exact op_val (by simp [go_sem, ev' e22, HX3.out W hw, HX4.out W hw]) (hK _ hw)
          | 13, ho, hv =>
            cases ho; cases hv
            refine .inl ⟨rfl, fun a W hk hw K hK => ?_⟩
            have e19 := hk.at_ 8 _ 19 _ rfl (by decide) _ rfl rfl rfl
            have e23 := hk.at_ 12 _ 23 _ rfl (by decide) _ rfl rfl rfl
            exact op_val (v := .bool bb) (by by_cases g1 : y = y' <;> by_cases g2 : z = z' <;> simp [go_sem, ev' e19, ev' e23, g1, g2, ← hbb]) (hK _ hw)
          | 14, ho, hv =>
            cases ho; cases hv
            refine .inl ⟨rfl, fun a W hk hw K hK => ?_⟩
            have e15 := hk.at_ 4 _ 15 _ rfl (by decide) _ rfl rfl rfl
            have e24 := hk.at_ 13 _ 24 _ rfl (by decide) _ rfl rfl rfl
            exact op_val (by simp [go_sem, ev' e15, ev' e24]) (hK _ hw)
          | _ + 15, _, hv => cases hv
        intro W hw
        simp only [List.drop_succ_cons, List.drop_zero, List.zip_cons_cons, List.zip_nil_right, putAll]
        simp only [Act.put, List.setIfInBounds_toArray, List.set]
        cases bb
        · have HH2 : Hid (∀ j, (h : j < L.length) → (h' : j < L'.length) → j < k + 1 → L[j] = L'[j]) := Lib.hid fun j h h' hj => by
            by_cases e : j = k
            · subst e
              rw [HYZ.out, HYZ'.out]
              obtain ⟨h1, h2⟩ := HBB.out.1 rfl
              rw [h1, h2]
            · exact HH.out j h h' (by omega)
          go_wp2_with fail
          exact ⟨⟨k + 1, by go_num, by omega, by omega, HH2, HW.out.trans hw⟩, by simp [intOf]; omega⟩
        · have HF : Hid (eqB L L' = false) := Lib.hid (decide_eq_false fun e => by
            have h1 := HYZ.out
            have h2 := HYZ'.out
            subst e
            rw [h1] at h2
            cases h2
            have := HBB.out.2 ⟨rfl, rfl⟩
            cases this)
          go_wp2_with fail
          go_ret
          exact ⟨ret_bool HF.out.symm, HW.out.trans hw⟩
      · have hge : decide ((L'.length : Int) ≤ (k : Int)) = true := by simp; omega
        have hgeN : decide (L'.length ≤ k) = true := by simp; omega
        have HF : Hid (eqB L L' = false) := Lib.hid (decide_eq_false fun e => by rw [e] at hkl; exact hkl' hkl)
        go_upto_region 4 with fail
        refine wp_region_valsG (by kernel_rfl) 32 rfl (by kernel_rfl) (by kernel_rfl) [.int .i64 k, .slice A' L'.length c', .int .i64 L'.length, .bool true, .bool true, undef, undef, undef, undef, undef, undef, undef, undef, undef, .bool true] rfl (fun W => Aft wr W) (Aft.drew _) ?st2 ?fi2
        case st2 =>
          intro i o v ho hv
          match i, ho, hv with
          | 0, ho, hv =>
            cases ho; cases hv
            refine .inl ⟨rfl, fun a W hk hw K hK => ?_⟩
            have e5 := hk.same 5 (by decide)
            exact op_val (by simp [go_sem, ev' e5]) (hK _ hw)
          | 1, ho, hv =>
            cases ho; cases hv
            refine .inl ⟨rfl, fun a W hk hw K hK => ?_⟩
            have e1 := hk.same 1 (by decide)
            exact op_val (by simp [go_sem, ev' e1]) (hK _ hw)
          | 2, ho, hv =>
            cases ho; cases hv
            refine .inl ⟨rfl, fun a W hk hw K hK => ?_⟩
            have e12 := hk.at_ 1 _ 12 _ rfl (by decide) _ rfl rfl rfl
            exact op_val (by simp [go_sem, ev' e12]) (hK _ hw)
          | 3, ho, hv =>
            cases ho; cases hv
            refine .inl ⟨rfl, fun a W hk hw K hK => ?_⟩
            have e11 := hk.at_ 0 _ 11 _ rfl (by decide) _ rfl rfl rfl
            have e13 := hk.at_ 2 _ 13 _ rfl (by decide) _ rfl rfl rfl
            exact op_val (by simp [go_sem, ev' e11, ev' e13, hge, hgeN]) (hK _ hw)
          | 4, ho, hv =>
            cases ho; cases hv
            refine .inl ⟨rfl, fun a W hk hw K hK => ?_⟩
            have e14 := hk.at_ 3 _ 14 _ rfl (by decide) _ rfl rfl rfl
            exact op_val (by simp [go_sem, ev' e14]) (hK _ hw)
          | 5, ho, hv => cases ho; cases hv; exact .inr ⟨rfl, rfl⟩
          | 6, ho, hv => cases ho; cases hv; exact .inr ⟨rfl, rfl⟩
          | 7, ho, hv => cases ho; cases hv; exact .inr ⟨rfl, rfl⟩
          | 8, ho, hv => cases ho; cases hv; exact .inr ⟨rfl, rfl⟩
          | 9, ho, hv => cases ho; cases hv; exact .inr ⟨rfl, rfl⟩
          | 10, ho, hv => cases ho; cases hv; exact .inr ⟨rfl, rfl⟩
          | 11, ho, hv => cases ho; cases hv; exact .inr ⟨rfl, rfl⟩
          | 12, ho, hv => cases ho; cases hv; exact .inr ⟨rfl, rfl⟩
          | 13, ho, hv => cases ho; cases hv; exact .inr ⟨rfl, rfl⟩
          | 14, ho, hv =>
            cases ho; cases hv
            refine .inl ⟨rfl, fun a W hk hw K hK => ?_⟩
            have e15 := hk.at_ 4 _ 15 _ rfl (by decide) _ rfl rfl rfl
            have e24 := hk.at_ 13 _ 24 _ rfl (by decide) _ rfl rfl rfl
            exact op_val (by simp [go_sem, ev' e15, ev' e24]) (hK _ hw)
          | _ + 15, _, hv => cases hv
        intro W hw
        simp only [List.drop_succ_cons, List.drop_zero, List.zip_cons_cons, List.zip_nil_right, putAll]
        simp only [Act.put, List.setIfInBounds_toArray, List.set]
        go_wp2_with fail
        go_ret
        exact ⟨ret_bool HF.out.symm, HW.out.trans hw⟩
    · have t1 : decide (k < L.length) = false := by simpa using hkl
      have HE : Hid (((L.length : Int) == (L'.length : Int)) = eqB L L') := Lib.hid (by
        by_cases hLL : L.length = L'.length
        · have : L = L' := List.ext_getElem hLL fun i h1 h2 => HH.out i h1 h2 (by omega)
          rw [← this]
          simp [eqB]
        · have h1 : eqB L L' = false := decide_eq_false fun e => hLL (by rw [e])
          rw [h1]
          simp; omega)
      go_wp2_with fail
      go_ret
      exact ⟨ret_bool HE.out, HW.out⟩
theorem eqB_self {α : Type} [DecidableEq α] (l : List α) : eqB l l = true := by simp [eqB]

set_option maxRecDepth 100000 in
set_option maxHeartbeats 2000000 in
theorem equal_same (C : CaseL) (a1 a2 : Option Addr) (c1 c2 : Nat) (b1 b2 : Option Addr) (d1 d2 : Nat) (w : World) (hC : CRep w C a1 a2) (hC' : CRep w C b1 b2) :
    Calls Tryz.prog 23 #[(.agg #[.int .i64 C.claims, .slice a1 C.strikes.length c1, .slice a2 C.surveys.length c2]), .agg #[.int .i64 C.claims, .slice b1 C.strikes.length d1, .slice b2 C.surveys.length d2]] w fun e w' => e = .returned (.bool true) ∧ Aft w w' := by
  have H0 := Lib.hid ((Aft.alloc w (.cells #[.int .i64 C.claims, .slice a1 C.strikes.length c1, .slice a2 C.surveys.length c2] 25)).then_alloc (.cells #[.int .i64 C.claims, .slice b1 C.strikes.length d1, .slice b2 C.surveys.length d2] 25))
  have HB := Lib.hid ((Blk.new w 25 #[.int .i64 C.claims, .slice a1 C.strikes.length c1, .slice a2 C.surveys.length c2]).alloc (.cells #[.int .i64 C.claims, .slice b1 C.strikes.length d1, .slice b2 C.surveys.length d2] 25))
  have HB2 := Lib.hid (Blk.new (w.alloc (.cells #[.int .i64 C.claims, .slice a1 C.strikes.length c1, .slice a2 C.surveys.length c2] 25)) 25 #[.int .i64 C.claims, .slice b1 C.strikes.length d1, .slice b2 C.surveys.length d2])
  rw [World.size_alloc] at HB2
  have H67 : Hid (∀ W, Aft w W → Calls Tryz.prog 67 #[.slice a1 C.strikes.length c1, .slice b1 C.strikes.length d1] W fun e w' => e = .returned (.bool true) ∧ Aft W w') := Lib.hid fun W h => by
    have := kitEqual_str a1 b1 C.strikes C.strikes c1 d1 W (hC.aft h).strikes (hC'.aft h).strikes
    rwa [eqB_self] at this
  have H29 : Hid (∀ W, Aft w W → Calls Tryz.prog 29 #[.slice a2 C.surveys.length c2, .slice b2 C.surveys.length d2] W fun e w' => e = .returned (.bool true) ∧ Aft W w') := Lib.hid fun W h => by
    have := equalAll_any W a2 b2 C.surveys C.surveys c2 d2 (hC.aft h).surveys (hC'.aft h).surveys
    rwa [eqB_self] at this
  clear hC hC'
  go_enter Tryz.func23, Tryz.ntmps23
  go_upto_region 1 with fail
  try rw [World.size_alloc]
  obtain ⟨g1, hg1⟩ : ∃ g1, w.heap.size = g1 := ⟨_, rfl⟩
  rw [hg1] at HB HB2 ⊢
  clear hg1
  generalize (w.alloc (.cells #[.int .i64 C.claims, .slice a1 C.strikes.length c1, .slice a2 C.surveys.length c2] 25)).alloc (.cells #[.int .i64 C.claims, .slice b1 C.strikes.length d1, .slice b2 C.surveys.length d2] 25) = W0 at *
  obtain ⟨k0, k1, k2⟩ := box25 HB.out
  obtain ⟨j0, j1, j2⟩ := box25 HB2.out
  have k3 := HB.out.lt
  have j3 := HB2.out.lt
  have t1 : (C.claims == C.claims) = true := by simp
  (repeat (first | go_big_skip | go_big_want | go_big_move | go_big_op | go_step | go_upon | go_back))
  go_at_call 67
  refine (H67.out W0 H0.out).mono ?_
  rintro e W1 ⟨rfl, ha⟩
  dsimp only
  obtain ⟨k0, k1, k2⟩ := box25 (HB.out.aft ha)
  obtain ⟨j0, j1, j2⟩ := box25 (HB2.out.aft ha)
  have k3 := (HB.out.aft ha).lt
  have j3 := (HB2.out.aft ha).lt
  have HA1 := Lib.hid (H0.out.trans ha)
  clear ha
  (repeat (first | go_big_skip | go_big_want | go_big_move | go_big_op | go_step | go_upon | go_back))
  go_at_call 29
  refine (H29.out W1 HA1.out).mono ?_
  rintro e W2 ⟨rfl, ha⟩
  dsimp only
  have HA2 := Lib.hid (HA1.out.trans ha)
  clear ha
  (repeat (first | go_big_skip | go_big_want | go_big_move | go_big_op | go_step | go_upon | go_back))
  go_ret
  exact ⟨rfl, HA2.out⟩
end Go.Proofs
end
