/- Own texts, merged: CtRm CtPs CtRl CtQr CtGr. -/
import Derived.Test.YtbchfakfdikkjaaP05
import Derived.Test.YtbchfakfdikkjaaP06
import Derived.Test.YtbchfakfdikkjaaP07
import Derived.Test.YtbchfakfdikkjaaP08
import Derived.ProofKit
import Derived.Deep.Slices
import Derived.Deep.Strs
import Derived.ChangeArms
import Derived.OpenShut
set_option linter.unusedSimpArgs false
set_option linter.unusedVariables false
set_option linter.unnecessarySimpa false
section
namespace Go.Proofs
open Go.RowKit
open Court (refL begF noS struckB nextR)
attribute [local go_sem] Oper.semAt_some

def cntB (S : List (Int × Int)) (n : Int) (p : Int → Bool) (k : Nat) : Nat := (S.take k).countP fun s => decide (s.2 = n) && p s.1
theorem cntB_zero (S : List (Int × Int)) (n : Int) (p : Int → Bool) : cntB S n p 0 = 0 := by simp [cntB]
theorem cntB_succ (S : List (Int × Int)) (n : Int) (p : Int → Bool) (k : Nat) (h : k < S.length) : cntB S n p (k + 1) = cntB S n p k + if (decide (S[k].2 = n) && p S[k].1) = true then 1 else 0 := by
  unfold cntB
  rw [List.take_succ_eq_append_getElem h, List.countP_append, List.countP_singleton]
theorem cntB_none {S : List (Int × Int)} {n : Int} {p : Int → Bool} : cntB S n p S.length = 0 ↔ ∀ s ∈ S, s.2 = n → p s.1 = false := by
  unfold cntB
  rw [List.take_of_length_le (Nat.le_refl _), List.countP_eq_zero]
  constructor
  · intro h s hs he
    have := h s hs
    rw [decide_eq_true he, Bool.true_and] at this
    simpa using this
  · intro h s hs hp
    rw [Bool.and_eq_true, decide_eq_true_eq] at hp
    rw [h s hs hp.1] at hp
    cases hp.2
theorem struck_none {S : List (Int × Int)} {f : Int → Nat} {n : Int} {v : Nat} : struckB S noS f n v = false ↔ ∀ s ∈ S, s.2 = n → decide (f s.1 = v) = false := by
  unfold struckB
  rw [List.any_eq_false]
  constructor
  · intro h s hs he
    have := h s hs
    rw [decide_eq_true he] at this
    simpa [noS] using this
  · intro h s hs hp
    simp only [Bool.and_eq_true, decide_eq_true_eq] at hp
    have := h s hs hp.1.1
    simp at this
    exact this hp.2
def refH (br : Bool) (fn rn u o hi lo : Nat) : Bool :=
  if br then decide (fn = 2) && decide (rn = 0)
  else if fn = 0 then decide (rn = 0) && decide (u = 0) && decide (0 < o)
  else if fn = 1 then decide (0 < rn) && decide (u = 0) && decide (o = 0) && decide (hi = 0)
  else decide (0 < rn) && decide (0 < lo)
theorem refH_held (S : List (Int × Int)) (ref : Int → Bool) (f r : Int → Nat) (n : Int) :
    refH (ref n) (f n) (r n) (cntB S n (fun x => decide (f x = 1)) S.length) (cntB S n (fun x => decide (f x = 0)) S.length) (cntB S n (fun x => decide (r n ≤ r x)) S.length) (cntB S n (fun x => decide (f x = 1) && decide (r x < r n)) S.length) = heldB S noS ref f r n := by
  have hu : decide (cntB S n (fun x => decide (f x = 1)) S.length = 0) = !struckB S noS f n 1 := by
    cases h : struckB S noS f n 1
    · exact decide_eq_true (cntB_none.2 (struck_none.1 h))
    · exact decide_eq_false fun h2 => by rw [struck_none.2 (cntB_none.1 h2)] at h; cases h
  have ho : decide (cntB S n (fun x => decide (f x = 0)) S.length = 0) = !struckB S noS f n 0 := by
    cases h : struckB S noS f n 0
    · exact decide_eq_true (cntB_none.2 (struck_none.1 h))
    · exact decide_eq_false fun h2 => by rw [struck_none.2 (cntB_none.1 h2)] at h; cases h
  have ho2 : decide (0 < cntB S n (fun x => decide (f x = 0)) S.length) = struckB S noS f n 0 := by
    have : decide (0 < cntB S n (fun x => decide (f x = 0)) S.length) = !decide (cntB S n (fun x => decide (f x = 0)) S.length = 0) := by
      rw [← decide_not]
      exact decide_eq_decide.2 (by omega)
    rw [this, ho, Bool.not_not]
  unfold refH heldB
  by_cases h1 : ref n = true
  · rw [if_pos h1, if_pos h1]
  · rw [if_neg h1, if_neg h1]
    by_cases h2 : f n = 0
    · rw [if_pos h2, if_pos h2, hu, ho2, Bool.and_assoc]
    · rw [if_neg h2, if_neg h2]
      by_cases h3 : f n = 1
      · rw [if_pos h3, if_pos h3, hu, ho]
        unfold freeB
        have hh : (decide (0 < r n) && decide (cntB S n (fun x => decide (r n ≤ r x)) S.length = 0)) = decide (nextR S noS r n ≤ r n) := by
          rw [Bool.eq_iff_iff, Bool.and_eq_true, decide_eq_true_eq, decide_eq_true_eq, decide_eq_true_eq, cntB_none]
          constructor
          · rintro ⟨ha, hb⟩
            exact Court.next_le ha fun s hs he _ => by
              have := of_decide_eq_false (hb s hs he)
              omega
          · intro h
            refine ⟨Nat.lt_of_lt_of_le (Court.next_pos S noS r n) h, fun s hs he => decide_eq_false ?_⟩
            have := Court.next_ge (S := S) (sure := noS) (r := r) (n := n) rfl hs he
            omega
        rw [← hh]
        cases decide (0 < r n) <;> cases struckB S noS f n 1 <;> cases struckB S noS f n 0 <;> rfl
      · rw [if_neg h3, if_neg h3]
        unfold strikers
        rw [List.any_map, List.any_filter, Bool.eq_iff_iff, Bool.and_eq_true, decide_eq_true_eq, decide_eq_true_eq, List.any_eq_true]
        constructor
        · rintro ⟨_, h⟩
          have h5 : ¬ cntB S n (fun x => decide (f x = 1) && decide (r x < r n)) S.length = 0 := by omega
          rw [cntB_none] at h5
          apply Classical.byContradiction
          intro h6
          refine h5 fun s hs he => ?_
          rw [Bool.eq_false_iff]
          intro h7
          exact h6 ⟨s, hs, by simp only [Function.comp]; rw [decide_eq_true he, h7]; rfl⟩
        · rintro ⟨s, hs, h⟩
          simp only [Function.comp, Bool.and_eq_true, decide_eq_true_eq] at h
          obtain ⟨⟨he, _⟩, h7, h8⟩ := h
          refine ⟨by omega, Nat.pos_of_ne_zero fun h9 => ?_⟩
          have := cntB_none.1 h9 s hs he
          rw [decide_eq_true h7, decide_eq_true h8] at this
          cases this

set_option maxRecDepth 100000 in
set_option maxHeartbeats 4000000 in
theorem holdsTop_open (C : CaseL) (a1 a2 : Option Addr) (c1 c2 : Nat) (R F K : List Int) (A A' A'' : Option Addr) (c c' c'' : Nat) (w : World) (hC : CRep w C a1 a2) (hA : Ints w A R) (he : openE C R ≠ 0) :
    Calls Try.prog 17 #[(.agg #[.int .i64 C.claims, .slice a1 C.strikes.length c1, .slice a2 C.surveys.length c2]), .slice A R.length c, .slice A' F.length c', .slice A'' K.length c''] w (HoldsR false (openE C R) w) := by
  have H0 := Lib.hid (Aft.alloc w (.cells #[.int .i64 C.claims, .slice a1 C.strikes.length c1, .slice a2 C.surveys.length c2] 33))
  have HB := Lib.hid (Blk.new w 33 #[.int .i64 C.claims, .slice a1 C.strikes.length c1, .slice a2 C.surveys.length c2])
  have H1 := Lib.hid (refutedR_any C a1 a2 c1 c2 R A c _ (hC.aft H0.out) (hA.aft H0.out))
  have t1 : (openE C R != 0) = true := by simpa using he
  obtain ⟨k0, k1, k2⟩ := box31 HB.out
  have hlt := HB.out.lt
  unfold HoldsR
  clear hC hA he
  generalize openE C R = E at *
  go_enter Try.func17, Try.ntmps17
  go_wp2_with (go_at_call 40; refine H1.out.mono ?_; rintro e w1 ⟨rfl, ha1⟩; have HA1 := Lib.hid ha1; clear ha1)
  go_ret2
  exact ⟨rfl, H0.out.trans HA1.out⟩

set_option maxRecDepth 100000 in
set_option maxHeartbeats 16000000 in
theorem holdsTop_in (N : Nat) (S : List (Int × Int)) (T : List (List Int)) (a1 a2 : Option Addr) (c1 c2 : Nat) (R F K : List Int) (A AF AK : Option Addr) (c cF cK : Nat) (w : World) (hC : CRep w ⟨N, S, T⟩ a1 a2) (hA : Ints w A R) (hF : Ints w AF F) (hK : Ints w AK K) (he : openE ⟨N, S, T⟩ R = 0) (E : Int) (hE : holdsE ⟨N, S, T⟩ R F K = E) :
    Calls Try.prog 17 #[(.agg #[.int .i64 N, .slice a1 S.length c1, .slice a2 T.length c2]), .slice A R.length c, .slice AF F.length cF, .slice AK K.length cK] w (HoldsR (decide (E = 0) && (List.range N).all fun n => heldB S noS (refL R) (overF F (begF (refL R))) (overF K fun _ => 0) (n : Nat)) E w) := by
  have hlF := hF.len
  have hlK := hK.len
  unfold holdsE at hE
  rw [if_pos he] at hE
  dsimp only at hE
  have H0 := Lib.hid (Aft.alloc w (.cells #[.int .i64 N, .slice a1 S.length c1, .slice a2 T.length c2] 33))
  have HB := Lib.hid (Blk.new w 33 #[.int .i64 N, .slice a1 S.length c1, .slice a2 T.length c2])
  have H1 : Hid (Calls Try.prog 40 #[(.agg #[.int .i64 N, .slice a1 S.length c1, .slice a2 T.length c2]), .slice A R.length c] (w.alloc (.cells #[.int .i64 N, .slice a1 S.length c1, .slice a2 T.length c2] 33)) fun e w' => e = .returned (.int .i64 0) ∧ Aft (w.alloc (.cells #[.int .i64 N, .slice a1 S.length c1, .slice a2 T.length c2] 33)) w') := Lib.hid (by rw [← he]; exact refutedR_any ⟨N, S, T⟩ a1 a2 c1 c2 R A c _ (hC.aft H0.out) (hA.aft H0.out))
  have hok := caseE_ok (openE_ok he).1
  have hn1 := hok.n1
  have hn2 := hok.n2
  have hss := hok.few
  have HIN := Lib.hid hok.ins
  dsimp only at hn1 hn2 HIN hss
  have HC := Lib.hid (hC.aft H0.out)
  have HR := Lib.hid (hA.aft H0.out)
  have HF := Lib.hid (hF.aft H0.out)
  have HK := Lib.hid (hK.aft H0.out)
  have HE := Lib.hid hE
  obtain ⟨bC, hbC⟩ : ∃ bC, w.heap.size = bC := ⟨_, rfl⟩
  rw [hbC] at HB
  have HBC := Lib.hid hbC
  clear hbC hC hA hF hK he hok hE
  obtain ⟨HLD, hHLD⟩ : ∃ HLD : Nat → Bool, HLD = fun n => heldB S noS (refL R) (overF F (begF (refL R))) (overF K fun _ => 0) (n : Nat) := ⟨_, rfl⟩
  have HHL : Hid (∀ n : Nat, HLD n = heldB S noS (refL R) (overF F (begF (refL R))) (overF K fun _ => 0) (n : Nat)) := Lib.hid fun n => by rw [hHLD]
  rw [← hHLD]
  clear hHLD
  unfold HoldsR
  go_enter Try.func17, Try.ntmps17
  go_upto_region 1 with fail
  rw [HBC.out]
  generalize w.alloc (.cells #[.int .i64 N, .slice a1 S.length c1, .slice a2 T.length c2] 33) = W0 at *
  obtain ⟨k0, k1, k2⟩ := box31 HB.out
  have k3 := HB.out.lt
  go_upto_region 4 with (go_at_call 40; refine H1.out.mono ?_; rintro e W1 ⟨rfl, ha1⟩; have HA1 := Lib.hid ha1; clear ha1)
  clear H1 k0 k1 k2 k3
  obtain ⟨k0, k1, k2⟩ := box31 (HB.out.aft HA1.out)
  have k3 := (HB.out.aft HA1.out).lt
  by_cases hFN : F.length = N
  · have e1 : ((F.length : Int) != (N : Int)) = false := by simp; omega
    by_cases hKN : K.length = N
    · have e2 : ((K.length : Int) != (N : Int)) = false := by simp; omega
      have HE2 : Hid (E = if F.all (fun n => fromB n 0 2) && K.all (fun n => fromB n 0 14) then 0 else 4) := Lib.hid (by
        have := HE.out
        rw [if_neg (by rintro (h | h) <;> omega)] at this
        exact this.symm)
      clear HE
      have HFL := Lib.hid hFN
      have HKL := Lib.hid hKN
      obtain ⟨bf, of, hAF, hltf, -⟩ := HF.out.at (show 0 < F.length by omega)
      subst hAF
      obtain ⟨bk, ok, hAK, hltk, -⟩ := HK.out.at (show 0 < K.length by omega)
      subst hAK
      have HCF : Hid (∀ W, Aft W0 W → ∀ i, (h : i < F.length) → W.cell? ⟨bf, of + i, none⟩ = some (.int .i64 F[i])) := Lib.hid fun W h i hi => by
        obtain ⟨b', o', e', _, hc'⟩ := (HF.out.aft h).at hi
        cases e'
        exact hc' i hi
      have HCK : Hid (∀ W, Aft W0 W → ∀ i, (h : i < K.length) → W.cell? ⟨bk, ok + i, none⟩ = some (.int .i64 K[i])) := Lib.hid fun W h i hi => by
        obtain ⟨b', o', e', _, hc'⟩ := (HK.out.aft h).at hi
        cases e'
        exact hc' i hi
      go_upto_block 0 with fail
      rw [HFL.out, HKL.out]
      clear k0 k1 k2 k3 e1 e2 HF HK
      refine wp_block ?_
      go_loopw [11] (fun i wr => ∃ k : Nat, i = .int .i64 k ∧ k ≤ N ∧ Aft W0 wr ∧ Hid (∀ j, (h : j < F.length) → j < k → fromB F[j] 0 2 = true) ∧ Hid (∀ j, (h : j < K.length) → j < k → fromB K[j] 0 14 = true)) (fun i _ => N - (intOf i).toNat)
      case atStart => exact ⟨0, rfl, by omega, HA1.out, Lib.hid fun j _ h => by omega, Lib.hid fun j _ h => by omega⟩
      case round =>
        obtain ⟨k, rfl, hk, hy, HFO, HKO⟩ := hrel
        have HY := Lib.hid hy
        clear hy
        obtain ⟨k0, k1, k2⟩ := box31 (HB.out.aft HY.out)
        have k3 := (HB.out.aft HY.out).lt
        by_cases hkN : k < N
        · have t1 : decide (k < N) = true := by simpa using hkN
          have ik : (0 : Int) ≤ (k : Int) ∧ (k : Int) < (N : Int) := by omega
          have x0 := HCF.out wr HY.out k (by omega)
          have x1 := HCK.out wr HY.out k (by omega)
          have HNF : Hid (fromB (F[k]'(by omega)) 0 2 = false → F.all (fun n => fromB n 0 2) = false) := Lib.hid fun h => all_not (by omega) h
          have HNK : Hid (fromB (K[k]'(by omega)) 0 14 = false → K.all (fun n => fromB n 0 14) = false) := Lib.hid fun h => all_not (by omega) h
          obtain ⟨y, hy⟩ : ∃ y, F[k]'(by omega) = y := ⟨_, rfl⟩
          obtain ⟨z, hz⟩ : ∃ z, K[k]'(by omega) = z := ⟨_, rfl⟩
          rw [hy] at x0 HNF
          rw [hz] at x1 HNK
          have HYY := Lib.hid hy
          have HZZ := Lib.hid hz
          clear hy hz
          cases hb1 : fromB y 0 2
          · have HE4 : Hid (E = 4) := Lib.hid (by rw [HE2.out, HNF.out hb1]; rfl)
            go_wp2_with (go_at_call 34; refine (beside_any y 0 2 _).mono ?_; rintro e w2 ⟨rfl, rfl⟩; rw [hb1])
            go_ret2
            exact ⟨by rw [HE4.out]; rfl, H0.out.trans HY.out⟩
          · cases hb2 : fromB z 0 14
            · have HE4 : Hid (E = 4) := Lib.hid (by rw [HE2.out, HNK.out hb2, Bool.and_false]; rfl)
              (repeat (first | go_big_skip | go_big_want | go_big_move | go_big_op | go_step | go_upon | go_back))
              go_at_call 34
              refine (beside_any y 0 2 _).mono ?_
              rintro e w2 ⟨rfl, rfl⟩
              dsimp only
              rw [hb1]
              simp only [Bool.not_true]
              (repeat (first | go_big_skip | go_big_want | go_big_move | go_big_op | go_step | go_upon | go_back))
              go_at_call 34
              refine (beside_any z 0 14 _).mono ?_
              rintro e w2 ⟨rfl, rfl⟩
              dsimp only
              rw [hb2]
              simp only [Bool.not_false]
              (repeat (first | go_big_skip | go_big_want | go_big_move | go_big_op | go_step | go_upon | go_back))
              go_ret2
              exact ⟨by rw [HE4.out]; rfl, H0.out.trans HY.out⟩
            · have HFO2 : Hid (∀ j, (h : j < F.length) → j < k + 1 → fromB F[j] 0 2 = true) := Lib.hid fun j h h' => by
                by_cases e : j = k
                · subst e
                  rw [HYY.out]
                  exact hb1
                · exact HFO.out j h (by omega)
              have HKO2 : Hid (∀ j, (h : j < K.length) → j < k + 1 → fromB K[j] 0 14 = true) := Lib.hid fun j h h' => by
                by_cases e : j = k
                · subst e
                  rw [HZZ.out]
                  exact hb2
                · exact HKO.out j h (by omega)
              (repeat (first | go_big_skip | go_big_want | go_big_move | go_big_op | go_step | go_upon | go_back))
              go_at_call 34
              refine (beside_any y 0 2 _).mono ?_
              rintro e w2 ⟨rfl, rfl⟩
              dsimp only
              rw [hb1]
              simp only [Bool.not_true]
              (repeat (first | go_big_skip | go_big_want | go_big_move | go_big_op | go_step | go_upon | go_back))
              go_at_call 34
              refine (beside_any z 0 14 _).mono ?_
              rintro e w2 ⟨rfl, rfl⟩
              dsimp only
              rw [hb2]
              simp only [Bool.not_true]
              go_wp2_with fail
              exact ⟨⟨k + 1, by go_num, by omega, HY.out, HFO2, HKO2⟩, by simp [intOf]; omega⟩
        · have t1 : decide (k < N) = false := by simpa using hkN
          have HE0 : Hid (E = 0) := Lib.hid (by
            rw [HE2.out, all_upto fun j h h' => HFO.out j h (by omega), all_upto fun j h h' => HKO.out j h (by omega)]
            rfl)
          obtain ⟨f, hf⟩ : ∃ f, overF F (begF (refL R)) = f := ⟨_, rfl⟩
          obtain ⟨r, hr⟩ : ∃ r, overF K (fun _ => 0) = r := ⟨_, rfl⟩
          have HFF : Hid (∀ i, (h : i < F.length) → F[i] = (f i : Nat) ∧ f i ≤ 2) := Lib.hid fun i h => by
            have h1 := fromB_iff.1 (HFO.out i h (by omega))
            rw [← hf]
            unfold overF
            rw [if_pos (by omega), Int.toNat_natCast, List.getD_eq_getElem?_getD, List.getElem?_eq_getElem h]
            show F[i] = ((F[i].toNat : Nat) : Int) ∧ F[i].toNat ≤ 2
            omega
          have HKK : Hid (∀ i, (h : i < K.length) → K[i] = (r i : Nat) ∧ r i ≤ 14) := Lib.hid fun i h => by
            have h1 := fromB_iff.1 (HKO.out i h (by omega))
            rw [← hr]
            unfold overF
            rw [if_pos (by omega), Int.toNat_natCast, List.getD_eq_getElem?_getD, List.getElem?_eq_getElem h]
            show K[i] = ((K[i].toNat : Nat) : Int) ∧ K[i].toNat ≤ 14
            omega
          have HHN : Hid (∀ n : Nat, HLD n = heldB S noS (refL R) f r n) := Lib.hid fun n => by rw [HHL.out, hf, hr]
          obtain ⟨W2, rfl⟩ : ∃ W2, W2 = wr := ⟨_, rfl⟩
          clear hf hr HFO HKO HE2 HHL hkN
          have HCF2 : Hid (∀ W, Aft W2 W → ∀ i, i < N → W.cell? ⟨bf, of + i, none⟩ = some (.int .i64 (f i : Nat))) := Lib.hid fun W h i hi => by
            have := HCF.out W (HY.out.trans h) i (by omega)
            rwa [(HFF.out i (by omega)).1] at this
          have HCK2 : Hid (∀ W, Aft W2 W → ∀ i, i < N → W.cell? ⟨bk, ok + i, none⟩ = some (.int .i64 (r i : Nat))) := Lib.hid fun W h i hi => by
            have := HCK.out W (HY.out.trans h) i (by omega)
            rwa [(HKK.out i (by omega)).1] at this
          have HF2 : Hid (∀ i : Nat, i < N → f i ≤ 2 ∧ r i ≤ 14) := Lib.hid fun i hi => ⟨(HFF.out i (by omega)).2, (HKK.out i (by omega)).2⟩
          go_upto_block 2 with fail
          clear k0 k1 k2 k3 HCF HCK HFF HKK
          refine wp_block ?_
          go_loopw [12] (fun i wr => ∃ n : Nat, i = .int .i64 n ∧ n ≤ N ∧ Aft W2 wr ∧ Hid (∀ j, j < n → HLD j = true)) (fun i _ => N - (intOf i).toNat)
          case atStart => exact ⟨0, rfl, by omega, Aft.refl _, Lib.hid fun j h => by omega⟩
          case round =>
            obtain ⟨n, rfl, hn, hz, HOK⟩ := hrel
            have HZ := Lib.hid hz
            clear hz
            obtain ⟨k0, k1, k2⟩ := box31 (HB.out.aft (HY.out.trans HZ.out))
            have k3 := (HB.out.aft (HY.out.trans HZ.out)).lt
            by_cases hnN : n < N
            · have t2 : decide (n < N) = true := by simpa using hnN
              have inn : (0 : Int) ≤ (n : Int) ∧ (n : Int) < (N : Int) := by omega
              have HHELD : Hid (HLD n = refH (refL R n) (f n) (r n) (cntB S n (fun x => decide (f x = 1)) S.length) (cntB S n (fun x => decide (f x = 0)) S.length) (cntB S n (fun x => decide (r n ≤ r x)) S.length) (cntB S n (fun x => decide (f x = 1) && decide (r x < r n)) S.length)) := Lib.hid (by rw [refH_held]; exact HHN.out n)
              obtain ⟨fn, hfn⟩ : ∃ fn : Nat, f n = fn := ⟨_, rfl⟩
              obtain ⟨rn, hrn⟩ : ∃ rn : Nat, r n = rn := ⟨_, rfl⟩
              obtain ⟨br, hbr⟩ : ∃ br, refL R n = br := ⟨_, rfl⟩
              have hbr' : hasB R (n : Int) = br := hbr
              have hfr := HF2.out n hnN
              rw [hfn, hrn] at hfr
              rw [hfn, hrn, hbr] at HHELD
              have HFN : Hid (∀ W, Aft W2 W → W.cell? ⟨bf, of + n, none⟩ = some (.int .i64 fn)) := Lib.hid fun W h => by have := HCF2.out W h n hnN; rwa [hfn] at this
              have HKNN : Hid (∀ W, Aft W2 W → W.cell? ⟨bk, ok + n, none⟩ = some (.int .i64 rn)) := Lib.hid fun W h => by have := HCK2.out W h n hnN; rwa [hrn] at this
              have H64 : Hid (∀ W, Aft W2 W → Calls Try.prog 45 #[.slice A R.length c, .int .i64 n] W fun e w' => e = .returned (.bool br) ∧ W = w') := Lib.hid fun W h => by rw [← hbr']; exact hasR_any A R c n W (HR.out.aft (HY.out.trans h))
              have HRN := Lib.hid hrn
              obtain ⟨W3, rfl⟩ : ∃ W3, W3 = wr := ⟨_, rfl⟩
              clear hfn hrn hbr hbr'
              go_upto_block 4 with fail
              clear k0 k1 k2 k3
              refine wp_block ?_
              go_loopw [13, 14, 15, 16, 17] (fun vu vo vh vl i wr => ∃ (j u o hi lo : Nat), vu = .int .i64 u ∧ vo = .int .i64 o ∧ vh = .int .i64 hi ∧ vl = .int .i64 lo ∧ i = .int .i64 j ∧ j ≤ S.length ∧ Aft W3 wr ∧ u ≤ j ∧ o ≤ j ∧ hi ≤ j ∧ lo ≤ j ∧ Hid (cntB S n (fun x => decide (f x = 1)) j = u) ∧ Hid (cntB S n (fun x => decide (f x = 0)) j = o) ∧ Hid (cntB S n (fun x => decide (rn ≤ r x)) j = hi) ∧ Hid (cntB S n (fun x => decide (f x = 1) && decide (r x < rn)) j = lo)) (fun _ _ _ _ i _ => S.length - (intOf i).toNat)
              case atStart => exact ⟨0, 0, 0, 0, 0, rfl, rfl, rfl, rfl, rfl, by omega, Aft.refl _, by omega, by omega, by omega, by omega, Lib.hid (cntB_zero _ _ _), Lib.hid (cntB_zero _ _ _), Lib.hid (cntB_zero _ _ _), Lib.hid (cntB_zero _ _ _)⟩
              case round =>
                obtain ⟨j, u, o, hi, lo, rfl, rfl, rfl, rfl, rfl, hj, hz2, hu1, ho1, hh1, hl1, HU, HOO, HH, HL⟩ := hrel
                have HZ2 := Lib.hid hz2
                have HZ3 := Lib.hid (HZ.out.trans hz2)
                clear hz2
                obtain ⟨k0, k1, k2⟩ := box31 (HB.out.aft (HY.out.trans HZ3.out))
                have k3 := (HB.out.aft (HY.out.trans HZ3.out)).lt
                by_cases hjl : j < S.length
                · have t3 : decide (j < S.length) = true := by simpa using hjl
                  have ij : (0 : Int) ≤ (j : Int) ∧ (j : Int) < (S.length : Int) := by omega
                  obtain ⟨bs, os, hbs, hlts, hcs⟩ := (HC.out.aft (HY.out.trans HZ3.out)).strikes.at hjl
                  subst hbs
                  obtain ⟨x1, x2⟩ := hcs j hjl
                  have hin := HIN.out _ (List.getElem_mem hjl)
                  have hU := cntB_succ S n (fun x => decide (f x = 1)) j hjl
                  have hO := cntB_succ S n (fun x => decide (f x = 0)) j hjl
                  have hH := cntB_succ S n (fun x => decide (rn ≤ r x)) j hjl
                  have hL := cntB_succ S n (fun x => decide (f x = 1) && decide (r x < rn)) j hjl
                  obtain ⟨⟨z0, z1⟩, hzz⟩ : ∃ s, S[j] = s := ⟨_, rfl⟩
                  rw [hzz] at x1 x2 hin hU hO hH hL
                  dsimp only at x1 x2 hin hU hO hH hL
                  obtain ⟨y0, rfl⟩ := Int.eq_ofNat_of_zero_le hin.1.1
                  have hy0 : y0 < N := by omega
                  have iy : (0 : Int) ≤ (y0 : Int) ∧ (y0 : Int) < (N : Int) := by omega
                  have hfr2 := HF2.out y0 hy0
                  have hFV := fun W (h : Aft wr W) => HCF2.out W (HZ3.out.trans h) y0 hy0
                  have hKV := fun W (h : Aft wr W) => HCK2.out W (HZ3.out.trans h) y0 hy0
                  obtain ⟨fv, hfv⟩ : ∃ fv : Nat, f y0 = fv := ⟨_, rfl⟩
                  obtain ⟨rv, hrv⟩ : ∃ rv : Nat, r y0 = rv := ⟨_, rfl⟩
                  rw [hfv] at hFV hU hO hL hfr2
                  rw [hrv] at hKV hH hL hfr2
                  rw [HU.out] at hU
                  rw [HOO.out] at hO
                  rw [HH.out] at hH
                  rw [HL.out] at hL
                  have HFV := Lib.hid hFV
                  have HKV := Lib.hid hKV
                  have HKN : Hid (∀ W, Aft wr W → W.cell? ⟨bk, ok + n, none⟩ = some (.int .i64 rn)) := Lib.hid fun W h => HKNN.out W (HZ3.out.trans h)
                  have f0 := HFV.out wr (Aft.refl _)
                  clear hcs hin hzz hFV hKV hfv hrv HU HOO HH HL
                  cases hz1 : (z1 == (n : Int))
                  · have zn : (z1 != (n : Int)) = true := by simpa using hz1
                    have dz : decide (z1 = (n : Int)) = false := by simpa using hz1
                    rw [dz] at hU hO hH hL
                    simp only [Bool.false_and, Bool.false_eq_true, if_false, Nat.add_zero] at hU hO hH hL
                    have HU := Lib.hid hU
                    have HOO := Lib.hid hO
                    have HH := Lib.hid hH
                    have HL := Lib.hid hL
                    clear hU hO hH hL
                    go_wp2_with fail
                    exact ⟨⟨j + 1, u, o, hi, lo, rfl, rfl, rfl, rfl, by go_num, by omega, HZ2.out, by omega, by omega, by omega, by omega, HU, HOO, HH, HL⟩, by simp [intOf]; omega⟩
                  · have zn : (z1 != (n : Int)) = false := by simpa using hz1
                    have dz : decide (z1 = (n : Int)) = true := by simpa using hz1
                    rw [dz] at hU hO hH hL
                    simp only [Bool.true_and] at hU hO hH hL
                    have HU := Lib.hid hU
                    have HOO := Lib.hid hO
                    have HH := Lib.hid hH
                    have HL := Lib.hid hL
                    clear hU hO hH hL
                    by_cases hf1 : fv = 1
                    · skip
                      have q1 : ((fv : Int) == 1) = true := by simp; omega
                      have q0 : ((fv : Int) == 0) = false := by simp; omega
                      have d1 : decide (fv = 1) = true := by simpa using hf1
                      have d0 : decide (fv = 0) = false := by simp; omega
                      go_upto_region 24 with fail
                      obtain ⟨bd, hbd⟩ : ∃ bd, decide (rn ≤ rv) = bd := ⟨_, rfl⟩
                      have dd := hbd
                      refine wp_region_valsG (by kernel_rfl) 195 rfl (by kernel_rfl) (by kernel_rfl) [.slice (some ⟨bk, ok, none⟩) N cK, .int .i64 y0, .pointer (some ⟨bk, ok + y0, none⟩), .int .i64 rv, .slice (some ⟨bk, ok, none⟩) N cK, .int .i64 n, .pointer (some ⟨bk, ok + n, none⟩), .int .i64 rn, .bool bd] rfl (fun W => Aft wr W) (Aft.drew _) ?st1 ?fi1
                      case st1 =>
                        intro i o v ho hv
                        match i, ho, hv with
                        | 0, ho, hv =>
                          cases ho; cases hv
                          refine .inl ⟨rfl, fun a W hk hw K hK => ?_⟩
                          have e3 := hk.same 3 (by decide)
                          exact op_val (by simp [go_sem, ev' e3]) (hK _ hw)
                        | 1, ho, hv =>
                          cases ho; cases hv
                          refine .inl ⟨rfl, fun a W hk hw K hK => ?_⟩
                          have e18 := hk.same 18 (by decide)
                          exact op_val (by simp [go_sem, ev' e18]) (hK _ hw)
                        | 2, ho, hv =>
                          cases ho; cases hv
                          refine .inl ⟨rfl, fun a W hk hw K hK => ?_⟩
                          have e97 := hk.at_ 0 _ 97 _ rfl (by decide) _ rfl rfl rfl
                          have e98 := hk.at_ 1 _ 98 _ rfl (by decide) _ rfl rfl rfl
                          exact op_val (by simp [go_sem, ev' e97, ev' e98, iy]) (hK _ hw)
                        | 3, ho, hv =>
                          cases ho; cases hv
                          refine .inl ⟨rfl, fun a W hk hw K hK => ?_⟩
                          have e99 := hk.at_ 2 _ 99 _ rfl (by decide) _ rfl rfl rfl
                          exact op_val (by simp [go_sem, ev' e99, HKV.out W hw]) (hK _ hw)
                        | 4, ho, hv =>
                          cases ho; cases hv
                          refine .inl ⟨rfl, fun a W hk hw K hK => ?_⟩
                          have e3 := hk.same 3 (by decide)
                          exact op_val (by simp [go_sem, ev' e3]) (hK _ hw)
                        | 5, ho, hv =>
                          cases ho; cases hv
                          refine .inl ⟨rfl, fun a W hk hw K hK => ?_⟩
                          have e12 := hk.same 12 (by decide)
                          exact op_val (by simp [go_sem, ev' e12]) (hK _ hw)
                        | 6, ho, hv =>
                          cases ho; cases hv
                          refine .inl ⟨rfl, fun a W hk hw K hK => ?_⟩
                          have e101 := hk.at_ 4 _ 101 _ rfl (by decide) _ rfl rfl rfl
                          have e102 := hk.at_ 5 _ 102 _ rfl (by decide) _ rfl rfl rfl
                          exact op_val (by simp [go_sem, ev' e101, ev' e102, inn]) (hK _ hw)
                        | 7, ho, hv =>
                          cases ho; cases hv
                          refine .inl ⟨rfl, fun a W hk hw K hK => ?_⟩
                          have e103 := hk.at_ 6 _ 103 _ rfl (by decide) _ rfl rfl rfl
                          exact op_val (by simp [go_sem, ev' e103, HKN.out W hw]) (hK _ hw)
                        | 8, ho, hv =>
                          cases ho; cases hv
                          refine .inl ⟨rfl, fun a W hk hw K hK => ?_⟩
                          have e100 := hk.at_ 3 _ 100 _ rfl (by decide) _ rfl rfl rfl
                          have e104 := hk.at_ 7 _ 104 _ rfl (by decide) _ rfl rfl rfl
                          exact op_val (by simp [go_sem, ev' e100, ev' e104, hbd]) (hK _ hw)
                        | _ + 9, _, hv => cases hv
                      intro W hw
                      simp only [List.drop_succ_cons, List.drop_zero, List.zip_cons_cons, List.zip_nil_right, putAll]
                      simp only [Act.put, List.setIfInBounds_toArray, List.set]
                      have HW := Lib.hid hw
                      clear hw hbd
                      cases bd
                      · have dl : decide (rv < rn) = true := by have := of_decide_eq_false dd; simp; omega
                        have l1 : decide ((rv : Int) < (rn : Int)) = true := by have := of_decide_eq_false dd; simp; omega
                        obtain ⟨V, rfl⟩ : ∃ V, V = W := ⟨_, rfl⟩
                        go_upto_region 26 with fail
                        refine wp_region_valsG (by kernel_rfl) 195 rfl (by kernel_rfl) (by kernel_rfl) [.slice (some ⟨bf, of, none⟩) N cF, .int .i64 y0, .pointer (some ⟨bf, of + y0, none⟩), .int .i64 fv, .bool true, .bool true, .slice (some ⟨bk, ok, none⟩) N cK, .int .i64 y0, .pointer (some ⟨bk, ok + y0, none⟩), .int .i64 rv, .slice (some ⟨bk, ok, none⟩) N cK, .int .i64 n, .pointer (some ⟨bk, ok + n, none⟩), .int .i64 rn, .bool true, .bool true] rfl (fun W => Aft V W) (Aft.drew _) ?st2 ?fi2
                        case st2 =>
                          intro i o v ho hv
                          match i, ho, hv with
                          | 0, ho, hv =>
                            cases ho; cases hv
                            refine .inl ⟨rfl, fun a W hk hw K hK => ?_⟩
                            have e2 := hk.same 2 (by decide)
                            exact op_val (by simp [go_sem, ev' e2]) (hK _ hw)
                          | 1, ho, hv =>
                            cases ho; cases hv
                            refine .inl ⟨rfl, fun a W hk hw K hK => ?_⟩
                            have e18 := hk.same 18 (by decide)
                            exact op_val (by simp [go_sem, ev' e18]) (hK _ hw)
                          | 2, ho, hv =>
                            cases ho; cases hv
                            refine .inl ⟨rfl, fun a W hk hw K hK => ?_⟩
                            have e108 := hk.at_ 0 _ 108 _ rfl (by decide) _ rfl rfl rfl
                            have e109 := hk.at_ 1 _ 109 _ rfl (by decide) _ rfl rfl rfl
                            exact op_val (by simp [go_sem, ev' e108, ev' e109, iy]) (hK _ hw)
                          | 3, ho, hv =>
                            cases ho; cases hv
                            refine .inl ⟨rfl, fun a W hk hw K hK => ?_⟩
                            have e110 := hk.at_ 2 _ 110 _ rfl (by decide) _ rfl rfl rfl
                            exact op_val (by simp [go_sem, ev' e110, HFV.out W (HW.out.trans hw)]) (hK _ hw)
                          | 4, ho, hv =>
                            cases ho; cases hv
                            refine .inl ⟨rfl, fun a W hk hw K hK => ?_⟩
                            have e111 := hk.at_ 3 _ 111 _ rfl (by decide) _ rfl rfl rfl
                            exact op_val (by simp [go_sem, ev' e111, q1]) (hK _ hw)
                          | 5, ho, hv =>
                            cases ho; cases hv
                            refine .inl ⟨rfl, fun a W hk hw K hK => ?_⟩
                            have e112 := hk.at_ 4 _ 112 _ rfl (by decide) _ rfl rfl rfl
                            exact op_val (by simp [go_sem, ev' e112]) (hK _ hw)
                          | 6, ho, hv =>
                            cases ho; cases hv
                            refine .inl ⟨rfl, fun a W hk hw K hK => ?_⟩
                            have e3 := hk.same 3 (by decide)
                            exact op_val (by simp [go_sem, ev' e3]) (hK _ hw)
                          | 7, ho, hv =>
                            cases ho; cases hv
                            refine .inl ⟨rfl, fun a W hk hw K hK => ?_⟩
                            have e18 := hk.same 18 (by decide)
                            exact op_val (by simp [go_sem, ev' e18]) (hK _ hw)
                          | 8, ho, hv =>
                            cases ho; cases hv
                            refine .inl ⟨rfl, fun a W hk hw K hK => ?_⟩
                            have e114 := hk.at_ 6 _ 114 _ rfl (by decide) _ rfl rfl rfl
                            have e115 := hk.at_ 7 _ 115 _ rfl (by decide) _ rfl rfl rfl
                            exact op_val (by simp [go_sem, ev' e114, ev' e115, iy]) (hK _ hw)
                          | 9, ho, hv =>
                            cases ho; cases hv
                            refine .inl ⟨rfl, fun a W hk hw K hK => ?_⟩
                            have e116 := hk.at_ 8 _ 116 _ rfl (by decide) _ rfl rfl rfl
                            exact op_val (by simp [go_sem, ev' e116, HKV.out W (HW.out.trans hw)]) (hK _ hw)
                          | 10, ho, hv =>
                            cases ho; cases hv
                            refine .inl ⟨rfl, fun a W hk hw K hK => ?_⟩
                            have e3 := hk.same 3 (by decide)
                            exact op_val (by simp [go_sem, ev' e3]) (hK _ hw)
                          | 11, ho, hv =>
                            cases ho; cases hv
                            refine .inl ⟨rfl, fun a W hk hw K hK => ?_⟩
                            have e12 := hk.same 12 (by decide)
                            exact op_val (by simp [go_sem, ev' e12]) (hK _ hw)
                          | 12, ho, hv =>
                            cases ho; cases hv
                            refine .inl ⟨rfl, fun a W hk hw K hK => ?_⟩
                            have e118 := hk.at_ 10 _ 118 _ rfl (by decide) _ rfl rfl rfl
                            have e119 := hk.at_ 11 _ 119 _ rfl (by decide) _ rfl rfl rfl
                            exact op_val (by simp [go_sem, ev' e118, ev' e119, inn]) (hK _ hw)
                          | 13, ho, hv =>
                            cases ho; cases hv
                            refine .inl ⟨rfl, fun a W hk hw K hK => ?_⟩
                            have e120 := hk.at_ 12 _ 120 _ rfl (by decide) _ rfl rfl rfl
                            exact op_val (by simp [go_sem, ev' e120, HKN.out W (HW.out.trans hw)]) (hK _ hw)
                          | 14, ho, hv =>
                            cases ho; cases hv
                            refine .inl ⟨rfl, fun a W hk hw K hK => ?_⟩
                            have e117 := hk.at_ 9 _ 117 _ rfl (by decide) _ rfl rfl rfl
                            have e121 := hk.at_ 13 _ 121 _ rfl (by decide) _ rfl rfl rfl
                            exact op_val (by simp [go_sem, ev' e117, ev' e121, l1, dl]) (hK _ hw)
                          | 15, ho, hv =>
                            cases ho; cases hv
                            refine .inl ⟨rfl, fun a W hk hw K hK => ?_⟩
                            have e113 := hk.at_ 5 _ 113 _ rfl (by decide) _ rfl rfl rfl
                            have e122 := hk.at_ 14 _ 122 _ rfl (by decide) _ rfl rfl rfl
                            exact op_val (by simp [go_sem, ev' e113, ev' e122]) (hK _ hw)
                          | _ + 16, _, hv => cases hv
                        intro W hw
                        simp only [List.drop_succ_cons, List.drop_zero, List.zip_cons_cons, List.zip_nil_right, putAll]
                        simp only [Act.put, List.setIfInBounds_toArray, List.set]
                        go_wp2_with fail
                        exact ⟨⟨j + 1, u + 1, o, hi, lo + 1, by go_num, by go_num, by go_num, by go_num, by go_num, by omega, HZ2.out.trans (HW.out.trans hw), by omega, by omega, by omega, by omega, Lib.hid (by rw [HU.out]; simp [d1, d0, dd, dl]), Lib.hid (by rw [HOO.out]; simp [d1, d0, dd, dl]), Lib.hid (by rw [HH.out]; simp [d1, d0, dd, dl]), Lib.hid (by rw [HL.out]; simp [d1, d0, dd, dl])⟩, by simp [intOf]; omega⟩
                      · have dl : decide (rv < rn) = false := by have := of_decide_eq_true dd; simp; omega
                        have l1 : decide ((rv : Int) < (rn : Int)) = false := by have := of_decide_eq_true dd; simp; omega
                        obtain ⟨V, rfl⟩ : ∃ V, V = W := ⟨_, rfl⟩
                        go_upto_region 26 with fail
                        refine wp_region_valsG (by kernel_rfl) 195 rfl (by kernel_rfl) (by kernel_rfl) [.slice (some ⟨bf, of, none⟩) N cF, .int .i64 y0, .pointer (some ⟨bf, of + y0, none⟩), .int .i64 fv, .bool true, .bool true, .slice (some ⟨bk, ok, none⟩) N cK, .int .i64 y0, .pointer (some ⟨bk, ok + y0, none⟩), .int .i64 rv, .slice (some ⟨bk, ok, none⟩) N cK, .int .i64 n, .pointer (some ⟨bk, ok + n, none⟩), .int .i64 rn, .bool false, .bool false] rfl (fun W => Aft V W) (Aft.drew _) ?st3 ?fi3
                        case st3 =>
                          intro i o v ho hv
                          match i, ho, hv with
                          | 0, ho, hv =>
                            cases ho; cases hv
                            refine .inl ⟨rfl, fun a W hk hw K hK => ?_⟩
                            have e2 := hk.same 2 (by decide)
                            exact op_val (by simp [go_sem, ev' e2]) (hK _ hw)
                          | 1, ho, hv =>
                            cases ho; cases hv
                            refine .inl ⟨rfl, fun a W hk hw K hK => ?_⟩
                            have e18 := hk.same 18 (by decide)
                            exact op_val (by simp [go_sem, ev' e18]) (hK _ hw)
                          | 2, ho, hv =>
                            cases ho; cases hv
                            refine .inl ⟨rfl, fun a W hk hw K hK => ?_⟩
                            have e108 := hk.at_ 0 _ 108 _ rfl (by decide) _ rfl rfl rfl
                            have e109 := hk.at_ 1 _ 109 _ rfl (by decide) _ rfl rfl rfl
                            exact op_val (by simp [go_sem, ev' e108, ev' e109, iy]) (hK _ hw)
                          | 3, ho, hv =>
                            cases ho; cases hv
                            refine .inl ⟨rfl, fun a W hk hw K hK => ?_⟩
                            have e110 := hk.at_ 2 _ 110 _ rfl (by decide) _ rfl rfl rfl
                            exact op_val (by simp [go_sem, ev' e110, HFV.out W (HW.out.trans hw)]) (hK _ hw)
                          | 4, ho, hv =>
                            cases ho; cases hv
                            refine .inl ⟨rfl, fun a W hk hw K hK => ?_⟩
                            have e111 := hk.at_ 3 _ 111 _ rfl (by decide) _ rfl rfl rfl
                            exact op_val (by simp [go_sem, ev' e111, q1]) (hK _ hw)
                          | 5, ho, hv =>
                            cases ho; cases hv
                            refine .inl ⟨rfl, fun a W hk hw K hK => ?_⟩
                            have e112 := hk.at_ 4 _ 112 _ rfl (by decide) _ rfl rfl rfl
                            exact op_val (by simp [go_sem, ev' e112]) (hK _ hw)
                          | 6, ho, hv =>
                            cases ho; cases hv
                            refine .inl ⟨rfl, fun a W hk hw K hK => ?_⟩
                            have e3 := hk.same 3 (by decide)
                            exact op_val (by simp [go_sem, ev' e3]) (hK _ hw)
                          | 7, ho, hv =>
                            cases ho; cases hv
                            refine .inl ⟨rfl, fun a W hk hw K hK => ?_⟩
                            have e18 := hk.same 18 (by decide)
                            exact op_val (by simp [go_sem, ev' e18]) (hK _ hw)
                          | 8, ho, hv =>
                            cases ho; cases hv
                            refine .inl ⟨rfl, fun a W hk hw K hK => ?_⟩
                            have e114 := hk.at_ 6 _ 114 _ rfl (by decide) _ rfl rfl rfl
                            have e115 := hk.at_ 7 _ 115 _ rfl (by decide) _ rfl rfl rfl
                            exact op_val (by simp [go_sem, ev' e114, ev' e115, iy]) (hK _ hw)
                          | 9, ho, hv =>
                            cases ho; cases hv
                            refine .inl ⟨rfl, fun a W hk hw K hK => ?_⟩
                            have e116 := hk.at_ 8 _ 116 _ rfl (by decide) _ rfl rfl rfl
                            exact op_val (by simp [go_sem, ev' e116, HKV.out W (HW.out.trans hw)]) (hK _ hw)
                          | 10, ho, hv =>
                            cases ho; cases hv
                            refine .inl ⟨rfl, fun a W hk hw K hK => ?_⟩
                            have e3 := hk.same 3 (by decide)
                            exact op_val (by simp [go_sem, ev' e3]) (hK _ hw)
                          | 11, ho, hv =>
                            cases ho; cases hv
                            refine .inl ⟨rfl, fun a W hk hw K hK => ?_⟩
                            have e12 := hk.same 12 (by decide)
                            exact op_val (by simp [go_sem, ev' e12]) (hK _ hw)
                          | 12, ho, hv =>
                            cases ho; cases hv
                            refine .inl ⟨rfl, fun a W hk hw K hK => ?_⟩
                            have e118 := hk.at_ 10 _ 118 _ rfl (by decide) _ rfl rfl rfl
                            have e119 := hk.at_ 11 _ 119 _ rfl (by decide) _ rfl rfl rfl
                            exact op_val (by simp [go_sem, ev' e118, ev' e119, inn]) (hK _ hw)
                          | 13, ho, hv =>
                            cases ho; cases hv
                            refine .inl ⟨rfl, fun a W hk hw K hK => ?_⟩
                            have e120 := hk.at_ 12 _ 120 _ rfl (by decide) _ rfl rfl rfl
                            exact op_val (by simp [go_sem, ev' e120, HKN.out W (HW.out.trans hw)]) (hK _ hw)
                          | 14, ho, hv =>
                            cases ho; cases hv
                            refine .inl ⟨rfl, fun a W hk hw K hK => ?_⟩
                            have e117 := hk.at_ 9 _ 117 _ rfl (by decide) _ rfl rfl rfl
                            have e121 := hk.at_ 13 _ 121 _ rfl (by decide) _ rfl rfl rfl
                            exact op_val (by simp [go_sem, ev' e117, ev' e121, l1, dl]) (hK _ hw)
                          | 15, ho, hv =>
                            cases ho; cases hv
                            refine .inl ⟨rfl, fun a W hk hw K hK => ?_⟩
                            have e113 := hk.at_ 5 _ 113 _ rfl (by decide) _ rfl rfl rfl
                            have e122 := hk.at_ 14 _ 122 _ rfl (by decide) _ rfl rfl rfl
                            exact op_val (by simp [go_sem, ev' e113, ev' e122]) (hK _ hw)
                          | _ + 16, _, hv => cases hv
                        intro W hw
                        simp only [List.drop_succ_cons, List.drop_zero, List.zip_cons_cons, List.zip_nil_right, putAll]
                        simp only [Act.put, List.setIfInBounds_toArray, List.set]
                        go_wp2_with fail
                        exact ⟨⟨j + 1, u + 1, o, hi + 1, lo, by go_num, by go_num, by go_num, by go_num, by go_num, by omega, HZ2.out.trans (HW.out.trans hw), by omega, by omega, by omega, by omega, Lib.hid (by rw [HU.out]; simp [d1, d0, dd, dl]), Lib.hid (by rw [HOO.out]; simp [d1, d0, dd, dl]), Lib.hid (by rw [HH.out]; simp [d1, d0, dd, dl]), Lib.hid (by rw [HL.out]; simp [d1, d0, dd, dl])⟩, by simp [intOf]; omega⟩
                    · by_cases hf0 : fv = 0
                      · skip
                        have q1 : ((fv : Int) == 1) = false := by simp; omega
                        have q0 : ((fv : Int) == 0) = true := by simp; omega
                        have d1 : decide (fv = 1) = false := by simpa using hf1
                        have d0 : decide (fv = 0) = true := by simpa using hf0
                        go_upto_region 24 with fail
                        obtain ⟨bd, hbd⟩ : ∃ bd, decide (rn ≤ rv) = bd := ⟨_, rfl⟩
                        have dd := hbd
                        refine wp_region_valsG (by kernel_rfl) 195 rfl (by kernel_rfl) (by kernel_rfl) [.slice (some ⟨bk, ok, none⟩) N cK, .int .i64 y0, .pointer (some ⟨bk, ok + y0, none⟩), .int .i64 rv, .slice (some ⟨bk, ok, none⟩) N cK, .int .i64 n, .pointer (some ⟨bk, ok + n, none⟩), .int .i64 rn, .bool bd] rfl (fun W => Aft wr W) (Aft.drew _) ?st4 ?fi4
                        case st4 =>
                          intro i o v ho hv
                          match i, ho, hv with
                          | 0, ho, hv =>
                            cases ho; cases hv
                            refine .inl ⟨rfl, fun a W hk hw K hK => ?_⟩
                            have e3 := hk.same 3 (by decide)
                            exact op_val (by simp [go_sem, ev' e3]) (hK _ hw)
                          | 1, ho, hv =>
                            cases ho; cases hv
                            refine .inl ⟨rfl, fun a W hk hw K hK => ?_⟩
                            have e18 := hk.same 18 (by decide)
                            exact op_val (by simp [go_sem, ev' e18]) (hK _ hw)
                          | 2, ho, hv =>
                            cases ho; cases hv
                            refine .inl ⟨rfl, fun a W hk hw K hK => ?_⟩
                            have e97 := hk.at_ 0 _ 97 _ rfl (by decide) _ rfl rfl rfl
                            have e98 := hk.at_ 1 _ 98 _ rfl (by decide) _ rfl rfl rfl
                            exact op_val (by simp [go_sem, ev' e97, ev' e98, iy]) (hK _ hw)
                          | 3, ho, hv =>
                            cases ho; cases hv
                            refine .inl ⟨rfl, fun a W hk hw K hK => ?_⟩
                            have e99 := hk.at_ 2 _ 99 _ rfl (by decide) _ rfl rfl rfl
                            exact op_val (by simp [go_sem, ev' e99, HKV.out W hw]) (hK _ hw)
                          | 4, ho, hv =>
                            cases ho; cases hv
                            refine .inl ⟨rfl, fun a W hk hw K hK => ?_⟩
                            have e3 := hk.same 3 (by decide)
                            exact op_val (by simp [go_sem, ev' e3]) (hK _ hw)
                          | 5, ho, hv =>
                            cases ho; cases hv
                            refine .inl ⟨rfl, fun a W hk hw K hK => ?_⟩
                            have e12 := hk.same 12 (by decide)
                            exact op_val (by simp [go_sem, ev' e12]) (hK _ hw)
                          | 6, ho, hv =>
                            cases ho; cases hv
                            refine .inl ⟨rfl, fun a W hk hw K hK => ?_⟩
                            have e101 := hk.at_ 4 _ 101 _ rfl (by decide) _ rfl rfl rfl
                            have e102 := hk.at_ 5 _ 102 _ rfl (by decide) _ rfl rfl rfl
                            exact op_val (by simp [go_sem, ev' e101, ev' e102, inn]) (hK _ hw)
                          | 7, ho, hv =>
                            cases ho; cases hv
                            refine .inl ⟨rfl, fun a W hk hw K hK => ?_⟩
                            have e103 := hk.at_ 6 _ 103 _ rfl (by decide) _ rfl rfl rfl
                            exact op_val (by simp [go_sem, ev' e103, HKN.out W hw]) (hK _ hw)
                          | 8, ho, hv =>
                            cases ho; cases hv
                            refine .inl ⟨rfl, fun a W hk hw K hK => ?_⟩
                            have e100 := hk.at_ 3 _ 100 _ rfl (by decide) _ rfl rfl rfl
                            have e104 := hk.at_ 7 _ 104 _ rfl (by decide) _ rfl rfl rfl
                            exact op_val (by simp [go_sem, ev' e100, ev' e104, hbd]) (hK _ hw)
                          | _ + 9, _, hv => cases hv
                        intro W hw
                        simp only [List.drop_succ_cons, List.drop_zero, List.zip_cons_cons, List.zip_nil_right, putAll]
                        simp only [Act.put, List.setIfInBounds_toArray, List.set]
                        have HW := Lib.hid hw
                        clear hw hbd
                        cases bd
                        · have dl : decide (rv < rn) = true := by have := of_decide_eq_false dd; simp; omega
                          have l1 : decide ((rv : Int) < (rn : Int)) = true := by have := of_decide_eq_false dd; simp; omega
                          obtain ⟨V, rfl⟩ : ∃ V, V = W := ⟨_, rfl⟩
                          go_upto_region 26 with fail
                          refine wp_region_valsG (by kernel_rfl) 195 rfl (by kernel_rfl) (by kernel_rfl) [.slice (some ⟨bf, of, none⟩) N cF, .int .i64 y0, .pointer (some ⟨bf, of + y0, none⟩), .int .i64 fv, .bool false, .bool false, undef, undef, undef, undef, undef, undef, undef, undef, undef, .bool false] rfl (fun W => Aft V W) (Aft.drew _) ?st5 ?fi5
                          case st5 =>
                            intro i o v ho hv
                            match i, ho, hv with
                            | 0, ho, hv =>
                              cases ho; cases hv
                              refine .inl ⟨rfl, fun a W hk hw K hK => ?_⟩
                              have e2 := hk.same 2 (by decide)
                              exact op_val (by simp [go_sem, ev' e2]) (hK _ hw)
                            | 1, ho, hv =>
                              cases ho; cases hv
                              refine .inl ⟨rfl, fun a W hk hw K hK => ?_⟩
                              have e18 := hk.same 18 (by decide)
                              exact op_val (by simp [go_sem, ev' e18]) (hK _ hw)
                            | 2, ho, hv =>
                              cases ho; cases hv
                              refine .inl ⟨rfl, fun a W hk hw K hK => ?_⟩
                              have e108 := hk.at_ 0 _ 108 _ rfl (by decide) _ rfl rfl rfl
                              have e109 := hk.at_ 1 _ 109 _ rfl (by decide) _ rfl rfl rfl
                              exact op_val (by simp [go_sem, ev' e108, ev' e109, iy]) (hK _ hw)
                            | 3, ho, hv =>
                              cases ho; cases hv
                              refine .inl ⟨rfl, fun a W hk hw K hK => ?_⟩
                              have e110 := hk.at_ 2 _ 110 _ rfl (by decide) _ rfl rfl rfl
                              exact op_val (by simp [go_sem, ev' e110, HFV.out W (HW.out.trans hw)]) (hK _ hw)
                            | 4, ho, hv =>
                              cases ho; cases hv
                              refine .inl ⟨rfl, fun a W hk hw K hK => ?_⟩
                              have e111 := hk.at_ 3 _ 111 _ rfl (by decide) _ rfl rfl rfl
                              exact op_val (by simp [go_sem, ev' e111, q1]) (hK _ hw)
                            | 5, ho, hv =>
                              cases ho; cases hv
                              refine .inl ⟨rfl, fun a W hk hw K hK => ?_⟩
                              have e112 := hk.at_ 4 _ 112 _ rfl (by decide) _ rfl rfl rfl
                              exact op_val (by simp [go_sem, ev' e112]) (hK _ hw)
                            | 6, ho, hv => cases ho; cases hv; exact .inr ⟨rfl, rfl⟩
                            | 7, ho, hv => cases ho; cases hv; exact .inr ⟨rfl, rfl⟩
                            | 8, ho, hv => cases ho; cases hv; exact .inr ⟨rfl, rfl⟩
                            | 9, ho, hv => cases ho; cases hv; exact .inr ⟨rfl, rfl⟩
                            | 10, ho, hv => cases ho; cases hv; exact .inr ⟨rfl, rfl⟩
                            | 11, ho, hv => cases ho; cases hv; exact .inr ⟨rfl, rfl⟩
                            | 12, ho, hv => cases ho; cases hv; exact .inr ⟨rfl, rfl⟩
                            | 13, ho, hv => cases ho; cases hv; exact .inr ⟨rfl, rfl⟩
                            | 14, ho, hv => cases ho; cases hv; exact .inr ⟨rfl, rfl⟩
                            | 15, ho, hv =>
                              cases ho; cases hv
                              refine .inl ⟨rfl, fun a W hk hw K hK => ?_⟩
                              have e113 := hk.at_ 5 _ 113 _ rfl (by decide) _ rfl rfl rfl
                              have e122 := hk.at_ 14 _ 122 _ rfl (by decide) _ rfl rfl rfl
                              exact op_val (by simp [go_sem, ev' e113, ev' e122]) (hK _ hw)
                            | _ + 16, _, hv => cases hv
                          intro W hw
                          simp only [List.drop_succ_cons, List.drop_zero, List.zip_cons_cons, List.zip_nil_right, putAll]
                          simp only [Act.put, List.setIfInBounds_toArray, List.set]
                          go_wp2_with fail
                          exact ⟨⟨j + 1, u, o + 1, hi, lo, by go_num, by go_num, by go_num, by go_num, by go_num, by omega, HZ2.out.trans (HW.out.trans hw), by omega, by omega, by omega, by omega, Lib.hid (by rw [HU.out]; simp [d1, d0, dd, dl]), Lib.hid (by rw [HOO.out]; simp [d1, d0, dd, dl]), Lib.hid (by rw [HH.out]; simp [d1, d0, dd, dl]), Lib.hid (by rw [HL.out]; simp [d1, d0, dd, dl])⟩, by simp [intOf]; omega⟩
                        · have dl : decide (rv < rn) = false := by have := of_decide_eq_true dd; simp; omega
                          have l1 : decide ((rv : Int) < (rn : Int)) = false := by have := of_decide_eq_true dd; simp; omega
                          obtain ⟨V, rfl⟩ : ∃ V, V = W := ⟨_, rfl⟩
                          go_upto_region 26 with fail
                          refine wp_region_valsG (by kernel_rfl) 195 rfl (by kernel_rfl) (by kernel_rfl) [.slice (some ⟨bf, of, none⟩) N cF, .int .i64 y0, .pointer (some ⟨bf, of + y0, none⟩), .int .i64 fv, .bool false, .bool false, undef, undef, undef, undef, undef, undef, undef, undef, undef, .bool false] rfl (fun W => Aft V W) (Aft.drew _) ?st6 ?fi6
                          case st6 =>
                            intro i o v ho hv
                            match i, ho, hv with
                            | 0, ho, hv =>
                              cases ho; cases hv
                              refine .inl ⟨rfl, fun a W hk hw K hK => ?_⟩
                              have e2 := hk.same 2 (by decide)
                              exact op_val (by simp [go_sem, ev' e2]) (hK _ hw)
                            | 1, ho, hv =>
                              cases ho; cases hv
                              refine .inl ⟨rfl, fun a W hk hw K hK => ?_⟩
                              have e18 := hk.same 18 (by decide)
                              exact op_val (by simp [go_sem, ev' e18]) (hK _ hw)
                            | 2, ho, hv =>
                              cases ho; cases hv
                              refine .inl ⟨rfl, fun a W hk hw K hK => ?_⟩
                              have e108 := hk.at_ 0 _ 108 _ rfl (by decide) _ rfl rfl rfl
                              have e109 := hk.at_ 1 _ 109 _ rfl (by decide) _ rfl rfl rfl
                              exact op_val (by simp [go_sem, ev' e108, ev' e109, iy]) (hK _ hw)
                            | 3, ho, hv =>
                              cases ho; cases hv
                              refine .inl ⟨rfl, fun a W hk hw K hK => ?_⟩
                              have e110 := hk.at_ 2 _ 110 _ rfl (by decide) _ rfl rfl rfl
                              exact op_val (by simp [go_sem, ev' e110, HFV.out W (HW.out.trans hw)]) (hK _ hw)
                            | 4, ho, hv =>
                              cases ho; cases hv
                              refine .inl ⟨rfl, fun a W hk hw K hK => ?_⟩
                              have e111 := hk.at_ 3 _ 111 _ rfl (by decide) _ rfl rfl rfl
                              exact op_val (by simp [go_sem, ev' e111, q1]) (hK _ hw)
                            | 5, ho, hv =>
                              cases ho; cases hv
                              refine .inl ⟨rfl, fun a W hk hw K hK => ?_⟩
                              have e112 := hk.at_ 4 _ 112 _ rfl (by decide) _ rfl rfl rfl
                              exact op_val (by simp [go_sem, ev' e112]) (hK _ hw)
                            | 6, ho, hv => cases ho; cases hv; exact .inr ⟨rfl, rfl⟩
                            | 7, ho, hv => cases ho; cases hv; exact .inr ⟨rfl, rfl⟩
                            | 8, ho, hv => cases ho; cases hv; exact .inr ⟨rfl, rfl⟩
                            | 9, ho, hv => cases ho; cases hv; exact .inr ⟨rfl, rfl⟩
                            | 10, ho, hv => cases ho; cases hv; exact .inr ⟨rfl, rfl⟩
                            | 11, ho, hv => cases ho; cases hv; exact .inr ⟨rfl, rfl⟩
                            | 12, ho, hv => cases ho; cases hv; exact .inr ⟨rfl, rfl⟩
                            | 13, ho, hv => cases ho; cases hv; exact .inr ⟨rfl, rfl⟩
                            | 14, ho, hv => cases ho; cases hv; exact .inr ⟨rfl, rfl⟩
                            | 15, ho, hv =>
                              cases ho; cases hv
                              refine .inl ⟨rfl, fun a W hk hw K hK => ?_⟩
                              have e113 := hk.at_ 5 _ 113 _ rfl (by decide) _ rfl rfl rfl
                              have e122 := hk.at_ 14 _ 122 _ rfl (by decide) _ rfl rfl rfl
                              exact op_val (by simp [go_sem, ev' e113, ev' e122]) (hK _ hw)
                            | _ + 16, _, hv => cases hv
                          intro W hw
                          simp only [List.drop_succ_cons, List.drop_zero, List.zip_cons_cons, List.zip_nil_right, putAll]
                          simp only [Act.put, List.setIfInBounds_toArray, List.set]
                          go_wp2_with fail
                          exact ⟨⟨j + 1, u, o + 1, hi + 1, lo, by go_num, by go_num, by go_num, by go_num, by go_num, by omega, HZ2.out.trans (HW.out.trans hw), by omega, by omega, by omega, by omega, Lib.hid (by rw [HU.out]; simp [d1, d0, dd, dl]), Lib.hid (by rw [HOO.out]; simp [d1, d0, dd, dl]), Lib.hid (by rw [HH.out]; simp [d1, d0, dd, dl]), Lib.hid (by rw [HL.out]; simp [d1, d0, dd, dl])⟩, by simp [intOf]; omega⟩
                      · skip
                        have q1 : ((fv : Int) == 1) = false := by simp; omega
                        have q0 : ((fv : Int) == 0) = false := by simp; omega
                        have d1 : decide (fv = 1) = false := by simpa using hf1
                        have d0 : decide (fv = 0) = false := by simpa using hf0
                        go_upto_region 24 with fail
                        obtain ⟨bd, hbd⟩ : ∃ bd, decide (rn ≤ rv) = bd := ⟨_, rfl⟩
                        have dd := hbd
                        refine wp_region_valsG (by kernel_rfl) 195 rfl (by kernel_rfl) (by kernel_rfl) [.slice (some ⟨bk, ok, none⟩) N cK, .int .i64 y0, .pointer (some ⟨bk, ok + y0, none⟩), .int .i64 rv, .slice (some ⟨bk, ok, none⟩) N cK, .int .i64 n, .pointer (some ⟨bk, ok + n, none⟩), .int .i64 rn, .bool bd] rfl (fun W => Aft wr W) (Aft.drew _) ?st7 ?fi7
                        case st7 =>
                          intro i o v ho hv
                          match i, ho, hv with
                          | 0, ho, hv =>
                            cases ho; cases hv
                            refine .inl ⟨rfl, fun a W hk hw K hK => ?_⟩
                            have e3 := hk.same 3 (by decide)
                            exact op_val (by simp [go_sem, ev' e3]) (hK _ hw)
                          | 1, ho, hv =>
                            cases ho; cases hv
                            refine .inl ⟨rfl, fun a W hk hw K hK => ?_⟩
                            have e18 := hk.same 18 (by decide)
                            exact op_val (by simp [go_sem, ev' e18]) (hK _ hw)
                          | 2, ho, hv =>
                            cases ho; cases hv
                            refine .inl ⟨rfl, fun a W hk hw K hK => ?_⟩
                            have e97 := hk.at_ 0 _ 97 _ rfl (by decide) _ rfl rfl rfl
                            have e98 := hk.at_ 1 _ 98 _ rfl (by decide) _ rfl rfl rfl
                            exact op_val (by simp [go_sem, ev' e97, ev' e98, iy]) (hK _ hw)
                          | 3, ho, hv =>
                            cases ho; cases hv
                            refine .inl ⟨rfl, fun a W hk hw K hK => ?_⟩
                            have e99 := hk.at_ 2 _ 99 _ rfl (by decide) _ rfl rfl rfl
                            exact op_val (by simp [go_sem, ev' e99, HKV.out W hw]) (hK _ hw)
                          | 4, ho, hv =>
                            cases ho; cases hv
                            refine .inl ⟨rfl, fun a W hk hw K hK => ?_⟩
                            have e3 := hk.same 3 (by decide)
                            exact op_val (by simp [go_sem, ev' e3]) (hK _ hw)
                          | 5, ho, hv =>
                            cases ho; cases hv
                            refine .inl ⟨rfl, fun a W hk hw K hK => ?_⟩
                            have e12 := hk.same 12 (by decide)
                            exact op_val (by simp [go_sem, ev' e12]) (hK _ hw)
                          | 6, ho, hv =>
                            cases ho; cases hv
                            refine .inl ⟨rfl, fun a W hk hw K hK => ?_⟩
                            have e101 := hk.at_ 4 _ 101 _ rfl (by decide) _ rfl rfl rfl
                            have e102 := hk.at_ 5 _ 102 _ rfl (by decide) _ rfl rfl rfl
                            exact op_val (by simp [go_sem, ev' e101, ev' e102, inn]) (hK _ hw)
                          | 7, ho, hv =>
                            cases ho; cases hv
                            refine .inl ⟨rfl, fun a W hk hw K hK => ?_⟩
                            have e103 := hk.at_ 6 _ 103 _ rfl (by decide) _ rfl rfl rfl
                            exact op_val (by simp [go_sem, ev' e103, HKN.out W hw]) (hK _ hw)
                          | 8, ho, hv =>
                            cases ho; cases hv
                            refine .inl ⟨rfl, fun a W hk hw K hK => ?_⟩
                            have e100 := hk.at_ 3 _ 100 _ rfl (by decide) _ rfl rfl rfl
                            have e104 := hk.at_ 7 _ 104 _ rfl (by decide) _ rfl rfl rfl
                            exact op_val (by simp [go_sem, ev' e100, ev' e104, hbd]) (hK _ hw)
                          | _ + 9, _, hv => cases hv
                        intro W hw
                        simp only [List.drop_succ_cons, List.drop_zero, List.zip_cons_cons, List.zip_nil_right, putAll]
                        simp only [Act.put, List.setIfInBounds_toArray, List.set]
                        have HW := Lib.hid hw
                        clear hw hbd
                        cases bd
                        · have dl : decide (rv < rn) = true := by have := of_decide_eq_false dd; simp; omega
                          have l1 : decide ((rv : Int) < (rn : Int)) = true := by have := of_decide_eq_false dd; simp; omega
                          obtain ⟨V, rfl⟩ : ∃ V, V = W := ⟨_, rfl⟩
                          go_upto_region 26 with fail
                          refine wp_region_valsG (by kernel_rfl) 195 rfl (by kernel_rfl) (by kernel_rfl) [.slice (some ⟨bf, of, none⟩) N cF, .int .i64 y0, .pointer (some ⟨bf, of + y0, none⟩), .int .i64 fv, .bool false, .bool false, undef, undef, undef, undef, undef, undef, undef, undef, undef, .bool false] rfl (fun W => Aft V W) (Aft.drew _) ?st8 ?fi8
                          case st8 =>
                            intro i o v ho hv
                            match i, ho, hv with
                            | 0, ho, hv =>
                              cases ho; cases hv
                              refine .inl ⟨rfl, fun a W hk hw K hK => ?_⟩
                              have e2 := hk.same 2 (by decide)
                              exact op_val (by simp [go_sem, ev' e2]) (hK _ hw)
                            | 1, ho, hv =>
                              cases ho; cases hv
                              refine .inl ⟨rfl, fun a W hk hw K hK => ?_⟩
                              have e18 := hk.same 18 (by decide)
                              exact op_val (by simp [go_sem, ev' e18]) (hK _ hw)
                            | 2, ho, hv =>
                              cases ho; cases hv
                              refine .inl ⟨rfl, fun a W hk hw K hK => ?_⟩
                              have e108 := hk.at_ 0 _ 108 _ rfl (by decide) _ rfl rfl rfl
                              have e109 := hk.at_ 1 _ 109 _ rfl (by decide) _ rfl rfl rfl
                              exact op_val (by simp [go_sem, ev' e108, ev' e109, iy]) (hK _ hw)
                            | 3, ho, hv =>
                              cases ho; cases hv
                              refine .inl ⟨rfl, fun a W hk hw K hK => ?_⟩
                              have e110 := hk.at_ 2 _ 110 _ rfl (by decide) _ rfl rfl rfl
                              exact op_val (by simp [go_sem, ev' e110, HFV.out W (HW.out.trans hw)]) (hK _ hw)
                            | 4, ho, hv =>
                              cases ho; cases hv
                              refine .inl ⟨rfl, fun a W hk hw K hK => ?_⟩
                              have e111 := hk.at_ 3 _ 111 _ rfl (by decide) _ rfl rfl rfl
                              exact op_val (by simp [go_sem, ev' e111, q1]) (hK _ hw)
                            | 5, ho, hv =>
                              cases ho; cases hv
                              refine .inl ⟨rfl, fun a W hk hw K hK => ?_⟩
                              have e112 := hk.at_ 4 _ 112 _ rfl (by decide) _ rfl rfl rfl
                              exact op_val (by simp [go_sem, ev' e112]) (hK _ hw)
                            | 6, ho, hv => cases ho; cases hv; exact .inr ⟨rfl, rfl⟩
                            | 7, ho, hv => cases ho; cases hv; exact .inr ⟨rfl, rfl⟩
                            | 8, ho, hv => cases ho; cases hv; exact .inr ⟨rfl, rfl⟩
                            | 9, ho, hv => cases ho; cases hv; exact .inr ⟨rfl, rfl⟩
                            | 10, ho, hv => cases ho; cases hv; exact .inr ⟨rfl, rfl⟩
                            | 11, ho, hv => cases ho; cases hv; exact .inr ⟨rfl, rfl⟩
                            | 12, ho, hv => cases ho; cases hv; exact .inr ⟨rfl, rfl⟩
                            | 13, ho, hv => cases ho; cases hv; exact .inr ⟨rfl, rfl⟩
                            | 14, ho, hv => cases ho; cases hv; exact .inr ⟨rfl, rfl⟩
                            | 15, ho, hv =>
                              cases ho; cases hv
                              refine .inl ⟨rfl, fun a W hk hw K hK => ?_⟩
                              have e113 := hk.at_ 5 _ 113 _ rfl (by decide) _ rfl rfl rfl
                              have e122 := hk.at_ 14 _ 122 _ rfl (by decide) _ rfl rfl rfl
                              exact op_val (by simp [go_sem, ev' e113, ev' e122]) (hK _ hw)
                            | _ + 16, _, hv => cases hv
                          intro W hw
                          simp only [List.drop_succ_cons, List.drop_zero, List.zip_cons_cons, List.zip_nil_right, putAll]
                          simp only [Act.put, List.setIfInBounds_toArray, List.set]
                          go_wp2_with fail
                          exact ⟨⟨j + 1, u, o, hi, lo, by go_num, by go_num, by go_num, by go_num, by go_num, by omega, HZ2.out.trans (HW.out.trans hw), by omega, by omega, by omega, by omega, Lib.hid (by rw [HU.out]; simp [d1, d0, dd, dl]), Lib.hid (by rw [HOO.out]; simp [d1, d0, dd, dl]), Lib.hid (by rw [HH.out]; simp [d1, d0, dd, dl]), Lib.hid (by rw [HL.out]; simp [d1, d0, dd, dl])⟩, by simp [intOf]; omega⟩
                        · have dl : decide (rv < rn) = false := by have := of_decide_eq_true dd; simp; omega
                          have l1 : decide ((rv : Int) < (rn : Int)) = false := by have := of_decide_eq_true dd; simp; omega
                          obtain ⟨V, rfl⟩ : ∃ V, V = W := ⟨_, rfl⟩
                          go_upto_region 26 with fail
                          refine wp_region_valsG (by kernel_rfl) 195 rfl (by kernel_rfl) (by kernel_rfl) [.slice (some ⟨bf, of, none⟩) N cF, .int .i64 y0, .pointer (some ⟨bf, of + y0, none⟩), .int .i64 fv, .bool false, .bool false, undef, undef, undef, undef, undef, undef, undef, undef, undef, .bool false] rfl (fun W => Aft V W) (Aft.drew _) ?st9 ?fi9
                          case st9 =>
                            intro i o v ho hv
                            match i, ho, hv with
                            | 0, ho, hv =>
                              cases ho; cases hv
                              refine .inl ⟨rfl, fun a W hk hw K hK => ?_⟩
                              have e2 := hk.same 2 (by decide)
                              exact op_val (by simp [go_sem, ev' e2]) (hK _ hw)
                            | 1, ho, hv =>
                              cases ho; cases hv
                              refine .inl ⟨rfl, fun a W hk hw K hK => ?_⟩
                              have e18 := hk.same 18 (by decide)
                              exact op_val (by simp [go_sem, ev' e18]) (hK _ hw)
                            | 2, ho, hv =>
                              cases ho; cases hv
                              refine .inl ⟨rfl, fun a W hk hw K hK => ?_⟩
                              have e108 := hk.at_ 0 _ 108 _ rfl (by decide) _ rfl rfl rfl
                              have e109 := hk.at_ 1 _ 109 _ rfl (by decide) _ rfl rfl rfl
                              exact op_val (by simp [go_sem, ev' e108, ev' e109, iy]) (hK _ hw)
                            | 3, ho, hv =>
                              cases ho; cases hv
                              refine .inl ⟨rfl, fun a W hk hw K hK => ?_⟩
                              have e110 := hk.at_ 2 _ 110 _ rfl (by decide) _ rfl rfl rfl
                              exact op_val (by simp [go_sem, ev' e110, HFV.out W (HW.out.trans hw)]) (hK _ hw)
                            | 4, ho, hv =>
                              cases ho; cases hv
                              refine .inl ⟨rfl, fun a W hk hw K hK => ?_⟩
                              have e111 := hk.at_ 3 _ 111 _ rfl (by decide) _ rfl rfl rfl
                              exact op_val (by simp [go_sem, ev' e111, q1]) (hK _ hw)
                            | 5, ho, hv =>
                              cases ho; cases hv
                              refine .inl ⟨rfl, fun a W hk hw K hK => ?_⟩
                              have e112 := hk.at_ 4 _ 112 _ rfl (by decide) _ rfl rfl rfl
                              exact op_val (by simp [go_sem, ev' e112]) (hK _ hw)
                            | 6, ho, hv => cases ho; cases hv; exact .inr ⟨rfl, rfl⟩
                            | 7, ho, hv => cases ho; cases hv; exact .inr ⟨rfl, rfl⟩
                            | 8, ho, hv => cases ho; cases hv; exact .inr ⟨rfl, rfl⟩
                            | 9, ho, hv => cases ho; cases hv; exact .inr ⟨rfl, rfl⟩
                            | 10, ho, hv => cases ho; cases hv; exact .inr ⟨rfl, rfl⟩
                            | 11, ho, hv => cases ho; cases hv; exact .inr ⟨rfl, rfl⟩
                            | 12, ho, hv => cases ho; cases hv; exact .inr ⟨rfl, rfl⟩
                            | 13, ho, hv => cases ho; cases hv; exact .inr ⟨rfl, rfl⟩
                            | 14, ho, hv => cases ho; cases hv; exact .inr ⟨rfl, rfl⟩
                            | 15, ho, hv =>
                              cases ho; cases hv
                              refine .inl ⟨rfl, fun a W hk hw K hK => ?_⟩
                              have e113 := hk.at_ 5 _ 113 _ rfl (by decide) _ rfl rfl rfl
                              have e122 := hk.at_ 14 _ 122 _ rfl (by decide) _ rfl rfl rfl
                              exact op_val (by simp [go_sem, ev' e113, ev' e122]) (hK _ hw)
                            | _ + 16, _, hv => cases hv
                          intro W hw
                          simp only [List.drop_succ_cons, List.drop_zero, List.zip_cons_cons, List.zip_nil_right, putAll]
                          simp only [Act.put, List.setIfInBounds_toArray, List.set]
                          go_wp2_with fail
                          exact ⟨⟨j + 1, u, o, hi + 1, lo, by go_num, by go_num, by go_num, by go_num, by go_num, by omega, HZ2.out.trans (HW.out.trans hw), by omega, by omega, by omega, by omega, Lib.hid (by rw [HU.out]; simp [d1, d0, dd, dl]), Lib.hid (by rw [HOO.out]; simp [d1, d0, dd, dl]), Lib.hid (by rw [HH.out]; simp [d1, d0, dd, dl]), Lib.hid (by rw [HL.out]; simp [d1, d0, dd, dl])⟩, by simp [intOf]; omega⟩
                · have t3 : decide (j < S.length) = false := by simpa using hjl
                  obtain rfl : S.length = j := by omega
                  have HHR : Hid (HLD n = refH br fn rn u o hi lo) := Lib.hid (by rw [HHELD.out, HU.out, HOO.out, HH.out, HL.out])
                  obtain ⟨hb, hhb⟩ : ∃ hb, HLD n = hb := ⟨_, rfl⟩
                  have HHB : Hid (hb = refH br fn rn u o hi lo) := Lib.hid (by rw [← hhb]; exact HHR.out)
                  have HHL2 := Lib.hid hhb
                  have f0 := HFN.out wr HZ3.out
                  have r0 := HKNN.out wr HZ3.out
                  have H64W := Lib.hid (H64.out wr HZ3.out)
                  clear hhb HHR HHELD HU HOO HH HL hjl
                  go_upto_block 6 with fail
                  clear k0 k1 k2 k3
                  go_cut [19] from 126 to 192 (fun s19 wx => s19 = .bool hb ∧ wx = wr)
                  case first =>
                    refine wp_block ?_
                    cases br
                    · skip
                      by_cases h_fn0 : fn = 0
                      · skip
                        have g_fn0 : ((fn : Int) == 0) = true := by simp; omega
                        by_cases h_rn0 : rn = 0
                        · skip
                          have g_rn0 : ((rn : Int) == 0) = true := by simp; omega
                          by_cases h_u0 : u = 0
                          · skip
                            have g_u0 : ((u : Int) == 0) = true := by simp; omega
                            by_cases h_op : 0 < o
                            · skip
                              have g_op : decide ((0 : Int) < (o : Int)) = true := decide_eq_true (by omega)
                              (repeat (first | go_big_skip | go_big_want | go_big_move | go_big_op | go_step | go_upon | go_back))
                              go_at_call 45
                              refine H64W.out.mono ?_
                              rintro e wz ⟨rfl, rfl⟩
                              dsimp only
                              (repeat (first | go_big_skip | go_big_want | go_big_move | go_big_op | go_step | go_upon | go_back))
                              go_meet
                              exact ⟨by rw [HHB.out]; simp [refH, h_fn0, h_rn0, h_u0, h_op], rfl⟩
                            · skip
                              have g_op : decide ((0 : Int) < (o : Int)) = false := decide_eq_false (by omega)
                              (repeat (first | go_big_skip | go_big_want | go_big_move | go_big_op | go_step | go_upon | go_back))
                              go_at_call 45
                              refine H64W.out.mono ?_
                              rintro e wz ⟨rfl, rfl⟩
                              dsimp only
                              (repeat (first | go_big_skip | go_big_want | go_big_move | go_big_op | go_step | go_upon | go_back))
                              go_meet
                              exact ⟨by rw [HHB.out]; simp [refH, h_fn0, h_rn0, h_u0, h_op], rfl⟩
                          · skip
                            have g_u0 : ((u : Int) == 0) = false := by simp; omega
                            (repeat (first | go_big_skip | go_big_want | go_big_move | go_big_op | go_step | go_upon | go_back))
                            go_at_call 45
                            refine H64W.out.mono ?_
                            rintro e wz ⟨rfl, rfl⟩
                            dsimp only
                            (repeat (first | go_big_skip | go_big_want | go_big_move | go_big_op | go_step | go_upon | go_back))
                            go_meet
                            exact ⟨by rw [HHB.out]; simp [refH, h_fn0, h_rn0, h_u0], rfl⟩
                        · skip
                          have g_rn0 : ((rn : Int) == 0) = false := by simp; omega
                          (repeat (first | go_big_skip | go_big_want | go_big_move | go_big_op | go_step | go_upon | go_back))
                          go_at_call 45
                          refine H64W.out.mono ?_
                          rintro e wz ⟨rfl, rfl⟩
                          dsimp only
                          (repeat (first | go_big_skip | go_big_want | go_big_move | go_big_op | go_step | go_upon | go_back))
                          go_meet
                          exact ⟨by rw [HHB.out]; simp [refH, h_fn0, h_rn0], rfl⟩
                      · skip
                        have g_fn0 : ((fn : Int) == 0) = false := by simp; omega
                        by_cases h_fn1 : fn = 1
                        · skip
                          have g_fn1 : ((fn : Int) == 1) = true := by simp; omega
                          by_cases h_rp : 0 < rn
                          · skip
                            have g_rp : decide ((0 : Int) < (rn : Int)) = true := decide_eq_true (by omega)
                            by_cases h_u0 : u = 0
                            · skip
                              have g_u0 : ((u : Int) == 0) = true := by simp; omega
                              by_cases h_o0 : o = 0
                              · skip
                                have g_o0 : ((o : Int) == 0) = true := by simp; omega
                                by_cases h_h0 : hi = 0
                                · skip
                                  have g_h0 : ((hi : Int) == 0) = true := by simp; omega
                                  (repeat (first | go_big_skip | go_big_want | go_big_move | go_big_op | go_step | go_upon | go_back))
                                  go_at_call 45
                                  refine H64W.out.mono ?_
                                  rintro e wz ⟨rfl, rfl⟩
                                  dsimp only
                                  (repeat (first | go_big_skip | go_big_want | go_big_move | go_big_op | go_step | go_upon | go_back))
                                  go_meet
                                  exact ⟨by rw [HHB.out]; simp [refH, h_fn0, h_fn1, h_rp, h_u0, h_o0, h_h0], rfl⟩
                                · skip
                                  have g_h0 : ((hi : Int) == 0) = false := by simp; omega
                                  (repeat (first | go_big_skip | go_big_want | go_big_move | go_big_op | go_step | go_upon | go_back))
                                  go_at_call 45
                                  refine H64W.out.mono ?_
                                  rintro e wz ⟨rfl, rfl⟩
                                  dsimp only
                                  (repeat (first | go_big_skip | go_big_want | go_big_move | go_big_op | go_step | go_upon | go_back))
                                  go_meet
                                  exact ⟨by rw [HHB.out]; simp [refH, h_fn0, h_fn1, h_rp, h_u0, h_o0, h_h0], rfl⟩
                              · skip
                                have g_o0 : ((o : Int) == 0) = false := by simp; omega
                                (repeat (first | go_big_skip | go_big_want | go_big_move | go_big_op | go_step | go_upon | go_back))
                                go_at_call 45
                                refine H64W.out.mono ?_
                                rintro e wz ⟨rfl, rfl⟩
                                dsimp only
                                (repeat (first | go_big_skip | go_big_want | go_big_move | go_big_op | go_step | go_upon | go_back))
                                go_meet
                                exact ⟨by rw [HHB.out]; simp [refH, h_fn0, h_fn1, h_rp, h_u0, h_o0], rfl⟩
                            · skip
                              have g_u0 : ((u : Int) == 0) = false := by simp; omega
                              (repeat (first | go_big_skip | go_big_want | go_big_move | go_big_op | go_step | go_upon | go_back))
                              go_at_call 45
                              refine H64W.out.mono ?_
                              rintro e wz ⟨rfl, rfl⟩
                              dsimp only
                              (repeat (first | go_big_skip | go_big_want | go_big_move | go_big_op | go_step | go_upon | go_back))
                              go_meet
                              exact ⟨by rw [HHB.out]; simp [refH, h_fn0, h_fn1, h_rp, h_u0], rfl⟩
                          · skip
                            have g_rp : decide ((0 : Int) < (rn : Int)) = false := decide_eq_false (by omega)
                            (repeat (first | go_big_skip | go_big_want | go_big_move | go_big_op | go_step | go_upon | go_back))
                            go_at_call 45
                            refine H64W.out.mono ?_
                            rintro e wz ⟨rfl, rfl⟩
                            dsimp only
                            (repeat (first | go_big_skip | go_big_want | go_big_move | go_big_op | go_step | go_upon | go_back))
                            go_meet
                            exact ⟨by rw [HHB.out]; simp [refH, h_fn0, h_fn1, h_rp], rfl⟩
                        · skip
                          have g_fn1 : ((fn : Int) == 1) = false := by simp; omega
                          by_cases h_rp : 0 < rn
                          · skip
                            have g_rp : decide ((0 : Int) < (rn : Int)) = true := decide_eq_true (by omega)
                            by_cases h_lp : 0 < lo
                            · skip
                              have g_lp : decide ((0 : Int) < (lo : Int)) = true := decide_eq_true (by omega)
                              (repeat (first | go_big_skip | go_big_want | go_big_move | go_big_op | go_step | go_upon | go_back))
                              go_at_call 45
                              refine H64W.out.mono ?_
                              rintro e wz ⟨rfl, rfl⟩
                              dsimp only
                              (repeat (first | go_big_skip | go_big_want | go_big_move | go_big_op | go_step | go_upon | go_back))
                              go_meet
                              exact ⟨by rw [HHB.out]; simp [refH, h_fn0, h_fn1, h_rp, h_lp], rfl⟩
                            · skip
                              have g_lp : decide ((0 : Int) < (lo : Int)) = false := decide_eq_false (by omega)
                              (repeat (first | go_big_skip | go_big_want | go_big_move | go_big_op | go_step | go_upon | go_back))
                              go_at_call 45
                              refine H64W.out.mono ?_
                              rintro e wz ⟨rfl, rfl⟩
                              dsimp only
                              (repeat (first | go_big_skip | go_big_want | go_big_move | go_big_op | go_step | go_upon | go_back))
                              go_meet
                              exact ⟨by rw [HHB.out]; simp [refH, h_fn0, h_fn1, h_rp, h_lp], rfl⟩
                          · skip
                            have g_rp : decide ((0 : Int) < (rn : Int)) = false := decide_eq_false (by omega)
                            (repeat (first | go_big_skip | go_big_want | go_big_move | go_big_op | go_step | go_upon | go_back))
                            go_at_call 45
                            refine H64W.out.mono ?_
                            rintro e wz ⟨rfl, rfl⟩
                            dsimp only
                            (repeat (first | go_big_skip | go_big_want | go_big_move | go_big_op | go_step | go_upon | go_back))
                            go_meet
                            exact ⟨by rw [HHB.out]; simp [refH, h_fn0, h_fn1, h_rp], rfl⟩
                    · skip
                      by_cases h_fn2 : fn = 2
                      · skip
                        have g_fn2 : ((fn : Int) == 2) = true := by simp; omega
                        by_cases h_rn0 : rn = 0
                        · skip
                          have g_rn0 : ((rn : Int) == 0) = true := by simp; omega
                          (repeat (first | go_big_skip | go_big_want | go_big_move | go_big_op | go_step | go_upon | go_back))
                          go_at_call 45
                          refine H64W.out.mono ?_
                          rintro e wz ⟨rfl, rfl⟩
                          dsimp only
                          (repeat (first | go_big_skip | go_big_want | go_big_move | go_big_op | go_step | go_upon | go_back))
                          go_meet
                          exact ⟨by rw [HHB.out]; simp [refH, h_fn2, h_rn0], rfl⟩
                        · skip
                          have g_rn0 : ((rn : Int) == 0) = false := by simp; omega
                          (repeat (first | go_big_skip | go_big_want | go_big_move | go_big_op | go_step | go_upon | go_back))
                          go_at_call 45
                          refine H64W.out.mono ?_
                          rintro e wz ⟨rfl, rfl⟩
                          dsimp only
                          (repeat (first | go_big_skip | go_big_want | go_big_move | go_big_op | go_step | go_upon | go_back))
                          go_meet
                          exact ⟨by rw [HHB.out]; simp [refH, h_fn2, h_rn0], rfl⟩
                      · skip
                        have g_fn2 : ((fn : Int) == 2) = false := by simp; omega
                        (repeat (first | go_big_skip | go_big_want | go_big_move | go_big_op | go_step | go_upon | go_back))
                        go_at_call 45
                        refine H64W.out.mono ?_
                        rintro e wz ⟨rfl, rfl⟩
                        dsimp only
                        (repeat (first | go_big_skip | go_big_want | go_big_move | go_big_op | go_step | go_upon | go_back))
                        go_meet
                        exact ⟨by rw [HHB.out]; simp [refH, h_fn2], rfl⟩
                  obtain ⟨rfl, rfl⟩ := hcut
                  obtain ⟨wr, rfl⟩ : ∃ wr, wr = wc := ⟨_, rfl⟩
                  clear f0 r0 H64W HHB
                  cases hb
                  · have HALL : Hid ((List.range N).all HLD = false) := Lib.hid (all_range_no hnN HHL2.out)
                    go_wp2_with fail
                    go_ret2
                    exact ⟨by rw [HE0.out, HALL.out]; rfl, H0.out.trans (HY.out.trans HZ3.out)⟩
                  · have HOK2 : Hid (∀ j, j < n + 1 → HLD j = true) := Lib.hid fun j hj => by
                      by_cases e : j = n
                      · subst e
                        exact HHL2.out
                      · exact HOK.out j (by omega)
                    go_wp2_with fail
                    exact ⟨⟨n + 1, by go_num, by omega, HZ3.out, HOK2⟩, by simp [intOf]; omega⟩
            · have t2 : decide (n < N) = false := by simpa using hnN
              have HALL : Hid ((List.range N).all HLD = true) := Lib.hid (List.all_eq_true.2 fun j hj => HOK.out j (by have := List.mem_range.1 hj; omega))
              clear HOK
              go_wp2_with fail
              go_ret2
              exact ⟨by rw [HE0.out, HALL.out]; rfl, H0.out.trans (HY.out.trans HZ.out)⟩
    · have e2 : ((K.length : Int) != (N : Int)) = true := by simp; omega
      have HE3 : Hid (E = 3) := Lib.hid (by have := HE.out; rw [if_pos (.inr (by omega))] at this; exact this.symm)
      go_wp2_with fail
      go_ret2
      exact ⟨by rw [HE3.out]; rfl, H0.out.trans HA1.out⟩
  · have e1 : ((F.length : Int) != (N : Int)) = true := by simp; omega
    have HE3 : Hid (E = 3) := Lib.hid (by have := HE.out; rw [if_pos (.inl (by omega))] at this; exact this.symm)
    go_wp2_with fail
    go_ret2
    exact ⟨by rw [HE3.out]; rfl, H0.out.trans HA1.out⟩
end Go.Proofs
end

section
namespace Go.Proofs
open Go.RowKit
open Court (refL begF noS award)

theorem holds_pair (C : CaseL) (R F K : List Int) : ∃ (b : Bool) (E : Int),
    (∀ A1 A2 k1 k2 A c A' c' A'' c'' X, CRep X C A1 A2 → Ints X A R → Ints X A' F → Ints X A'' K → Calls Try.prog 18 #[.agg #[.int .i64 C.claims, .slice A1 C.strikes.length k1, .slice A2 C.surveys.length k2], .slice A R.length c, .slice A' F.length c', .slice A'' K.length c''] X (HoldsR b E X)) ∧
    (∀ A1 A2 k1 k2 A c A' c' A'' c'' X, CRep X C A1 A2 → Ints X A R → Ints X A' F → Ints X A'' K → Calls Try.prog 17 #[.agg #[.int .i64 C.claims, .slice A1 C.strikes.length k1, .slice A2 C.surveys.length k2], .slice A R.length c, .slice A' F.length c', .slice A'' K.length c''] X (HoldsR b E X)) := by
  by_cases ho : openE C R = 0
  · obtain ⟨N, S, T, rfl, hN1, hN14⟩ := case_nat (openE_ok ho).1
    refine ⟨_, holdsE ⟨N, S, T⟩ R F K, fun A1 A2 k1 k2 A c A' c' A'' c'' X hX hA hF hK => ?_, fun A1 A2 k1 k2 A c A' c' A'' c'' X hX hA hF hK => holdsTop_in N S T A1 A2 k1 k2 R F K A A' A'' c c' c'' X hX hA hF hK ho _ rfl⟩
    by_cases he : holdsE ⟨N, S, T⟩ R F K = 0
    · have := holds_good ⟨N, S, T⟩ A1 A2 k1 k2 R F K A A' A'' c c' c'' X hX hA hF hK he N rfl
      rw [he, decide_eq_true rfl, Bool.true_and]
      exact this
    · have := holds_bad ⟨N, S, T⟩ A1 A2 k1 k2 R F K A A' A'' c c' c'' X hX hA hF hK he
      rw [decide_eq_false he, Bool.false_and]
      exact this
  · have hE : holdsE C R F K = openE C R := by unfold holdsE; rw [if_neg ho]
    refine ⟨false, openE C R, fun A1 A2 k1 k2 A c A' c' A'' c'' X hX hA hF hK => ?_, fun A1 A2 k1 k2 A c A' c' A'' c'' X hX hA hF hK => holdsTop_open C A1 A2 k1 k2 R F K A A' A'' c c' c'' X hX hA ho⟩
    have := holds_bad C A1 A2 k1 k2 R F K A A' A'' c c' c'' X hX hA hF hK (by rw [hE]; exact ho)
    rw [hE] at this
    exact this
def RanksP (C : CaseL) (R L : List Int) (E : Int) (w : World) (e : Ending) (w' : World) : Prop := ∃ A c K, e = .returned (.tuple #[.slice A K.length c, .int .i64 E]) ∧ K.length ≤ 14 ∧ Ints w' A K ∧ Aft w w' ∧ (E ≠ 0 → K.length = 0) ∧
  (E = 0 → ∀ A1 A2 k1 k2 A c A' c' A'' c'' X, CRep X C A1 A2 → Ints X A R → Ints X A' L → Ints X A'' K → Calls Try.prog 17 #[.agg #[.int .i64 C.claims, .slice A1 C.strikes.length k1, .slice A2 C.surveys.length k2], .slice A R.length c, .slice A' L.length c', .slice A'' K.length c''] X (HoldsR true 0 X))
theorem award_triple (C : CaseL) (R : List Int) : ∃ (L : List Int) (E : Int),
    (∀ A1 A2 k1 k2 A c X, CRep X C A1 A2 → Ints X A R → Calls Try.prog 14 #[.agg #[.int .i64 C.claims, .slice A1 C.strikes.length k1, .slice A2 C.surveys.length k2], .slice A R.length c] X (PairR L E X)) ∧
    (∀ A1 A2 k1 k2 A c X, CRep X C A1 A2 → Ints X A R → Calls Try.prog 15 #[.agg #[.int .i64 C.claims, .slice A1 C.strikes.length k1, .slice A2 C.surveys.length k2], .slice A R.length c] X (PairR L E X)) ∧
    (∀ A1 A2 k1 k2 A c X, CRep X C A1 A2 → Ints X A R → Calls Try.prog 16 #[.agg #[.int .i64 C.claims, .slice A1 C.strikes.length k1, .slice A2 C.surveys.length k2], .slice A R.length c] X (RanksP C R L E X)) := by
  by_cases ho : openE C R = 0
  · obtain ⟨N, S, T, rfl, hN1, hN14⟩ := case_nat (openE_ok ho).1
    have hRR := (listedE_ok (openE_ok ho).2).1
    have href : ∀ n, refL R n = true → 0 ≤ n ∧ n < N := fun n h => hRR n (List.contains_iff_mem.1 h)
    refine ⟨foundL (award S noS N (begF (refL R))) N, 0, fun A1 A2 k1 k2 A c X hX hA => ?_, fun A1 A2 k1 k2 A c X hX hA => ?_, fun A1 A2 k1 k2 A c X hX hA => ?_⟩
    · exact (award_good ⟨N, S, T⟩ A1 A2 k1 k2 R A c X hX hA ho N rfl).mono fun e w' h => PairR.goodL (by rw [foundL_len]; omega) h
    · exact (awardTop_good N S T A1 A2 k1 k2 R A c X hX hA ho).mono fun e w' h => PairR.made (by rw [foundL_len]; omega) h
    · refine (ranks_good ⟨N, S, T⟩ A1 A2 k1 k2 R A c X hX hA ho N rfl).mono fun e w' h => ?_
      obtain ⟨r, hh, v, rfl, hown, ha⟩ := h
      obtain ⟨A', c', rfl, _, hi⟩ := own_ints hown (by rw [foundL_len]; omega)
      refine ⟨A', c', foundL r N, rfl, by rw [foundL_len]; omega, hi, ha, fun h => absurd rfl h, fun _ B1 B2 j1 j2 D1 e1 D2 e2 D3 e3 Y hY h1 h2 h3 => ?_⟩
      have hE : holdsE ⟨N, S, T⟩ R (foundL (award S noS N (begF (refL R))) N) (foundL r N) = 0 :=
        holdsE_zero ho (by rw [foundL_len]) (by rw [foundL_len]) (foundL_mem (b := 2) award_three) fun x hx => by
          have := foundL_mem (N := N) (fun n => hh.rank (Court.begF_three _) n) x hx
          omega
      have := holdsTop_in N S T B1 B2 j1 j2 R (foundL (award S noS N (begF (refL R))) N) (foundL r N) D1 D2 D3 e1 e2 e3 Y hY h1 h2 h3 ho 0 hE
      rw [all_held href hh] at this
      exact this
  · refine ⟨[], openE C R, fun A1 A2 k1 k2 A c X hX hA => ?_, fun A1 A2 k1 k2 A c X hX hA => (awardTop_bad C A1 A2 k1 k2 R A c X hX hA ho).mono fun e w' h => PairR.bad h, fun A1 A2 k1 k2 A c X hX hA => ?_⟩
    · exact (award_bad C A1 A2 k1 k2 R A c X hX hA ho).mono fun e w' h => PairR.bad h
    · refine (ranks_bad C A1 A2 k1 k2 R A c X hX hA ho).mono fun e w' h => ?_
      obtain ⟨rfl, ha⟩ := h
      exact ⟨none, 0, [], rfl, by simp, ints_none w', ha, fun _ => rfl, fun h => absurd h ho⟩
end Go.Proofs
end

section
namespace Go.Proofs
open Go.RowKit
open Court (refL begF noS struckB heard1 setF hear hears)
attribute [local go_sem] Oper.semAt_some

theorem hears_take (S : List (Int × Int)) (f : Int → Nat) (O : List Int) (k : Nat) (h : k < O.length) : hears S noS f (O.take (k + 1)) = setF (hears S noS f (O.take k)) O[k] (heard1 S noS (hears S noS f (O.take k)) O[k]) := by
  unfold hears
  rw [List.take_succ_eq_append_getElem h, List.foldl_append]
  rfl

set_option maxRecDepth 100000 in
set_option maxHeartbeats 4000000 in
theorem heardTop_open (C : CaseL) (a1 a2 : Option Addr) (c1 c2 : Nat) (R O : List Int) (A A' : Option Addr) (c c' : Nat) (w : World) (hC : CRep w C a1 a2) (hA : Ints w A R) (he : openE C R ≠ 0) :
    Calls Try.prog 12 #[(.agg #[.int .i64 C.claims, .slice a1 C.strikes.length c1, .slice a2 C.surveys.length c2]), .slice A R.length c, .slice A' O.length c'] w (BadS (openE C R) w) := by
  have H0 := Lib.hid (Aft.alloc w (.cells #[.int .i64 C.claims, .slice a1 C.strikes.length c1, .slice a2 C.surveys.length c2] 33))
  have HB := Lib.hid (Blk.new w 33 #[.int .i64 C.claims, .slice a1 C.strikes.length c1, .slice a2 C.surveys.length c2])
  have H1 := Lib.hid (refutedR_any C a1 a2 c1 c2 R A c _ (hC.aft H0.out) (hA.aft H0.out))
  have t1 : (openE C R != 0) = true := by simpa using he
  obtain ⟨k0, k1, k2⟩ := box31 HB.out
  have hlt := HB.out.lt
  unfold BadS
  clear hC hA he
  generalize openE C R = E at *
  go_enter Try.func12, Try.ntmps12
  go_wp2_with (go_at_call 40; refine H1.out.mono ?_; rintro e w1 ⟨rfl, ha1⟩; have HA1 := Lib.hid ha1; clear ha1)
  go_ret2
  exact ⟨rfl, H0.out.trans HA1.out⟩

set_option maxRecDepth 100000 in
set_option maxHeartbeats 8000000 in
theorem heardTop_in (N : Nat) (S : List (Int × Int)) (T : List (List Int)) (a1 a2 : Option Addr) (c1 c2 : Nat) (R O : List Int) (A A' : Option Addr) (c c' : Nat) (w : World) (hC : CRep w ⟨N, S, T⟩ a1 a2) (hA : Ints w A R) (hO : Ints w A' O) (he : openE ⟨N, S, T⟩ R = 0) :
    Calls Try.prog 12 #[(.agg #[.int .i64 N, .slice a1 S.length c1, .slice a2 T.length c2]), .slice A R.length c, .slice A' O.length c'] w fun e w' => (heardE ⟨N, S, T⟩ R O ≠ 0 → BadS (heardE ⟨N, S, T⟩ R O) w e w') ∧ (heardE ⟨N, S, T⟩ R O = 0 → PairR (foundL (hears S noS (begF (refL R)) O) N) 0 w e w') := by
  have hlO := hO.len
  have hE : heardE ⟨N, S, T⟩ R O = if 400 < O.length then 3 else if O.all (fun n => Cl n N) then 0 else 2 := by unfold heardE; rw [if_pos he]
  obtain ⟨E, hEE⟩ : ∃ E, heardE ⟨N, S, T⟩ R O = E := ⟨_, rfl⟩
  rw [hEE]
  rw [hEE] at hE
  have HE := Lib.hid hE
  clear hE hEE
  unfold BadS PairR
  have H0 := Lib.hid (Aft.alloc w (.cells #[.int .i64 N, .slice a1 S.length c1, .slice a2 T.length c2] 33))
  have HB := Lib.hid (Blk.new w 33 #[.int .i64 N, .slice a1 S.length c1, .slice a2 T.length c2])
  have H1 : Hid (Calls Try.prog 40 #[(.agg #[.int .i64 N, .slice a1 S.length c1, .slice a2 T.length c2]), .slice A R.length c] (w.alloc (.cells #[.int .i64 N, .slice a1 S.length c1, .slice a2 T.length c2] 33)) fun e w' => e = .returned (.int .i64 0) ∧ Aft (w.alloc (.cells #[.int .i64 N, .slice a1 S.length c1, .slice a2 T.length c2] 33)) w') := Lib.hid (by rw [← he]; exact refutedR_any ⟨N, S, T⟩ a1 a2 c1 c2 R A c _ (hC.aft H0.out) (hA.aft H0.out))
  have hok := caseE_ok (openE_ok he).1
  have hRR := (listedE_ok (openE_ok he).2).1
  have hn1 := hok.n1
  have hn2 := hok.n2
  have HIN := Lib.hid hok.ins
  dsimp only at hn1 hn2 HIN hRR
  have H99 : Hid (∀ W, Aft w W → Calls Try.prog 41 #[(.agg #[.int .i64 N, .slice a1 S.length c1, .slice a2 T.length c2]), .slice A R.length c] W (MadeI (foundL (begF (refL R)) N) W)) := Lib.hid fun W h => begin_any N a1 a2 S.length T.length c1 c2 A R c W (by omega) (hA.aft h) hRR
  have HC := Lib.hid (hC.aft H0.out)
  have HO := Lib.hid (hO.aft H0.out)
  have e1 : IntKind.i64.wrap ((N : Int) - 1) = (N : Int) - 1 := by rw [IntWalk.i64_in _ (by omega)]
  have hfl := foundL_len (begF (refL R)) N
  obtain ⟨bC, hbC⟩ : ∃ bC, w.heap.size = bC := ⟨_, rfl⟩
  rw [hbC] at HB
  have HBC := Lib.hid hbC
  clear hbC hC hA hO he hok hRR
  go_enter Try.func12, Try.ntmps12
  go_upto_region 1 with fail
  rw [HBC.out]
  generalize w.alloc (.cells #[.int .i64 N, .slice a1 S.length c1, .slice a2 T.length c2] 33) = W0 at *
  obtain ⟨k0, k1, k2⟩ := box31 HB.out
  have k3 := HB.out.lt
  by_cases h4 : 400 < O.length
  · have t4 : decide ((400 : Int) < (O.length : Int)) = true := decide_eq_true (by omega)
    have HE3 : Hid (E = 3) := Lib.hid (by rw [HE.out, if_pos h4])
    clear h4
    go_wp2_with (go_at_call 40; refine H1.out.mono ?_; rintro e w1 ⟨rfl, ha1⟩; have HA1 := Lib.hid ha1; clear ha1)
    go_ret2
    exact ⟨fun _ => ⟨by rw [HE3.out]; rfl, H0.out.trans HA1.out⟩, fun h => by rw [HE3.out] at h; cases h⟩
  · have t4 : decide ((400 : Int) < (O.length : Int)) = false := decide_eq_false (by omega)
    have HE2 : Hid (E = if O.all (fun n => Cl n N) then 0 else 2) := Lib.hid (by rw [HE.out, if_neg h4])
    clear HE
    go_upto_block 0 with (go_at_call 40; refine H1.out.mono ?_; rintro e W1 ⟨rfl, ha1⟩; have HA1 := Lib.hid ha1; clear ha1)
    clear H1 k0 k1 k2 k3
    refine wp_block ?_
    go_loopw [9] (fun i wr => ∃ k : Nat, i = .int .i64 k ∧ k ≤ O.length ∧ Aft W0 wr ∧ Hid (∀ j, (h : j < O.length) → j < k → Cl O[j] N = true)) (fun i _ => O.length - (intOf i).toNat)
    case atStart => exact ⟨0, rfl, by omega, HA1.out, Lib.hid fun j _ h => by omega⟩
    case round =>
      obtain ⟨k, rfl, hk, hy, HCL⟩ := hrel
      have HY := Lib.hid hy
      clear hy
      by_cases hkl : k < O.length
      · have t1 : decide (k < O.length) = true := by simpa using hkl
        have ik : (0 : Int) ≤ (k : Int) ∧ (k : Int) < (O.length : Int) := by omega
        obtain ⟨b, o, rfl, hb, hc⟩ := (HO.out.aft HY.out).at hkl
        have HNA : Hid (Cl O[k] N = false → O.all (fun n => Cl n N) = false) := Lib.hid fun h => all_not hkl h
        obtain ⟨y, hyk⟩ : ∃ y, O[k] = y := ⟨_, rfl⟩
        have HYK := Lib.hid hyk
        have x0 := hc k hkl
        rw [hyk] at x0 HNA
        have HX : Hid (∀ W, Aft wr W → W.cell? ⟨b, o + k, none⟩ = some (.int .i64 y)) := Lib.hid fun W h => cellA x0 hb h
        have HN : Hid (∀ W, Aft wr W → W.cell? ⟨bC, 0, none⟩ = some (.int .i64 N)) := Lib.hid fun W h => (box31 (HB.out.aft (HY.out.trans h))).1
        clear hc hyk x0
        go_upto_region 9 with fail
        obtain ⟨bb, hbb⟩ : ∃ bb, (!fromB y 0 ((N : Int) - 1)) = bb := ⟨_, rfl⟩
        have H57 : Hid (∀ W, Calls Try.prog 34 #[.int .i64 y, .int .i64 0, .int .i64 ((N : Int) - 1)] W fun e w' => e = .returned (.bool bb) ∧ W = w') := Lib.hid fun W => by rw [← hbb]; exact beside_any y 0 ((N : Int) - 1) W
        have HBB : Hid (Cl y N = !bb) := Lib.hid (by rw [← hbb, Bool.not_not]; rfl)
        clear hbb
        refine wp_region_valsG (by kernel_rfl) 58 rfl (by kernel_rfl) (by kernel_rfl) [.slice (some ⟨b, o, none⟩) O.length c', .int .i64 k, .pointer (some ⟨b, o + k, none⟩), .int .i64 y, .pointer (some ⟨bC, 0, none⟩), .int .i64 N, .int .i64 ((N : Int) - 1), .bool bb] rfl (fun W => Aft wr W) (Aft.drew _) ?st1 ?fi1
        case st1 =>
          intro i o v ho hv
          match i, ho, hv with
          | 0, ho, hv =>
            cases ho; cases hv
            refine .inl ⟨rfl, fun a W hk hw K hK => ?_⟩
            have e2 := hk.same 2 (by decide)
            exact op_val (by simp [go_sem, ev' e2]) (hK _ hw)
          | 1, ho, hv =>
            cases ho; cases hv
            refine .inl ⟨rfl, fun a W hk hw K hK => ?_⟩
            have e9 := hk.same 9 (by decide)
            exact op_val (by simp [go_sem, ev' e9]) (hK _ hw)
          | 2, ho, hv =>
            cases ho; cases hv
            refine .inl ⟨rfl, fun a W hk hw K hK => ?_⟩
            have e27 := hk.at_ 0 _ 27 _ rfl (by decide) _ rfl rfl rfl
            have e28 := hk.at_ 1 _ 28 _ rfl (by decide) _ rfl rfl rfl
            exact op_val (by simp [go_sem, ev' e27, ev' e28, ik]) (hK _ hw)
          | 3, ho, hv =>
            cases ho; cases hv
            refine .inl ⟨rfl, fun a W hk hw K hK => ?_⟩
            have e29 := hk.at_ 2 _ 29 _ rfl (by decide) _ rfl rfl rfl
            exact op_val (by simp [go_sem, ev' e29, HX.out W hw]) (hK _ hw)
          | 4, ho, hv =>
            cases ho; cases hv
            refine .inl ⟨rfl, fun a W hk hw K hK => ?_⟩
            have e3 := hk.same 3 (by decide)
            exact op_val (by simp [go_sem, ev' e3]) (hK _ hw)
          | 5, ho, hv =>
            cases ho; cases hv
            refine .inl ⟨rfl, fun a W hk hw K hK => ?_⟩
            have e31 := hk.at_ 4 _ 31 _ rfl (by decide) _ rfl rfl rfl
            exact op_val (by simp [go_sem, ev' e31, HN.out W hw]) (hK _ hw)
          | 6, ho, hv =>
            cases ho; cases hv
            refine .inl ⟨rfl, fun a W hk hw K hK => ?_⟩
            have e32 := hk.at_ 5 _ 32 _ rfl (by decide) _ rfl rfl rfl
            exact op_val (by simp [go_sem, ev' e32, e1]) (hK _ hw)
          | 7, ho, hv =>
            cases ho; cases hv
            refine .inl ⟨rfl, fun a W hk hw K hK => ?_⟩
            have e30 := hk.at_ 3 _ 30 _ rfl (by decide) _ rfl rfl rfl
            have e33 := hk.at_ 6 _ 33 _ rfl (by decide) _ rfl rfl rfl
            refine op_callN rfl rfl rfl _ rfl (vs := #[.int .i64 y, .int .i64 0, .int .i64 ((N : Int) - 1)]) (by simp [e30, e33, show ∀ v, a.eval (.const v) = v from fun _ => rfl]) (H57.out W) fun e w' h => ?_
            obtain ⟨rfl, rfl⟩ := h
            exact ⟨_, rfl, hK _ hw⟩
          | _ + 8, _, hv => cases hv
        intro W hw
        simp only [List.drop_succ_cons, List.drop_zero, List.zip_cons_cons, List.zip_nil_right, putAll]
        simp only [Act.put, List.setIfInBounds_toArray, List.set]
        cases bb
        · have HCL2 : Hid (∀ j, (h : j < O.length) → j < k + 1 → Cl O[j] N = true) := Lib.hid fun j h h' => by
            by_cases e : j = k
            · subst e
              rw [HYK.out, HBB.out]
              rfl
            · exact HCL.out j h (by omega)
          go_wp2_with fail
          exact ⟨⟨k + 1, by go_num, by omega, HY.out.trans hw, HCL2⟩, by simp [intOf]; omega⟩
        · have HE3 : Hid (E = 2) := Lib.hid (by rw [HE2.out, HNA.out (by rw [HBB.out]; rfl), if_neg (by decide)])
          go_wp2_with fail
          go_ret2
          exact ⟨fun _ => ⟨by rw [HE3.out]; rfl, H0.out.trans (HY.out.trans hw)⟩, fun h => by rw [HE3.out] at h; cases h⟩
      · have t1 : decide (k < O.length) = false := by simpa using hkl
        have HAL : Hid (∀ j, (h : j < O.length) → 0 ≤ O[j] ∧ O[j] < N) := Lib.hid fun j h => by
          have := HCL.out j h (by omega)
          exact Cl_iff.1 this
        have HE3 : Hid (E = 0) := Lib.hid (by rw [HE2.out, all_upto fun j h h' => HCL.out j h (by omega)]; rfl)
        obtain ⟨W2, rfl⟩ : ∃ W2, W2 = wr := ⟨_, rfl⟩
        obtain ⟨k0, k1, k2⟩ := box31 (HB.out.aft HY.out)
        have k3 := (HB.out.aft HY.out).lt
        clear HCL hkl e1
        go_upto_block 2 with (go_at_call 41; refine (H99.out _ (H0.out.trans HY.out)).mono ?_; rintro e W3 ⟨g, rfl, hg, hb, ha⟩; have HG0 := Lib.hid hb; have HY3 := Lib.hid (HY.out.trans ha); have HGE := Lib.hid (Nat.le_trans HY.out.size hg); rw [hfl]; clear hg hb ha)
        clear k0 k1 k2 k3 H99
        refine wp_block ?_
        go_loopw [11] (fun i wr => ∃ k : Nat, i = .int .i64 k ∧ k ≤ O.length ∧ Aft W0 wr ∧ Blk wr g 3 (ivs (foundL (hears S noS (begF (refL R)) (O.take k)) N))) (fun i _ => O.length - (intOf i).toNat)
        case atStart => exact ⟨0, rfl, by omega, HY3.out, HG0.out⟩
        case round =>
          obtain ⟨k, rfl, hk, hy, hbk⟩ := hrel
          have HY := Lib.hid hy
          have HK := Lib.hid hbk
          clear hy hbk
          by_cases hkl : k < O.length
          · have t2 : decide (k < O.length) = true := by simpa using hkl
            have ik : (0 : Int) ≤ (k : Int) ∧ (k : Int) < (O.length : Int) := by omega
            obtain ⟨b, o, rfl, hb, hc⟩ := (HO.out.aft HY.out).at hkl
            have x0 := hc k hkl
            have hin := HAL.out k hkl
            have HSU := Lib.hid (hears_take S (begF (refL R)) O k hkl)
            obtain ⟨x, hx⟩ := Int.eq_ofNat_of_zero_le hin.1
            rw [hx] at x0 hin HSU
            have hxN : x < N := by omega
            have ix : (0 : Int) ≤ (x : Int) ∧ (x : Int) < (N : Int) := by omega
            obtain ⟨f, hf⟩ : ∃ f, hears S noS (begF (refL R)) (O.take k) = f := ⟨_, rfl⟩
            rw [hf] at HSU HK
            obtain ⟨hv, hhv⟩ : ∃ hv, heard1 S noS f x = hv := ⟨_, rfl⟩
            rw [hhv] at HSU
            have H100 : Hid (∀ W, Aft wr W → Calls Try.prog 42 #[(.agg #[.int .i64 N, .slice a1 S.length c1, .slice a2 T.length c2]), .slice (some ⟨g, 0, none⟩) N N, .int .i64 x] W fun e w' => e = .returned (.int .i64 hv) ∧ Aft W w') := Lib.hid fun W h => by
              rw [← hhv]
              exact heardR_any ⟨N, S, T⟩ a1 a2 c1 c2 N f (some ⟨g, 0, none⟩) N x W (HC.out.aft (HY.out.trans h)) (by omega) (fun s hs => (HIN.out s hs).1) (ivs_ints (HK.out.aft h) (by rw [foundL_len]; omega)) hxN
            have HX : Hid (∀ W, Aft wr W → W.cell? ⟨b, o + k, none⟩ = some (.int .i64 x)) := Lib.hid fun W h => cellA x0 hb h
            have HC0 : Hid (∀ W, Aft wr W → W.cell? ⟨bC, 0, none⟩ = some (.int .i64 N) ∧ W.cell? ⟨bC, 1, none⟩ = some (.slice a1 S.length c1) ∧ W.cell? ⟨bC, 2, none⟩ = some (.slice a2 T.length c2)) := Lib.hid fun W h => box31 (HB.out.aft (HY.out.trans h))
            clear hc x0 hin hx hf hhv
            go_upto_region 15 with fail
            refine wp_region_valsT (by kernel_rfl) 12 58 rfl (by kernel_rfl) (by kernel_rfl) (by kernel_rfl) [.slice (some ⟨g, 0, none⟩) N N, .slice (some ⟨b, o, none⟩) O.length c', .int .i64 k, .pointer (some ⟨b, o + k, none⟩), .int .i64 x, (.agg #[.int .i64 N, .slice a1 S.length c1, .slice a2 T.length c2]), .slice (some ⟨g, 0, none⟩) N N, .slice (some ⟨b, o, none⟩) O.length c', .int .i64 k, .pointer (some ⟨b, o + k, none⟩), .int .i64 x, .int .i64 hv] rfl (fun done W => Aft wr W) (Aft.drew _) ?st2 ?fi2
            case st2 =>
              intro i o v ho hv
              match i, ho, hv with
              | 0, ho, hv =>
                cases ho; cases hv
                refine .inl ⟨rfl, fun done a W hd hp hk hw K hK => ?_⟩
                have e10 := hk.same 10 (by decide)
                exact op_val (by simp [go_sem, ev' e10]) (hK _ hw)
              | 1, ho, hv =>
                cases ho; cases hv
                refine .inl ⟨rfl, fun done a W hd hp hk hw K hK => ?_⟩
                have e2 := hk.same 2 (by decide)
                exact op_val (by simp [go_sem, ev' e2]) (hK _ hw)
              | 2, ho, hv =>
                cases ho; cases hv
                refine .inl ⟨rfl, fun done a W hd hp hk hw K hK => ?_⟩
                have e11 := hk.same 11 (by decide)
                exact op_val (by simp [go_sem, ev' e11]) (hK _ hw)
              | 3, ho, hv =>
                cases ho; cases hv
                refine .inl ⟨rfl, fun done a W hd hp hk hw K hK => ?_⟩
                have e45 := hk.at_ 1 _ 45 _ rfl (by decide) _ rfl rfl rfl
                have e46 := hk.at_ 2 _ 46 _ rfl (by decide) _ rfl rfl rfl
                exact op_val (by simp [go_sem, ev' e45, ev' e46, ik]) (hK _ hw)
              | 4, ho, hv =>
                cases ho; cases hv
                refine .inl ⟨rfl, fun done a W hd hp hk hw K hK => ?_⟩
                have e47 := hk.at_ 3 _ 47 _ rfl (by decide) _ rfl rfl rfl
                exact op_val (by simp [go_sem, ev' e47, HX.out W hw]) (hK _ hw)
              | 5, ho, hv =>
                cases ho; cases hv
                refine .inl ⟨rfl, fun done a W hd hp hk hw K hK => ?_⟩
                have e3 := hk.same 3 (by decide)
                obtain ⟨j0, j1, j2⟩ := HC0.out W hw
                exact op_val (v := (.agg #[.int .i64 N, .slice a1 S.length c1, .slice a2 T.length c2])) (by simp [go_sem, ev' e3, j0, j1, j2]) (hK _ hw)
              | 6, ho, hv =>
                cases ho; cases hv
                refine .inl ⟨rfl, fun done a W hd hp hk hw K hK => ?_⟩
                have e10 := hk.same 10 (by decide)
                exact op_val (by simp [go_sem, ev' e10]) (hK _ hw)
              | 7, ho, hv =>
                cases ho; cases hv
                refine .inl ⟨rfl, fun done a W hd hp hk hw K hK => ?_⟩
                have e2 := hk.same 2 (by decide)
                exact op_val (by simp [go_sem, ev' e2]) (hK _ hw)
              | 8, ho, hv =>
                cases ho; cases hv
                refine .inl ⟨rfl, fun done a W hd hp hk hw K hK => ?_⟩
                have e11 := hk.same 11 (by decide)
                exact op_val (by simp [go_sem, ev' e11]) (hK _ hw)
              | 9, ho, hv =>
                cases ho; cases hv
                refine .inl ⟨rfl, fun done a W hd hp hk hw K hK => ?_⟩
                have e51 := hk.at_ 7 _ 51 _ rfl (by decide) _ rfl rfl rfl
                have e52 := hk.at_ 8 _ 52 _ rfl (by decide) _ rfl rfl rfl
                exact op_val (by simp [go_sem, ev' e51, ev' e52, ik]) (hK _ hw)
              | 10, ho, hv =>
                cases ho; cases hv
                refine .inl ⟨rfl, fun done a W hd hp hk hw K hK => ?_⟩
                have e53 := hk.at_ 9 _ 53 _ rfl (by decide) _ rfl rfl rfl
                exact op_val (by simp [go_sem, ev' e53, HX.out W hw]) (hK _ hw)
              | 11, ho, hv =>
                cases ho; cases hv
                refine .inl ⟨rfl, fun done a W hd hp hk hw K hK => ?_⟩
                have e49 := hk.at_ 5 _ 49 _ rfl (by decide) _ rfl rfl rfl
                have e50 := hk.at_ 6 _ 50 _ rfl (by decide) _ rfl rfl rfl
                have e54 := hk.at_ 10 _ 54 _ rfl (by decide) _ rfl rfl rfl
                refine op_callN rfl rfl rfl _ rfl (vs := #[(.agg #[.int .i64 N, .slice a1 S.length c1, .slice a2 T.length c2]), .slice (some ⟨g, 0, none⟩) N N, .int .i64 x]) (by simp [e49, e50, e54]) (H100.out W hw) fun e w' h => ?_
                obtain ⟨rfl, ha⟩ := h
                exact ⟨_, rfl, hK _ (hw.trans ha)⟩
              | _ + 12, _, hv => cases hv
            intro done W hd hw
            simp only [List.drop_succ_cons, List.drop_zero, List.zip_cons_cons, List.zip_nil_right, putAll]
            simp only [Act.put, List.setIfInBounds_toArray, List.set]
            have HW := Lib.hid hw
            have y0 := ivs_cell (HK.out.aft hw) (i := x) (by rw [foundL_len]; exact hxN)
            have y1 := (HK.out.aft hw).frozen x
            have y2 := (HK.out.aft hw).lt
            generalize hvv : (foundL f N)[x]'(by rw [foundL_len]; exact hxN) = vv at y0
            clear hvv hw
            go_wp2_with fail
            have hs : W.grownBy (W.setCell ⟨g, x, none⟩ (.int .i64 hv)) (some g) := only_setCell (only_refl W (some g)) (p := ⟨g, x, none⟩) (.inl rfl) _
            refine ⟨⟨k + 1, by go_num, by omega, (HY.out.trans HW.out).grown hs (fun j e => by cases e; exact HGE.out), ?_⟩, by simp [intOf]; omega⟩
            have := (HK.out.aft HW.out).store x (.int .i64 hv)
            rw [ivs_set, foundL_set _ hxN, ← HSU.out] at this
            exact this
          · have t2 : decide (k < O.length) = false := by simpa using hkl
            have HK2 : Hid (Blk wr g 3 (ivs (foundL (hears S noS (begF (refL R)) O) N))) := Lib.hid (by
              have := HK.out
              rwa [List.take_of_length_le (by omega)] at this)
            clear HK
            have hfl2 := foundL_len (hears S noS (begF (refL R)) O) N
            go_wp2_with fail
            go_ret2
            exact ⟨fun h => absurd HE3.out h, fun _ => ⟨some ⟨g, 0, none⟩, N, by rw [hfl2]; rfl, ivs_ints HK2.out (by omega), H0.out.trans HY.out⟩⟩

theorem heard_pair (C : CaseL) (R O : List Int) : ∃ (L : List Int) (E : Int),
    (∀ A1 A2 k1 k2 A c A' c' X, CRep X C A1 A2 → Ints X A R → Ints X A' O → Calls Try.prog 11 #[.agg #[.int .i64 C.claims, .slice A1 C.strikes.length k1, .slice A2 C.surveys.length k2], .slice A R.length c, .slice A' O.length c'] X (PairR L E X)) ∧
    (∀ A1 A2 k1 k2 A c A' c' X, CRep X C A1 A2 → Ints X A R → Ints X A' O → Calls Try.prog 12 #[.agg #[.int .i64 C.claims, .slice A1 C.strikes.length k1, .slice A2 C.surveys.length k2], .slice A R.length c, .slice A' O.length c'] X (PairR L E X)) := by
  by_cases ho : openE C R = 0
  · obtain ⟨N, S, T, rfl, hN1, hN14⟩ := case_nat (openE_ok ho).1
    by_cases he : heardE ⟨N, S, T⟩ R O = 0
    · refine ⟨foundL (hears S noS (begF (refL R)) O) N, 0, fun A1 A2 k1 k2 A c A' c' X hX hA hO => ?_, fun A1 A2 k1 k2 A c A' c' X hX hA hO => ?_⟩
      · exact (heard_good ⟨N, S, T⟩ A1 A2 k1 k2 R O A A' c c' X hX hA hO he N rfl).mono fun e w' h => PairR.goodL (by rw [foundL_len]; omega) h
      · exact (heardTop_in N S T A1 A2 k1 k2 R O A A' c c' X hX hA hO ho).mono fun e w' h => h.2 he
    · refine ⟨[], heardE ⟨N, S, T⟩ R O, fun A1 A2 k1 k2 A c A' c' X hX hA hO => ?_, fun A1 A2 k1 k2 A c A' c' X hX hA hO => ?_⟩
      · exact (heard_bad ⟨N, S, T⟩ A1 A2 k1 k2 R O A A' c c' X hX hA hO he).mono fun e w' h => PairR.bad h
      · exact (heardTop_in N S T A1 A2 k1 k2 R O A A' c c' X hX hA hO ho).mono fun e w' h => PairR.bad (h.1 he)
  · have hE : heardE C R O = openE C R := by unfold heardE; rw [if_neg ho]
    refine ⟨[], openE C R, fun A1 A2 k1 k2 A c A' c' X hX hA hO => ?_, fun A1 A2 k1 k2 A c A' c' X hX hA hO => (heardTop_open C A1 A2 k1 k2 R O A A' c c' X hX hA ho).mono fun e w' h => PairR.bad h⟩
    have := heard_bad C A1 A2 k1 k2 R O A A' c c' X hX hA hO (by rw [hE]; exact ho)
    unfold BadH at this
    rw [hE] at this
    exact this.mono fun e w' h => PairR.bad h
end Go.Proofs
end

section
namespace Go.Proofs
open Go.RowKit Go.WideShapes Go.ChangeShapes

section rows
variable {α : Type}
def RowsQ (w : World) (A : Option Addr) (sz : Nat) (R : World → α → List Value → Prop) (l : List α) : Prop :=
  l.length ≤ 9223372036854775807 ∧ (l = [] ∨ ∃ b o, A = some ⟨b, o, none⟩ ∧ b < w.heap.size ∧
    ∀ i, (h : i < l.length) → ∃ vs : List Value, vs.length = sz ∧ R w l[i] vs ∧ ∀ j, (hj : j < vs.length) → w.cell? ⟨b, o + i * sz + j, none⟩ = some vs[j])
theorem RowsQ.lat {w : World} {A : Option Addr} {sz : Nat} {R : World → α → List Value → Prop} {l : List α} (hR : MonoR R) (h : RowsQ w A sz R l) (u : Later w) : RowsQ (w.lat u) A sz R l := by
  refine ⟨h.1, ?_⟩
  rcases h.2 with h | ⟨b, o, rfl, hb, hc⟩
  · exact .inl h
  · refine .inr ⟨b, o, rfl, Nat.lt_of_lt_of_le hb (w.lat_size u), fun i hi => ?_⟩
    obtain ⟨vs, h1, h2, h3⟩ := hc i hi
    exact ⟨vs, h1, hR _ _ _ _ h2, fun j hj => by rw [World.lat_cell _ _ _ _ hb]; exact h3 j hj⟩
theorem RowsQ.aft {w w' : World} {A : Option Addr} {sz : Nat} {R : World → α → List Value → Prop} {l : List α} (hR : MonoR R) (h : RowsQ w A sz R l) (hl : Aft w w') : RowsQ w' A sz R l := by
  obtain ⟨u, rfl⟩ := hl; exact h.lat hR u
theorem RowsQ.at {w : World} {A : Option Addr} {sz : Nat} {R : World → α → List Value → Prop} {l : List α} (h : RowsQ w A sz R l) {k : Nat} (hk : k < l.length) :
    ∃ b o, A = some ⟨b, o, none⟩ ∧ b < w.heap.size ∧ ∀ i, (h : i < l.length) → ∃ vs : List Value, vs.length = sz ∧ R w l[i] vs ∧ ∀ j, (hj : j < vs.length) → w.cell? ⟨b, o + i * sz + j, none⟩ = some vs[j] := by
  rcases h.2 with rfl | h
  · simp at hk
  · exact h
theorem RowsQ.small {w : World} {A : Option Addr} {sz : Nat} {R R' : World → α → List Value → Prop} {l : List α} (h : RowsQ w A sz R l) (hs : l.length * sz ≤ 17592186043904) (hR : ∀ x ∈ l, ∀ vs, R w x vs → R' w x vs) : RowsP w A sz R' l := by
  refine ⟨hs, ?_⟩
  rcases h.2 with h | ⟨b, o, rfl, hb, hc⟩
  · exact .inl h
  · refine .inr ⟨b, o, rfl, hb, fun i hi => ?_⟩
    obtain ⟨vs, h1, h2, h3⟩ := hc i hi
    exact ⟨vs, h1, hR _ (List.getElem_mem hi) _ h2, h3⟩
end rows
def IntsQ (w : World) (A : Option Addr) (l : List Int) : Prop := RowsQ w A 1 IntR l
theorem IntsQ.aft {w w' : World} {A : Option Addr} {l : List Int} (h : IntsQ w A l) (ha : Aft w w') : IntsQ w' A l := RowsQ.aft IntR.mono h ha
theorem IntsQ.lat {w : World} {A : Option Addr} {l : List Int} (h : IntsQ w A l) (u : Later w) : IntsQ (w.lat u) A l := RowsQ.lat IntR.mono h u
theorem IntsQ.small {w : World} {A : Option Addr} {l : List Int} (h : IntsQ w A l) (hs : l.length ≤ 1000000) : Ints w A l := RowsQ.small h (by omega) fun _ _ _ h => h
def ListQ : World → List Int → List Value → Prop := fun w l vs => ∃ A c, vs = [.slice A l.length c] ∧ IntsQ w A l
theorem ListQ.mono : MonoR ListQ := fun _ u _ _ ⟨A, c, h1, h2⟩ => ⟨A, c, h1, h2.lat u⟩
def ListsQ (w : World) (A : Option Addr) (l : List (List Int)) : Prop := RowsQ w A 1 ListQ l
theorem ListsQ.aft {w w' : World} {A : Option Addr} {l : List (List Int)} (h : ListsQ w A l) (ha : Aft w w') : ListsQ w' A l := RowsQ.aft ListQ.mono h ha
theorem ListsQ.at {w : World} {A : Option Addr} {l : List (List Int)} (h : ListsQ w A l) {k : Nat} (hk : k < l.length) :
    ∃ b o, A = some ⟨b, o, none⟩ ∧ b < w.heap.size ∧ ∀ i, (h : i < l.length) → ∃ Ai ci, w.cell? ⟨b, o + i, none⟩ = some (.slice Ai l[i].length ci) ∧ IntsQ w Ai l[i] := by
  obtain ⟨b, o, rfl, hb, hc⟩ := RowsQ.at h hk
  refine ⟨b, o, rfl, hb, fun i hi => ?_⟩
  obtain ⟨vs, h1, ⟨Ai, ci, rfl, h2⟩, h3⟩ := hc i hi
  exact ⟨Ai, ci, by simpa using h3 0 (by simp), h2⟩
theorem ListsQ.small {w : World} {A : Option Addr} {l : List (List Int)} (h : ListsQ w A l) (hs : l.length ≤ 1000000) (hl : ∀ x ∈ l, x.length ≤ 1000000) : Lists w A l :=
  RowsQ.small h (by omega) fun x hx vs ⟨A', c', h1, h2⟩ => ⟨A', c', h1, h2.small (hl x hx)⟩
structure CRepQ (w : World) (C : CaseL) (a1 a2 : Option Addr) : Prop where
  strikes : RowsQ w a1 2 StrR C.strikes
  surveys : ListsQ w a2 C.surveys
theorem CRepQ.aft {w w' : World} {C : CaseL} {a1 a2 : Option Addr} (h : CRepQ w C a1 a2) (ha : Aft w w') : CRepQ w' C a1 a2 := ⟨h.strikes.aft StrR.mono ha, h.surveys.aft ha⟩
structure Small (C : CaseL) (ls : List (List Int)) : Prop where
  lists : ∀ l ∈ ls, l.length ≤ 30
  surveys : ∀ l ∈ C.surveys, l.length ≤ 10
  few : C.strikes.length ≤ 70
  fews : C.surveys.length ≤ 9
theorem CRepQ.small {w : World} {C : CaseL} {a1 a2 : Option Addr} {ls : List (List Int)} (h : CRepQ w C a1 a2) (hs : Small C ls) : CRep w C a1 a2 :=
  ⟨RowsQ.small h.strikes (by have := hs.few; omega) fun _ _ _ h => h, h.surveys.small (by have := hs.fews; omega) fun x hx => by have := hs.surveys x hx; omega⟩

theorem listTwo {α : Type} {l : List α} (h : l.length = 2) : ∃ a b, l = [a, b] := by
  match l, h with
  | [a, b], _ => exact ⟨a, b, rfl⟩
theorem listThree {α : Type} {l : List α} (h : l.length = 3) : ∃ a b c, l = [a, b, c] := by
  match l, h with
  | [a, b, c], _ => exact ⟨a, b, c, rfl⟩
theorem listOne {α : Type} {l : List α} (h : l.length = 1) : ∃ a, l = [a] := by
  match l, h with
  | [a], _ => exact ⟨a, rfl⟩
section
variable {H : Type} {enc : TypeId × Value → H} {W : World} {base : Nat} {spare : Nat → Bool} {held : Bool}

theorem rowsQ_of {α : Type} [Inhabited α] {t e : TypeId} {sz fuel : Nat} {R : World → α → List Value → Prop} {v : Value} {y : DataW H × List MemPlace} (ht : Try.prog.underlying t = some (.slice e)) (hsz : Try.prog.cellsOf e = sz) (hp : 0 < sz)
    (hR : ∀ n cs y, cs.length = sz → DataW.trod enc Try.prog W base spare held n e cs = some y → ∃ x : α, R W x cs) (h : DataW.trod enc Try.prog W base spare held fuel t [v] = some y) :
    ∃ A c, ∃ l : List α, v = .slice A l.length c ∧ RowsQ W A sz R l := by
  rcases Go.Deep.open_slice ht h with ⟨hcs, _⟩ | ⟨a, len, cap, m, n, D, Pl, hcs, _, hl, hcm, hm, _, hx⟩
  · cases hcs
    exact ⟨none, 0, [], rfl, by simp, .inl rfl⟩
  · cases hcs
    have hlm : len ≤ m := by rw [hm]; split <;> omega
    obtain ⟨f, hf⟩ := Go.Deep.choose_lt (n := len) (p := fun i x => ∃ cs', W.cells? base (a.add (i * sz)) sz = some cs' ∧ R W x cs') (fun i hi => by
      obtain ⟨cs', h1, h2⟩ := hx i (by omega)
      rw [hsz] at h1
      obtain ⟨_, hlen, _⟩ := World.cells?_some h1
      obtain ⟨x, hx⟩ := hR _ _ _ hlen h2
      exact ⟨x, cs', h1, hx⟩)
    refine ⟨some a, cap, (List.range len).map f, by simp, ?_, ?_⟩
    · have : maxLen = 9223372036854775807 := rfl
      rw [List.length_map, List.length_range]
      omega
    by_cases h0 : len = 0
    · exact .inl (by rw [h0]; rfl)
    obtain ⟨b, off, spot⟩ := a
    obtain ⟨cs0, h1, -⟩ := hf 0 (by omega)
    obtain ⟨_, hlen, hcell⟩ := World.cells?_some h1
    have h00 := hcell 0 hp
    rw [List.getElem?_eq_getElem (by omega)] at h00
    have hspot : spot = none := by simpa [Addr.add] using World.cell?_spot h00
    subst hspot
    have hb : b < W.heap.size := by
      have := World.block_lt_of_cell? _ _ h00
      simpa [add_plain] using this
    refine .inr ⟨b, off, rfl, hb, fun i hi => ?_⟩
    have hi' : i < len := by simpa using hi
    obtain ⟨cs', h1, h2⟩ := hf i hi'
    obtain ⟨_, hlen, hcell⟩ := World.cells?_some h1
    refine ⟨cs', hlen, by simpa using h2, fun j hj => ?_⟩
    have := hcell j (by omega)
    rw [add_plain, add_plain, List.getElem?_eq_getElem hj] at this
    exact this
theorem intR_of {n : Nat} {cs : List Value} {y : DataW H × List MemPlace} (h : DataW.trod enc Try.prog W base spare held n 3 cs = some y) : ∃ x : Int, IntR W x cs := by
  obtain ⟨x, rfl, _, _⟩ := DataW.trod_int Try.underlying3 h
  exact ⟨x, rfl⟩
theorem intsQ_of {fuel : Nat} {v : Value} {y : DataW H × List MemPlace} (h : DataW.trod enc Try.prog W base spare held fuel 26 [v] = some y) : ∃ A c, ∃ l : List Int, v = .slice A l.length c ∧ IntsQ W A l :=
  rowsQ_of Try.underlying26 (by kernel_rfl) (by decide) (fun _ _ _ _ h => intR_of h) h
theorem listsQ_of {fuel : Nat} {v : Value} {y : DataW H × List MemPlace} (h : DataW.trod enc Try.prog W base spare held fuel 23 [v] = some y) : ∃ A c, ∃ l : List (List Int), v = .slice A l.length c ∧ ListsQ W A l :=
  rowsQ_of Try.underlying23 (by kernel_rfl) (by decide) (fun _ cs _ hl h => by
    obtain ⟨v, rfl⟩ := listOne hl
    obtain ⟨A, c, l, rfl, hi⟩ := intsQ_of h
    exact ⟨l, A, c, rfl, hi⟩) h
theorem cellsOf3 : Try.prog.cellsOf 3 = 1 := by kernel_rfl
theorem cellsOf22 : Try.prog.cellsOf 22 = 1 := by kernel_rfl
theorem cellsOf23 : Try.prog.cellsOf 23 = 1 := by kernel_rfl
theorem cellsOf25 : Try.prog.cellsOf 25 = 3 := by kernel_rfl
theorem strsQ_of {fuel : Nat} {v : Value} {y : DataW H × List MemPlace} (h : DataW.trod enc Try.prog W base spare held fuel 22 [v] = some y) : ∃ A c, ∃ l : List (Int × Int), v = .slice A l.length c ∧ RowsQ W A 2 StrR l :=
  rowsQ_of Try.underlying22 (by kernel_rfl) (by decide) (fun _ cs _ hl h => by
    obtain ⟨xs, n, _, _, _, hxl, hf⟩ := DataW.trod_struct Try.underlying56 h
    obtain ⟨y0, y1, rfl⟩ := listTwo hxl
    obtain ⟨v0, v1, rfl⟩ := listTwo hl
    have g0 : DataW.trod enc Try.prog W base spare held n 3 [v0] = some y0 := by simpa [Value.cells, cellsOf3] using hf 0 _ rfl
    have g1 : DataW.trod enc Try.prog W base spare held n 3 [v1] = some y1 := by simpa [Value.cells, cellsOf3] using hf 1 _ rfl
    obtain ⟨x0, e0, _, _⟩ := DataW.trod_int Try.underlying3 g0
    obtain ⟨x1, e1, _, _⟩ := DataW.trod_int Try.underlying3 g1
    cases e0; cases e1
    exact ⟨(x0, x1), rfl⟩) h
theorem array3 {α : Type} {cs : Array α} (h : cs.size = 3) : ∃ c0 c1 c2, cs = #[c0, c1, c2] := by
  obtain ⟨l⟩ := cs
  match l, h with
  | [c0, c1, c2], _ => exact ⟨c0, c1, c2, rfl⟩
set_option maxRecDepth 100000 in
theorem caseQ_of {r : Reach} {b0 : Nat} {v : Value} {d : DataW H} {p : List MemPlace} (hv : Value.okWide Try.prog W r b0 25 v) (h : DataW.Trod enc Try.prog W base spare held 25 v d p) :
    ∃ C : CaseL, ∃ (a1 a2 : Option Addr) (c1 c2 : Nat), v = (.agg #[.int .i64 C.claims, .slice a1 C.strikes.length c1, .slice a2 C.surveys.length c2]) ∧ CRepQ W C a1 a2 := by
  obtain ⟨cs, rfl, hsz⟩ := okWide_struct Try.underlying25 hv
  obtain ⟨v0, v1, v2, rfl⟩ := array3 (hsz.trans cellsOf25)
  obtain ⟨fuel, hf⟩ := h
  obtain ⟨xs, n, _, _, _, hxl, hf⟩ := DataW.trod_struct Try.underlying25 hf
  obtain ⟨y0, y1, y2, rfl⟩ := listThree hxl
  have g0 : DataW.trod enc Try.prog W base spare held n 3 [v0] = some y0 := by simpa [Value.cells, cellsOf3, cellsOf22, cellsOf23] using hf 0 _ rfl
  have g1 : DataW.trod enc Try.prog W base spare held n 22 [v1] = some y1 := by simpa [Value.cells, cellsOf3, cellsOf22, cellsOf23] using hf 1 _ rfl
  have g2 : DataW.trod enc Try.prog W base spare held n 23 [v2] = some y2 := by simpa [Value.cells, cellsOf3, cellsOf22, cellsOf23] using hf 2 _ rfl
  obtain ⟨x0, e0, _, _⟩ := DataW.trod_int Try.underlying3 g0
  obtain ⟨A1, d1, l1, rfl, i1⟩ := strsQ_of g1
  obtain ⟨A2, d2, l2, rfl, i2⟩ := listsQ_of g2
  cases e0
  exact ⟨⟨x0, l1, l2⟩, A1, A2, d1, d2, rfl, i1, i2⟩
set_option maxRecDepth 100000 in
theorem intsQ_arg {v : Value} {r : Reach} {b0 : Nat} {d : DataW H} {p : List MemPlace} (hv : Value.okWide Try.prog W r b0 26 v) (h : DataW.Trod enc Try.prog W base spare held 26 v d p) : ∃ A c, ∃ l : List Int, v = .slice A l.length c ∧ IntsQ W A l := by
  obtain ⟨a0, len0, cap0, rfl⟩ := okWide_slice Try.underlying26 hv
  obtain ⟨fuel, hf⟩ := h
  exact intsQ_of (by simpa [Value.cells] using hf)
end
end Go.Proofs
end

section
namespace Go.Proofs
open Go.RowKit
attribute [local go_sem] Oper.semAt_some
def GreatR (C : CaseL) (ls : List (List Int)) (w : World) (e : Ending) (w' : World) : Prop := ∃ b, e = .returned (.bool b) ∧ (b = false → Small C ls) ∧ Aft w w'

set_option maxRecDepth 100000 in
set_option maxHeartbeats 4000000 in
theorem great_any (C : CaseL) (a1 a2 : Option Addr) (c1 c2 : Nat) (most : Int) (ls : List (List Int)) (AL : Option Addr) (cL : Nat) (w : World) (hC : CRepQ w C a1 a2) (hL : ListsQ w AL ls) :
    Calls Try.prog 4 #[(.agg #[.int .i64 C.claims, .slice a1 C.strikes.length c1, .slice a2 C.surveys.length c2]), .int .i64 most, .slice AL ls.length cL] w (GreatR C ls w) := by
  have H0 := Lib.hid (Aft.alloc w (.cells #[.int .i64 C.claims, .slice a1 C.strikes.length c1, .slice a2 C.surveys.length c2] 25))
  have HB := Lib.hid (Blk.new w 25 #[.int .i64 C.claims, .slice a1 C.strikes.length c1, .slice a2 C.surveys.length c2])
  have HL := Lib.hid (hL.aft H0.out)
  have HC := Lib.hid (hC.aft H0.out)
  have hls := hL.1
  have hsv := hC.surveys.1
  have hst := hC.strikes.1
  clear hC hL
  obtain ⟨bC, hbC⟩ : ∃ bC, w.heap.size = bC := ⟨_, rfl⟩
  rw [hbC] at HB
  have HBC := Lib.hid hbC
  clear hbC
  unfold GreatR
  go_enter Try.func4, Try.ntmps4
  go_upto_block 0 with fail
  rw [HBC.out]
  generalize w.alloc (.cells #[.int .i64 C.claims, .slice a1 C.strikes.length c1, .slice a2 C.surveys.length c2] 25) = W0 at *
  refine wp_block ?_
  go_loopw [13] (fun i wr => ∃ k : Nat, i = .int .i64 k ∧ k ≤ ls.length ∧ Aft W0 wr ∧ Hid (∀ j, (h : j < ls.length) → j < k → ls[j].length ≤ 30)) (fun i _ => ls.length - (intOf i).toNat)
  case atStart => exact ⟨0, rfl, by omega, Aft.refl _, Lib.hid fun j _ h => by omega⟩
  case round =>
    obtain ⟨k, rfl, hk, hy, HS⟩ := hrel
    have HY := Lib.hid hy
    clear hy
    by_cases hkl : k < ls.length
    · have t1 : decide (k < ls.length) = true := by simpa using hkl
      have ik : (0 : Int) ≤ (k : Int) ∧ (k : Int) < (ls.length : Int) := by omega
      obtain ⟨b, o, hb0, hb, hc⟩ := (HL.out.aft HY.out).at hkl
      subst hb0
      obtain ⟨Ai, ci, x0, -⟩ := hc k hkl
      obtain ⟨l, hl0⟩ : ∃ l, ls[k] = l := ⟨_, rfl⟩
      have HLK := Lib.hid hl0
      rw [hl0] at x0
      clear hc hl0
      by_cases hl : 30 < l.length
      · have t2 : decide ((30 : Int) < (l.length : Int)) = true := by simp; omega
        go_wp2_with fail
        go_ret
        exact ⟨true, rfl, fun h => (by cases h), H0.out.trans HY.out⟩
      · have t2 : decide ((30 : Int) < (l.length : Int)) = false := by simp; omega
        have HS2 : Hid (∀ j, (h : j < ls.length) → j < k + 1 → ls[j].length ≤ 30) := Lib.hid fun j h h' => by
          by_cases e : j = k
          · subst e
            rw [HLK.out]
            omega
          · exact HS.out j h (by omega)
        go_wp2_with fail
        exact ⟨⟨k + 1, by go_num, by omega, HY.out, HS2⟩, by simp [intOf]; omega⟩
    · have t1 : decide (k < ls.length) = false := by simpa using hkl
      have HS1 : Hid (∀ l ∈ ls, l.length ≤ 30) := Lib.hid fun l hl => by
        obtain ⟨j, hj, rfl⟩ := List.mem_iff_getElem.1 hl
        exact HS.out j hj (by omega)
      obtain ⟨W1, rfl⟩ : ∃ W1, W1 = wr := ⟨_, rfl⟩
      obtain ⟨k0, k1, k2⟩ := box25 (HB.out.aft HY.out)
      have k3 := (HB.out.aft HY.out).lt
      replace HC := Lib.hid (HC.out.aft HY.out)
      replace HB := Lib.hid (HB.out.aft HY.out)
      replace H0 := Lib.hid (H0.out.trans HY.out)
      clear HS HY hkl
      go_upto_block 2 with fail
      clear k0 k1 k2 k3
      refine wp_block ?_
      go_loopw [24] (fun i wr => ∃ k : Nat, i = .int .i64 k ∧ k ≤ C.surveys.length ∧ Aft W1 wr ∧ Hid (∀ j, (h : j < C.surveys.length) → j < k → C.surveys[j].length ≤ 10)) (fun i _ => C.surveys.length - (intOf i).toNat)
      case atStart => exact ⟨0, rfl, by omega, Aft.refl _, Lib.hid fun j _ h => by omega⟩
      case round =>
        obtain ⟨k, rfl, hk, hy, HS⟩ := hrel
        have HY := Lib.hid hy
        clear hy
        by_cases hkl : k < C.surveys.length
        · have t3 : decide (k < C.surveys.length) = true := by simpa using hkl
          have ik : (0 : Int) ≤ (k : Int) ∧ (k : Int) < (C.surveys.length : Int) := by omega
          obtain ⟨b, o, hb0, hb, hc⟩ := (HC.out.surveys.aft HY.out).at hkl
          subst hb0
          obtain ⟨Ai, ci, x0, -⟩ := hc k hkl
          obtain ⟨l, hl0⟩ : ∃ l, C.surveys[k] = l := ⟨_, rfl⟩
          have HLK := Lib.hid hl0
          rw [hl0] at x0
          clear hc hl0
          by_cases hl : 10 < l.length
          · have t4 : decide ((10 : Int) < (l.length : Int)) = true := by simp; omega
            go_wp2_with fail
            go_ret
            exact ⟨true, rfl, fun h => (by cases h), H0.out.trans HY.out⟩
          · have t4 : decide ((10 : Int) < (l.length : Int)) = false := by simp; omega
            have HS2 : Hid (∀ j, (h : j < C.surveys.length) → j < k + 1 → C.surveys[j].length ≤ 10) := Lib.hid fun j h h' => by
              by_cases e : j = k
              · subst e
                rw [HLK.out]
                omega
              · exact HS.out j h (by omega)
            go_wp2_with fail
            exact ⟨⟨k + 1, by go_num, by omega, HY.out, HS2⟩, by simp [intOf]; omega⟩
        · have t3 : decide (k < C.surveys.length) = false := by simpa using hkl
          have HS3 : Hid (∀ l ∈ C.surveys, l.length ≤ 10) := Lib.hid fun l hl => by
            obtain ⟨j, hj, rfl⟩ := List.mem_iff_getElem.1 hl
            exact HS.out j hj (by omega)
          obtain ⟨k0, k1, k2⟩ := box25 (HB.out.aft HY.out)
          have k3 := (HB.out.aft HY.out).lt
          clear HS
          by_cases h1 : 70 < C.strikes.length
          · have t5 : decide ((70 : Int) < (C.strikes.length : Int)) = true := by simp; omega
            go_wp2_with fail
            go_ret
            exact ⟨true, rfl, fun h => (by cases h), H0.out.trans HY.out⟩
          · have t5 : decide ((70 : Int) < (C.strikes.length : Int)) = false := by simp; omega
            by_cases h2 : 9 < C.surveys.length
            · have t6 : decide ((9 : Int) < (C.surveys.length : Int)) = true := by simp; omega
              go_wp2_with fail
              go_ret
              exact ⟨true, rfl, fun h => (by cases h), H0.out.trans HY.out⟩
            · have t6 : decide ((9 : Int) < (C.surveys.length : Int)) = false := by simp; omega
              have HSM : Hid (Small C ls) := Lib.hid ⟨HS1.out, HS3.out, by omega, by omega⟩
              clear h1 h2 HS1 HS3
              cases h3 : decide (most < C.claims)
              · go_wp2_with fail
                go_ret
                exact ⟨_, rfl, fun _ => HSM.out, H0.out.trans HY.out⟩
              · go_wp2_with fail
                go_ret
                exact ⟨_, rfl, fun _ => HSM.out, H0.out.trans HY.out⟩
end Go.Proofs
end
