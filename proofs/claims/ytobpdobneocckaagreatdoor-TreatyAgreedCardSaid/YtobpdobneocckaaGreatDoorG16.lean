/- Own texts, merged: Cmq Srt Pae Pal Xl Lsp Agp. -/
import Derived.Test.YtobpdobneocckaaGreatDoorG15
import Derived.Lib.Small
import Derived.BigGuard
import Derived.Shelf.SlSortCmp.Whole1
import Derived.Scope
import Derived.LoopIn
import Derived.LoopNIn
set_option linter.unusedSimpArgs false
set_option linter.unusedVariables false
section
/- Walks: slices.Compare of two lists of numbers of one length. -/
namespace Go.Proofs
open Go.RowKit
attribute [local go_sem] Oper.semAt_some

set_option maxHeartbeats 1000000 in
theorem cmp67_any (x y : Int) (w : World) : Calls Tryz.prog 67 #[.int .i64 x, .int .i64 y] w fun e w' => e = .returned (.int .i64 (Lib.compareInt x y)) ∧ w' = w := by
  go_enter Tryz.func67, Tryz.ntmps67
  go_wp2
  all_goals (go_ret; refine ⟨?_, rfl⟩; unfold Lib.compareInt; (repeat' split) <;> first | rfl | (exfalso; omega))
theorem compareInt_zero {x y : Int} : Lib.compareInt x y = 0 ↔ x = y := by
  unfold Lib.compareInt
  (repeat' split) <;> constructor <;> intro h <;> first | omega | contradiction | (exfalso; omega)
/-- how two lists compare -/
def cmpB (x y : List Int) : Int := if lexB x y = true then -1 else if lexB y x = true then 1 else 0
theorem cmpB_neg {x y : List Int} : decide (cmpB x y < 0) = lexB x y := by
  unfold cmpB
  cases h : lexB x y
  · rw [if_neg (by simp)]
    split <;> rfl
  · rw [if_pos rfl]; rfl
theorem cmpB_at {x y : List Int} (hl : x.length = y.length) {k : Nat} (hk : k < x.length) (he : ∀ i, i < k → x.getD i 0 = y.getD i 0) (hne : x.getD k 0 ≠ y.getD k 0) : cmpB x y = Lib.compareInt (x.getD k 0) (y.getD k 0) := by
  have h1 := lexB_at hl hk he hne
  have h2 := lexB_at hl.symm (by omega) (fun i hi => (he i hi).symm) (Ne.symm hne)
  unfold cmpB Lib.compareInt
  rw [h1, h2]
  (repeat' split) <;> simp_all <;> omega
theorem cmpB_same {x y : List Int} (hl : x.length = y.length) (he : ∀ i, i < x.length → x.getD i 0 = y.getD i 0) : cmpB x y = 0 := by
  unfold cmpB
  rw [lexB_same hl he, lexB_same hl.symm (fun i hi => (he i (by omega)).symm)]
  rfl

set_option maxRecDepth 100000 in
set_option maxHeartbeats 4000000 in
theorem compare22_any (w : World) (x y : List Int) (A B : Option Addr) (c d : Nat) (hA : Ints w A x) (hB : Ints w B y) (hl : x.length = y.length) :
    Calls Tryz.prog 22 #[.slice A x.length c, .slice B y.length d] w fun e w' => e = .returned (.int .i64 (cmpB x y)) ∧ w' = w := by
  have HA := Lib.hid hA
  have HB := Lib.hid hB
  have hal := hA.len
  have HLL := Lib.hid hl
  have HAT : Hid (∀ k, k < x.length → (∀ i, i < k → x.getD i 0 = y.getD i 0) → x.getD k 0 ≠ y.getD k 0 → cmpB x y = Lib.compareInt (x.getD k 0) (y.getD k 0)) := Lib.hid fun k hk he hne => cmpB_at hl hk he hne
  have HSM : Hid ((∀ i, i < x.length → x.getD i 0 = y.getD i 0) → cmpB x y = 0) := Lib.hid (cmpB_same hl)
  obtain ⟨r, hr⟩ : ∃ r, cmpB x y = r := ⟨_, rfl⟩
  rw [hr] at HAT HSM ⊢
  rw [← hl]
  clear hA hB hl hr
  go_enter Tryz.func22, Tryz.ntmps22
  (repeat (first | go_big_skip | go_big_want | go_big_move | go_big_op | go_step | go_upon | go_back))
  go_loopw [11] (fun i wr => ∃ k : Nat, i = .int .i64 k ∧ k ≤ x.length ∧ wr = w ∧ ∀ i, i < k → x.getD i 0 = y.getD i 0) (fun i _ => x.length - (intOf i).toNat)
  case atStart => exact ⟨0, rfl, by omega, rfl, fun i hi => absurd hi (Nat.not_lt_zero _)⟩
  case round =>
    obtain ⟨k, rfl, hk, rfl, heq⟩ := hrel
    have HEQ := Lib.hid heq
    clear heq
    by_cases hkn : k < x.length
    · have hdec : decide (k < x.length) = true := decide_eq_true hkn
      have hge : decide (x.length ≤ k) = false := decide_eq_false (by omega)
      have hge2 : decide ((x.length : Int) ≤ (k : Int)) = false := decide_eq_false (by omega)
      have hky : k < y.length := by have := HLL.out; omega
      obtain ⟨bx, ox, rfl, -, hx⟩ := HA.out.at hkn
      obtain ⟨bY, oY, rfl, -, hy⟩ := HB.out.at hky
      have x0 := hx k hkn
      have y0 := hy k hky
      have ex : x.getD k 0 = x[k] := by rw [List.getD_eq_getElem?_getD, List.getElem?_eq_getElem hkn]; rfl
      have ey : y.getD k 0 = y[k] := by rw [List.getD_eq_getElem?_getD, List.getElem?_eq_getElem hky]; rfl
      rw [← ex] at x0
      rw [← ey] at y0
      have HR := Lib.hid (HAT.out k hkn HEQ.out)
      have HNX : Hid (x.getD k 0 = y.getD k 0 → ∀ i, i < k + 1 → x.getD i 0 = y.getD i 0) := Lib.hid fun h i hi => by
        by_cases e : i = k
        · rw [e]; exact h
        · exact HEQ.out i (by omega)
      have i1 : (0 : Int) ≤ (k : Int) ∧ (k : Int) < (x.length : Int) := by omega
      clear hx hy ex ey
      generalize x.getD k 0 = u at *
      generalize y.getD k 0 = v at *
      obtain ⟨q, hq⟩ : ∃ q, Lib.compareInt u v = q := ⟨_, rfl⟩
      have HQ : Hid (q = 0 ↔ u = v) := Lib.hid (by rw [← hq]; exact compareInt_zero)
      have HC := Lib.hid (cmp67_any u v wr)
      rw [hq] at HC HR
      clear hq
      (repeat (first | go_big_skip | go_big_want | go_big_move | go_big_op | go_step | go_upon | go_back))
      go_at_call 67
      refine HC.out.mono ?_
      rintro e w5 ⟨rfl, rfl⟩
      dsimp only
      by_cases huv : u = v
      · have hq0 := HQ.out.2 huv
        subst hq0
        have HN2 := Lib.hid (HNX.out huv)
        clear huv HNX
        (repeat (first | go_big_skip | go_big_want | go_big_move | go_big_op | go_step | go_upon | go_back))
        exact ⟨⟨k + 1, by go_num, by omega, by trivial, HN2.out⟩, by simp [intOf]; omega⟩
      · have hqn : (q != 0) = true := by
          simp only [bne_iff_ne, ne_eq]
          exact fun e => huv (HQ.out.1 e)
        have hrr := HR.out huv
        have HRR := Lib.hid hrr
        clear huv HNX hrr
        (repeat (first | go_big_skip | go_big_want | go_big_move | go_big_op | go_step | go_upon | go_back))
        go_ret
        exact ⟨by rw [HRR.out]; rfl, rfl⟩
    · have hdec : decide (k < x.length) = false := decide_eq_false hkn
      have hr0 := HSM.out (fun i hi => HEQ.out i (by omega))
      have HR0 := Lib.hid hr0
      clear hr0
      (repeat (first | go_big_skip | go_big_want | go_big_move | go_big_op | go_step | go_upon | go_back))
      go_ret
      exact ⟨by rw [HR0.out]; rfl, rfl⟩
end Go.Proofs
end

section
/- The program's SortFunc over a list of lines of the call's own. -/
namespace Go.Proofs
open Go.RowKit Go.Sort Go.Shelf

theorem grownBy_sortedV {α : Type} [Inhabited α] {enc : α → Value} {w : World} {g n : Nat} {os : Array Obj} (d : Array α) : w.grownBy (sortWorld enc w g 0 n d os) (some g) := by
  unfold sortWorld
  refine ⟨rfl, rfl, rfl, by simp, fun k hk hne => ?_⟩
  rw [heap_grow_old _ _ (by simpa using hk)]
  have : g ≠ k := fun e => hne (by rw [e])
  simp [putRow, mapBlock, Sort.ahead, Array.getElem?_modify, this]
theorem swo_lex {row : Nat → List Int} {m : Nat} (hm : ∀ i, (row i).length = m) : SWO (ltOf fun i j => cmpB (row i) (row j)) := by
  have e : ∀ x y, ltOf (fun i j => cmpB (row i) (row j)) x y = lexB (row x) (row y) := fun x y => cmpB_neg
  refine ⟨fun x => by rw [e]; exact lexB_irrefl _, fun x y z h1 h2 => ?_, fun x y z h1 h2 => ?_⟩
  · rw [e] at *; exact lexB_trans h1 h2
  · rw [e] at *
    cases h : lexB (row x) (row z)
    · rfl
    · cases h3 : lexB (row y) (row x)
      · have := lexB_total (by rw [hm, hm]) h1 h3
        rw [this] at h; rw [h] at h2; cases h2
      · have := lexB_trans h3 h; rw [this] at h2; cases h2
theorem ints_blocks' {w w' : World} {A : Option Addr} {l : List Int} (h : Ints w A l) (hs : w.heap.size ≤ w'.heap.size) (hb : ∀ b o, A = some ⟨b, o, none⟩ → b < w.heap.size → w'.heap[b]? = w.heap[b]?) : Ints w' A l := by
  refine ⟨h.1, ?_⟩
  rcases h.2 with h | ⟨b, o, rfl, hb', hc⟩
  · exact .inl h
  · refine .inr ⟨b, o, rfl, Nat.lt_of_lt_of_le hb' hs, fun i hi => ?_⟩
    obtain ⟨vs, h1, h2, h3⟩ := hc i hi
    exact ⟨vs, h1, h2, fun j hj => (World.cell?_of_block (hb b o rfl hb')).trans (h3 j hj)⟩
set_option maxHeartbeats 1000000 in
theorem sort_any (W : World) (base : Nat) {g cap : Nat} {vs : List Value} {L : List (List Int)} {m : Nat} (hown : W.ownsRow base 24 1 (.slice (some ⟨g, 0, none⟩) L.length cap) L.length vs) (h0 : 0 < L.length) (hl : L.length ≤ 1000)
    (hrows : ∀ i, (hi : i < L.length) → ∃ A c, vs[i]? = some (.slice A L[i].length c) ∧ Ints W A L[i] ∧ ∀ b o, A = some ⟨b, o, none⟩ → base ≤ b ∧ g ≠ b) (hlen : ∀ x ∈ L, x.length = m) (hnd : L.Nodup) :
    Calls Tryz.prog 58 #[.slice (some ⟨g, 0, none⟩) L.length cap, .func (.func 22) #[] #[]] W fun e w' => e = .returned (.tuple #[]) ∧ W.grownBy w' (some g) ∧ ∃ L', L'.Perm L ∧ SortedL L' ∧ ∀ X' : World, (∀ b, base ≤ b → b < w'.heap.size → X'.heap[b]? = w'.heap[b]?) → w'.heap.size ≤ X'.heap.size → Lists X' (some ⟨g, 0, none⟩) L' := by
  have hvl : vs.length = L.length := by simpa using hown.1
  let cl : Nat → Nat := fun i => if i < L.length then i else 0
  have hcl : ∀ i, cl i < L.length := fun i => by simp only [cl]; split <;> omega
  let enc : Nat → Value := fun i => vs.getD (cl i) (.slice none 0 0)
  let row : Nat → List Int := fun i => L.getD (cl i) []
  have hrow : ∀ i, row i = L[cl i]'(hcl i) := fun i => by simp only [row]; rw [List.getD_eq_getElem?_getD, List.getElem?_eq_getElem (hcl i)]; rfl
  have henc : ∀ i, ∃ A c, enc i = .slice A (row i).length c ∧ Ints W A (row i) ∧ ∀ b o, A = some ⟨b, o, none⟩ → base ≤ b ∧ g ≠ b := fun i => by
    obtain ⟨A, c, h1, h2, h3⟩ := hrows (cl i) (hcl i)
    refine ⟨A, c, ?_, by rw [hrow]; exact h2, h3⟩
    simp only [enc]
    rw [List.getD_eq_getElem?_getD, h1, hrow]
    rfl
  have hm : ∀ i, (row i).length = m := fun i => by rw [hrow]; exact hlen _ (List.getElem_mem _)
  have h1 : OneCell enc := fun i => by obtain ⟨A, c, e, _⟩ := henc i; rw [e]; rfl
  have hgb : g < W.heap.size := (hown.lt g rfl).2
  have hH : Holds enc W g 0 (Array.range L.length) := fun j hj => by
    have hj' : j < L.length := by simpa using hj
    have e1 : (Array.range L.length)[j]! = j := by rw [getElem!_pos _ j hj]; simp
    refine ⟨?_, hown.frozenAt _⟩
    rw [e1]
    have := hown.cells (g := g) rfl j (enc j) (by simp only [enc, cl, if_pos hj']; rw [List.getD_eq_getElem?_getD, List.getElem?_eq_getElem (by omega)]; rfl)
    rw [Addr.add_lit] at this
    exact this
  have hcmp : CmpReads Tryz.prog 22 #[] enc (fun i j => cmpB (row i) (row j)) g 0 (Array.range L.length).size W := fun k os dk _ x y => by
    obtain ⟨A, c, e1, i1, n1⟩ := henc x
    obtain ⟨B, d, e2, i2, n2⟩ := henc y
    have hg := grownBy_sortedV (enc := enc) (w := W) (g := g) (n := k) (os := os) dk
    have := compare22_any (sortWorld enc W g 0 k dk os) (row x) (row y) A B c d (ints_grown i1 hg fun b o e h => (n1 b o e).2 (by injection h with h; exact h.symm)) (ints_grown i2 hg fun b o e h => (n2 b o e).2 (by injection h with h; exact h.symm)) (by rw [hm, hm])
    rw [← e1, ← e2] at this
    exact this.mono fun e w' ⟨h, h'⟩ => ⟨h, 0, h'⟩
  have hs := Any.slices_SortFunc laySort enc h1 (fun i j => cmpB (row i) (row j)) (swo_lex hm) 22 #[] g 0 cap (Array.range L.length) W (fun args w => by simp [go_sem]) hcmp.lays hH hgb (by simp; omega)
  rw [Array.size_range] at hs
  refine hs.mono ?_
  rintro e w' ⟨he, d', k, os, ⟨hsz, -, hperm⟩, hsrt, rfl⟩
  rw [Array.size_range] at hsz
  have hg := grownBy_sortedV (enc := enc) (w := W) (g := g) (n := k) (os := os) d'
  have hp : d'.toList.Perm (List.range L.length) := by
    have e1 : (d'.extract 0 L.length).toList = d'.toList := by rw [← hsz]; simp
    have e2 : ((Array.range L.length).extract 0 L.length).toList = List.range L.length := by
      have : (Array.range L.length).extract 0 L.length = Array.range L.length := by
        have h := Array.extract_size (xs := Array.range L.length)
        rwa [Array.size_range] at h
      rw [this]; simp
    rw [e1, e2] at hperm
    exact hperm
  have hmap : (List.range L.length).map row = L := by
    apply List.ext_getElem (by simp)
    intro i h1 h2
    simp only [List.getElem_map, List.getElem_range]
    rw [hrow]
    simp only [cl, if_pos h2]
  have hL' : (d'.toList.map row).Perm L := by have := hp.map row; rwa [hmap] at this
  have hget : ∀ j, (hj : j < L.length) → d'[j]! = d'.toList[j]'(by simpa [hsz] using hj) := fun j hj => by rw [getElem!_pos _ j (by omega)]; simp
  refine ⟨he, hg, d'.toList.map row, hL', ?_, ?_⟩
  · unfold SortedL
    rw [List.pairwise_iff_getElem]
    intro i j hi hj hij
    simp only [List.length_map, Array.length_toList, hsz] at hi hj
    have hil : i < d'.toList.length := by simpa [hsz] using hi
    have hjl : j < d'.toList.length := by simpa [hsz] using hj
    simp only [List.getElem_map]
    have h := hsrt i j (Nat.zero_le _) hij hj
    rw [hget i hi, hget j hj] at h
    have h' : lexB (row d'.toList[j]) (row d'.toList[i]) = false := by rw [← cmpB_neg]; exact h
    cases h2 : lexB (row d'.toList[i]) (row d'.toList[j])
    · have heq := lexB_total (by rw [hm, hm]) h2 h'
      have hnd' : (d'.toList.map row).Nodup := hL'.nodup_iff.2 hnd
      have := (List.pairwise_iff_getElem.1 hnd') i j (by simpa [hsz] using hi) (by simpa [hsz] using hj) hij
      simp only [List.getElem_map] at this
      exact absurd heq this
    · rfl
  · intro X' hX hsX
    refine ⟨by simp [hsz]; omega, .inr ⟨g, 0, rfl, Nat.lt_of_lt_of_le hgb (Nat.le_trans hg.size hsX), fun i hi => ?_⟩⟩
    have hi' : i < L.length := by simpa [hsz] using hi
    have hil : i < d'.toList.length := by simpa [hsz] using hi'
    obtain ⟨A, c, e1, i1, n1⟩ := henc (d'.toList[i]'(by simpa [hsz] using hi'))
    have hc := cell?_putRow enc (Sort.ahead W k) g 0 (Array.range L.length) d' hH (by simp [hsz]) i (by omega)
    refine ⟨[enc d'.toList[i]], rfl, ⟨A, c, ?_, ?_⟩, fun j hj => ?_⟩
    · rw [e1]; simp
    · simp only [List.getElem_map]
      exact ints_blocks' (ints_grown i1 hg fun b o e h => (n1 b o e).2 (by injection h with h; exact h.symm)) hsX fun b o e hb => hX b (n1 b o e).1 hb
    · have : j = 0 := by simpa using hj
      subst this
      rw [hget i hi'] at hc
      refine (World.cell?_of_block (hX g (hown.lt g rfl).1 (Nat.lt_of_lt_of_le hgb hg.size))).trans ?_
      show (sortWorld enc W g 0 k d' os).cell? ⟨g, 0 + i * 1 + 0, none⟩ = some (enc _)
      unfold sortWorld
      rw [cell?_grow _ _ _ (by simpa [putRow, mapBlock, Sort.ahead] using hgb)]
      simpa using hc

/-- The library's sort at no element. -/
theorem insertion_none (p : Option Addr) (cap : Nat) (fv : Value) (w : World) :
    Calls Tryz.prog 150 #[.slice p 0 cap, .int .i64 0, .int .i64 0, fv] w fun e w' => e = .returned (.tuple #[]) ∧ w' = w := by
  go_enter Tryz.func150, Tryz.ntmps150
  go_wp2
  refine wp_loop_rounds 1 ?_
  rw [rounds_succ]
  go_wp2
  go_end0
  exact ⟨rfl, rfl⟩
theorem pdq_none (p : Option Addr) (cap : Nat) (lim : Int) (fv : Value) (w : World) :
    Calls Tryz.prog 119 #[.slice p 0 cap, .int .i64 0, .int .i64 0, .int .i64 lim, fv] w fun e w' => e = .returned (.tuple #[]) ∧ w' = w := by
  have hi := fun W => insertion_none p cap fv W
  go_enter Tryz.func119, Tryz.ntmps119
  go_wp2
  refine wp_loop_rounds 1 ?_
  rw [rounds_succ]
  go_wp2_with (go_at_call 150; refine (hi _).mono ?_; rintro e w' ⟨rfl, rfl⟩)
  (try simp only [Exit.inBlock, Exit.then]); refine bodyPost_ret (results_none rfl _ _ _) rfl ?_
  exact ⟨rfl, rfl⟩
theorem sort_none (p : Option Addr) (cap : Nat) (fv : Value) (w : World) :
    Calls Tryz.prog 58 #[.slice p 0 cap, fv] w fun e w' => e = .returned (.tuple #[]) ∧ w' = w := by
  have hp := fun lim W => pdq_none p cap lim fv W
  have hl : ∀ W, Calls Tryz.prog 120 #[.int .u64 0] W fun e w' => e = .returned (.int .i64 (Lib.bitLen 0 : Nat)) ∧ w' = W := fun W => by
    have h := Any.bits_Len (SlLaysF0.n15.bits (P := Tryz.prog) (ρ := renSort) { laySort with }) 0 W (by omega) (by omega)
    exact h
  go_enter Tryz.func58, Tryz.ntmps58
  go_wp2_with (first | (go_at_call 120; refine (hl _).mono ?_; rintro e w' ⟨rfl, rfl⟩) | (go_at_call 119; refine (hp _ _).mono ?_; rintro e w' ⟨rfl, rfl⟩))
  go_end0
  exact ⟨rfl, rfl⟩
end Go.Proofs
end

section
/- Walks: All and Ends where the treaty is not right. -/
namespace Go.Proofs
open Go.RowKit

set_option maxRecDepth 100000 in
set_option maxHeartbeats 4000000 in
theorem ends_bad (w : World) (T : Treaty) (a1 a2 a3 a4 : Option Addr) (c1 c2 c3 c4 : Nat) (hT : TRep w T a1 a2 a3 a4) (hc : checkE T ≠ 0) : Calls Tryz.prog 17 #[.agg #[.int .i64 T.places, .slice a1 T.ways.length c1, .slice a2 T.words.length c2, .slice a3 T.starts.length c3, .slice a4 T.legs.length c4]] w (EndsU w T) := by
  have hE : endE T = checkE T := by unfold endE; rw [if_neg hc]
  have HFI : Hid (∀ W, Aft w W → EndsU w T (.returned (.tuple #[.slice none 0 0, .int .i64 (checkE T)])) W) := Lib.hid fun W ha => endsU_err hE hc rfl ha
  have hne : (checkE T != 0) = true := by simpa using hc
  have HCK : Hid (∀ W, Aft w W → Calls Tryz.prog 37 #[.agg #[.int .i64 T.places, .slice a1 T.ways.length c1, .slice a2 T.words.length c2, .slice a3 T.starts.length c3, .slice a4 T.legs.length c4]] W fun e w' => e = .returned (.int .i64 (checkE T)) ∧ Aft W w') := Lib.hid fun W ha => check_any T a1 a2 a3 a4 c1 c2 c3 c4 W (hT.aft ha)
  clear hT hc hE
  generalize checkE T = E at *
  go_enter Tryz.func17, Tryz.ntmps17
  go_wp2_with (go_at_call 37; refine (HCK.out _ (Aft.alloc _ _)).mono ?_; rintro e w1 ⟨rfl, ha1⟩)
  refine bodyPost_ret (v := .tuple #[.slice none 0 0, .int .i64 E]) (by simp [results, Tryz.results17, go_sem]) rfl ?_
  exact HFI.out _ ((Aft.alloc _ _).trans ha1)
theorem endsTop_any (w : World) (T : Treaty) (a1 a2 a3 a4 : Option Addr) (c1 c2 c3 c4 : Nat) (hT : TRep w T a1 a2 a3 a4) : Calls Tryz.prog 17 #[.agg #[.int .i64 T.places, .slice a1 T.ways.length c1, .slice a2 T.words.length c2, .slice a3 T.starts.length c3, .slice a4 T.legs.length c4]] w (EndsU w T) := by
  by_cases hc : checkE T = 0
  · exact (ends_good w T a1 a2 a3 a4 c1 c2 c3 c4 hT hc).mono fun e w' h => endsG_uni hc h
  · exact ends_bad w T a1 a2 a3 a4 c1 c2 c3 c4 hT hc

/-- A list of lists that stands as long as the blocks from base on do. -/
def ListsF (base : Nat) (w : World) (A : Option Addr) (L : List (List Int)) : Prop := ∀ X' : World, (∀ b, base ≤ b → b < w.heap.size → X'.heap[b]? = w.heap[b]?) → w.heap.size ≤ X'.heap.size → Lists X' A L
theorem ListsF.lists {base : Nat} {w : World} {A : Option Addr} {L : List (List Int)} (h : ListsF base w A L) : Lists w A L := h w (fun _ _ _ => rfl) (Nat.le_refl _)
theorem ListsF.grown {base : Nat} {w w' : World} {A : Option Addr} {L : List (List Int)} (h : ListsF base w A L) {row : Option Nat} (hg : w.grownBy w' row) (hr : ∀ k, row = some k → k < base) : ListsF base w' A L := fun X' h1 h2 =>
  h X' (fun b hb1 hb2 => (h1 b hb1 (Nat.lt_of_lt_of_le hb2 hg.size)).trans (hg.block b hb2 (fun e => by have := hr b e.symm; omega))) (Nat.le_trans hg.size h2)
theorem ListsF.aft {base : Nat} {w w' : World} {A : Option Addr} {L : List (List Int)} (h : ListsF base w A L) (ha : Aft w w') : ListsF base w' A L := h.grown (only_aft (only_refl w none) ha) (fun _ e => by cases e)
def AllF (w : World) (T : Treaty) (e : Ending) (w' : World) : Prop :=
  Aft w w' ∧ ∃ A c, e = .returned (.tuple #[.slice A (allX T).length c, .int .i64 (allE T)]) ∧ ListsF w.heap.size w' A (allX T)
theorem allF_err {w w' : World} {T : Treaty} {e : Ending} {E : Int} (hE : allE T = E) (h0 : E ≠ 0) (h : e = .returned (.tuple #[.slice none 0 0, .int .i64 E])) (ha : Aft w w') : AllF w T e w' := by
  have hx : allX T = [] := by unfold allX; rw [if_neg (by rw [hE]; exact h0)]
  rw [AllF, hx, hE]
  exact ⟨ha, none, 0, h, fun X' _ _ => lists_nil X'⟩

set_option maxRecDepth 100000 in
set_option maxHeartbeats 4000000 in
theorem all_bad (w : World) (T : Treaty) (a1 a2 a3 a4 : Option Addr) (c1 c2 c3 c4 : Nat) (hT : TRep w T a1 a2 a3 a4) (hc : checkE T ≠ 0) : Calls Tryz.prog 15 #[.agg #[.int .i64 T.places, .slice a1 T.ways.length c1, .slice a2 T.words.length c2, .slice a3 T.starts.length c3, .slice a4 T.legs.length c4]] w (AllF w T) := by
  have hE : allE T = checkE T := by unfold allE; rw [if_neg hc]
  have HFI : Hid (∀ W, Aft w W → AllF w T (.returned (.tuple #[.slice none 0 0, .int .i64 (checkE T)])) W) := Lib.hid fun W ha => allF_err hE hc rfl ha
  have hne : (checkE T != 0) = true := by simpa using hc
  have HCK : Hid (∀ W, Aft w W → Calls Tryz.prog 37 #[.agg #[.int .i64 T.places, .slice a1 T.ways.length c1, .slice a2 T.words.length c2, .slice a3 T.starts.length c3, .slice a4 T.legs.length c4]] W fun e w' => e = .returned (.int .i64 (checkE T)) ∧ Aft W w') := Lib.hid fun W ha => check_any T a1 a2 a3 a4 c1 c2 c3 c4 W (hT.aft ha)
  clear hT hc hE
  generalize checkE T = E at *
  go_enter Tryz.func15, Tryz.ntmps15
  have hA0 : Aft w (((w.alloc (.cells #[.int .i64 T.places, .slice a1 T.ways.length c1, .slice a2 T.words.length c2, .slice a3 T.starts.length c3, .slice a4 T.legs.length c4] 27)).alloc (.cells #[.slice none 0 0] 37)).alloc (.cells #[.int .i64 0] 38)) := ((Aft.alloc w _).then_alloc _).then_alloc _
  have hb0 := ((Blk.new w 27 #[.int .i64 T.places, .slice a1 T.ways.length c1, .slice a2 T.words.length c2, .slice a3 T.starts.length c3, .slice a4 T.legs.length c4]).alloc (.cells #[.slice none 0 0] 37)).alloc (.cells #[.int .i64 0] 38)
  have hr0 := (Blk.new (w.alloc (.cells #[.int .i64 T.places, .slice a1 T.ways.length c1, .slice a2 T.words.length c2, .slice a3 T.starts.length c3, .slice a4 T.legs.length c4] 27)) 37 #[.slice none 0 0]).alloc (.cells #[.int .i64 0] 38)
  have hs0 := Blk.new ((w.alloc (.cells #[.int .i64 T.places, .slice a1 T.ways.length c1, .slice a2 T.words.length c2, .slice a3 T.starts.length c3, .slice a4 T.legs.length c4] 27)).alloc (.cells #[.slice none 0 0] 37)) 38 #[.int .i64 0]
  simp only [World.size_alloc] at hr0 hs0
  have HA0 := Lib.hid hA0
  have HB0 := Lib.hid hb0
  have HR0 := Lib.hid hr0
  have HS0 := Lib.hid hs0
  clear hA0 hb0 hr0 hs0
  go_wp2_with (go_at_call 37; refine (HCK.out _ HA0.out).mono ?_; rintro e w1 ⟨rfl, ha1⟩; have hb1 := HB0.out.aft ha1; have hlt1 := hb1.lt; obtain ⟨k0, k1, k2, k3, k4⟩ := box_cells hb1; have HA1 := Lib.hid ha1; have hr1 := HR0.out.aft ha1; have hs1 := HS0.out.aft ha1; have kr : w1.cell? ⟨w.heap.size + 1, 0, none⟩ = some (.slice none 0 0) := hr1.cell 0; have fr := hr1.frozen 0; have lr := hr1.lt; have ks : w1.cell? ⟨w.heap.size + 1 + 1, 0, none⟩ = some (.int .i64 0) := hs1.cell 0; have fs := hs1.frozen 0; have ls := hs1.lt; have HR1 := Lib.hid hr1; have HS1 := Lib.hid hs1; clear ha1 hr1 hs1)
  have z4 : ((w1.setCell ⟨w.heap.size + 1, 0, none⟩ (.slice none 0 0)).setCell ⟨w.heap.size + 1 + 1, 0, none⟩ (.int .i64 E)).cell? ⟨w.heap.size + 1, 0, none⟩ = some (.slice none 0 0) := ((HR1.out.store 0 _).far (p := ⟨w.heap.size + 1 + 1, 0, none⟩) (by show w.heap.size + 1 ≠ w.heap.size + 1 + 1; omega) _).cell 0
  have z5 : ((w1.setCell ⟨w.heap.size + 1, 0, none⟩ (.slice none 0 0)).setCell ⟨w.heap.size + 1 + 1, 0, none⟩ (.int .i64 E)).cell? ⟨w.heap.size + 1 + 1, 0, none⟩ = some (.int .i64 E) := ((HS1.out.far (p := ⟨w.heap.size + 1, 0, none⟩) (by show w.heap.size + 1 + 1 ≠ w.heap.size + 1; omega) _).store 0 _).cell 0
  (try simp only [Exit.noGoto_ret, Exit.inBlock, Exit.then])
  refine bodyPost_ret (v := .tuple #[.slice none 0 0, .int .i64 E]) (by simp [results, Tryz.results15, go_sem, z4, z5]) rfl ?_
  exact HFI.out _ (((HA0.out.trans HA1.out).then_setCell (p := ⟨w.heap.size + 1, 0, none⟩) (by show w.heap.size ≤ w.heap.size + 1; omega) _).then_setCell (p := ⟨w.heap.size + 1 + 1, 0, none⟩) (by show w.heap.size ≤ w.heap.size + 1 + 1; omega) _)
end Go.Proofs
end

section
/- Walks: the program's All. -/
namespace Go.Proofs
open Go.RowKit
attribute [local go_sem] Oper.semAt_some

theorem sortB (W : World) (base : Nat) {L : List (List Int)} {vA : Option Addr} {vc m : Nat} (h : OutB W base L (.slice vA L.length vc)) (hl : L.length ≤ 1000) (hlen : ∀ x ∈ L, x.length = m) (hnd : L.Nodup) :
    Calls Tryz.prog 58 #[.slice vA L.length vc, .func (.func 22) #[] #[]] W fun e w' => e = .returned (.tuple #[]) ∧ ∃ (row : Option Nat) (L' : List (List Int)), W.grownBy w' row ∧ (∀ g, row = some g → base ≤ g) ∧ L'.Perm L ∧ SortedL L' ∧ ∀ X' : World, (∀ b, base ≤ b → b < w'.heap.size → X'.heap[b]? = w'.heap[b]?) → w'.heap.size ≤ X'.heap.size → Lists X' vA L' := by
  obtain ⟨vs, h1, h2⟩ := h
  by_cases h0 : L.length = 0
  · have e : L = [] := List.eq_nil_of_length_eq_zero h0
    subst e
    refine (sort_none vA vc _ W).mono ?_
    rintro e w' ⟨rfl, rfl⟩
    exact ⟨rfl, none, [], World.grownBy.refl _ _, (fun g h => by cases h), List.Perm.refl _, List.Pairwise.nil, fun _ _ _ => ⟨by simp, .inl rfl⟩⟩
  · have hge := (h1.lt · ·)
    obtain ⟨g, cap, cur, e, hg, -⟩ : ∃ g cap cur, Value.slice vA L.length vc = .slice (some ⟨g, 0, none⟩) L.length cap ∧ base ≤ g ∧ W.heap[g]? = some (.cells cur 24 (0, 0)) := by
      rcases h1.2 with ⟨_, h'⟩ | ⟨g, cap, cur, e, hg, hh, _⟩
      · omega
      · exact ⟨g, cap, cur, e, hg, hh⟩
    cases e
    refine (sort_any W base h1 (by omega) hl (fun i hi => ?_) hlen hnd).mono ?_
    · obtain ⟨A, c, e1, e2, e3⟩ := h2 i hi
      exact ⟨A, c, e1, e2, fun b o e => ⟨(e3 b o e).1, fun hgb => (e3 b o e).2 (by rw [← hgb]; rfl)⟩⟩
    · rintro e w' ⟨he, hgr, L', hp, hs, hli⟩
      exact ⟨he, some g, L', hgr, (fun k e => by cases e; exact hg), hp, hs, hli⟩

/-- Between two rounds of All. -/
structure AllI (w : World) (T : Treaty) (a1 a2 a3 a4 : Option Addr) (c1 c2 c3 c4 : Nat) (S k : Nat) (W : World) : Prop where
  aft : Aft w W
  box : Blk W w.heap.size 27 #[.int .i64 T.places, .slice a1 T.ways.length c1, .slice a2 T.words.length c2, .slice a3 T.starts.length c3, .slice a4 T.legs.length c4]
  r2 : ∃ c, Blk W (w.heap.size + 1) 37 #[c]
  r3 : ∃ c, Blk W (w.heap.size + 2) 38 #[c]
  mapc : Blk W (S + 1) 104 #[.map (some S)]
  box2 : Blk W (S + 3) 27 #[.int .i64 T.places, .slice a1 T.ways.length c1, .slice a2 T.words.length c2, .slice a3 T.starts.length c3, .slice a4 T.legs.length c4]
  out : ∃ v L, Blk W (S + 2) 37 #[v] ∧ OutB W (S + 7) L v ∧ SetM W S L.length L ∧ AMI T k [] 0 L
/-- A round has returned. -/
structure AllZ (w : World) (T : Treaty) (W : World) : Prop where
  aft : Aft w W
  out : 200 < (allL T).length ∧ Blk W (w.heap.size + 1) 37 #[.slice none 0 0] ∧ Blk W (w.heap.size + 2) 38 #[.int .i64 11]
theorem AllI.three {w : World} {T : Treaty} {a1 a2 a3 a4 : Option Addr} {c1 c2 c3 c4 : Nat} {S : Nat} (hS : w.heap.size + 2 < S) : Three (S + 4) (fun k W => AllI w T a1 a2 a3 a4 c1 c2 c3 c4 S k W) := by
  rintro k W W' r ⟨h1, h2, ⟨c, h3⟩, ⟨c', h4⟩, h5, h6, v, L, g1, g2, g3, g4⟩ hg hr1 hr2
  exact ⟨h1.grown hg (fun k e => by cases e; omega), h2.grown hg (fun e => by cases e; omega), ⟨c, h3.grown hg (fun e => by cases e; omega)⟩, ⟨c', h4.grown hg (fun e => by cases e; omega)⟩, h5.grown hg (fun e => by cases e; omega), h6.grown hg (fun e => by cases e; omega),
    v, L, g1.grown hg (fun e => by cases e; omega), g2.kept hg (fun k e => by cases e; omega), g3.kept hg (fun e => by cases e; omega), g4⟩
theorem AllZ.three {w : World} {T : Treaty} {S : Nat} (hS : w.heap.size + 2 < S) (c : Code) : Three (S + 4) (fun (_ : Unit) W => c = .ret ∧ AllZ w T W) := by
  rintro _ W W' r ⟨h0, h1, h2, h3, h4⟩ hg hr1 hr2
  exact ⟨h0, h1.grown hg (fun k e => by cases e; omega), h2, h3.grown hg (fun e => by cases e; omega), h4.grown hg (fun e => by cases e; omega)⟩

set_option maxRecDepth 100000 in
set_option maxHeartbeats 2000000 in
theorem all_good (w : World) (T : Treaty) (a1 a2 a3 a4 : Option Addr) (c1 c2 c3 c4 : Nat) (hT : TRep w T a1 a2 a3 a4) (hc : checkE T = 0) : Calls Tryz.prog 15 #[.agg #[.int .i64 T.places, .slice a1 T.ways.length c1, .slice a2 T.words.length c2, .slice a3 T.starts.length c3, .slice a4 T.legs.length c4]] w (AllF w T) := by
  have ok := checkE_ok hc
  have HC := Lib.hid hc
  have HT := Lib.hid hT
  have OK := Lib.hid ok
  have HCK : Hid (∀ W, Aft w W → Calls Tryz.prog 37 #[.agg #[.int .i64 T.places, .slice a1 T.ways.length c1, .slice a2 T.words.length c2, .slice a3 T.starts.length c3, .slice a4 T.legs.length c4]] W fun e w' => e = .returned (.int .i64 (checkE T)) ∧ Aft W w') := Lib.hid fun W ha => check_any T a1 a2 a3 a4 c1 c2 c3 c4 W (HT.out.aft ha)
  rw [HC.out] at HCK
  clear hc hT ok
  refine (callsIn_wide (n := 5)).1 ?_
  refine callsIn_of_wp_marks Tryz.func15 rfl trivial ?_ rfl
  simp only [Tryz.ntmps15, List.size_toArray, List.length_cons, List.length_nil, Nat.reduceAdd, Nat.reduceSub, Array.replicate_succ, Array.replicate_zero, List.push_toArray, List.append_toArray, List.nil_append, List.cons_append]
  refine wpIn_wide.2 ?_
  have hA0 : Aft w (((w.alloc (.cells #[.int .i64 T.places, .slice a1 T.ways.length c1, .slice a2 T.words.length c2, .slice a3 T.starts.length c3, .slice a4 T.legs.length c4] 27)).alloc (.cells #[.slice none 0 0] 37)).alloc (.cells #[.int .i64 0] 38)) := ((Aft.alloc w _).then_alloc _).then_alloc _
  have hb0 := ((Blk.new w 27 #[.int .i64 T.places, .slice a1 T.ways.length c1, .slice a2 T.words.length c2, .slice a3 T.starts.length c3, .slice a4 T.legs.length c4]).alloc (.cells #[.slice none 0 0] 37)).alloc (.cells #[.int .i64 0] 38)
  have hr0 := (Blk.new (w.alloc (.cells #[.int .i64 T.places, .slice a1 T.ways.length c1, .slice a2 T.words.length c2, .slice a3 T.starts.length c3, .slice a4 T.legs.length c4] 27)) 37 #[.slice none 0 0]).alloc (.cells #[.int .i64 0] 38)
  have hs0 := Blk.new ((w.alloc (.cells #[.int .i64 T.places, .slice a1 T.ways.length c1, .slice a2 T.words.length c2, .slice a3 T.starts.length c3, .slice a4 T.legs.length c4] 27)).alloc (.cells #[.slice none 0 0] 37)) 38 #[.int .i64 0]
  simp only [World.size_alloc] at hr0 hs0
  have HA0 := Lib.hid hA0
  have HB0 := Lib.hid hb0
  have HR0 := Lib.hid hr0
  have HS0 := Lib.hid hs0
  clear hA0 hb0 hr0 hs0
  have hmm := @run_makeMap Tryz.prog
  go_upto_region 6 with (go_at_call 37; refine (HCK.out _ HA0.out).mono ?_; rintro e w1 ⟨rfl, ha1⟩; have hb1 := HB0.out.aft ha1; have hlt1 := hb1.lt; obtain ⟨k0, k1, k2, k3, k4⟩ := box_cells hb1; have HA1 := Lib.hid ha1; clear ha1)
  have hA3 : Aft w (((w1.alloc (.map #[] 0)).alloc (.cells #[.map (some w1.heap.size)] 104)).alloc (.cells #[.slice none 0 0] 37)) := (((HA0.out.trans HA1.out).then_alloc _).then_alloc _).then_alloc _
  have hb3 := ((hb1.alloc (.map #[] 0)).alloc (.cells #[.map (some w1.heap.size)] 104)).alloc (.cells #[.slice none 0 0] 37)
  have hr3 := (((HR0.out.aft HA1.out).alloc (.map #[] 0)).alloc (.cells #[.map (some w1.heap.size)] 104)).alloc (.cells #[.slice none 0 0] 37)
  have hs3 := (((HS0.out.aft HA1.out).alloc (.map #[] 0)).alloc (.cells #[.map (some w1.heap.size)] 104)).alloc (.cells #[.slice none 0 0] 37)
  have hm3 := ((SetM.made w1).aft (Aft.alloc _ (.cells #[.map (some w1.heap.size)] 104))).aft (Aft.alloc _ (.cells #[.slice none 0 0] 37))
  have hc3 := (Blk.new (w1.alloc (.map #[] 0)) 104 #[.map (some w1.heap.size)]).alloc (.cells #[.slice none 0 0] 37)
  have ho3 := Blk.new ((w1.alloc (.map #[] 0)).alloc (.cells #[.map (some w1.heap.size)] 104)) 37 #[.slice none 0 0]
  have hz3 : (((w1.alloc (.map #[] 0)).alloc (.cells #[.map (some w1.heap.size)] 104)).alloc (.cells #[.slice none 0 0] 37)).heap.size = w1.heap.size + 3 := by simp
  have hS2 : w.heap.size + 2 < w1.heap.size := (HS0.out.aft HA1.out).lt
  simp only [World.size_alloc] at hc3 ho3
  clear k0 k1 k2 k3 k4 hb1 hlt1
  generalize (((w1.alloc (.map #[] 0)).alloc (.cells #[.map (some w1.heap.size)] 104)).alloc (.cells #[.slice none 0 0] 37)) = w3 at *
  obtain ⟨k0, k1, k2, k3, k4⟩ := box_cells hb3
  have hlt3 := hb3.lt
  go_upto_block 0 with (go_at_call 48; refine (readings_any T a1 a2 a3 a4 c1 c2 c3 c4 _).mono ?_; rintro e w4 ⟨rfl, rfl⟩)
  have hA4 : Aft w (w3.alloc (.cells #[.int .i64 T.places, .slice a1 T.ways.length c1, .slice a2 T.words.length c2, .slice a3 T.starts.length c3, .slice a4 T.legs.length c4] 27)) := hA3.then_alloc _
  have he4 := Blk.new w3 27 #[.int .i64 T.places, .slice a1 T.ways.length c1, .slice a2 T.words.length c2, .slice a3 T.starts.length c3, .slice a4 T.legs.length c4]
  have hI0 : AllI w T a1 a2 a3 a4 c1 c2 c3 c4 w1.heap.size 0 (w3.alloc (.cells #[.int .i64 T.places, .slice a1 T.ways.length c1, .slice a2 T.words.length c2, .slice a3 T.starts.length c3, .slice a4 T.legs.length c4] 27)) := ⟨hA4, hb3.alloc _, ⟨_, hr3.alloc _⟩, ⟨_, hs3.alloc _⟩, hc3.alloc _, by rw [← hz3]; exact he4, _, [], ho3.alloc _, OutB.nil _ _, hm3.aft (Aft.alloc _ _), AMI.start T⟩
  have hz4 : (w3.alloc (.cells #[.int .i64 T.places, .slice a1 T.ways.length c1, .slice a2 T.words.length c2, .slice a3 T.starts.length c3, .slice a4 T.legs.length c4] 27)).heap.size = w1.heap.size + 4 := by simp [hz3]
  have HI0 := Lib.hid hI0
  clear k0 k1 k2 k3 k4 hlt3 hA3 hb3 hr3 hs3 hm3 hc3 ho3 hA4 he4 hI0 HA1 HR0 HS0 HB0 HA0 hz3
  generalize w3.alloc (.cells #[.int .i64 T.places, .slice a1 T.ways.length c1, .slice a2 T.words.length c2, .slice a3 T.starts.length c3, .slice a4 T.legs.length c4] 27) = w4 at *
  generalize w1.heap.size = S at *
  refine wp_block ?_
  refine (wpIn_wide (n := 5)).1 ?_
  refine wpIn_range3 (gf := 106) (lb := #[.pointer (some ⟨S + 3, 0, none⟩)]) rfl (fun args w => by simp [go_sem]) (iter109 _ (S + 3) _ T a2 c2 OK.out) (fun k W0 W v r o h hr => h.put hr o)
    (fun k W => AllI w T a1 a2 a3 a4 c1 c2 c3 c4 S k W) (fun c W => c = .ret ∧ AllZ w T W) (by rw [hz4]; exact AllI.three hS2) (fun c => by rw [hz4]; exact AllZ.three hS2 c) (fun k W h => ⟨(box_cells h.box2).2.2.1, (HT.out.aft h.aft).words⟩) HI0.out
    (fun v => { tmps := #[.agg #[.int .i64 T.places, .slice a1 T.ways.length c1, .slice a2 T.words.length c2, .slice a3 T.starts.length c3, .slice a4 T.legs.length c4], .pointer (some ⟨w.heap.size, 0, none⟩), .pointer (some ⟨w.heap.size + 1, 0, none⟩), .pointer (some ⟨w.heap.size + 1 + 1, 0, none⟩), .int .i64 0, .pointer (some ⟨S + 1, 0, none⟩), .pointer (some ⟨S + 1 + 1, 0, none⟩), v, undef, undef, undef, undef, undef, .agg #[.int .i64 T.places, .slice a1 T.ways.length c1, .slice a2 T.words.length c2, .slice a3 T.starts.length c3, .slice a4 T.legs.length c4], .int .i64 0, .int .i64 0, .bool false, undef, .map (some S), .agg #[.int .i64 T.places, .slice a1 T.ways.length c1, .slice a2 T.words.length c2, .slice a3 T.starts.length c3, .slice a4 T.legs.length c4], .func (.func 106) #[] #[.pointer (some ⟨S + 3, 0, none⟩)], v, undef, undef, undef, undef, undef, undef, undef, undef, undef, undef, undef, undef, undef, undef, undef, undef, undef, undef, undef, undef, undef, undef, undef, undef, undef, undef, undef, undef, undef, undef, undef, undef], defers := [] }) ?assign ?body ?done ?stop
  case assign =>
    intro l v W K hK
    gi_wp2_with fail
    exact hK
  case body =>
    intro ll k v W0 W hk hI ha hB hv
    have hdl : (dig (lensOf T) k).length ≤ 6 := by rw [dig_len]; simp only [lensOf, List.length_map]; exact OK.out.nwords
    obtain ⟨AR, cR, rfl, _, hir⟩ := own_ints hv (by omega)
    have hTW := HT.out.aft (hI.aft.trans ha)
    have hro := readOk_iff.2 (dig_ok _ _ OK.out.lens hk)
    have HOP := Lib.hid (opened_any W T a1 a2 a3 a4 c1 c2 c3 c4 (dig (lensOf T) k) AR cR hTW hir OK.out hro)
    have hk' : k < (readingsL T).length := by rw [readingsL_len]; exact hk
    have hRK : (readingsL T).getD k [] = dig (lensOf T) k := by rw [List.getD_eq_getElem?_getD, List.getElem?_eq_getElem hk', Option.getD_some, readingsL_get]
    have hRM : dig (lensOf T) k ∈ readingsL T := by rw [← readingsL_get T hk']; exact List.getElem_mem hk'
    have HNX : Hid (∀ M L, M = (linesL T (leadsF T (dig (lensOf T) k))).take 201 → AMI T k M M.length L → L.length ≤ 200 → AMI T (k + 1) [] 0 L) := Lib.hid fun M L hM h hL => h.next OK.out (by rw [hRK]; exact hM) hL
    have HUN : Hid (∀ x ∈ (linesL T (leadsF T (dig (lensOf T) k))).take 201, x ∈ unionL T) := Lib.hid fun x hx => by
      unfold unionL
      exact List.mem_flatMap.2 ⟨_, hRM, List.mem_of_mem_take hx⟩
    have HLD : Hid (∀ w5 D, Aft W w5 → Desk w5 D T a1 a2 a3 a4 c1 c2 c3 c4 (leadsF T (dig (lensOf T) k)) → Calls Tryz.prog 56 #[.pointer (some ⟨D, 0, none⟩), .int .i64 201] w5 fun e w' => ∃ (M : List (List Int)) (mA : Option Addr) (mc : Nat) (bb : Bool) (vsM : List Value), M = (linesL T (leadsF T (dig (lensOf T) k))).take 201 ∧ e = .returned (.tuple #[.slice mA M.length mc, .bool bb]) ∧ Aft w5 w' ∧ OwnLs w' w5.heap.size (.slice mA M.length mc) vsM M) := Lib.hid fun w5 D h5 hd => (linesD_any w5 T a1 a2 a3 a4 c1 c2 c3 c4 _ D 201 hd (hTW.starts.aft h5) OK.out.starts OK.out.nlegs OK.out.p2 OK.out.p1 (by decide)).mono fun e w' ⟨ha6, vM, he, vsM, hls⟩ => by
      obtain ⟨mA, mc, hvM⟩ := own_slice2 hls.own
      subst hvM
      exact ⟨_, mA, mc, _, vsM, rfl, he, ha6, hls⟩
    have HII := Lib.hid hI
    have HAA := Lib.hid ha
    have hbW := hI.box.aft ha
    obtain ⟨k0, k1, k2, k3, k4⟩ := box_cells hbW
    have hltW := hbW.lt
    rw [hz4] at hB
    have hsW : S + 7 ≤ W.heap.size := by have := ha.size; omega
    clear hTW hro hI hv ha hir hbW hRK hRM hk' hmm
    generalize dig (lensOf T) k = R at *
    refine wpIn_block ?_
    refine wpIn_seq_k fun K1 H1 => ?_
    refine wpIn_region_of_list (by kernel_rfl) ?_
    go_wp2_with (first
      | (go_at_call 49; refine HOP.out.mono ?_; rintro e w5 ⟨D, cs, rfl, hD, ha5, hbD, hgD⟩; have hd5 := hgD.desk hbD; have HD5 := Lib.hid hd5; have HA5 := Lib.hid ha5; clear hbD hgD hd5 ha5 HOP)
      | (go_at_call 56; refine (HLD.out w5 D HA5.out HD5.out).mono ?_; rintro e w6 ⟨M, mA, mc, bb, vsM, hM, rfl, ha6, hls⟩; have HLS := Lib.hid hls; have HA6 := Lib.hid (HA5.out.trans ha6); have HMM := Lib.hid hM; clear hls ha6 hM))
    change K1 _ _
    refine H1 _ _ ?_
    clear H1
    have hbM : S + 7 ≤ w5.heap.size := by have := HA5.out.size; omega
    have hWM := HA5.out.size
    generalize w5.heap.size = bM at *
    have hM201 : M.length ≤ 201 := by rw [HMM.out, List.length_take]; omega
    rw [← HMM.out] at HUN
    clear k0 k1 k2 k3 k4 hltW HD5
    have HL0 : Hid (∃ L v, AllL w T a1 a2 a3 a4 c1 c2 c3 c4 S k bM M W w6 w6 0 L v) := Lib.hid (by
      obtain ⟨h1, h2, ⟨q3, h3⟩, ⟨q4, h4⟩, h5, h6, v, L, g1, g2, g3, g4⟩ := HII.out
      have ha := HAA.out.trans HA6.out
      refine ⟨L, v, ⟨Kept3.of_aft HA6.out (by omega), h1.trans ha, h2.aft ha, ⟨q3, h3.aft ha⟩, ⟨q4, h4.aft ha⟩, h5.aft ha, h6.aft ha, Nat.le_refl _⟩, RowsK.refl _ _, g1.aft ha, g2.aft ha, fun g hg => .inl ?_, g3.aft ha, g4.into M⟩
      have := (g2.ge g hg).2
      have := HAA.out.size
      omega)
    gi_wp2_with fail
    gi_loopw [31] (fun i wr => ∃ j L v, i = .int .i64 (Nat.cast j) ∧ j ≤ M.length ∧ AllL w T a1 a2 a3 a4 c1 c2 c3 c4 S k bM M W w6 wr j L v) (fun i _ => M.length - (intOf i).toNat)
    case atStart =>
      obtain ⟨L, v, h⟩ := HL0.out
      exact ⟨0, L, v, rfl, by omega, h⟩
    case round =>
      obtain ⟨j, L, v, rfl, hj, hal⟩ := hrel
      have HAL := Lib.hid hal
      by_cases hjm : j < M.length
      · have hun := HUN.out M[j] (List.getElem_mem hjm)
        have hN := unionL_n OK.out hun
        have hl1 : M[j].length ≤ 1000 := by have := hN.2.1; omega
        obtain ⟨g, cM, A, d, e, hg1, hg2, hcell, hint, hblk⟩ := HLS.out.row_at hjm hl1
        cases e
        have hcw : wr.cell? ⟨g, j, none⟩ = some (.slice A M[j].length d) := (World.cell?_of_block (hal.rows g hg1 hg2)).trans hcell
        have hgw : g < wr.heap.size := Nat.lt_of_lt_of_le hg2 hal.base.size
        have hiw : Ints wr A M[j] := ints_blocks hint hal.base.size (fun b o e => hal.rows b (hblk b o e).1 (hblk b o e).2)
        have HTO := Lib.hid (told_any wr M[j] A d hiw hN.1 hN.2.1 hN.2.2)
        have HMJ : Hid (M.getD j [] = M[j]) := Lib.hid (by rw [List.getD_eq_getElem?_getD, List.getElem?_eq_getElem hjm]; rfl)
        have HLOOK : Hid (∀ w7, Aft wr w7 → (Instr.lookup 104 (.map (some S)) (toldV M[j]) false).run Tryz.prog w7 = .ok (.bool (decide (M[j] ∈ L))) w7) := Lib.hid fun w7 h7 => (HAL.out.later hS2 hsW h7).set.look hN
        have HPUT : Hid (∀ w7, Aft wr w7 → ∃ w', (Instr.mapUpdate 104 (.map (some S)) (toldV M[j]) (.bool true)).run Tryz.prog w7 = .ok () w' ∧ SetM w' S (L.length + 1) (L ++ [M[j]]) ∧ w7.grownBy w' (some S)) := Lib.hid fun w7 h7 => (HAL.out.later hS2 hsW h7).set.put hN (by have := HAL.out.ami.few; omega)
        have HUNL := Lib.hid hun
        have HBLK := Lib.hid hblk
        have HIW := Lib.hid hiw
        have hll := hiw.len
        unfold toldV at HLOOK HPUT
        obtain ⟨s, hs⟩ : ∃ s, Value.string ⟨(toldL M[j]).toArray⟩ = Value.string s := ⟨_, rfl⟩
        rw [hs] at HTO HLOOK HPUT
        generalize M[j] = l at *
        have i1 : (0 : Int) ≤ (j : Int) ∧ (j : Int) < (M.length : Int) := by omega
        clear hun hN hl1 hint hblk hiw hcell hal hs
        have hdec : decide ((j : Int) < (M.length : Int)) = true := by simp; omega
        have HHW := Lib.hid hsW
        refine wpIn_seq_k fun K2 H2 => ?_
        refine wpIn_region_of_list (by kernel_rfl) ?_
        go_wp2_with fail
        change K2 _ _
        refine H2 _ _ ?_
        clear H2
        refine wpIn_seq_k fun K2 H2 => ?_
        refine wpIn_cond_true (by simp [Act.eval, hdec]) ?_
        refine wpIn_skip ?_
        change K2 _ _
        refine H2 _ _ ?_
        clear H2 hdec
        refine wpIn_seq_k fun K2 H2 => ?_
        refine wpIn_block ?_
        refine wpIn_seq_k fun K3 H3 => ?_
        refine wpIn_region_of_list (by kernel_rfl) ?_
        go_wp2_with fail
        change K3 _ _
        refine H3 _ _ ?_
        clear H3
        refine wpIn_seq_k fun K3 H3 => ?_
        refine wpIn_region_of_list (by kernel_rfl) ?_
        go_wp2_with (go_at_call 57; refine HTO.out.mono ?_; rintro e w7 ⟨rfl, ha7⟩; have HA7 := Lib.hid ha7; clear ha7)
        change K3 _ _
        refine H3 _ _ ?_
        clear H3 hcw hgw
        have hal7 := HAL.out.later hS2 hsW HA7.out
        have m7 : w7.cell? ⟨S + 1, 0, none⟩ = some (.map (some S)) := hal7.base.mapc.cell 0
        have hlt7 := hal7.base.mapc.lt
        have hlk := HLOOK.out w7 HA7.out
        have HAL7 := Lib.hid hal7
        clear hal7
        by_cases hm : l ∈ L
        · rw [decide_eq_true hm] at hlk
          refine wpIn_seq_k fun K3 H3 => ?_
          refine wpIn_region_of_list (by kernel_rfl) ?_
          go_wp2_with fail
          change K3 _ _
          refine H3 _ _ ?_
          clear H3
          refine wpIn_cond_false (by simp [Act.eval]) ?_
          refine wpIn_skip ?_
          change K2 _ _
          refine H2 _ _ ?_
          clear H2
          gi_wp2_with fail
          exact ⟨⟨j + 1, L, v, by go_num, by omega, HAL7.out.has HMJ.out hm⟩, by simp [intOf]; omega⟩
        · rw [decide_eq_false hm] at hlk
          obtain ⟨w8, hup, hset8, hg8⟩ := HPUT.out w7 HA7.out
          have HSET := Lib.hid hset8
          have HG8 := Lib.hid hg8
          refine wpIn_seq_k fun K3 H3 => ?_
          refine wpIn_region_of_list (by kernel_rfl) ?_
          go_wp2_with fail
          change K3 _ _
          refine H3 _ _ ?_
          clear H3 hlk
          refine wpIn_cond_true (by simp [Act.eval]) ?_
          refine wpIn_seq_k fun K3 H3 => ?_
          refine wpIn_region_of_list (by kernel_rfl) ?_
          go_wp2_with fail
          change K3 _ _
          refine H3 _ _ ?_
          clear H3 hup m7 hlt7 hset8 hg8
          have hb8 : Blk w8 (S + 2) 37 #[v] := HAL7.out.cell.grown HG8.out (fun e => by injection e with e; omega)
          have c8 : w8.cell? ⟨S + 2, 0, none⟩ = some v := hb8.cell 0
          have hlt8 := hb8.lt
          obtain ⟨vs, h1, h2⟩ := (HAL7.out.out.kept HG8.out (fun g e => by cases e; omega)).aft (Aft.alloc w8 (.cells #[.slice A l.length d] 24))
          have H1' := Lib.hid h1
          have H2' := Lib.hid h2
          have hsz8 := Nat.le_trans HAL7.out.base.kept.size HG8.out.size
          have hb9 := hb8.alloc (.cells #[.slice A l.length d] 24)
          have HB9 := Lib.hid hb9
          have hLn : L.length ≤ 1000000 := by have := HAL.out.ami.few; omega
          obtain ⟨vA, vc, rfl⟩ := HAL7.out.out.slice
          clear h1 h2 hb8 hb9
          refine wpIn_region_of_list (by kernel_rfl) ?_
          go_wp2_with (at_builtin; refine wpList_app1 ty41 rfl _ _ rfl (by simp; omega) rfl H1'.out rfl (Blk.new w8 24 #[.slice A l.length d]) rfl (fun u hu => by simp at hu; subst hu; rfl) hLn (by decide) ?_; intro v' w10 hown hg10 hat; obtain ⟨nA, nc, rfl⟩ := own_slice2 hown; have HOWN := Lib.hid hown; have HG10 := Lib.hid hg10; have HAT := Lib.hid hat; have hne : some (S + 2) ≠ (Value.slice vA L.length vc).ownBlock := (fun e => by have := (HAL7.out.out.ge _ e.symm).1; omega); have hb10 := HB9.out.grown hg10 hne; have t10 : w10.cell? ⟨S + 2, 0, none⟩ = some (.slice vA L.length vc) := hb10.cell 0; have f10 := hb10.frozen 0; have l10 := hb10.lt; clear hb10 hown hg10 hat)
          change K2 _ _
          refine H2 _ _ ?_
          clear H2 t10 f10 l10
          have hal8 := HAL7.out.push OK.out hS2 HHW.out hbM HMJ.out hm HUNL.out ((ints_grown (HIW.out.aft HA7.out) HG8.out (fun b o e h => by injection h with h; have := (HBLK.out b o e).1; omega)).aft (Aft.alloc _ _)) HBLK.out HSET.out HG8.out H1'.out H2'.out HOWN.out HG10.out HAT.out
          gi_wp2_with fail
          exact ⟨⟨j + 1, L ++ [l], _, by go_num, by omega, hal8⟩, by simp [intOf]; omega⟩
      · obtain rfl : j = M.length := by omega
        have hdec : decide ((M.length : Int) < (M.length : Int)) = false := by simp
        have hcell : wr.cell? ⟨S + 2, 0, none⟩ = some v := hal.cell.cell 0
        have hlt := hal.cell.lt
        obtain ⟨vA, vc, rfl⟩ := hal.out.slice
        have hfew := hal.ami.few
        clear hal
        by_cases h200 : 200 < L.length
        · have hd2 : decide ((200 : Int) < (L.length : Int)) = true := by simp; omega
          obtain ⟨v4, h4⟩ := HAL.out.base.r2
          obtain ⟨v5, h5⟩ := HAL.out.base.r3
          have q4 : wr.cell? ⟨w.heap.size + 1, 0, none⟩ = some v4 := h4.cell 0
          have q5 : wr.cell? ⟨w.heap.size + 1 + 1, 0, none⟩ = some v5 := h5.cell 0
          have z4 : wr.frozen? ⟨w.heap.size + 1, 0, none⟩ = false := h4.frozen 0
          have z5 : wr.frozen? ⟨w.heap.size + 1 + 1, 0, none⟩ = false := h5.frozen 0
          have l4 := h4.lt
          have l5 := h5.lt
          have HG4 := Lib.hid h4
          have HG5 := Lib.hid h5
          clear h4 h5
          gi_wp2_with fail
          change Kept3 w4.heap.size W ((wr.setCell ⟨w.heap.size + 1, 0, none⟩ (.slice none 0 0)).setCell ⟨w.heap.size + 2, 0, none⟩ (.int .i64 11)) ∧ Code.ret = .ret ∧ AllZ w T ((wr.setCell ⟨w.heap.size + 1, 0, none⟩ (.slice none 0 0)).setCell ⟨w.heap.size + 2, 0, none⟩ (.int .i64 11))
          rw [hz4]
          refine ⟨(HAL.out.base.kept.setCell (.inl (by show w.heap.size + 1 < S + 4; omega)) _).setCell (.inl (by show w.heap.size + 2 < S + 4; omega)) _, rfl, (HAL.out.base.aft.then_setCell (p := ⟨w.heap.size + 1, 0, none⟩) (by show w.heap.size ≤ w.heap.size + 1; omega) _).then_setCell (p := ⟨w.heap.size + 2, 0, none⟩) (by show w.heap.size ≤ w.heap.size + 2; omega) _, ?_, (HG4.out.store 0 _).far (by show w.heap.size + 1 ≠ w.heap.size + 2; omega) _, (HG5.out.far (by show w.heap.size + 2 ≠ w.heap.size + 1; omega) _).store 0 _⟩
          have := HAL.out.ami.nd.length_le_of_subset fun y hy => ((allL_spec T).2 y).2 (HAL.out.ami.sub y hy)
          omega
        · have hd2 : decide ((200 : Int) < (L.length : Int)) = false := by simp; omega
          have hq := HNX.out M L HMM.out HAL.out.ami (by omega)
          have HQ := Lib.hid hq
          clear hq
          gi_wp2_with fail
          change Kept3 w4.heap.size W wr ∧ AllI w T a1 a2 a3 a4 c1 c2 c3 c4 S (k + 1) wr
          rw [hz4]
          exact ⟨HAL.out.base.kept, HAL.out.base.aft, HAL.out.base.box, HAL.out.base.r2, HAL.out.base.r3, HAL.out.base.mapc, HAL.out.base.box2, _, L, HAL.out.cell, HAL.out.out, HAL.out.set, HQ.out⟩
  case done =>
    intro D W hD hI hK
    have hDz : D = S + 4 := by omega
    have hDW : D < W.heap.size := (Array.getElem?_eq_some_iff.1 hK).1
    obtain ⟨h1, h2, ⟨q3, h3⟩, ⟨q4, h4⟩, h5, h6, v, L, g1, g2, g3, g4⟩ := hI
    obtain ⟨vA, vc, rfl⟩ := g2.slice
    rw [← readingsL_len] at g4
    have hLE := @unionL_len T
    have hL200 : L.length ≤ 1000 := by have := g4.few; omega
    have HSR := Lib.hid (sortB W (S + 7) g2 hL200 (fun x hx => hLE x (g4.sub x hx)) g4.nd)
    have HFI : Hid (∀ L' X, L'.Perm L → SortedL L' → ListsF w.heap.size X vA L' → Aft w X → AllF w T (.returned (.tuple #[.slice vA L.length vc, .int .i64 0])) X) := Lib.hid fun L' X hp hs hl ha => by
      have e := g4.all hp hs
      have e0 : L'.length = L.length := hp.length_eq
      have e2 : allE T = 0 := by
        unfold allE
        rw [if_pos HC.out, e, e0, if_pos (by have := g4.few; omega)]
      have e3 : allX T = L' := by unfold allX; rw [if_pos e2, e]
      unfold AllF
      rw [e3, e2, e0]
      exact ⟨ha, vA, vc, rfl, hl⟩
    have c1 : W.cell? ⟨S + 2, 0, none⟩ = some (.slice vA L.length vc) := g1.cell 0
    have l1 := g1.lt
    have HG1 := Lib.hid g1
    have HH1 := Lib.hid h1
    have HH3 := Lib.hid h3
    have HH4 := Lib.hid h4
    have HKD := Lib.hid hK
    clear h1 h2 h3 h4 h5 h6 g1 g2 g3 g4 hLE hK
    go_wp2_with (go_at_call 58; refine HSR.out.mono ?_; rintro e X ⟨rfl, row, L', hgr, hrow, hperm, hsrt, hli⟩; have b1 := HG1.out.grown hgr (fun e => by have := hrow _ e.symm; omega); have b3 := HH3.out.grown hgr (fun e => by have := hrow _ e.symm; omega); have b4 := HH4.out.grown hgr (fun e => by have := hrow _ e.symm; omega); have x1 : X.cell? ⟨S + 2, 0, none⟩ = some (.slice vA L.length vc) := b1.cell 0; have m1 := b1.lt; have x3 : X.cell? ⟨w.heap.size + 1, 0, none⟩ = some q3 := b3.cell 0; have x4 : X.cell? ⟨w.heap.size + 1 + 1, 0, none⟩ = some q4 := b4.cell 0; have z3 := b3.frozen 0; have z4 : X.frozen? ⟨w.heap.size + 1 + 1, 0, none⟩ = false := b4.frozen 0; have m3 := b3.lt; have m4 : w.heap.size + 1 + 1 < X.heap.size := b4.lt; have HB3 := Lib.hid b3; have HB4 := Lib.hid b4; have HGR := Lib.hid hgr; have HPE := Lib.hid hperm; have HSO := Lib.hid hsrt; have HLI := Lib.hid hli; clear b1 b3 b4 hgr hperm hsrt hli)
    subst hDz
    clear x1 x3 x4 z3 z4 c1
    have hrS : ∀ k, k < S + 7 → some k ≠ row := fun k hk e => by have := hrow _ e.symm; omega
    have HKX : Hid (((X.setCell ⟨w.heap.size + 1, 0, none⟩ (.slice vA L.length vc)).setCell ⟨w.heap.size + 1 + 1, 0, none⟩ (.int .i64 0)).heap[S + 4]? = some (.deferred (some []))) := Lib.hid (by
      rw [Below.heap_setCell _ _ _ _ (by show S + 4 ≠ w.heap.size + 1 + 1; omega), Below.heap_setCell _ _ _ _ (by show S + 4 ≠ w.heap.size + 1; omega)]
      exact (HGR.out.block (S + 4) hDW (hrS _ (by omega))).trans HKD.out)
    have hb3 := (HB3.out.store 0 (.slice vA L.length vc)).far (p := ⟨w.heap.size + 1 + 1, 0, none⟩) (by show w.heap.size + 1 ≠ w.heap.size + 1 + 1; omega) (.int .i64 0)
    have hb4 := (HB4.out.far (p := ⟨w.heap.size + 1, 0, none⟩) (by show w.heap.size + 2 ≠ w.heap.size + 1; omega) (.slice vA L.length vc)).store 0 (.int .i64 0)
    have hgA := grownBy_setCell' X (w.heap.size + 1) (.slice vA L.length vc)
    have hgB := grownBy_setCell' (X.setCell ⟨w.heap.size + 1, 0, none⟩ (.slice vA L.length vc)) (w.heap.size + 1 + 1) (.int .i64 0)
    have haX := ((HH1.out.grown HGR.out (fun k e => by have := hrow k e; omega)).grown hgA (fun k e => by cases e; omega)).grown hgB (fun k e => by cases e; omega)
    have hsA := hgA.size
    have hsB := hgB.size
    have hX2 : ∀ b, S + 7 ≤ b → b < X.heap.size → ((X.setCell ⟨w.heap.size + 1, 0, none⟩ (.slice vA L.length vc)).setCell ⟨w.heap.size + 1 + 1, 0, none⟩ (.int .i64 0)).heap[b]? = X.heap[b]? := fun b h1 h2 =>
      (hgB.block b (by omega) (fun e => by injection e with e; omega)).trans (hgA.block b h2 (fun e => by injection e with e; omega))
    generalize (X.setCell ⟨w.heap.size + 1, 0, none⟩ (.slice vA L.length vc)) = XA at *
    generalize (XA.setCell ⟨w.heap.size + 1 + 1, 0, none⟩ (.int .i64 0)) = XB at *
    have hgC := grownBy_putObj' XB (S + 4) (.deferred none)
    have y4 := (hb3.grown hgC (fun e => by injection e with e; omega)).cell 0
    have y5 := (hb4.grown hgC (fun e => by injection e with e; omega)).cell 0
    have hli : ListsF w.heap.size (XB.putObj (S + 4) (.deferred none)) vA L' := fun X' h hs => HLI.out X' (fun b h1 h2 => (h b (by omega) (by have := hgC.size; omega)).trans ((hgC.block b (by omega) (fun e => by injection e with e; omega)).trans (hX2 b h1 h2))) (by have := hgC.size; omega)
    have hall := HFI.out L' _ HPE.out HSO.out hli (haX.grown hgC (fun k e => by cases e; omega))
    refine ⟨by simp, .inl ⟨_, _, rfl, run_takeDeferred HKX.out, ?_⟩⟩
    refine ⟨.tuple #[.slice vA L.length vc, .int .i64 0], ?_, hall⟩
    generalize (XB.putObj (S + 4) (.deferred none)) = Y at *
    have y4' : Y.cell? ⟨w.heap.size + 1, 0, none⟩ = some (.slice vA L.length vc) := y4
    have y5' : Y.cell? ⟨w.heap.size + 1 + 1, 0, none⟩ = some (.int .i64 0) := y5
    simp [results, Tryz.results15, go_sem, y4', y5']
  case stop =>
    rintro D c W hD ⟨rfl, hX⟩ hK
    have hDz : D = S + 4 := by omega
    refine wpIn_ret ?_
    obtain ⟨ha, h1, h2, h3⟩ := hX
    have hAX := ha.grown (grownBy_putObj' W D (.deferred none)) (fun k e => by cases e; omega)
    have y4 := (h2.grown (grownBy_putObj' W D (.deferred none)) (fun e => by cases e; omega)).cell 0
    have y5 := (h3.grown (grownBy_putObj' W D (.deferred none)) (fun e => by cases e; omega)).cell 0
    have hE : allE T = 11 := by unfold allE; rw [if_pos HC.out, if_neg (by omega)]
    refine ⟨by simp, .inl ⟨_, _, rfl, run_takeDeferred hK, ?_⟩⟩
    refine ⟨.tuple #[.slice none 0 0, .int .i64 11], ?_, allF_err hE (by decide) rfl hAX⟩
    generalize (W.putObj D (.deferred none)) = X at *
    have y4' : X.cell? ⟨w.heap.size + 1, 0, none⟩ = some (.slice none 0 0) := y4
    have y5' : X.cell? ⟨w.heap.size + 1 + 1, 0, none⟩ = some (.int .i64 11) := y5
    simp [results, Tryz.results15, go_sem, y4', y5']
theorem allTopF_any (w : World) (T : Treaty) (a1 a2 a3 a4 : Option Addr) (c1 c2 c3 c4 : Nat) (hT : TRep w T a1 a2 a3 a4) : Calls Tryz.prog 15 #[.agg #[.int .i64 T.places, .slice a1 T.ways.length c1, .slice a2 T.words.length c2, .slice a3 T.starts.length c3, .slice a4 T.legs.length c4]] w (AllF w T) := by
  by_cases hc : checkE T = 0
  · exact all_good w T a1 a2 a3 a4 c1 c2 c3 c4 hT hc
  · exact all_bad w T a1 a2 a3 a4 c1 c2 c3 c4 hT hc
end Go.Proofs
end

section
/- Walks: whether all lists are among others. -/
namespace Go.Proofs
open Go.RowKit

theorem containsFunc_lists {α : Type} (R : World → α → List Value → Prop) (K : FuncId) (cap : List Value) (p : α → Bool) (A : Option Addr) (l : List α) (c : Nat) (w : World) (hA : RowsP w A 1 R l)
    (hK : ∀ args w, (callFunc K args).run Tryz.prog w = .ok (.enter K args) w)
    (hp : ∀ x ∈ l, ∀ v0, R w x [v0] → Asks Tryz.prog K cap w v0 (p x)) :
    Calls Tryz.prog 25 #[.slice A l.length c, .func (.func K) #[] cap.toArray] w fun e w' => e = .returned (.bool (l.any p)) ∧ Aft w w' := by
  have HC := Lib.hid (indexFunc_lists R K cap p A l c w hA hK hp)
  go_enter Tryz.func25, Tryz.ntmps25
  go_wp2_with (go_at_call 70; refine HC.out.mono ?_; rintro e w' ⟨hr, ha⟩; obtain ⟨n, rfl, hn⟩ := hr.sign; clear hr; have HN := Lib.hid hn; clear hn)
  go_ret
  exact ⟨ret_bool (by have := HN.out; cases h : l.any p <;> simp_all), ha⟩




end Go.Proofs
end

section
/- The law TreatyListed: what its calls answer, in plain words; its closures. -/
namespace Go.Proofs
open Go.RowKit

theorem breaks_line {T : Treaty} {R l : List Int} (ok : TOk T) (hr : readE T R = 0) (h : l ∈ linesL T (leadsF T R)) : breaksE T R l = 0 ∧ brkX T R l = [] := by
  obtain ⟨h1, h2, h3⟩ := (mem_linesL ok.starts).1 h
  have e : breaksE T R l = 0 := by unfold breaksE; rw [if_pos hr, if_pos h1, if_pos h2]
  refine ⟨e, ?_⟩
  unfold brkX
  rw [if_pos e]
  unfold brkTo
  rw [List.map_eq_nil_iff, List.filter_eq_nil_iff]
  intro i hi
  unfold keepsTo at h3
  have := List.all_eq_true.1 h3 i hi
  simpa using this
theorem agrees_all {T : Treaty} {l : List Int} (ok : TOk T) (hc : checkE T = 0) (h : l ∈ allL T) : agrE T l = 0 ∧ ∃ R, agrX T l = R ∧ readE T R = 0 ∧ R ∈ readingsL T ∧ l ∈ linesL T (leadsF T R) := by
  have hu := ((allL_spec T).2 l).1 h
  unfold unionL at hu
  obtain ⟨R0, hR0, hl⟩ := List.mem_flatMap.1 hu
  obtain ⟨h1, h2, h3⟩ := (mem_linesL ok.starts).1 hl
  have hk0 : keepsR T l R0 = true := h3
  cases hf : agreesF T l with
  | none =>
    unfold agreesF at hf
    have := List.find?_eq_none.1 hf R0 hR0
    exact absurd hk0 (by simpa using this)
  | some R =>
    have hf' := hf
    unfold agreesF at hf'
    have hm := List.mem_of_find?_eq_some hf'
    have hk : keepsR T l R = true := List.find?_some hf'
    have e : agrE T l = 0 := by unfold agrE; rw [if_pos hc, if_pos h1, if_pos h2, hf]
    exact ⟨e, R, by unfold agrX; rw [if_pos e, hf]; rfl, readE_zero.2 ⟨hc, (mem_readings ok).1 hm⟩, hm, (mem_linesL ok.starts).2 ⟨h1, h2, hk⟩⟩
theorem allE_two {T : Treaty} (hc : checkE T = 0) : allE T = 0 ∨ allE T = 11 := by
  unfold allE
  rw [if_pos hc]
  split
  · exact .inl rfl
  · exact .inr rfl
theorem allX_zero {T : Treaty} (h : allE T = 0) : allX T = allL T := by unfold allX; rw [if_pos h]
theorem cmpB_lt {x y : List Int} (h : lexB x y = true) : cmpB x y = -1 := by unfold cmpB; rw [if_pos h]
theorem any_mem {L : List (List Int)} {l : List Int} (h : l ∈ L) : (L.any fun y => eqB y l) = true := List.any_eq_true.2 ⟨l, h, eqB_self l⟩

/-- What the law's calls of All, Lines, Breaks, Agrees answer. -/
theorem breaksZ_any (w : World) (T : Treaty) (a1 a2 a3 a4 : Option Addr) (c1 c2 c3 c4 : Nat) (R : List Int) (AR : Option Addr) (cR : Nat) (l : List Int) (Al : Option Addr) (cl : Nat) (hT : TRep w T a1 a2 a3 a4) (hR : Ints w AR R) (hA : Ints w Al l) (hc : checkE T = 0) (hr : readE T R = 0) (h : l ∈ linesL T (leadsF T R)) :
    Calls Tryz.prog 24 #[.agg #[.int .i64 T.places, .slice a1 T.ways.length c1, .slice a2 T.words.length c2, .slice a3 T.starts.length c3, .slice a4 T.legs.length c4], .slice AR R.length cR, .slice Al l.length cl] w fun e w' => (∃ A c, e = .returned (.tuple #[.slice A 0 c, .int .i64 0])) ∧ Aft w w' := by
  have ok := checkE_ok hc
  have hn := ok.nlegs
  refine (breaks_any w T a1 a2 a3 a4 c1 c2 c3 c4 R AR cR l Al cl hT hR hA).mono fun e w' h' => ?_
  obtain ⟨h1, h2⟩ := breaks_line ok hr h
  obtain ⟨ha, A, c, he, -⟩ := breaksR_uni (by omega) h'
  rw [h1, h2] at he
  exact ⟨⟨A, c, he⟩, ha⟩
theorem agreesZ_any (w : World) (T : Treaty) (a1 a2 a3 a4 : Option Addr) (c1 c2 c3 c4 : Nat) (l : List Int) (Al : Option Addr) (cl : Nat) (hT : TRep w T a1 a2 a3 a4) (hA : Ints w Al l) (hw : T.words.length ≤ 1000) : Calls Tryz.prog 23 #[.agg #[.int .i64 T.places, .slice a1 T.ways.length c1, .slice a2 T.words.length c2, .slice a3 T.starts.length c3, .slice a4 T.legs.length c4], .slice Al l.length cl] w fun e w' => ∃ A c, e = .returned (.tuple #[.slice A (agrX T l).length c, .int .i64 (agrE T l)]) ∧ Ints w' A (agrX T l) ∧ Aft w w' :=
  (agrees_uni (c1 := c1) (c2 := c2) (c3 := c3) (c4 := c4) w l Al cl hT hA hw).mono fun e w' ⟨ha, A, c, he, hl⟩ => ⟨A, c, he, hl, ha⟩
end Go.Proofs
end

section
/- The law TreatyAgreed: its plain part. -/
namespace Go.Proofs
open Go

theorem dig_lex : ∀ (ns : List Nat) (k k' : Nat), k < k' → k' < prodN ns → lexB (dig ns k) (dig ns k') = true
  | [], k, k', h, h' => by
    have : prodN [] = 1 := rfl
    omega
  | n :: ns, k, k', h, h' => by
    have hp : 0 < prodN ns := by
      rcases Nat.eq_zero_or_pos (prodN ns) with h0 | h0
      · have e : prodN (n :: ns) = n * prodN ns := rfl
        rw [e, h0, Nat.mul_zero] at h'
        omega
      · exact h0
    show (if ((k / prodN ns : Nat) : Int) = ((k' / prodN ns : Nat) : Int) then lexB (dig ns (k % prodN ns)) (dig ns (k' % prodN ns)) else decide (((k / prodN ns : Nat) : Int) < ((k' / prodN ns : Nat) : Int))) = true
    by_cases e : k / prodN ns = k' / prodN ns
    · rw [if_pos (by rw [e])]
      refine dig_lex ns _ _ ?_ (Nat.mod_lt _ hp)
      have h1 := Nat.div_add_mod k (prodN ns)
      have h2 := Nat.div_add_mod k' (prodN ns)
      rw [e] at h1
      omega
    · rw [if_neg (by intro h; exact e (by exact_mod_cast h))]
      have := Nat.div_le_div_right (c := prodN ns) (Nat.le_of_lt h)
      exact decide_eq_true (by omega)
theorem readingsL_sorted (T : Treaty) : SortedL (readingsL T) := by
  unfold readingsL SortedL
  rw [List.pairwise_map]
  exact List.Pairwise.imp_of_mem (fun {a b} _ hb hab => dig_lex _ _ _ hab (List.mem_range.1 hb)) List.pairwise_lt_range
theorem redX_filter {T : Treaty} (hc : checkE T = 0) : redX T = (readingsL T).filter fun R => opens T (leadsF T R) := by
  unfold redX readK
  rw [if_pos hc, List.take_of_length_le (by rw [readingsL_len]; omega)]
theorem mem_redX {T : Treaty} (hc : checkE T = 0) {R : List Int} : R ∈ redX T ↔ R ∈ readingsL T ∧ linesL T (leadsF T R) ≠ [] := by
  rw [redX_filter hc, List.mem_filter]
  have h := @opens_lines T (leadsF T R)
  refine and_congr_right fun _ => ?_
  rw [Ne, ← h]
  simp
theorem brkTo_ne {f : Nat → Nat → Nat → Bool} {l : List Int} {k : Nat} (h : keepsTo f l k = false) : (brkTo f l k).length ≠ 0 := by
  unfold keepsTo at h
  rw [List.all_eq_false] at h
  obtain ⟨i, hi, h⟩ := h
  intro e
  have e' := List.eq_nil_of_length_eq_zero e
  unfold brkTo at e'
  rw [List.map_eq_nil_iff, List.filter_eq_nil_iff] at e'
  have := e' i hi
  simp_all
/-- The first reading in which a line agrees. -/
theorem agrees_fst {T : Treaty} {l : List Int} (ok : TOk T) (hc : checkE T = 0) (h : l ∈ allL T) : agreesF T l = some (agrX T l) := by
  obtain ⟨e, R, hR, -⟩ := agrees_all ok hc h
  cases hf : agreesF T l with
  | none =>
    have hu := ((allL_spec T).2 l).1 h
    unfold unionL at hu
    obtain ⟨R0, hR0, hl⟩ := List.mem_flatMap.1 hu
    obtain ⟨h1, h2, h3⟩ := (mem_linesL ok.starts).1 hl
    unfold agreesF at hf
    have := List.find?_eq_none.1 hf R0 hR0
    exact absurd (show keepsR T l R0 = true from h3) (by simpa using this)
  | some R' => unfold agrX; rw [if_pos e, hf]; rfl
theorem first_in {T : Treaty} {l : List Int} (ok : TOk T) (hc : checkE T = 0) (h : l ∈ allL T) : agrX T l ∈ redX T := by
  obtain ⟨_, R, hR, -, hm, hl⟩ := agrees_all ok hc h
  rw [hR]
  exact (mem_redX hc).2 ⟨hm, fun e => by rw [e] at hl; cases hl⟩
/-- A reading ahead of it is broken. -/
theorem first_breaks {T : Treaty} {l r : List Int} (ok : TOk T) (hc : checkE T = 0) (h : l ∈ allL T) (hr : r ∈ redX T) (hlt : lexB r (agrX T l) = true) : breaksE T r l = 0 ∧ (brkX T r l).length ≠ 0 := by
  have hrm := ((mem_redX hc).1 hr).1
  have hf := agrees_fst ok hc h
  unfold agreesF at hf
  obtain ⟨-, xs, ys, e, hall⟩ := List.find?_eq_some_iff_append.1 hf
  have hk : keepsR T l r = false := by
    have hs := readingsL_sorted T
    rw [e] at hrm hs
    rcases List.mem_append.1 hrm with h1 | h1
    · have := hall r h1
      simpa using this
    · rcases List.mem_cons.1 h1 with h1 | h1
      · rw [h1, lexB_irrefl] at hlt; cases hlt
      · have := (List.pairwise_cons.1 (List.pairwise_append.1 hs).2.1).1 r h1
        rw [lexB_asymm this] at hlt; cases hlt
  have hu := ((allL_spec T).2 l).1 h
  unfold unionL at hu
  obtain ⟨R0, hR0, hl⟩ := List.mem_flatMap.1 hu
  obtain ⟨h1, h2, -⟩ := (mem_linesL ok.starts).1 hl
  have hre : readE T r = 0 := readE_zero.2 ⟨hc, (mem_readings ok).1 ((mem_redX hc).1 hr).1⟩
  have hb : breaksE T r l = 0 := by unfold breaksE; rw [if_pos hre, if_pos h1, if_pos h2]
  refine ⟨hb, ?_⟩
  unfold brkX
  rw [if_pos hb]
  exact brkTo_ne hk
theorem all_readings {T : Treaty} (hc : checkE T = 0) : allL T = [] ↔ redX T = [] := by
  constructor
  · intro h
    rw [List.eq_nil_iff_forall_not_mem]
    intro R hR
    obtain ⟨h1, h2⟩ := (mem_redX hc).1 hR
    obtain ⟨l, hl⟩ := List.exists_mem_of_ne_nil _ h2
    have : l ∈ allL T := ((allL_spec T).2 l).2 (List.mem_flatMap.2 ⟨R, h1, hl⟩)
    rw [h] at this
    cases this
  · intro h
    rw [List.eq_nil_iff_forall_not_mem]
    intro l hl
    have hu := ((allL_spec T).2 l).1 hl
    unfold unionL at hu
    obtain ⟨R, hR, hm⟩ := List.mem_flatMap.1 hu
    have : R ∈ redX T := (mem_redX hc).2 ⟨hR, fun e => by rw [e] at hm; cases hm⟩
    rw [h] at this
    cases this
/-- A line that is tried agrees just if it is listed. -/
theorem agr_listed {T : Treaty} {l : List Int} (ok : TOk T) (hc : checkE T = 0) (h1 : linedB T l = true) (h2 : hasB T.starts (l.getD 0 0) = true) : (l ∈ allL T ∧ agrE T l = 0) ∨ (l ∉ allL T ∧ agrE T l = 7) := by
  cases hf : agreesF T l with
  | none =>
    have e := agrE_seven hc h1 (.inr hf)
    exact .inr ⟨(fun h => by rw [(agrees_all ok hc h).1] at e; cases e), e⟩
  | some R =>
    have hf' := hf
    unfold agreesF at hf'
    refine .inl ⟨((allL_spec T).2 l).2 (List.mem_flatMap.2 ⟨R, List.mem_of_find?_eq_some hf', (mem_linesL ok.starts).2 ⟨h1, h2, show keepsR T l R = true from List.find?_some hf'⟩⟩), ?_⟩
    unfold agrE
    rw [if_pos hc, if_pos h1, if_pos h2, hf]
theorem any_listed (L : List (List Int)) (l : List Int) : (L.any fun y => eqB y l) = decide (l ∈ L) := by
  rw [Bool.eq_iff_iff, List.any_eq_true, decide_eq_true_iff]
  constructor
  · rintro ⟨y, hy, e⟩
    have : y = l := of_decide_eq_true e
    rw [← this]; exact hy
  · exact fun h => ⟨l, h, eqB_self l⟩
end Go.Proofs
end
