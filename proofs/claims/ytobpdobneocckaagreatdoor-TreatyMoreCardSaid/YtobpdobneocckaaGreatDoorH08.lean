/- Own texts, merged: Yld WkT Xe Lpv Pvr Rgh EInv WkU. -/
import Derived.Test.YtobpdobneocckaaGreatDoorH06
import Derived.Test.YtobpdobneocckaaGreatDoorH07
set_option linter.unusedSimpArgs false
set_option linter.unusedVariables false
section
/- Plain: floors, and the legs that yield along a line that breaks fewest. -/
namespace Go.Proofs

def brk (f : Nat → Nat → Nat → Bool) (i a b : Nat) : Int := if f i a b then 0 else 1
theorem brk_bd (f : Nat → Nat → Nat → Bool) (i a b : Nat) : 0 ≤ brk f i a b ∧ brk f i a b ≤ 1 := by unfold brk; split <;> omega

theorem flo_succ (T : Treaty) (f : Nat → Nat → Nat → Bool) (leg b : Nat) : flo T f (leg + 1) b = floStep T f leg b T.places.toNat := rfl
theorem floStep_le_at (T : Treaty) (f : Nat → Nat → Nat → Bool) (leg b : Nat) {k a : Nat} (h : a < k) : floStep T f leg b k ≤ flo T f leg a + brk f leg a b := by
  induction k with
  | zero => omega
  | succ k ih =>
    rw [floStep_succ]
    by_cases e : a = k
    · subst e; exact Int.min_le_right _ _
    · exact Int.le_trans (Int.min_le_left _ _) (ih (by omega))
theorem floStep_get (T : Treaty) (f : Nat → Nat → Nat → Bool) (leg b k : Nat) : floStep T f leg b k = 11 ∨ ∃ a, a < k ∧ floStep T f leg b k = flo T f leg a + brk f leg a b := by
  induction k with
  | zero => exact .inl rfl
  | succ k ih =>
    rw [floStep_succ]
    by_cases e : floStep T f leg b k ≤ flo T f leg k + (if f leg k b then 0 else 1)
    · rw [Int.min_eq_left e]
      exact ih.imp id fun ⟨a, h1, h2⟩ => ⟨a, by omega, h2⟩
    · rw [Int.min_eq_right (by omega)]
      exact .inr ⟨k, by omega, rfl⟩
theorem flo_le_at (T : Treaty) (f : Nat → Nat → Nat → Bool) (leg b : Nat) {a : Nat} (h : a < T.places.toNat) : flo T f (leg + 1) b ≤ flo T f leg a + brk f leg a b := floStep_le_at T f leg b h

/-- A treaty's line can begin somewhere. -/
def HasStart (T : Treaty) : Prop := ∃ s : Nat, s < T.places.toNat ∧ hasB T.starts s = true
theorem TOk.start {T : Treaty} (h : TOk T) : HasStart T := by
  have h1 := h.nstarts
  have h2 := h.starts (T.starts[0]'(by omega)) (List.getElem_mem _)
  refine ⟨(T.starts[0]'(by omega)).toNat, by omega, ?_⟩
  rw [hasB_iff, Int.toNat_of_nonneg h2.1]
  exact List.getElem_mem _

theorem flo_small {T : Treaty} (hs : HasStart T) (f : Nat → Nat → Nat → Bool) (leg : Nat) : ∃ a, a < T.places.toNat ∧ flo T f leg a ≤ leg := by
  obtain ⟨s, h1, h2⟩ := hs
  induction leg with
  | zero => exact ⟨s, h1, by unfold flo; rw [h2]; exact Int.le_refl _⟩
  | succ leg ih =>
    obtain ⟨a, h3, h4⟩ := ih
    refine ⟨s, h1, ?_⟩
    have := flo_le_at T f leg s h3
    have := brk_bd f leg a s
    omega
theorem flo_le {T : Treaty} (hs : HasStart T) (f : Nat → Nat → Nat → Bool) (leg b : Nat) : flo T f (leg + 1) b ≤ leg + 1 := by
  obtain ⟨a, h3, h4⟩ := flo_small hs f leg
  have := flo_le_at T f leg b h3
  have := brk_bd f leg a b
  omega
theorem flo_get {T : Treaty} (hs : HasStart T) (f : Nat → Nat → Nat → Bool) (leg b : Nat) (hl : leg < 10) : ∃ a, a < T.places.toNat ∧ flo T f (leg + 1) b = flo T f leg a + brk f leg a b := by
  have := flo_le hs f leg b
  rcases floStep_get T f leg b T.places.toNat with h | h
  · rw [flo_succ, h] at this; omega
  · exact h

/-- the first place from which the floor comes -/
def pre (T : Treaty) (f : Nat → Nat → Nat → Bool) (leg b : Nat) : Nat := (List.range T.places.toNat).findIdx fun a => decide (flo T f leg a + brk f leg a b = flo T f (leg + 1) b)
theorem pre_spec {T : Treaty} (hs : HasStart T) (f : Nat → Nat → Nat → Bool) {leg : Nat} (b : Nat) (hl : leg < 10) :
    pre T f leg b < T.places.toNat ∧ flo T f leg (pre T f leg b) + brk f leg (pre T f leg b) b = flo T f (leg + 1) b ∧ ∀ a, a < pre T f leg b → flo T f leg a + brk f leg a b ≠ flo T f (leg + 1) b := by
  obtain ⟨a, h1, h2⟩ := flo_get hs f leg b hl
  have hlt : (List.range T.places.toNat).findIdx (fun a => decide (flo T f leg a + brk f leg a b = flo T f (leg + 1) b)) < (List.range T.places.toNat).length := List.findIdx_lt_length.2 ⟨a, List.mem_range.2 h1, decide_eq_true h2.symm⟩
  have hge := List.findIdx_getElem (w := hlt)
  unfold pre
  refine ⟨by simpa using hlt, ?_, fun a' h => ?_⟩
  · simpa using hge
  · have hn := List.not_of_lt_findIdx (show a' < (List.range T.places.toNat).findIdx fun a => decide (flo T f leg a + brk f leg a b = flo T f (leg + 1) b) from h)
    simpa using hn

/-- the legs that yield, from one on down -/
def yl (T : Treaty) (f : Nat → Nat → Nat → Bool) : Nat → Nat → List Int
  | 0, _ => []
  | leg + 1, b => (if f leg (pre T f leg b) b then [] else [(leg : Int)]) ++ yl T f leg (pre T f leg b)
theorem yl_le (T : Treaty) (f : Nat → Nat → Nat → Bool) (leg b : Nat) : (yl T f leg b).length ≤ leg := by
  induction leg generalizing b with
  | zero => exact Nat.le_refl _
  | succ leg ih =>
    unfold yl
    have := ih (pre T f leg b)
    split <;> simp <;> omega
/-- where the least floor is behind all legs -/
def lastAt (T : Treaty) (f : Nat → Nat → Nat → Bool) : Nat := argmin (flo T f T.legs.length) T.places.toNat
def yieldL (T : Treaty) (f : Nat → Nat → Nat → Bool) : List Int := (yl T f T.legs.length (lastAt T f)).reverse

theorem argmin_congr {g g' : Nat → Int} {k : Nat} (h : ∀ j, j < k → g j = g' j) (_h0 : 0 < k → g 0 = g' 0) : ∀ m, m ≤ k → argmin g m = argmin g' m := by
  intro m hm
  induction m with
  | zero => rfl
  | succ m ih =>
    have e := ih (by omega)
    have hlt := argmin_lt g' m k (by omega) (by omega)
    unfold argmin
    rw [e, h m (by omega), h _ hlt]

theorem yl_len {T : Treaty} (hs : HasStart T) (f : Nat → Nat → Nat → Bool) (leg b : Nat) (hl : leg ≤ 10) (hb : flo T f leg b ≤ 10) : ((yl T f leg b).length : Int) = flo T f leg b := by
  induction leg generalizing b with
  | zero =>
    unfold flo at hb ⊢
    split
    · rfl
    · rename_i hn; rw [if_neg hn] at hb; omega
  | succ leg ih =>
    obtain ⟨h1, h2, _⟩ := pre_spec hs f b (leg := leg) (by omega)
    have hbr := brk_bd f leg (pre T f leg b) b
    have h3 := ih (pre T f leg b) (by omega) (by omega)
    unfold yl
    rw [← h2, ← h3]
    unfold brk
    split <;> simp <;> omega
end Go.Proofs
end

section
/- Walks: Yield. -/
namespace Go.Proofs
open Go.RowKit

/-- What Yield answers. -/
def YieldR (w : World) (T : Treaty) (R : List Int) (e : Ending) (w' : World) : Prop :=
  Aft w w' ∧ ((readE T R ≠ 0 ∧ e = .returned (.tuple #[.slice none 0 0, .int .i64 (readE T R)])) ∨ (readE T R = 0 ∧ ∃ v, e = .returned (.tuple #[v, .int .i64 0]) ∧ w'.ownsRow w.heap.size 3 1 v (yieldL T (leadsF T R)).length ((yieldL T (leadsF T R)).map (Value.int .i64))))

set_option maxRecDepth 100000 in
set_option maxHeartbeats 2000000 in
theorem yield_any (w : World) (T : Treaty) (a1 a2 a3 a4 : Option Addr) (c1 c2 c3 c4 : Nat) (R : List Int) (AR : Option Addr) (cR : Nat) (hT : TRep w T a1 a2 a3 a4) (hR : Ints w AR R) :
    Calls Tryz.prog 43 #[.agg #[.int .i64 T.places, .slice a1 T.ways.length c1, .slice a2 T.words.length c2, .slice a3 T.starts.length c3, .slice a4 T.legs.length c4], .slice AR R.length cR] w (YieldR w T R) := by
  by_cases hre : readE T R = 0
  · have HC := Lib.hid (read_good (c1 := c1) (c2 := c2) (c3 := c3) (c4 := c4) (cR := cR) hT hR hre)
    have ok := checkE_ok (readE_zero.1 hre).1
    have hl := ok.nlegs
    have hst := ok.start
    obtain ⟨p, hpp⟩ := Int.eq_ofNat_of_zero_le (show 0 ≤ T.places by have := ok.p1; omega)
    have hp12 : p ≤ 12 := by have := ok.p2; omega
    have hp1 : 1 ≤ p := by have := ok.p1; omega
    have HPP := Lib.hid hpp
    clear hpp
    have HFL := Lib.hid (fun (w1 : World) (D : Nat) (cs : Array Value) (h : Rd w T a1 a2 a3 a4 c1 c2 c3 c4 R D cs w1) => floors_any D T a1 a2 a3 a4 c1 c2 c3 c4 (leadsF T R) w1 h.desk (hT.starts.aft h.aft) ok.p1 ok.p2 ok.nlegs)
    have HEN := Lib.hid (fun (w1 : World) (D : Nat) (cs : Array Value) (h : Rd w T a1 a2 a3 a4 c1 c2 c3 c4 R D cs w1) (L : Nat) (cs2 : Array Value) (g : Nat → Nat → Int) (hb : Blk w1 L 176 cs2) (hg : IGrid cs2 g) => end_any D L T a1 a2 a3 a4 c1 c2 c3 c4 (leadsF T R) cs2 g w1 h.desk hb hg ok.p1 ok.p2 ok.nlegs)
    have HRE := Lib.hid hre
    have HST := Lib.hid hst
    clear hre ok hst
    go_enter Tryz.func43, Tryz.ntmps43
    go_wp2_with (first
      | (go_at_call 69; refine HC.out.mono ?_; rintro e w' ⟨D, cs, rfl, hrd⟩; have HRD := Lib.hid hrd; clear hrd)
      | (go_at_call 93; refine (HFL.out _ _ _ HRD.out).mono ?_; rintro e w2 ⟨L, cs2, g, rfl, hb, hg, hgf, hL, ha⟩; have HB := Lib.hid hb; have HG := Lib.hid hg; have HGF := Lib.hid hgf; have HRD2 := Lib.hid (HRD.out.later ha); clear hb hg hgf HRD HFL HC)
      | (go_at_call 94; refine (HEN.out _ _ _ HRD2.out _ _ _ HB.out HG.out).mono ?_; rintro e w3 ⟨rfl, ha3⟩; have hrd3 := HRD2.out.later ha3; have hb3 := HB.out.aft ha3; have k4 := hrd3.at4; have HRD3 := Lib.hid hrd3; have HB3 := Lib.hid hb3; clear hrd3 hb3 HRD2 HB HEN))
    have hb0 : argmin (g T.legs.length) T.places.toNat = lastAt T (leadsF T R) := argmin_congr (fun j hj => HGF.out _ j (Nat.le_refl _) hj) (fun _ => HGF.out _ 0 (Nat.le_refl _) (by rw [HPP.out]; omega)) _ (Nat.le_refl _)
    have hblt : lastAt T (leadsF T R) < p := by unfold lastAt; rw [HPP.out]; exact argmin_lt _ _ _ (by omega) (by simp)
    rw [hb0]
    clear hb0 k4
    have hl3 : w.heap.size ≤ w3.heap.size := HRD3.out.aft.size
    go_loopw [9, 10, 11] (fun b v i wr => ∃ m bb : Nat, ∃ l : List Int, i = .int .i64 ((m : Int) - 1) ∧ m ≤ T.legs.length ∧ b = .int .i64 bb ∧ bb < p ∧ wr.ownsRow w3.heap.size 3 1 v l.length (l.map (Value.int .i64)) ∧ l ++ yl T (leadsF T R) m bb = yl T (leadsF T R) T.legs.length (lastAt T (leadsF T R)) ∧ Aft w3 wr) (fun _ _ i _ => (intOf i + 1).toNat)
    case atStart => exact ⟨T.legs.length, lastAt T (leadsF T R), [], rfl, by omega, rfl, hblt, World.ownsRow_nil _ _ 3 1, rfl, Aft.refl _⟩
    case round =>
      clear hblt
      obtain ⟨m, bb, l, rfl, hm, rfl, hbb, hown, hyl, hw⟩ := hrel
      have HO := Lib.hid hown
      have HYL := Lib.hid hyl
      clear hown hyl
      have hll : l.length ≤ 10 := by
        have h1 := congrArg List.length HYL.out
        have := yl_le T (leadsF T R) T.legs.length (lastAt T (leadsF T R))
        rw [List.length_append] at h1
        omega
      by_cases hm0 : m = 0
      · subst hm0
        have em : (((0 : Nat) : Int) - 1) = -1 := rfl
        rw [em]
        have HRV := Lib.hid (reverse_own HO.out (by omega))
        have HFN := Lib.hid (show l.reverse = yieldL T (leadsF T R) by unfold yieldL; rw [← HYL.out]; simp [yl])
        clear em
        go_wp2_with (go_at_call 100; refine HRV.out.mono ?_; rintro e w4 ⟨rfl, hg4, hown4⟩)
        go_ret2
        refine ⟨(HRD3.out.aft.trans hw).grown hg4 (fun g hg => by have := (HO.out.lt g hg).1; omega), .inr ⟨HRE.out, _, rfl, ?_⟩⟩
        rw [← HFN.out, List.length_reverse]
        exact World.ownsRow.mono hown4 hl3
      · obtain ⟨k, rfl⟩ : ∃ k, m = k + 1 := ⟨m - 1, by omega⟩
        have e0 : (((k + 1 : Nat) : Int) - 1) = k := by omega
        rw [e0]
        clear e0 hm0
        obtain ⟨q1, q2, q3⟩ := pre_spec HST.out (leadsF T R) (leg := k) bb (by omega)
        rw [HPP.out] at q1
        have Q2 := Lib.hid q2
        have Q3 := Lib.hid q3
        clear q2 q3
        have hq12 : pre T (leadsF T R) k bb < p := by simpa using q1
        clear q1
        obtain ⟨wo, hwo⟩ : ∃ wo : World, wo = wr := ⟨_, rfl⟩
        subst hwo
        go_wp2_with fail
        go_loopw [12] (fun a wr => ∃ j : Nat, a = .int .i64 j ∧ j ≤ pre T (leadsF T R) k bb ∧ Aft wo wr) (fun a _ => pre T (leadsF T R) k bb - (intOf a).toNat)
        case atStart => exact ⟨0, rfl, by omega, Aft.refl _⟩
        case round =>
          obtain ⟨j, rfl, hj, hwj⟩ := hrel
          have hw4 := (hw.trans hwj).then_drew
          have c1' := HG.out.cell (HB3.out.aft hw4) (i := k) (j := j) (by omega) (by omega)
          have c2' := HG.out.cell (HB3.out.aft hw4) (i := k + 1) (j := bb) (by omega) (by omega)
          rw [HGF.out k j (by omega) (by rw [HPP.out]; simp; omega)] at c1'
          rw [HGF.out (k + 1) bb (by omega) (by rw [HPP.out]; simp; omega)] at c2'
          have hbr := broken_any D T a1 a2 a3 a4 c1 c2 c3 c4 (leadsF T R) k j bb wr.drew (HRD3.out.later hw4).desk (by omega) (by omega) (by omega) (by omega) (by omega) (by omega)
          simp only [Int.toNat_natCast] at hbr
          have HBR := Lib.hid (hbr.mono (R' := fun e w'' => e = .returned (.int .i64 (brk (leadsF T R) k j bb)) ∧ w'' = wr.drew) fun _ _ ⟨h1, h2⟩ => ⟨h1, h2.symm⟩)
          clear hbr
          have b1 := flo_bd T (leadsF T R) k j
          have b2 := brk_bd (leadsF T R) k j bb
          have b3 := flo_bd T (leadsF T R) (k + 1) bb
          have HCA := Lib.hid (fun W (h : Aft w3 W) => can_any D T a1 a2 a3 a4 c1 c2 c3 c4 (leadsF T R) k j bb W (HRD3.out.later h).desk (by omega) (by omega) (by omega) (by omega) (by omega) (by omega))
          have HE := Lib.hid (show j < pre T (leadsF T R) k bb → flo T (leadsF T R) k j + brk (leadsF T R) k j bb ≠ flo T (leadsF T R) (k + 1) bb from Q3.out j)
          have HE2 := Lib.hid (show j = pre T (leadsF T R) k bb → flo T (leadsF T R) k j + brk (leadsF T R) k j bb = flo T (leadsF T R) (k + 1) bb from fun e => by rw [e]; exact Q2.out)
          generalize flo T (leadsF T R) k j = x at *
          generalize flo T (leadsF T R) (k + 1) bb = y at *
          generalize hbrk : brk (leadsF T R) k j bb = z at *
          have w1' : IntKind.i64.wrap (x + z) = x + z := IntWalk.i64_in _ (by omega)
          have w2' : IntKind.i64.wrap ((k : Int) + 1) = ((k + 1 : Nat) : Int) := by rw [IntWalk.i64_in _ (by omega)]; omega
          have i1 : (0 : Int) ≤ (k : Int) ∧ (k : Int) < 11 := by omega
          have i2 : (0 : Int) ≤ (j : Int) ∧ (j : Int) < 12 := by omega
          have i3 : (0 : Int) ≤ (bb : Int) ∧ (bb : Int) < 12 := by omega
          have i4 : (0 : Int) ≤ ((k + 1 : Nat) : Int) ∧ ((k + 1 : Nat) : Int) < 11 := by omega
          by_cases hjp : j < pre T (leadsF T R) k bb
          · have hne : (x + z != y) = true := by simpa using HE.out hjp
            go_wp2_with fail
            refine wp_region_tail 21 (by kernel_rfl) (by kernel_rfl) ?_
            simp only [List.take_succ_cons, List.take_zero, List.drop_succ_cons, List.drop_zero]
            repeat (first | go_big_quiet_skip | (go_big_quiet_want; go_big_quiet_op; go_big_quiet_on))
            (go_big_quiet_want; go_big_quiet_op; refine ⟨_, HBR.out, ?_⟩; go_big_quiet_on)
            repeat (first | go_big_quiet_skip | (go_big_quiet_want; go_big_quiet_op; go_big_quiet_on))
            refine wpQuiet_nil ?_
            go_wp2_with fail
            exact ⟨⟨j + 1, by go_num, by omega, hwj.then_drew⟩, by simp [intOf]; omega⟩
          · have hjp2 : j = pre T (leadsF T R) k bb := by omega
            have hne : (x + z != y) = false := by simpa using HE2.out hjp2
            have hjlt : j < p := by omega
            have hca := HCA.out
            simp only [Int.toNat_natCast] at hca
            have HCB := Lib.hid hca
            clear hca
            have hylk : yl T (leadsF T R) (k + 1) bb = (if leadsF T R k j bb then [] else [(k : Int)]) ++ yl T (leadsF T R) k j := by rw [hjp2]; rfl
            have HYK := Lib.hid hylk
            clear hylk hjp hbrk hjp2 hj hq12
            cases hf : leadsF T R k j bb
            all_goals
              rw [hf] at HCB HYK
              clear hf
              go_wp2_with fail
              refine wp_region_tail 21 (by kernel_rfl) (by kernel_rfl) ?_
              simp only [List.take_succ_cons, List.take_zero, List.drop_succ_cons, List.drop_zero]
              repeat (first | go_big_quiet_skip | (go_big_quiet_want; go_big_quiet_op; go_big_quiet_on))
              (go_big_quiet_want; go_big_quiet_op; refine ⟨_, HBR.out, ?_⟩; go_big_quiet_on)
              repeat (first | go_big_quiet_skip | (go_big_quiet_want; go_big_quiet_op; go_big_quiet_on))
              refine wpQuiet_nil ?_
              clear w1' w2'
            · have F1 : w3.heap.size ≤ ((wr.alloc (.cells #[.int .i64 k] 3)).drew).heap.size := (((hw.trans hwj).then_alloc _).then_drew).size
              have F2 : ((wr.alloc (.cells #[.int .i64 k] 3)).drew).cell? ⟨wr.heap.size, 0, none⟩ = some (.int .i64 k) := by simp
              go_wp2_with (first
                | (go_at_call 61; refine (HCB.out _ hw4).mono ?_; rintro e w' ⟨rfl, rfl⟩)
                | (at_builtin; refine wpList_push rfl _ _ rfl (own_aft HO.out ((hwj.then_alloc _).then_drew)) F1 rfl rfl F2 (by omega) ?_; intro v' w5 hown5 hg5))
              have hlt : ∀ g, u10.ownBlock = some g → w3.heap.size ≤ g := fun g hg => (HO.out.lt g hg).1
              refine ⟨⟨k, j, l ++ [(k : Int)], by go_num, by omega, rfl, hjlt, hown5, ?_, (((hw.trans hwj).then_alloc _).then_drew).grown hg5 hlt⟩, by simp [intOf]⟩
              rw [← HYL.out, HYK.out]
              simp
            · go_wp2_with (go_at_call 61; refine (HCB.out _ hw4).mono ?_; rintro e w' ⟨rfl, rfl⟩)
              refine ⟨⟨k, j, l, by go_num, by omega, rfl, hjlt, own_aft HO.out hwj.then_drew, ?_, hw4⟩, by simp [intOf]⟩
              rw [← HYL.out, HYK.out]
              simp
  · have hb : (readE T R != 0) = true := by simpa using hre
    have HC := Lib.hid (read_bad (c1 := c1) (c2 := c2) (c3 := c3) (c4 := c4) (cR := cR) hT hR hre)
    have HRE := Lib.hid hre
    clear hre
    go_enter Tryz.func43, Tryz.ntmps43
    go_wp2_with (go_at_call 69; refine HC.out.mono ?_; rintro e w' ⟨rfl, ha⟩)
    go_ret2
    exact ⟨ha, .inl ⟨HRE.out, rfl⟩⟩
end Go.Proofs
end

section
/- Walks: Proves. -/
attribute [local go_sem ↓] Go.wp_at_zero Go.wp_at_succ
namespace Go.Proofs
open Go.RowKit

section
variable {w : World} {T : Treaty} {a1 a2 a3 a4 : Option Addr} {c1 c2 c3 c4 : Nat} {R : List Int}
theorem read_bad' {AR : Option Addr} {cR : Nat} {o : Obj} (hT : TRep w T a1 a2 a3 a4) (hR : Ints w AR R) (hz : readE T R ≠ 0) :
    Calls Tryz.prog 69 #[.agg #[.int .i64 T.places, .slice a1 T.ways.length c1, .slice a2 T.words.length c2, .slice a3 T.starts.length c3, .slice a4 T.legs.length c4], .slice AR R.length cR] ((w.alloc (.cells #[.int .i64 T.places, .slice a1 T.ways.length c1, .slice a2 T.words.length c2, .slice a3 T.starts.length c3, .slice a4 T.legs.length c4] 27)).alloc o) fun e w' => e = .returned (.tuple #[.pointer none, .int .i64 (readE T R)]) ∧ Aft w w' := by
  have h1 : Aft w ((w.alloc (.cells #[.int .i64 T.places, .slice a1 T.ways.length c1, .slice a2 T.words.length c2, .slice a3 T.starts.length c3, .slice a4 T.legs.length c4] 27)).alloc o) := (Aft.alloc _ _).then_alloc _
  refine (read_any ((w.alloc (.cells #[.int .i64 T.places, .slice a1 T.ways.length c1, .slice a2 T.words.length c2, .slice a3 T.starts.length c3, .slice a4 T.legs.length c4] 27)).alloc o) T a1 a2 a3 a4 c1 c2 c3 c4 R AR cR (hT.aft h1) (hR.aft h1)).mono ?_
  rintro e w' ⟨ha, ⟨_, he⟩ | ⟨h0, _⟩⟩
  · exact ⟨he, h1.trans ha⟩
  · exact absurd h0 hz
theorem read_good' {AR : Option Addr} {cR : Nat} {cs : Array Value} {t : TypeId} {o : Obj} (ho : o = .cells cs t) (hT : TRep w T a1 a2 a3 a4) (hR : Ints w AR R) (hz : readE T R = 0) :
    Calls Tryz.prog 69 #[.agg #[.int .i64 T.places, .slice a1 T.ways.length c1, .slice a2 T.words.length c2, .slice a3 T.starts.length c3, .slice a4 T.legs.length c4], .slice AR R.length cR] ((w.alloc (.cells #[.int .i64 T.places, .slice a1 T.ways.length c1, .slice a2 T.words.length c2, .slice a3 T.starts.length c3, .slice a4 T.legs.length c4] 27)).alloc o) fun e w' => ∃ D cs', e = .returned (.tuple #[.pointer (some ⟨D, 0, none⟩), .int .i64 0]) ∧ Rd w T a1 a2 a3 a4 c1 c2 c3 c4 R D cs' w' ∧ Blk w' (w.heap.size + 1) t cs := by
  subst ho
  have h1 : Aft w ((w.alloc (.cells #[.int .i64 T.places, .slice a1 T.ways.length c1, .slice a2 T.words.length c2, .slice a3 T.starts.length c3, .slice a4 T.legs.length c4] 27)).alloc (.cells cs t)) := (Aft.alloc _ _).then_alloc _
  refine (read_any ((w.alloc (.cells #[.int .i64 T.places, .slice a1 T.ways.length c1, .slice a2 T.words.length c2, .slice a3 T.starts.length c3, .slice a4 T.legs.length c4] 27)).alloc (.cells cs t)) T a1 a2 a3 a4 c1 c2 c3 c4 R AR cR (hT.aft h1) (hR.aft h1)).mono ?_
  rintro e w' ⟨ha, ⟨h0, _⟩ | ⟨_, D, cs', he, hD, hb, hg⟩⟩
  · exact absurd hz h0
  · refine ⟨D, cs', he, ⟨h1.trans ha, ((Blk.new _ _ _).alloc _).aft ha, ?_, hb, hg⟩, ?_⟩
    · rw [World.size_alloc, World.size_alloc] at hD; omega
    · have := Blk.new (w.alloc (.cells #[.int .i64 T.places, .slice a1 T.ways.length c1, .slice a2 T.words.length c2, .slice a3 T.starts.length c3, .slice a4 T.legs.length c4] 27)) t cs
      rw [World.size_alloc] at this
      exact this.aft ha
end

def cellF (F : List (List Int)) (i j : Nat) : Int := (F.getD i []).getD j 0
def holdsB (T : Treaty) (f : Nat → Nat → Nat → Bool) (F : List (List Int)) : Bool := (List.range T.legs.length).all fun i => (List.range T.places.toNat).all fun a => (List.range T.places.toNat).all fun b => decide (cellF F (i + 1) b ≤ cellF F i a + brk f i a b)
def shapeB (T : Treaty) (F : List (List Int)) : Bool := decide (F.length = T.legs.length + 1) && F.all fun l => (l.length : Int) == T.places
def valuesB (F : List (List Int)) : Bool := F.all fun l => l.all fun x => fromB x 0 (12 - 1)
def zerosB (T : Treaty) (F : List (List Int)) : Bool := T.starts.all fun s => cellF F 0 s.toNat == 0
noncomputable def provesE (T : Treaty) (R : List Int) (F : List (List Int)) : Int := if readE T R = 0 then (if shapeB T F then (if valuesB F then (if zerosB T F then (if holdsB T (leadsF T R) F then 0 else 9) else 9) else 4) else 3) else readE T R
noncomputable def provesN (T : Treaty) (R : List Int) (F : List (List Int)) : Int := if provesE T R F = 0 then minTo (F.getD T.legs.length []) (F.getD T.legs.length []).length else 0

theorem holdsB_iff {T : Treaty} {f : Nat → Nat → Nat → Bool} {F : List (List Int)} : holdsB T f F = true ↔ ∀ i, i < T.legs.length → ∀ a, a < T.places.toNat → ∀ b, b < T.places.toNat → cellF F (i + 1) b ≤ cellF F i a + brk f i a b := by
  unfold holdsB
  simp only [List.all_eq_true, List.mem_range, decide_eq_true_eq]

theorem aft_cellC {W W' : World} (h : Aft W W') {b i : Nat} (hb : b < W.heap.size) : W'.cell? ⟨b, i, none⟩ = W.cell? ⟨b, i, none⟩ := by obtain ⟨u, rfl⟩ := h; exact World.lat_cell _ _ _ _ hb

theorem cellF_eq {F : List (List Int)} {i j : Nat} (h : i < F.length) (h' : j < F[i].length) : cellF F i j = F[i][j] := by
  unfold cellF
  have e : F.getD i [] = F[i] := by rw [List.getD_eq_getElem?_getD, List.getElem?_eq_getElem h]; rfl
  rw [e, List.getD_eq_getElem?_getD, List.getElem?_eq_getElem h']; rfl

theorem row_at {W : World} {AF : Option Addr} {F : List (List Int)} (h : Lists W AF F) {i p : Nat} (hi : i < F.length) (hr : (F.getD i []).length = p) (hp : 1 ≤ p) :
    ∃ b o c, (∀ bF oF, AF = some ⟨bF, oF, none⟩ → W.cell? ⟨bF, oF + i, none⟩ = some (.slice (some ⟨b, o, none⟩) p c)) ∧ b < W.heap.size ∧ ∀ j, j < p → W.cell? ⟨b, o + j, none⟩ = some (.int .i64 (cellF F i j)) := by
  have e0 : F.getD i [] = F[i] := by rw [List.getD_eq_getElem?_getD, List.getElem?_eq_getElem hi]; rfl
  rw [e0] at hr
  obtain ⟨bF, oF, rfl, hb, hc⟩ := h.at hi
  obtain ⟨Ai, ci, h1, h2⟩ := hc i hi
  obtain ⟨b, o, rfl, h3, h4⟩ := h2.at (k := 0) (by omega)
  refine ⟨b, o, ci, fun b' o' e => by cases e; rw [← hr]; exact h1, h3, fun j hj => ?_⟩
  rw [cellF_eq hi (by omega)]
  exact h4 j (by omega)

theorem last_ints {W : World} {bF oF : Nat} {F : List (List Int)} (h : Lists W (some ⟨bF, oF, none⟩) F) {i p : Nat} (hi : i < F.length) (hr : (F.getD i []).length = p) {A : Option Addr} {c : Nat} (hc : W.cell? ⟨bF, oF + i, none⟩ = some (.slice A p c)) (_hp : 1 ≤ p) : Ints W A (F.getD i []) := by
  have e0 : F.getD i [] = F[i] := by rw [List.getD_eq_getElem?_getD, List.getElem?_eq_getElem hi]; rfl
  obtain ⟨b', o', e, hb, hcl⟩ := h.at hi
  cases e
  obtain ⟨Ai, ci, h1, h2⟩ := hcl i hi
  rw [h1] at hc
  cases hc
  rw [e0]
  exact h2

def ProvesR (w : World) (T : Treaty) (R : List Int) (F : List (List Int)) (e : Ending) (w' : World) : Prop := Aft w w' ∧ e = .returned (.tuple #[.int .i64 (provesN T R F), .int .i64 (provesE T R F)])

theorem runs_86 (args : Array Value) (w : World) : (callFunc 102 args).run Tryz.prog w = .ok (.enter 102 args) w := by simp [go_sem]
theorem runs_87 (args : Array Value) (w : World) : (callFunc 103 args).run Tryz.prog w = .ok (.enter 103 args) w := by simp [go_sem]
theorem runs_88 (args : Array Value) (w : World) : (callFunc 104 args).run Tryz.prog w = .ok (.enter 104 args) w := by simp [go_sem]

theorem asks86 (l : List Int) (v : Value) (B : Nat) (p : Int) (w : World) (hB : B < w.heap.size) (hc : w.cell? ⟨B, 0, none⟩ = some (.int .i64 p)) (h : ListR w l [v]) : Asks Tryz.prog 102 [.pointer (some ⟨B, 0, none⟩)] w v ((l.length : Int) == p) := by
  obtain ⟨A, c, hv, hA⟩ := h
  cases hv
  intro u
  have hl := hA.len
  have hc' := lat_keep w u hB hc
  go_enter Tryz.func102, Tryz.ntmps102
  go_wp2_with fail
  go_ret
  exact ⟨rfl, Aft.refl _⟩

theorem asks87 (l : List Int) (v : Value) (w : World) (h : ListR w l [v]) : Asks Tryz.prog 103 [] w v (l.all fun x => fromB x 0 (12 - 1)) := by
  obtain ⟨A, c, hv, hA⟩ := h
  cases hv
  intro u
  have hi := hA.lat u
  have HB := Lib.hid (each_below A l c (w.lat u).heap.size 12 ((w.lat u).alloc (.cells #[.int .i64 12] 3)) (hi.aft (Aft.alloc _ _)) (by simp) (by simp) (by decide) (by decide))
  go_enter Tryz.func103, Tryz.ntmps103
  go_wp2_with (first
    | (go_at_call 84; refine (below_any _ _).mono ?_; rintro e w' ⟨rfl, rfl⟩)
    | (go_at_call 87; refine HB.out.mono ?_; rintro e w' ⟨rfl, ha⟩))
  go_ret
  exact ⟨rfl, (Aft.alloc _ _).trans ha⟩

theorem asks88 (s : Int) (A : Option Addr) (F : List (List Int)) (c : Nat) (B : Nat) (w : World) (hB : B < w.heap.size) (hc : w.cell? ⟨B, 0, none⟩ = some (.slice A F.length c)) (hF : Lists w A F) (h0 : 0 < F.length) (hs : 0 ≤ s) (hs' : s < (F.getD 0 []).length) :
    Asks Tryz.prog 104 [.pointer (some ⟨B, 0, none⟩)] w (.int .i64 s) (cellF F 0 s.toNat == 0) := by
  intro u
  have hc' := lat_keep w u hB hc
  have hFl := hF.len
  obtain ⟨b, o, rfl, hb, hrow⟩ := (hF.lat u).at h0
  obtain ⟨Ai, ci, h1, h2⟩ := hrow 0 h0
  have e0 : F.getD 0 [] = F[0] := by rw [List.getD_eq_getElem?_getD, List.getElem?_eq_getElem h0]; rfl
  have e1 : cellF F 0 s.toNat = F[0].getD s.toNat 0 := by unfold cellF; rw [e0]
  rw [e0] at hs'
  rw [e1]
  clear hrow e1 e0
  obtain ⟨n, rfl⟩ := Int.eq_ofNat_of_zero_le hs
  simp only [Int.toNat_natCast]
  generalize F[0] = r at *
  have hn : n < r.length := by omega
  obtain ⟨b2, o2, rfl, hb2, hcl⟩ := h2.at hn
  have hcn := hcl n hn
  have hrl := h2.len
  have e2 : r.getD n 0 = r[n] := by rw [List.getD_eq_getElem?_getD, List.getElem?_eq_getElem hn]; rfl
  rw [e2]
  generalize r[n] = x at *
  have h0' : (0 : Int) < (F.length : Int) := by omega
  have hz : (w.lat u).cell? ⟨b, o, none⟩ = some (.slice (some ⟨b2, o2, none⟩) r.length ci) := h1
  clear hcl e2 h1 hF hs
  go_enter Tryz.func104, Tryz.ntmps104
  go_wp2_with fail
  go_ret
  exact ⟨rfl, Aft.refl _⟩

set_option maxRecDepth 100000 in
set_option maxHeartbeats 2000000 in
theorem proves_any (w : World) (T : Treaty) (a1 a2 a3 a4 : Option Addr) (c1 c2 c3 c4 : Nat) (R : List Int) (AR : Option Addr) (cR : Nat) (F : List (List Int)) (AF : Option Addr) (cF : Nat) (hT : TRep w T a1 a2 a3 a4) (hR : Ints w AR R) (hF : Lists w AF F) :
    Calls Tryz.prog 44 #[.agg #[.int .i64 T.places, .slice a1 T.ways.length c1, .slice a2 T.words.length c2, .slice a3 T.starts.length c3, .slice a4 T.legs.length c4], .slice AR R.length cR, .slice AF F.length cF] w (ProvesR w T R F) := by
  have hfl := hF.len
  by_cases hre : readE T R = 0
  · have HC := Lib.hid (read_good' (c1 := c1) (c2 := c2) (c3 := c3) (c4 := c4) (cR := cR) (cs := #[.slice AF F.length cF]) (t := 37) rfl hT hR hre)
    have ok := checkE_ok (readE_zero.1 hre).1
    have hl := ok.nlegs
    obtain ⟨p, hpp⟩ := Int.eq_ofNat_of_zero_le (show 0 ≤ T.places by have := ok.p1; omega)
    have hp12 : p ≤ 12 := by have := ok.p2; omega
    have hp1 : 1 ≤ p := by have := ok.p1; omega
    have HPP := Lib.hid hpp
    clear hpp
    have HRE := Lib.hid hre
    have HOK := Lib.hid ok
    clear hre ok
    by_cases hn : F.length = T.legs.length + 1
    · have hb1 : ((F.length : Int) != (T.legs.length : Int) + 1) = false := by rw [hn]; simp
      have HN := Lib.hid hn
      clear hn
      have H86 := Lib.hid (fun (W : World) (h : Aft w W) (hB : w.heap.size < W.heap.size) (hc : W.cell? ⟨w.heap.size, 0, none⟩ = some (.int .i64 p)) => each_lists ListR ListR.mono 102 [.pointer (some ⟨w.heap.size, 0, none⟩)] (fun l => (l.length : Int) == p) AF F cF W (hF.aft h) runs_86 (fun l _ u v hv => asks86 l v w.heap.size p (W.lat u) (Nat.lt_of_lt_of_le hB (W.lat_size u)) (lat_keep W u hB hc) hv))
      have H87 := Lib.hid (fun (W : World) (h : Aft w W) => each_lists ListR ListR.mono 103 [] (fun l => l.all fun x => fromB x 0 (12 - 1)) AF F cF W (hF.aft h) runs_87 (fun l _ u v hv => asks87 l v (W.lat u) hv))
      have hsh : shapeB T F = F.all fun l => (l.length : Int) == p := by unfold shapeB; rw [decide_eq_true HN.out, Bool.true_and, HPP.out]
      have HSH := Lib.hid hsh
      clear hsh
      cases hs1 : F.all fun l => (l.length : Int) == p
      · have HS1 := Lib.hid hs1
        clear hs1
        go_enter Tryz.func44, Tryz.ntmps44
        go_wp2_with (go_at_call 69; refine HC.out.mono ?_; rintro e w1 ⟨D, cs, rfl, hrd, hx⟩; have HRD := Lib.hid hrd; have k0 := hrd.at0; rw [HPP.out] at k0; have k4 := hrd.at4; have x0 : w1.cell? ⟨w.heap.size + 1, 0, none⟩ = some (.slice AF F.length cF) := hx.cell 0; have hlt := hrd.lt; have hlx := hx.lt; have HX := Lib.hid hx; clear hrd hx)
        have hq := H86.out w1 HRD.out.aft hlt k0
        refine Calls.mono hq ?_
        clear hq
        rintro e w2 ⟨rfl, ha2⟩
        rw [HS1.out]
        have x2 := (aft_cellC ha2 hlx).trans x0
        have y4 := (aft_cellC ha2 hlt).trans k4
        go_wp2_with fail
        go_ret2
        have hE : provesE T R F = 3 := by unfold provesE; rw [if_pos HRE.out, HSH.out, HS1.out]; rfl
        exact ⟨HRD.out.aft.trans ha2, by unfold provesN; rw [hE]; rfl⟩
      · have HS1 := Lib.hid hs1
        have hrow : ∀ i, i < T.legs.length + 1 → (F.getD i []).length = p := fun i hi => by
          have h1 : i < F.length := by have := HN.out; omega
          have h2 := List.all_eq_true.1 hs1 _ (List.getElem_mem h1)
          rw [List.getD_eq_getElem?_getD, List.getElem?_eq_getElem h1, Option.getD_some]
          have := beq_iff_eq.1 h2
          omega
        have HROW := Lib.hid hrow
        clear hs1 hrow
        cases hs2 : F.all fun l => l.all fun x => fromB x 0 (12 - 1)
        · have HS2 := Lib.hid hs2
          clear hs2
          go_enter Tryz.func44, Tryz.ntmps44
          go_wp2_with (go_at_call 69; refine HC.out.mono ?_; rintro e w1 ⟨D, cs, rfl, hrd, hx⟩; have HRD := Lib.hid hrd; have k0 := hrd.at0; rw [HPP.out] at k0; have k4 := hrd.at4; have x0 : w1.cell? ⟨w.heap.size + 1, 0, none⟩ = some (.slice AF F.length cF) := hx.cell 0; have hlt := hrd.lt; have hlx := hx.lt; have HX := Lib.hid hx; clear hrd hx)
          have hq := H86.out w1 HRD.out.aft hlt k0
          refine Calls.mono hq ?_
          clear hq
          rintro e w2 ⟨rfl, ha2⟩
          rw [HS1.out]
          have x2 := (aft_cellC ha2 hlx).trans x0
          have y4 := (aft_cellC ha2 hlt).trans k4
          go_wp2_with fail
          have hq := H87.out w2 (HRD.out.aft.trans ha2)
          refine Calls.mono hq ?_
          clear hq
          rintro e w3 ⟨rfl, ha3⟩
          rw [HS2.out]
          have z3 : w3.cell? ⟨w.heap.size, 3, none⟩ = some (.slice a3 T.starts.length c3) := ((HRD.out.later ha2).later ha3).at3
          have x3 := (aft_cellC ha3 (Nat.lt_of_lt_of_le hlx ha2.size)).trans x2
          have y5 := (aft_cellC ha3 (Nat.lt_of_lt_of_le hlt ha2.size)).trans y4
          go_wp2_with fail
          go_ret2
          have hE : provesE T R F = 4 := by unfold provesE valuesB; rw [if_pos HRE.out, HSH.out, HS1.out, HS2.out]; rfl
          exact ⟨(HRD.out.aft.trans ha2).trans ha3, by unfold provesN; rw [hE]; rfl⟩
        · have HS2 := Lib.hid hs2
          have hval : ∀ i j, i < T.legs.length + 1 → j < p → 0 ≤ cellF F i j ∧ cellF F i j ≤ 11 := fun i j hi hj => by
            have h1 : i < F.length := by have := HN.out; omega
            have h2 := List.all_eq_true.1 hs2 _ (List.getElem_mem h1)
            have h3 := HROW.out i hi
            rw [List.getD_eq_getElem?_getD, List.getElem?_eq_getElem h1, Option.getD_some] at h3
            have h4 := List.all_eq_true.1 h2 _ (List.getElem_mem (show j < F[i].length by omega))
            have h5 := fromB_iff.1 h4
            rw [cellF_eq h1 (show j < F[i].length by omega)]
            omega
          have HVAL := Lib.hid hval
          clear hs2 hval
          have H88 := Lib.hid (fun (W : World) (h : Aft w W) (hB : w.heap.size + 1 < W.heap.size) (hc : W.cell? ⟨w.heap.size + 1, 0, none⟩ = some (.slice AF F.length cF)) => each_int IntR IntR.mono 104 [.pointer (some ⟨w.heap.size + 1, 0, none⟩)] (fun s => cellF F 0 s.toNat == 0) a3 T.starts c3 W (hT.starts.aft h) runs_88 (fun s hs u v hv => by
            cases hv
            have hs2 := HOK.out.starts s hs
            rw [HPP.out] at hs2
            exact asks88 s AF F cF (w.heap.size + 1) (W.lat u) (Nat.lt_of_lt_of_le hB (W.lat_size u)) (lat_keep W u hB hc) ((hF.aft h).lat u) (by have := HN.out; omega) hs2.1 (by rw [HROW.out 0 (by omega)]; omega)))
          cases hs3 : T.starts.all fun s => cellF F 0 s.toNat == 0
          · have HS3 := Lib.hid hs3
            clear hs3
            go_enter Tryz.func44, Tryz.ntmps44
            go_wp2_with (go_at_call 69; refine HC.out.mono ?_; rintro e w1 ⟨D, cs, rfl, hrd, hx⟩; have HRD := Lib.hid hrd; have k0 := hrd.at0; rw [HPP.out] at k0; have k4 := hrd.at4; have x0 : w1.cell? ⟨w.heap.size + 1, 0, none⟩ = some (.slice AF F.length cF) := hx.cell 0; have hlt := hrd.lt; have hlx := hx.lt; have HX := Lib.hid hx; clear hrd hx)
            have hq := H86.out w1 HRD.out.aft hlt k0
            refine Calls.mono hq ?_
            clear hq
            rintro e w2 ⟨rfl, ha2⟩
            rw [HS1.out]
            have x2 := (aft_cellC ha2 hlx).trans x0
            have y4 := (aft_cellC ha2 hlt).trans k4
            go_wp2_with fail
            have hq := H87.out w2 (HRD.out.aft.trans ha2)
            refine Calls.mono hq ?_
            clear hq
            rintro e w3 ⟨rfl, ha3⟩
            rw [HS2.out]
            have z3 : w3.cell? ⟨w.heap.size, 3, none⟩ = some (.slice a3 T.starts.length c3) := ((HRD.out.later ha2).later ha3).at3
            have x3 := (aft_cellC ha3 (Nat.lt_of_lt_of_le hlx ha2.size)).trans x2
            have y5 := (aft_cellC ha3 (Nat.lt_of_lt_of_le hlt ha2.size)).trans y4
            go_wp2_with fail
            have hq := H88.out w3 ((HRD.out.aft.trans ha2).trans ha3) (Nat.lt_of_lt_of_le hlx (Nat.le_trans ha2.size ha3.size)) x3
            refine Calls.mono hq ?_
            clear hq
            rintro e w4 ⟨rfl, ha4⟩
            rw [HS3.out]
            have y6 := (aft_cellC ha4 (Nat.lt_of_lt_of_le hlt (Nat.le_trans ha2.size ha3.size))).trans y5
            have x4 := (aft_cellC ha4 (Nat.lt_of_lt_of_le hlx (Nat.le_trans ha2.size ha3.size))).trans x3
            go_wp2_with fail
            go_ret2
            have hE : provesE T R F = 9 := by unfold provesE valuesB zerosB; rw [if_pos HRE.out, HSH.out, HS1.out, HS2.out, HS3.out]; rfl
            exact ⟨((HRD.out.aft.trans ha2).trans ha3).trans ha4, by unfold provesN; rw [hE]; rfl⟩
          · have HS3 := Lib.hid hs3
            clear hs3
            have hE : provesE T R F = if holdsB T (leadsF T R) F then 0 else 9 := by unfold provesE valuesB zerosB; rw [if_pos HRE.out, HSH.out, HS1.out, HS2.out, HS3.out]; rfl
            have HE := Lib.hid hE
            clear hE
            go_enter Tryz.func44, Tryz.ntmps44
            go_wp2_with (go_at_call 69; refine HC.out.mono ?_; rintro e w1 ⟨D, cs, rfl, hrd, hx⟩; have HRD := Lib.hid hrd; have k0 := hrd.at0; rw [HPP.out] at k0; have k4 := hrd.at4; have x0 : w1.cell? ⟨w.heap.size + 1, 0, none⟩ = some (.slice AF F.length cF) := hx.cell 0; have hlt := hrd.lt; have hlx := hx.lt; have HX := Lib.hid hx; clear hrd hx)
            have hq := H86.out w1 HRD.out.aft hlt k0
            refine Calls.mono hq ?_
            clear hq
            rintro e w2 ⟨rfl, ha2⟩
            rw [HS1.out]
            have x2 := (aft_cellC ha2 hlx).trans x0
            have y4 := (aft_cellC ha2 hlt).trans k4
            go_wp2_with fail
            have hq := H87.out w2 (HRD.out.aft.trans ha2)
            refine Calls.mono hq ?_
            clear hq
            rintro e w3 ⟨rfl, ha3⟩
            rw [HS2.out]
            have z3 : w3.cell? ⟨w.heap.size, 3, none⟩ = some (.slice a3 T.starts.length c3) := ((HRD.out.later ha2).later ha3).at3
            have x3 := (aft_cellC ha3 (Nat.lt_of_lt_of_le hlx ha2.size)).trans x2
            have y5 := (aft_cellC ha3 (Nat.lt_of_lt_of_le hlt ha2.size)).trans y4
            go_wp2_with fail
            have hq := H88.out w3 ((HRD.out.aft.trans ha2).trans ha3) (Nat.lt_of_lt_of_le hlx (Nat.le_trans ha2.size ha3.size)) x3
            refine Calls.mono hq ?_
            clear hq
            rintro e w4 ⟨rfl, ha4⟩
            rw [HS3.out]
            have y6 := (aft_cellC ha4 (Nat.lt_of_lt_of_le hlt (Nat.le_trans ha2.size ha3.size))).trans y5
            have x4 := (aft_cellC ha4 (Nat.lt_of_lt_of_le hlx (Nat.le_trans ha2.size ha3.size))).trans x3
            go_wp2_with fail
            have hA4 : Aft w w4 := ((HRD.out.aft.trans ha2).trans ha3).trans ha4
            have HRD4 := Lib.hid (((HRD.out.later ha2).later ha3).later ha4)
            have HF4 := Lib.hid (hF.aft hA4)
            have HRW := Lib.hid (fun (i : Nat) (hi : i < T.legs.length + 1) => row_at HF4.out (show i < F.length by have := HN.out; omega) (HROW.out i hi) hp1)
            have HA4 := Lib.hid hA4
            obtain ⟨bF, oF, rfl, hbF, _⟩ := HF4.out.at (k := 0) (by have := HN.out; omega)
            clear HRD HX ha2 ha3 ha4 k0 k4 x0 hlt hlx x2 y4 z3 x3 y5 H86 H87 H88 HC hA4
            go_loop [52] (fun i => ∃ k : Nat, i = .int .i64 k ∧ k ≤ T.legs.length ∧ ∀ i, i < k → ∀ a, a < p → ∀ b, b < p → cellF F (i + 1) b ≤ cellF F i a + brk (leadsF T R) i a b) (fun i => T.legs.length - (intOf i).toNat)
            case atStart => exact ⟨0, rfl, by omega, fun i hi => by omega⟩
            case round =>
              obtain ⟨k, rfl, hk, hh⟩ := hrel
              have HH := Lib.hid hh
              clear hh
              by_cases hkl : k < T.legs.length
              · obtain ⟨b1, o1, d1, e1, f1, g1⟩ := HRW.out k (by omega)
                obtain ⟨b2, o2, d2, e2, f2, g2⟩ := HRW.out (k + 1) (by omega)
                have q1 := e1 bF oF rfl
                have q2 := e2 bF oF rfl
                have G1 := Lib.hid g1
                have G2 := Lib.hid g2
                have i1 : (0 : Int) ≤ (k : Int) ∧ (k : Int) < (F.length : Int) := by have := HN.out; omega
                have i2 : (0 : Int) ≤ ((k + 1 : Nat) : Int) ∧ ((k + 1 : Nat) : Int) < (F.length : Int) := by have := HN.out; omega
                clear e1 e2 g1 g2
                go_wp2_with fail
                go_loop [60] (fun i => ∃ a : Nat, i = .int .i64 a ∧ a ≤ p ∧ ∀ a', a' < a → ∀ b, b < p → cellF F (k + 1) b ≤ cellF F k a' + brk (leadsF T R) k a' b) (fun i => p - (intOf i).toNat)
                case atStart => exact ⟨0, rfl, by omega, fun i hi => by omega⟩
                case round =>
                  obtain ⟨a, rfl, hap, hh⟩ := hrel
                  have HH2 := Lib.hid hh
                  clear hh
                  by_cases hal : a < p
                  · have r1 := G1.out a hal
                    have v1 := HVAL.out k a (by omega) hal
                    go_wp2_with fail
                    go_loop [71] (fun i => ∃ b : Nat, i = .int .i64 b ∧ b ≤ p ∧ ∀ b', b' < b → cellF F (k + 1) b' ≤ cellF F k a + brk (leadsF T R) k a b') (fun i => p - (intOf i).toNat)
                    case atStart => exact ⟨0, rfl, by omega, fun i hi => by omega⟩
                    case round =>
                      obtain ⟨b, rfl, hbp, hh⟩ := hrel
                      have HH3 := Lib.hid hh
                      clear hh
                      by_cases hbl : b < p
                      · have r2 := G2.out b hbl
                        have v2 := HVAL.out (k + 1) b (by omega) hbl
                        have v3 := brk_bd (leadsF T R) k a b
                        have hbr := broken_any D T a1 a2 a3 a4 c1 c2 c3 c4 (leadsF T R) k a b w4 HRD4.out.desk (by omega) (by omega) (by omega) (by omega) (by omega) (by omega)
                        simp only [Int.toNat_natCast] at hbr
                        have HBR := Lib.hid (show Calls Tryz.prog 99 #[.pointer (some ⟨D, 0, none⟩), .int .i64 k, .int .i64 a, .int .i64 b] w4 (fun e w' => e = .returned (.int .i64 (brk (leadsF T R) k a b)) ∧ w4 = w') from hbr)
                        clear hbr
                        by_cases hc : cellF F (k + 1) b ≤ cellF F k a + brk (leadsF T R) k a b
                        · have HCC := Lib.hid hc
                          have hgt : decide (cellF F k a + brk (leadsF T R) k a b < cellF F (k + 1) b) = false := by simp; omega
                          clear hc
                          generalize hy : cellF F (k + 1) b = y at *
                          generalize hx : cellF F k a = x at *
                          generalize hz : brk (leadsF T R) k a b = z at *
                          have HZ := Lib.hid hz
                          have HY := Lib.hid hy
                          clear hx hy hz
                          go_wp2_with (go_at_call 99; refine HBR.out.mono ?_; rintro e w' ⟨rfl, rfl⟩)
                          go_round
                          case rel =>
                            refine ⟨b + 1, by go_num, by omega, fun b' hb' => ?_⟩
                            by_cases e : b' = b
                            · subst e; rw [HY.out, HZ.out]; exact HCC.out
                            · exact HH3.out b' (by omega)
                          case measure => simp [intOf]; omega
                        · have hgt : decide (cellF F k a + brk (leadsF T R) k a b < cellF F (k + 1) b) = true := by simp; omega
                          have hno : holdsB T (leadsF T R) F = false := by
                            rw [Bool.eq_false_iff, ne_eq, holdsB_iff]
                            intro h
                            exact hc (h k hkl a (by rw [HPP.out]; simpa using hal) b (by rw [HPP.out]; simpa using hbl))
                          have hE9 : provesE T R F = 9 := by rw [HE.out, hno]; rfl
                          have HE9 := Lib.hid hE9
                          clear hc hno hE9
                          generalize hy : cellF F (k + 1) b = y at *
                          generalize hx : cellF F k a = x at *
                          generalize hz : brk (leadsF T R) k a b = z at *
                          clear hx hy hz
                          go_wp2_with (go_at_call 99; refine HBR.out.mono ?_; rintro e w' ⟨rfl, rfl⟩)
                          go_ret2
                          exact ⟨HA4.out, by unfold provesN; rw [HE9.out]; rfl⟩
                      · obtain rfl : b = p := by omega
                        go_wp2_with fail
                        go_round
                        case rel =>
                          refine ⟨a + 1, by go_num, by omega, fun a' ha' b' hb' => ?_⟩
                          by_cases e : a' = a
                          · subst e; exact HH3.out b' hb'
                          · exact HH2.out a' (by omega) b' hb'
                        case measure => simp [intOf]; omega
                  · obtain rfl : a = p := by omega
                    go_wp2_with fail
                    go_round
                    case rel =>
                      refine ⟨k + 1, by go_num, by omega, fun i hi a' ha' b' hb' => ?_⟩
                      by_cases e : i = k
                      · subst e; exact HH2.out a' ha' b' hb'
                      · exact HH.out i (by omega) a' ha' b' hb'
                    case measure => simp [intOf]; omega
              · obtain rfl : k = T.legs.length := by omega
                have hyes : holdsB T (leadsF T R) F = true := holdsB_iff.2 fun i hi a ha b hb => HH.out i hi a (by rw [HPP.out] at ha; simpa using ha) b (by rw [HPP.out] at hb; simpa using hb)
                have hE0 : provesE T R F = 0 := by rw [HE.out, hyes]; rfl
                have HE0 := Lib.hid hE0
                clear hyes hE0
                obtain ⟨b1, o1, d1, e1, f1, g1⟩ := HRW.out T.legs.length (by omega)
                have q1 := e1 bF oF rfl
                have hlast : T.legs.length < F.length := by have := HN.out; omega
                have i1 : (0 : Int) ≤ (T.legs.length : Int) ∧ (T.legs.length : Int) < (F.length : Int) := by omega
                have hmn := last_ints HF4.out hlast (HROW.out T.legs.length (by omega)) q1 hp1
                have HMN := Lib.hid (min_any _ (F.getD T.legs.length []) d1 w4 hmn (by rw [HROW.out _ (by omega)]; omega))
                rw [HROW.out _ (by omega)] at HMN
                obtain ⟨lst, hls⟩ : ∃ l, F.getD T.legs.length [] = l := ⟨_, rfl⟩
                rw [hls] at HMN
                have HLS := Lib.hid hls
                clear e1 g1 hmn hls
                go_wp2_with (go_at_call 105; refine HMN.out.mono ?_; rintro e w' ⟨rfl, rfl⟩)
                go_ret2
                refine ⟨HA4.out, ?_⟩
                unfold provesN
                rw [if_pos HE0.out, HE0.out, HROW.out _ (by omega), HLS.out]
                rfl
    · have hb1 : ((F.length : Int) != (T.legs.length : Int) + 1) = true := by simp; omega
      have HN := Lib.hid hn
      clear hn
      go_enter Tryz.func44, Tryz.ntmps44
      go_wp2_with (go_at_call 69; refine HC.out.mono ?_; rintro e w1 ⟨D, cs, rfl, hrd, hx⟩; have HRD := Lib.hid hrd; have k0 := hrd.at0; have k4 := hrd.at4; have x0 : w1.cell? ⟨w.heap.size + 1, 0, none⟩ = some (.slice AF F.length cF) := hx.cell 0; clear hrd hx)
      go_ret2
      have hE : provesE T R F = 3 := by unfold provesE; rw [if_pos HRE.out, if_neg (by unfold shapeB; rw [decide_eq_false HN.out, Bool.false_and]; decide)]
      exact ⟨HRD.out.aft, by unfold provesN; rw [hE]; rfl⟩
  · have hb : (readE T R != 0) = true := by simpa using hre
    have HC := Lib.hid (read_bad' (c1 := c1) (c2 := c2) (c3 := c3) (c4 := c4) (cR := cR) (o := .cells #[.slice AF F.length cF] 37) hT hR hre)
    have HRE := Lib.hid hre
    clear hre
    go_enter Tryz.func44, Tryz.ntmps44
    go_wp2_with (go_at_call 69; refine HC.out.mono ?_; rintro e w' ⟨rfl, ha⟩)
    go_ret2
    have hE : provesE T R F = readE T R := if_neg HRE.out
    exact ⟨ha, by unfold provesN; rw [hE, if_neg HRE.out]; rfl⟩
end Go.Proofs
end

section
/- Plain: floors hold and prove the fewest; no others prove more. -/
namespace Go.Proofs
open Go.RowKit

theorem argmin_min (g : Nat → Int) (k : Nat) : ∀ j, j < k → g (argmin g k) ≤ g j := by
  induction k with
  | zero => intro j h; omega
  | succ k ih =>
    intro j h
    unfold argmin
    split
    · rename_i hlt
      by_cases e : j = k
      · subst e; exact Int.le_refl _
      · have := ih j (by omega); omega
    · rename_i hlt
      by_cases e : j = k
      · subst e; omega
      · exact ih j (by omega)





end Go.Proofs
end

section
/- Walks: TreatyProved: the region that writes a floor of a start. -/
namespace Go.Proofs
open Go.RowKit

theorem setc' (X : World) (L i : Nat) (v : Value) : X.grownBy (X.setCell ⟨L, i, none⟩ v) (some L) := only_setCell (only_refl X (some L)) (p := ⟨L, i, none⟩) (.inl rfl) v





end Go.Proofs
end

section
/- A region that draws its order, by facts that may say which operations are done. -/
namespace Go

/-- The state in which some of the operations are done. -/
structure HeldE (ops : Array Oper) (Fact : (Nat → Bool) → Nat → Value → World → Prop) (Wd : (Nat → Bool) → World → Prop) (a0 : Act) (done : Nat → Bool) (a : Act) (w : World) : Prop where
  wd : Wd done w
  size : a.tmps.size = a0.tmps.size
  defers : a.defers = a0.defers
  closed : ∀ i o, ops[i]? = some o → done i = true → ∀ j ∈ Region.preds o, done j = true
  old : ∀ s, (∀ i o, ops[i]? = some o → o.dst = some s → done i = false) → a.eval (.tmp s) = a0.eval (.tmp s)
  fact : ∀ (i : Nat) (o : Oper) (s : Nat), ops[i]? = some o → o.dst = some s → done i = true → Fact done i (a.eval (.tmp s)) w

section
variable {P : Program} {ops : Array Oper} {Q : Exit → Act → World → Prop} {Fact : (Nat → Bool) → Nat → Value → World → Prop} {Wd : (Nat → Bool) → World → Prop} {a0 : Act}

theorem HeldE.put {done : Nat → Bool} {a : Act} {w w' : World} {i : Nat} {o : Oper} {v : Value} (h : HeldE ops Fact Wd a0 done a w) (ho : ops[i]? = some o) (hd : done i = false) (hp : ∀ j ∈ Region.preds o, done j = true)
    (hdst : ∀ (i j : Nat) (oi oj : Oper) (s : Nat), ops[i]? = some oi → ops[j]? = some oj → oi.dst = some s → oj.dst = some s → i = j) (hin : ∀ (i : Nat) (o : Oper) (s : Nat), ops[i]? = some o → o.dst = some s → s < a0.tmps.size)
    (hf : Fact (Go.upd done i) i v w') (hw : Wd (Go.upd done i) w') (hk : ∀ (j : Nat) (oj : Oper) (s : Nat), ops[j]? = some oj → oj.dst = some s → done j = true → Fact done j (a.eval (.tmp s)) w → Fact (Go.upd done i) j (a.eval (.tmp s)) w') : HeldE ops Fact Wd a0 (Go.upd done i) (a.put o.dst v) w' := by
  refine ⟨hw, ?_, ?_, fun k ok hk' hdk j hj => ?_, fun s hs => ?_, fun k ok s hk' hs hdk => ?_⟩
  · rw [← h.size]; unfold Act.put; split <;> simp
  · rw [← h.defers]; unfold Act.put; split <;> rfl
  · unfold Go.upd at hdk ⊢
    by_cases e : j = i
    · rw [if_pos e]
    · rw [if_neg e]
      by_cases e2 : k = i
      · subst e2
        rw [ho] at hk'; cases hk'
        exact hp j hj
      · rw [if_neg e2] at hdk
        exact h.closed k ok hk' hdk j hj
  · have hne : ∀ d, o.dst = some d → (Operand.tmp s) ≠ .tmp d := fun d hd' e => by
      cases e
      have := hs i o ho hd'
      simp [Go.upd] at this
    rw [Act.eval_put hne]
    refine h.old s fun k ok hk' hs' => ?_
    have := hs k ok hk' hs'
    unfold Go.upd at this
    split at this
    · cases this
    · exact this
  · by_cases e : k = i
    · subst e
      rw [ho] at hk'; cases hk'
      rw [hs, Act.eval_put_same _ _ _ (by rw [h.size]; exact hin k o s ho hs)]
      exact hf
    · unfold Go.upd at hdk
      rw [if_neg e] at hdk
      have hne : ∀ d, o.dst = some d → (Operand.tmp s) ≠ .tmp d := fun d hd' e2 => by
        cases e2
        exact e (hdst k i ok o s hk' ho hs hd')
      rw [Act.eval_put hne]
      exact hk k ok s hk' hs hdk (h.fact k ok s hk' hs hdk)

theorem wpAny_factsE (hg : ∀ (i : Nat) (o : Oper), ops[i]? = some o → o.guard = none) (hdst : ∀ (i j : Nat) (oi oj : Oper) (s : Nat), ops[i]? = some oi → ops[j]? = some oj → oi.dst = some s → oj.dst = some s → i = j) (hin : ∀ (i : Nat) (o : Oper) (s : Nat), ops[i]? = some o → o.dst = some s → s < a0.tmps.size)
    (hlt : ∀ (i : Nat) (o : Oper), ops[i]? = some o → ∀ j ∈ Region.preds o, j < i)
    (step : ∀ (i : Nat) (o : Oper), ops[i]? = some o → ∀ (done : Nat → Bool) (a : Act) (w : World), HeldE ops Fact Wd a0 done a w → done i = false → (∀ j ∈ Region.preds o, done j = true) → ∀ K : Act → World → Prop,
      (∀ (v : Value) (w' : World), Fact (Go.upd done i) i v w' → Wd (Go.upd done i) w' → (∀ (j : Nat) (oj : Oper) (s : Nat), ops[j]? = some oj → oj.dst = some s → done j = true → Fact done j (a.eval (.tmp s)) w → Fact (Go.upd done i) j (a.eval (.tmp s)) w') → K (a.put o.dst v) w') → Oper.wp P o a w K Q)
    (fin : ∀ (done : Nat → Bool) (a : Act) (w : World), (∀ i, i < ops.size → done i = true) → HeldE ops Fact Wd a0 done a w → Q .normal a w) :
    ∀ (fuel : Nat) (listed : Array Bool) (a : Act) (w : World), listed.size = ops.size → HeldE ops Fact Wd a0 (dn listed) a w → (unl ops (dn listed)).length ≤ fuel → wpAny P .any ops Q fuel listed a w
  | 0, listed, a, w, hs, h, hf => by
    have hd : ∀ i, i < ops.size → dn listed i = true := fun i hi => by
      cases hd : dn listed i with
      | true => rfl
      | false =>
        have : i ∈ unl ops (dn listed) := List.mem_filter.2 ⟨List.mem_range.2 hi, by simp [hd]⟩
        have hz : unl ops (dn listed) = [] := List.eq_nil_of_length_eq_zero (by omega)
        rw [hz] at this
        cases this
    refine ⟨?_, fin _ a w hd h⟩
    cases hr : Region.ready .any ops listed with
    | nil => rfl
    | cons i r =>
      obtain ⟨o, ho, h1, _⟩ := mem_ready' rfl hs (show i ∈ Region.ready .any ops listed by rw [hr]; simp)
      rw [hd i (Array.getElem?_eq_some_iff.1 ho).1] at h1
      cases h1
  | fuel + 1, listed, a, w, hs, h, hf => by
    refine ⟨fun hr => fin _ a w (all_done hs hlt hr) h, fun i hi => ?_⟩
    obtain ⟨o, ho, h1, h2⟩ := mem_ready' rfl hs hi
    have hio := (Array.getElem?_eq_some_iff.1 ho).1
    unfold wpOp
    simp only [ho]
    have hw : Region.wanted o (yielded ops a.tmps) = true := by simp [Region.wanted, hg i o ho]
    rw [if_pos hw]
    refine .inl (step i o ho _ a w h h1 h2 _ fun v w' hf' hw' hk => ?_)
    refine wpAny_factsE hg hdst hin hlt step fin fuel _ _ _ (by simpa using hs) ?_ ?_
    · rw [dn_set (by omega)]
      exact h.put ho h1 h2 hdst hin hf' hw' hk
    · rw [dn_set (by omega)]
      have := unl_lt (ops := ops) hio h1
      omega


/-- **A region that draws its order, by facts.** -/
theorem wp_region_factsE {id : Nat} {xs : List Oper} {w : World} (hm : P.follows .mixedOrders = true) (n : Nat) (hn : a0.tmps.size = n) (hB : factsB xs n = true)
    (Fact : (Nat → Bool) → Nat → Value → World → Prop) (Wd : (Nat → Bool) → World → Prop) (h0 : Wd (fun _ => false) w.drew)
    (step : ∀ (i : Nat) (o : Oper), xs[i]? = some o → ∀ (done : Nat → Bool) (a : Act) (w : World), HeldE xs.toArray Fact Wd a0 done a w → done i = false → (∀ j ∈ Region.preds o, done j = true) → ∀ K : Act → World → Prop,
      (∀ (v : Value) (w' : World), Fact (Go.upd done i) i v w' → Wd (Go.upd done i) w' → (∀ (j : Nat) (oj : Oper) (s : Nat), xs[j]? = some oj → oj.dst = some s → done j = true → Fact done j (a.eval (.tmp s)) w → Fact (Go.upd done i) j (a.eval (.tmp s)) w') → K (a.put o.dst v) w') → Oper.wp P o a w K Q)
    (fin : ∀ (done : Nat → Bool) (a : Act) (w : World), (∀ i, i < xs.length → done i = true) → HeldE xs.toArray Fact Wd a0 done a w → Q .normal a w) : (Code.region id xs.toArray true).wp P Q a0 w := by
  unfold factsB at hB
  rw [Bool.and_eq_true, Bool.and_eq_true, Bool.and_eq_true] at hB
  obtain ⟨⟨⟨h1, h2⟩, h3⟩, h4⟩ := hB
  refine wp_region_any hm ?_
  have e0 : dn (Array.replicate xs.toArray.size false) = fun _ => false := by
    funext i
    unfold dn
    rw [Array.getD_eq_getD_getElem?, Array.getElem?_replicate]
    split <;> rfl
  refine wpAny_factsE (Fact := Fact) (Wd := Wd) (a0 := a0) (fun i o ho => ?_) (fun i j oi oj s hi hj => nodup_dst (of_decide_eq_true h2) i j oi oj s (by simpa using hi) (by simpa using hj)) (fun i o s ho hs => ?_) (fun i o ho j hj => ?_)
    (fun i o ho done a w h hd hp K hK => step i o (by simpa using ho) done a w h hd hp K (fun v w' h1 h2 h3 => hK v w' h1 h2 (fun j oj s hj => h3 j oj s (by simpa using hj)))) (fun done a w hd => fin done a w (by simpa using hd)) _ _ _ _ (by simp) ?_ ?_
  · have := List.all_eq_true.1 h1 o (List.mem_of_getElem? (by simpa using ho))
    simpa using this
  · have := List.all_eq_true.1 h3 o (List.mem_of_getElem? (by simpa using ho))
    rw [hs] at this
    rw [hn]
    simpa using this
  · have ho' : xs[i]? = some o := by simpa using ho
    have := List.all_eq_true.1 h4 i (List.mem_range.2 (List.getElem?_eq_some_iff.1 ho').1)
    rw [ho'] at this
    have := List.all_eq_true.1 this j hj
    simpa using this
  · rw [e0]
    exact ⟨h0, rfl, rfl, (fun i o _ h => by cases h), (fun s _ => rfl), (fun i o s _ _ h => by cases h)⟩
  · have : (unl xs.toArray (dn (Array.replicate xs.toArray.size false))).length ≤ (List.range xs.toArray.size).length := List.length_filter_le _ _
    simpa using this
end
end Go
end

section
/- Plain: a desk on which some legs yield. -/
namespace Go.Proofs

/-- whether each leg can lead, if some legs yield -/
def setS (f : Nat → Nat → Nat → Bool) (S : List Int) (p : Nat) : Nat → Nat → Nat → Bool := fun i x y => f i x y || hasB S i && decide (x < p) && decide (y < p)


section
variable {f g : Nat → Nat → Nat → Bool} {S : List Int} {p leg a b : Nat}
end
end Go.Proofs
end

section
/- Walks: whether a line can begin; Enough. -/
namespace Go.Proofs
open Go.RowKit

theorem containsFunc_int {α : Type} (R : World → α → List Value → Prop) (K : FuncId) (cap : List Value) (p : α → Bool) (A : Option Addr) (l : List α) (c : Nat) (w : World) (hA : RowsP w A 1 R l)
    (hK : ∀ args w, (callFunc K args).run Tryz.prog w = .ok (.enter K args) w)
    (hp : ∀ x ∈ l, ∀ v0, R w x [v0] → Asks Tryz.prog K cap w v0 (p x)) :
    Calls Tryz.prog 51 #[.slice A l.length c, .func (.func K) #[] cap.toArray] w fun e w' => e = .returned (.bool (l.any p)) ∧ Aft w w' := by
  have HC := Lib.hid (indexFunc_int R K cap p A l c w hA hK hp)
  go_enter Tryz.func51, Tryz.ntmps51
  go_wp2_with (go_at_call 111; refine HC.out.mono ?_; rintro e w' ⟨hr, ha⟩; obtain ⟨n, rfl, hn⟩ := hr.sign; clear hr; have HN := Lib.hid hn; clear hn)
  go_ret
  exact ⟨ret_bool (by have := HN.out; cases h : l.any p <;> simp_all), ha⟩

theorem runs_95 (args : Array Value) (w : World) : (callFunc 128 args).run Tryz.prog w = .ok (.enter 128 args) w := by simp [go_sem]
theorem runs_97 (args : Array Value) (w : World) : (callFunc 52 args).run Tryz.prog w = .ok (.enter 52 args) w := by simp [go_sem]

/-- A rule that lies in a box, asked for the start. -/
theorem rule95_any (B rb : Nat) (cs : Array Value) (g : Nat → Nat → Bool) (a : Int) (w : World) (hb : Blk w B 110 cs) (hg : BGrid cs g) (hr : w.cell? ⟨rb, 0, none⟩ = some (.func (.func 110) #[] #[.pointer (some ⟨B, 0, none⟩)])) (ha : 0 ≤ a) (ha' : a < 12) :
    Calls Tryz.prog 128 #[.int .i64 a, .pointer (some ⟨rb, 0, none⟩)] w fun e w' => e = .returned (.bool (g 0 a.toNat)) ∧ w = w' := by
  have HA := Lib.hid (ahead1_any B cs g 0 a w hb hg (by decide) (by decide) ha ha')
  go_enter Tryz.func128, Tryz.ntmps128
  go_wp2_with (go_at_call 110; refine HA.out.mono ?_; rintro e w' ⟨rfl, rfl⟩)
  go_ret
  exact ⟨rfl, rfl⟩
theorem rule97_any (B rb : Nat) (cs : Array Value) (g : Nat → Nat → Bool) (a : Int) (w : World) (hb : Blk w B 110 cs) (hg : BGrid cs g) (hr : w.cell? ⟨rb, 0, none⟩ = some (.func (.func 110) #[] #[.pointer (some ⟨B, 0, none⟩)])) (ha : 0 ≤ a) (ha' : a < 12) :
    Calls Tryz.prog 52 #[.int .i64 a, .pointer (some ⟨rb, 0, none⟩)] w fun e w' => e = .returned (.bool (g 0 a.toNat)) ∧ w = w' := by
  have HA := Lib.hid (ahead1_any B cs g 0 a w hb hg (by decide) (by decide) ha ha')
  go_enter Tryz.func52, Tryz.ntmps52
  go_wp2_with (go_at_call 110; refine HA.out.mono ?_; rintro e w' ⟨rfl, rfl⟩)
  go_ret
  exact ⟨rfl, rfl⟩

/-- whether a line can begin anywhere -/
def opens (T : Treaty) (f : Nat → Nat → Nat → Bool) : Bool := T.starts.any fun s => ahd T f T.legs.length 0 s.toNat

theorem opens_any (K : Nat) (hK : K = 128 ∨ K = 52) (T : Treaty) (f : Nat → Nat → Nat → Bool) (a3 : Option Addr) (c3 : Nat) (B rb : Nat) (cs : Array Value) (g : Nat → Nat → Bool) (w : World) (hs : Ints w a3 T.starts) (hb : Blk w B 110 cs) (hg : BGrid cs g) (hrl : rb < w.heap.size) (hr : w.cell? ⟨rb, 0, none⟩ = some (.func (.func 110) #[] #[.pointer (some ⟨B, 0, none⟩)]))
    (hst : ∀ s ∈ T.starts, 0 ≤ s ∧ s < T.places) (hp : T.places ≤ 12) (hgf : ∀ j, j < T.places.toNat → g 0 j = ahd T f T.legs.length 0 j) :
    Calls Tryz.prog 51 #[.slice a3 T.starts.length c3, .func (.func K) #[] #[.pointer (some ⟨rb, 0, none⟩)]] w fun e w' => e = .returned (.bool (opens T f)) ∧ Aft w w' := by
  have key : ∀ x ∈ T.starts, ∀ v0, IntR w x [v0] → Asks Tryz.prog K [.pointer (some ⟨rb, 0, none⟩)] w v0 (ahd T f T.legs.length 0 x.toNat) := by
    intro x hx v0 hv u
    cases hv
    have := hst x hx
    rw [← hgf x.toNat (by omega)]
    have hr' : (w.lat u).cell? ⟨rb, 0, none⟩ = some (.func (.func 110) #[] #[.pointer (some ⟨B, 0, none⟩)]) := (World.lat_cell _ _ _ _ hrl).trans hr
    rcases hK with rfl | rfl
    · exact (rule95_any B rb cs g x (w.lat u) (hb.lat u) hg hr' (by omega) (by omega)).mono fun _ _ ⟨h1, h2⟩ => ⟨h1, h2 ▸ Aft.refl _⟩
    · exact (rule97_any B rb cs g x (w.lat u) (hb.lat u) hg hr' (by omega) (by omega)).mono fun _ _ ⟨h1, h2⟩ => ⟨h1, h2 ▸ Aft.refl _⟩
  rcases hK with rfl | rfl
  · exact containsFunc_int IntR 128 [.pointer (some ⟨rb, 0, none⟩)] _ a3 T.starts c3 w hs runs_95 key
  · exact containsFunc_int IntR 52 [.pointer (some ⟨rb, 0, none⟩)] _ a3 T.starts c3 w hs runs_97 key
end Go.Proofs
end
