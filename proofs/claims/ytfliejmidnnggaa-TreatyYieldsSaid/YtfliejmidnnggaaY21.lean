/- Own texts, merged: Ren Rfw Rmy. -/
import Derived.Test.YtfliejmidnnggaaY16
import Derived.Test.YtfliejmidnnggaaY20
import Derived.BigGuard
section
/- Walks: the reference's enough. -/
namespace Go.Proofs
open Go.RowKit
attribute [local go_sem] Oper.semAt_some

theorem boxC {X : World} {g : Nat} {t : TypeId} {p v1 v2 v3 v4 : Value} (h : Blk X g t #[p, v1, v2, v3, v4]) : X.cell? ⟨g, 0, none⟩ = some p ∧ X.cell? ⟨g, 1, none⟩ = some v1 ∧ X.cell? ⟨g, 2, none⟩ = some v2 ∧ X.cell? ⟨g, 3, none⟩ = some v3 ∧ X.cell? ⟨g, 4, none⟩ = some v4 :=
  ⟨h.cell 0, h.cell 1, h.cell 2, h.cell 3, h.cell 4⟩
/-- A row of bools in a block that was not there in Y. -/
def NRow (Y : World) (b P : Nat) (g : Nat → Bool) (W : World) : Prop := Aft Y W ∧ Y.heap.size ≤ b ∧ BRow W b P g
theorem NRow.set {Y W : World} {b P : Nat} {g : Nat → Bool} (h : NRow Y b P g W) {c : Nat} (hc : c < P) (x : Bool) {g' : Nat → Bool} (he : ∀ d, d < P → (if d = c then x else g d) = g' d) : NRow Y b P g' (W.setCell ⟨b, c, none⟩ (.bool x)) :=
  ⟨h.1.then_setCell h.2.1 _, h.2.1, (h.2.2.set hc x).congr he⟩

set_option maxRecDepth 100000 in
set_option maxHeartbeats 8000000 in
theorem enoughRef_any (w : World) (T : Treaty) (a1 a2 a3 a4 : Option Addr) (c1 c2 c3 c4 : Nat) (R : List Int) (AR : Option Addr) (cR : Nat) (hT : TRep w T a1 a2 a3 a4) (hR : Ints w AR R) (ok : TOk T) (hro : ReadOk T R) (S : Nat → Bool) (bs : Nat) (hS : BRow w bs T.legs.length S) :
    Calls Try.prog 91 #[.agg #[.int .i64 T.places, .slice a1 T.ways.length c1, .slice a2 T.words.length c2, .slice a3 T.starts.length c3, .slice a4 T.legs.length c4], .slice AR R.length cR, .slice (some ⟨bs, 0, none⟩) T.legs.length T.legs.length] w fun e w' => e = .returned (.bool (enB T (leadsF T R) S)) ∧ Aft w w' := by
  have HLG := Lib.hid (fun (y : World) (hy : Aft w y) => legsRef_any y T a1 a2 a3 a4 c1 c2 c3 c4 R AR cR (hT.aft hy) (hR.aft hy) ok hro)
  obtain ⟨P, hP⟩ := Int.eq_ofNat_of_zero_le (show 0 ≤ T.places from by have := ok.p1; omega)
  have hP1 : 1 ≤ P := by have := ok.p1; omega
  have hP2 : P ≤ 12 := by have := ok.p2; omega
  have HPN : Hid (T.places.toNat = P) := Lib.hid (by rw [hP]; rfl)
  have hln := ok.nlegs
  have HST := Lib.hid hT.starts
  have hsl := hT.starts.len
  have HSR : Hid (∀ x ∈ T.starts, ∃ n : Nat, x = n ∧ n < P) := Lib.hid fun x hx => by have := ok.starts x hx; exact ⟨x.toNat, by omega, by omega⟩
  have HS := Lib.hid hS
  rw [hP] at HLG
  rw [hP]
  clear hT hR ok hro hS hP
  go_enter Try.func91, Try.ntmps91
  go_upto_region 1 with fail
  have hb := Blk.new w 36 #[.int .i64 P, .slice a1 T.ways.length c1, .slice a2 T.words.length c2, .slice a3 T.starts.length c3, .slice a4 T.legs.length c4]
  have ha := Aft.alloc w (.cells #[.int .i64 P, .slice a1 T.ways.length c1, .slice a2 T.words.length c2, .slice a3 T.starts.length c3, .slice a4 T.legs.length c4] 36)
  generalize w.alloc (.cells #[.int .i64 P, .slice a1 T.ways.length c1, .slice a2 T.words.length c2, .slice a3 T.starts.length c3, .slice a4 T.legs.length c4] 36) = X at *
  generalize w.heap.size = B0 at *
  have HB := Lib.hid hb
  have HA := Lib.hid ha
  obtain ⟨k0, k1, k2', k3, k4⟩ := boxC hb
  clear hb ha
  (repeat (first | go_big_skip | go_big_want | go_big_move | go_big_op | go_step | go_upon | go_back))
  go_at_call 92
  refine (HLG.out X HA.out).mono ?_
  rintro e Y ⟨v, rfl, haY, hL⟩
  obtain ⟨vs, hown, -⟩ := hL.ex
  obtain ⟨vA, vc, rfl⟩ := own_slice2 hown
  dsimp only
  rw [Int.toNat_natCast] at hL
  have HL := Lib.hid hL
  have HAY := Lib.hid (HA.out.trans haY)
  have HBY := Lib.hid (HB.out.aft haY)
  clear k0 k1 k2' k3 k4 haY hL hown HB HA HLG
  obtain ⟨k0, k1, k2', k3, k4⟩ := boxC HBY.out
  go_upto_region 3 with (at_make; refine wpList_make_bools rfl _ _ rfl rfl rfl (by omega) ?_)
  have HN0 : Hid (NRow Y Y.heap.size P (fun c => hasB (T.starts.take 0) c) (Y.alloc (.cells (madeCells #[.bool false] P) 4))) := Lib.hid ⟨Aft.alloc _ _, Nat.le_refl _, (BRow.made _ _).congr fun _ _ => rfl⟩
  generalize Y.alloc (.cells (madeCells #[.bool false] P) 4) = Y1 at *
  generalize hbn : Y.heap.size = bn at *
  clear k0 k1 k2' k3 k4 hbn
  (repeat (first | go_big_skip | go_big_want | go_big_move | go_big_op | go_step | go_upon | go_back))
  go_loopw [9] (fun i wr => ∃ k : Nat, i = .int .i64 k ∧ k ≤ T.starts.length ∧ NRow Y bn P (fun c => hasB (T.starts.take k) c) wr) (fun i _ => T.starts.length - (intOf i).toNat)
  case atStart => exact ⟨0, rfl, by omega, HN0.out⟩
  case round =>
    obtain ⟨k, rfl, hk, hn⟩ := hrel
    have HN := Lib.hid hn
    obtain ⟨k0, k1, k2', k3, k4⟩ := boxC (HBY.out.aft hn.1)
    clear hn HN0
    by_cases hkn : k < T.starts.length
    · have hdec : decide (k < T.starts.length) = true := decide_eq_true hkn
      have i1 : (0 : Int) ≤ (k : Int) ∧ (k : Int) < (T.starts.length : Int) := by omega
      obtain ⟨b3, o3, rfl, hb3, hc3⟩ := (HST.out.aft (HAY.out.trans HN.out.1)).at hkn
      have x0 := hc3 k hkn
      obtain ⟨s, hs, hsP⟩ := HSR.out _ (List.getElem_mem hkn)
      rw [hs] at x0
      have i2 : (0 : Int) ≤ (s : Int) ∧ (s : Int) < (P : Int) := by omega
      have y0 := HN.out.2.2.cell hsP
      have y1 := HN.out.2.2.frozen s
      have hlt := HN.out.2.2.lt
      have HN' : Hid (NRow Y bn P (fun c => hasB (T.starts.take (k + 1)) c) (wr.setCell ⟨bn, s, none⟩ (.bool true))) := Lib.hid (HN.out.set hsP true fun d _ => by
        rw [List.take_succ_eq_append_getElem hkn, hs]
        unfold hasB
        rw [List.contains_eq_mem, List.contains_eq_mem]
        by_cases e : d = s
        · subst e; simp
        · have : ¬ ((d : Int) = (s : Int)) := by omega
          simp [e, this])
      clear hc3 hs
      (repeat (first | go_big_skip | go_big_want | go_big_move | go_big_op | go_step | go_upon | go_back))
      exact ⟨⟨k + 1, by go_num, by omega, HN'.out⟩, by simp [intOf]; omega⟩
    · have hdec : decide (k < T.starts.length) = false := decide_eq_false hkn
      have HN1 : Hid (NRow Y bn P (nowF T (leadsF T R) S 0) wr) := Lib.hid (by have := HN.out; rw [List.take_of_length_le (by omega)] at this; exact this)
      clear HN
      (repeat (first | go_big_skip | go_big_want | go_big_move | go_big_op | go_step | go_upon | go_back))
      go_loopw [8, 10] (fun v i wr => ∃ k b : Nat, i = .int .i64 k ∧ v = .slice (some ⟨b, 0, none⟩) P P ∧ k ≤ T.legs.length ∧ NRow Y b P (nowF T (leadsF T R) S k) wr) (fun _ i _ => T.legs.length - (intOf i).toNat)
      case atStart => exact ⟨0, bn, rfl, rfl, by omega, HN1.out⟩
      case round =>
        obtain ⟨k, b, rfl, rfl, hk, hn⟩ := hrel
        have HN := Lib.hid hn
        obtain ⟨k0, k1, k2', k3, k4⟩ := boxC (HBY.out.aft hn.1)
        clear hn HN1
        by_cases hkn : k < T.legs.length
        · have hdec : decide (k < T.legs.length) = true := decide_eq_true hkn
          go_upto_region 11 with (at_make; refine wpList_make_bools rfl _ _ rfl rfl rfl (by omega) ?_)
          have HM0 : Hid (NRow wr wr.heap.size P (fun c => nextF T (leadsF T R) S k 0 c) (wr.alloc (.cells (madeCells #[.bool false] P) 4))) := Lib.hid ⟨Aft.alloc _ _, Nat.le_refl _, (BRow.made _ _).congr fun _ _ => rfl⟩
          generalize wr.alloc (.cells (madeCells #[.bool false] P) 4) = Y1 at *
          generalize wr = y at *
          generalize hbx : y.heap.size = bx at *
          clear k0 k1 k2' k3 k4 hbx
          (repeat (first | go_big_skip | go_big_want | go_big_move | go_big_op | go_step | go_upon | go_back))
          go_loopw [12] (fun i wr => ∃ k3 : Nat, i = .int .i64 k3 ∧ k3 ≤ P ∧ NRow y bx P (fun c => nextF T (leadsF T R) S k k3 c) wr) (fun i _ => P - (intOf i).toNat)
          case atStart => exact ⟨0, rfl, by omega, HM0.out⟩
          case round =>
            obtain ⟨k3, rfl, hk3, hm⟩ := hrel
            have HM := Lib.hid hm
            obtain ⟨k0, k1, k2', m3, k4⟩ := boxC (HBY.out.aft (HN.out.1.trans hm.1))
            clear hm HM0
            by_cases hkP : k3 < P
            · have hdec3 : decide (k3 < P) = true := decide_eq_true hkP
              have HJ0 : Hid (NRow y bx P (fun c => if c < 0 then nextF T (leadsF T R) S k (k3 + 1) c else nextF T (leadsF T R) S k k3 c) wr) := Lib.hid HM.out
              (repeat (first | go_big_skip | go_big_want | go_big_move | go_big_op | go_step | go_upon | go_back))
              clear k0 k1 k2' m3 k4
              go_loopw [13] (fun i wr => ∃ j : Nat, i = .int .i64 j ∧ j ≤ P ∧ NRow y bx P (fun c => if c < j then nextF T (leadsF T R) S k (k3 + 1) c else nextF T (leadsF T R) S k k3 c) wr) (fun i _ => P - (intOf i).toNat)
              case atStart => exact ⟨0, rfl, by omega, HJ0.out⟩
              case round =>
                obtain ⟨j, rfl, hj, hm⟩ := hrel
                have HJ := Lib.hid hm
                obtain ⟨k0, k1, k2', m3, k4⟩ := boxC (HBY.out.aft (HN.out.1.trans hm.1))
                clear hm HJ0
                by_cases hjP : j < P
                · have hdecj : decide (j < P) = true := decide_eq_true hjP
                  have y0 : wr.cell? ⟨bx, j, none⟩ = some (.bool (nextF T (leadsF T R) S k k3 j)) := by have := HJ.out.2.2.cell hjP; rw [if_neg (by omega)] at this; exact this
                  have y1 := HJ.out.2.2.frozen j
                  have hlt := HJ.out.2.2.lt
                  have n0 : wr.cell? ⟨b, k3, none⟩ = some (.bool (nowF T (leadsF T R) S k k3)) := (HN.out.2.2.aft HJ.out.1).cell hkP
                  have s0 : wr.cell? ⟨bs, k, none⟩ = some (.bool (S k)) := (HS.out.aft (HAY.out.trans (HN.out.1.trans HJ.out.1))).cell hkn
                  obtain ⟨bv, cv, bt, ct, ev, cT, hrows⟩ := (HL.out.aft (HN.out.1.trans HJ.out.1)).cells hkn
                  cases ev
                  obtain ⟨br, r1, hr2⟩ := hrows k3 hkP
                  have r2 := hr2 j hjP
                  have i1 : (0 : Int) ≤ (k : Int) ∧ (k : Int) < (T.legs.length : Int) := by omega
                  have i2 : (0 : Int) ≤ (k3 : Int) ∧ (k3 : Int) < (P : Int) := by omega
                  have i3 : (0 : Int) ≤ (j : Int) ∧ (j : Int) < (P : Int) := by omega
                  have HJ' : Hid (NRow y bx P (fun c => if c < j + 1 then nextF T (leadsF T R) S k (k3 + 1) c else nextF T (leadsF T R) S k k3 c) (wr.setCell ⟨bx, j, none⟩ (.bool (nextF T (leadsF T R) S k k3 j || nowF T (leadsF T R) S k k3 && (S k || leadsF T R k k3 j))))) := Lib.hid (HJ.out.set hjP _ fun d _ => by
                    by_cases e : d = j
                    · subst e; rw [if_pos rfl, if_pos (by omega), nextF_succ]
                    · rw [if_neg e]
                      by_cases h2 : d < j
                      · rw [if_pos h2, if_pos (by omega)]
                      · rw [if_neg h2, if_neg (by omega)])
                  clear hrows hr2
                  generalize nextF T (leadsF T R) S k k3 j = q1 at *
                  generalize nowF T (leadsF T R) S k k3 = q2 at *
                  generalize S k = q3 at *
                  cases q1 with
                  | true =>
                    simp only [Bool.true_or] at HJ'
                    (repeat (first | go_big_skip | go_big_want | go_big_move | go_big_op | go_step | go_upon | go_back))
                    exact ⟨⟨j + 1, by go_num, by omega, HJ'.out⟩, by simp [intOf]; omega⟩
                  | false =>
                    cases q2 with
                    | false =>
                      simp only [Bool.false_or, Bool.false_and] at HJ'
                      (repeat (first | go_big_skip | go_big_want | go_big_move | go_big_op | go_step | go_upon | go_back))
                      exact ⟨⟨j + 1, by go_num, by omega, HJ'.out⟩, by simp [intOf]; omega⟩
                    | true =>
                      cases q3 with
                      | true =>
                        simp only [Bool.false_or, Bool.true_and, Bool.true_or] at HJ'
                        (repeat (first | go_big_skip | go_big_want | go_big_move | go_big_op | go_step | go_upon | go_back))
                        exact ⟨⟨j + 1, by go_num, by omega, HJ'.out⟩, by simp [intOf]; omega⟩
                      | false =>
                        simp only [Bool.false_or, Bool.true_and] at HJ'
                        generalize leadsF T R k k3 j = ld at *
                        (repeat (first | go_big_skip | go_big_want | go_big_move | go_big_op | go_step | go_upon | go_back))
                        exact ⟨⟨j + 1, by go_num, by omega, HJ'.out⟩, by simp [intOf]; omega⟩
                · have hdecj : decide (j < P) = false := decide_eq_false hjP
                  have HM' : Hid (NRow y bx P (fun c => nextF T (leadsF T R) S k (k3 + 1) c) wr) := Lib.hid ⟨HJ.out.1, HJ.out.2.1, HJ.out.2.2.congr fun c hc => by rw [if_pos (by omega)]⟩
                  (repeat (first | go_big_skip | go_big_want | go_big_move | go_big_op | go_step | go_upon | go_back))
                  exact ⟨⟨k3 + 1, by go_num, by omega, HM'.out⟩, by simp [intOf]; omega⟩
            · have hdec3 : decide (k3 < P) = false := decide_eq_false hkP
              have HN' : Hid (NRow Y bx P (nowF T (leadsF T R) S (k + 1)) wr) := Lib.hid ⟨HN.out.1.trans HM.out.1, Nat.le_trans HN.out.1.size HM.out.2.1, HM.out.2.2.congr fun c _ => by rw [show k3 = T.places.toNat by have := HPN.out; omega, nextF_all]⟩
              (repeat (first | go_big_skip | go_big_want | go_big_move | go_big_op | go_step | go_upon | go_back))
              exact ⟨⟨k + 1, bx, by go_num, rfl, by omega, HN'.out⟩, by simp [intOf]; omega⟩
        · have hdec : decide (k < T.legs.length) = false := decide_eq_false hkn
          obtain rfl : k = T.legs.length := by omega
          (repeat (first | go_big_skip | go_big_want | go_big_move | go_big_op | go_step | go_upon | go_back))
          generalize wr = y at *
          clear k0 k1 k2' k3 k4
          go_loopw [14] (fun i wr => ∃ k3 : Nat, i = .int .i64 k3 ∧ k3 ≤ P ∧ wr = y ∧ ∀ a, a < k3 → nowF T (leadsF T R) S T.legs.length a = false) (fun i _ => P - (intOf i).toNat)
          case atStart => exact ⟨0, rfl, by omega, rfl, fun a ha => absurd ha (Nat.not_lt_zero _)⟩
          case round =>
            obtain ⟨k3, rfl, hk3, rfl, hz⟩ := hrel
            have HZ := Lib.hid hz
            obtain ⟨k0, k1, k2', m3, k4⟩ := boxC (HBY.out.aft HN.out.1)
            clear hz
            by_cases hkP : k3 < P
            · have hdec3 : decide (k3 < P) = true := decide_eq_true hkP
              have n0 : wr.cell? ⟨b, k3, none⟩ = some (.bool (nowF T (leadsF T R) S T.legs.length k3)) := HN.out.2.2.cell hkP
              have i2 : (0 : Int) ≤ (k3 : Int) ∧ (k3 : Int) < (P : Int) := by omega
              cases hq : nowF T (leadsF T R) S T.legs.length k3 with
              | true =>
                rw [hq] at n0
                have HQ := Lib.hid hq
                clear hq
                (repeat (first | go_big_skip | go_big_want | go_big_move | go_big_op | go_step | go_upon | go_back))
                go_ret
                refine ⟨?_, HAY.out.trans HN.out.1⟩
                have : enB T (leadsF T R) S = true := by
                  unfold enB
                  rw [List.any_eq_true]
                  exact ⟨k3, List.mem_range.2 (by have := HPN.out; omega), HQ.out⟩
                rw [this]
                rfl
              | false =>
                rw [hq] at n0
                have HZ' : Hid (∀ a, a < k3 + 1 → nowF T (leadsF T R) S T.legs.length a = false) := Lib.hid fun a ha => by
                  by_cases e : a = k3
                  · rw [e]; exact hq
                  · exact HZ.out a (by omega)
                clear hq
                (repeat (first | go_big_skip | go_big_want | go_big_move | go_big_op | go_step | go_upon | go_back))
                exact ⟨⟨k3 + 1, by go_num, by omega, by trivial, HZ'.out⟩, by simp [intOf]; omega⟩
            · have hdec3 : decide (k3 < P) = false := decide_eq_false hkP
              (repeat (first | go_big_skip | go_big_want | go_big_move | go_big_op | go_step | go_upon | go_back))
              go_ret
              refine ⟨?_, HAY.out.trans HN.out.1⟩
              have : enB T (leadsF T R) S = false := by
                unfold enB
                rw [List.any_eq_false]
                intro a ha
                have := HZ.out a (by have := List.mem_range.1 ha; have := HPN.out; omega)
                rw [this]; decide
              rw [this]
              rfl
end Go.Proofs
end

section
/- Walks: the reference's fewest. -/
namespace Go.Proofs
open Go.RowKit
attribute [local go_sem] Oper.semAt_some

theorem bits_and_one (a : Nat) (ha : a < 1000000) : bits BinOp.and IntKind.i64 (a : Int) 1 = ((a % 2 : Nat) : Int) := by
  have h1 : (BitVec.ofInt 64 (a : Int)).toNat = a := by
    rw [BitVec.ofInt_natCast, BitVec.toNat_ofNat]; exact Nat.mod_eq_of_lt (by omega)
  have h2 : (BitVec.ofInt 64 ((1 : Nat) : Int)).toNat = 1 := by
    rw [BitVec.ofInt_natCast, BitVec.toNat_ofNat]
  show IntKind.i64.wrap ((BitVec.ofInt 64 (a : Int) &&& BitVec.ofInt 64 ((1 : Nat) : Int)).toNat : Int) = _
  rw [BitVec.toNat_and, h1, h2, Nat.and_one_is_mod]
  exact IntWalk.i64_in _ ⟨by omega, by omega⟩
theorem bit_at (k j : Nat) (hk : k < 1000000) : (bits BinOp.and IntKind.i64 ((k : Int) / 2 ^ j) 1 == 1) = k.testBit j := by
  have e : ((k : Int) / 2 ^ j) = ((k / 2 ^ j : Nat) : Int) := by simp
  rw [e, bits_and_one _ (Nat.lt_of_le_of_lt (Nat.div_le_self _ _) hk), Nat.testBit_eq_decide_div_mod_eq, Bool.eq_iff_iff]
  simp
  omega

set_option maxRecDepth 100000 in
set_option maxHeartbeats 8000000 in
theorem fewestRef_any (w : World) (T : Treaty) (a1 a2 a3 a4 : Option Addr) (c1 c2 c3 c4 : Nat) (R : List Int) (AR : Option Addr) (cR : Nat) (hT : TRep w T a1 a2 a3 a4) (hR : Ints w AR R) (ok : TOk T) (hro : ReadOk T R) :
    Calls Try.prog 90 #[.agg #[.int .i64 T.places, .slice a1 T.ways.length c1, .slice a2 T.words.length c2, .slice a3 T.starts.length c3, .slice a4 T.legs.length c4], .slice AR R.length cR] w fun e w' => e = .returned (.int .i64 (yieldL T (leadsF T R)).length) ∧ Aft w w' := by
  have HEN := Lib.hid (fun (y : World) (hy : Aft w y) (S : Nat → Bool) (bs : Nat) (hS : BRow y bs T.legs.length S) => enoughRef_any y T a1 a2 a3 a4 c1 c2 c3 c4 R AR cR (hT.aft hy) (hR.aft hy) ok hro S bs hS)
  have HBA := Lib.hid (bestTo_all ok (leadsF T R))
  have hln := ok.nlegs
  clear hT hR ok hro
  obtain ⟨n, hn⟩ : ∃ n, T.legs.length = n := ⟨_, rfl⟩
  have HB1 : Hid (bestTo T (leadsF T R) 0 = n) := Lib.hid hn
  have HNN : Hid (T.legs.length = n) := Lib.hid hn
  rw [hn] at HEN HBA hln
  rw [hn]
  clear hn
  go_enter Try.func90, Try.ntmps90
  go_upto_region 1 with fail
  have hb := Blk.new w 36 #[.int .i64 T.places, .slice a1 T.ways.length c1, .slice a2 T.words.length c2, .slice a3 T.starts.length c3, .slice a4 n c4]
  have ha := Aft.alloc w (.cells #[.int .i64 T.places, .slice a1 T.ways.length c1, .slice a2 T.words.length c2, .slice a3 T.starts.length c3, .slice a4 n c4] 36)
  generalize w.alloc (.cells #[.int .i64 T.places, .slice a1 T.ways.length c1, .slice a2 T.words.length c2, .slice a3 T.starts.length c3, .slice a4 n c4] 36) = X at *
  generalize w.heap.size = B0 at *
  have HB := Lib.hid hb
  have HA := Lib.hid ha
  obtain ⟨k0, k1, k2', k3, k4⟩ := boxC hb
  clear hb ha
  (repeat (first | go_big_skip | go_big_want | go_big_move | go_big_op | go_step | go_upon | go_back))
  clear k0 k1 k2' k3 k4
  have hpw : 2 ^ n ≤ 1024 := Nat.le_trans (Nat.pow_le_pow_right (by decide) hln) (by decide)
  obtain ⟨M, hM⟩ : ∃ M, 2 ^ n = M := ⟨_, rfl⟩
  have hw : wrap64 ((2 : Int) ^ n) = (M : Int) := by
    have e : ((2 : Int) ^ n) = ((2 ^ n : Nat) : Int) := by simp
    rw [e, hM, IntWalk.wrap64_in _ ⟨by omega, by omega⟩]
  rw [hM] at hpw HBA
  have HMM := Lib.hid hM
  clear hM
  go_loopw [5, 6] (fun v i wr => ∃ k best : Nat, i = .int .i64 k ∧ v = .int .i64 best ∧ k ≤ M ∧ best ≤ n ∧ bestTo T (leadsF T R) k = best ∧ Aft X wr) (fun _ i _ => M - (intOf i).toNat)
  case atStart => exact ⟨0, n, rfl, rfl, by omega, by omega, HB1.out, Aft.refl _⟩
  case round =>
    obtain ⟨k, best, rfl, rfl, hk, hbn, hbe, haX⟩ := hrel
    have HBE := Lib.hid hbe
    have HAX := Lib.hid haX
    obtain ⟨k0, k1, k2', k3, k4⟩ := boxC (HB.out.aft haX)
    clear hbe haX HB1
    by_cases hkn : k < M
    · have hdec : decide (k < M) = true := decide_eq_true hkn
      go_upto_region 6 with (at_make; refine wpList_make_bools rfl _ _ rfl rfl rfl (by omega) ?_)
      have HR0 : Hid (NRow wr wr.heap.size n (fun c => decide (c < 0) && k.testBit c) (wr.alloc (.cells (madeCells #[.bool false] n) 4))) := Lib.hid ⟨Aft.alloc _ _, Nat.le_refl _, (BRow.made _ _).congr fun _ _ => by simp⟩
      generalize wr.alloc (.cells (madeCells #[.bool false] n) 4) = Y1 at *
      generalize wr = y at *
      generalize hbx : y.heap.size = bx at *
      clear k0 k1 k2' k3 k4 hbx
      (repeat (first | go_big_skip | go_big_want | go_big_move | go_big_op | go_step | go_upon | go_back))
      go_loopw [8, 9] (fun v i wr => ∃ j m : Nat, i = .int .i64 j ∧ v = .int .i64 m ∧ j ≤ n ∧ m ≤ j ∧ popN k.testBit j = m ∧ NRow y bx n (fun c => decide (c < j) && k.testBit c) wr) (fun _ i _ => n - (intOf i).toNat)
      case atStart => exact ⟨0, 0, rfl, rfl, by omega, by omega, rfl, HR0.out⟩
      case round =>
        obtain ⟨j, m, rfl, rfl, hj, hm, hpm, hn⟩ := hrel
        have HPM := Lib.hid hpm
        have HN := Lib.hid hn
        obtain ⟨k0, k1, k2', k3, k4⟩ := boxC (HB.out.aft (HAX.out.trans hn.1))
        clear hpm hn HR0
        by_cases hjn : j < n
        · have hdecj : decide (j < n) = true := decide_eq_true hjn
          have i1 : (0 : Int) ≤ (j : Int) ∧ (j : Int) < (n : Int) := by omega
          have y1 := HN.out.2.2.frozen j
          have hlt := HN.out.2.2.lt
          have y0 : wr.cell? ⟨bx, j, none⟩ = some (.bool false) := by have := HN.out.2.2.cell hjn; simpa using this
          have hbit := bit_at k j (by omega)
          have hN' : ∀ x, k.testBit j = x → NRow y bx n (fun c => decide (c < j + 1) && k.testBit c) (wr.setCell ⟨bx, j, none⟩ (.bool x)) := fun x hx => HN.out.set hjn x fun d _ => by
            by_cases e : d = j
            · subst e; rw [if_pos rfl, hx]; simp
            · rw [if_neg e]
              congr 1
              rw [decide_eq_decide]; omega
          cases hx : k.testBit j with
          | true =>
            have HN' := Lib.hid (hN' _ hx)
            have HP' : Hid (popN k.testBit (j + 1) = m + 1) := Lib.hid (by show popN k.testBit j + _ = _; rw [HPM.out, hx]; rfl)
            rw [hx] at hbit
            clear hN' hx
            (repeat (first | go_big_skip | go_big_want | go_big_move | go_big_op | go_step | go_upon | go_back))
            exact ⟨⟨j + 1, m + 1, by go_num, by go_num, by omega, by omega, HP'.out, HN'.out⟩, by simp [intOf]; omega⟩
          | false =>
            have HN' := Lib.hid (hN' _ hx)
            have HP' : Hid (popN k.testBit (j + 1) = m) := Lib.hid (by show popN k.testBit j + _ = _; rw [HPM.out, hx]; rfl)
            rw [hx] at hbit
            clear hN' hx
            (repeat (first | go_big_skip | go_big_want | go_big_move | go_big_op | go_step | go_upon | go_back))
            exact ⟨⟨j + 1, m, by go_num, rfl, by omega, by omega, HP'.out, HN'.out⟩, by simp [intOf]; omega⟩
        · have hdecj : decide (j < n) = false := decide_eq_false hjn
          obtain rfl : j = n := by omega
          have HBR : Hid (BRow wr bx j k.testBit) := Lib.hid (HN.out.2.2.congr fun c hc => by simp [hc])
          have HAW := Lib.hid (HAX.out.trans HN.out.1)
          have HBS : Hid (bestTo T (leadsF T R) (k + 1) = if m < best ∧ enB T (leadsF T R) k.testBit = true then m else best) := Lib.hid (by
            show (if popN k.testBit T.legs.length < _ ∧ _ then popN k.testBit T.legs.length else _) = _
            rw [HNN.out, HPM.out, HBE.out])
          clear HN HPM
          by_cases hmb : m < best
          · have hd : decide (m < best) = true := decide_eq_true hmb
            have hd2 : decide ((m : Int) < (best : Int)) = true := decide_eq_true (by omega)
            (repeat (first | go_big_skip | go_big_want | go_big_move | go_big_op | go_step | go_upon | go_back))
            go_at_call 91
            refine (HEN.out _ (HA.out.trans HAW.out) k.testBit bx HBR.out).mono ?_
            rintro e z ⟨rfl, haz⟩
            dsimp only
            have HAZ := Lib.hid (HAW.out.trans haz)
            clear haz k0 k1 k2' k3 k4
            cases hq : enB T (leadsF T R) k.testBit with
            | true =>
              have HBT : Hid (bestTo T (leadsF T R) (k + 1) = m) := Lib.hid (by rw [HBS.out, if_pos ⟨hmb, hq⟩])
              clear hq
              (repeat (first | go_big_skip | go_big_want | go_big_move | go_big_op | go_step | go_upon | go_back))
              exact ⟨⟨k + 1, m, by go_num, rfl, by omega, by omega, HBT.out, HAZ.out⟩, by simp [intOf]; omega⟩
            | false =>
              have HBT : Hid (bestTo T (leadsF T R) (k + 1) = best) := Lib.hid (by rw [HBS.out, if_neg (fun h => by rw [hq] at h; exact absurd h.2 (by decide))])
              clear hq
              (repeat (first | go_big_skip | go_big_want | go_big_move | go_big_op | go_step | go_upon | go_back))
              exact ⟨⟨k + 1, best, by go_num, rfl, by omega, by omega, HBT.out, HAZ.out⟩, by simp [intOf]; omega⟩
          · have hd : decide (m < best) = false := decide_eq_false hmb
            have hd2 : decide ((m : Int) < (best : Int)) = false := decide_eq_false (by omega)
            have HBT : Hid (bestTo T (leadsF T R) (k + 1) = best) := Lib.hid (by rw [HBS.out, if_neg (fun h => hmb h.1)])
            (repeat (first | go_big_skip | go_big_want | go_big_move | go_big_op | go_step | go_upon | go_back))
            exact ⟨⟨k + 1, best, by go_num, rfl, by omega, by omega, HBT.out, HAW.out⟩, by simp [intOf]; omega⟩
    · have hdec : decide (k < M) = false := decide_eq_false hkn
      obtain rfl : k = M := by omega
      (repeat (first | go_big_skip | go_big_want | go_big_move | go_big_op | go_step | go_upon | go_back))
      go_ret
      refine ⟨?_, HA.out.trans HAX.out⟩
      rw [← HBA.out, HBE.out]
      rfl
end Go.Proofs
end

section
/- Walks: the reference's Many and Enough. -/
namespace Go.Proofs
open Go.RowKit
attribute [local go_sem] Oper.semAt_some

theorem checkC : CheckC := fun w T a1 a2 a3 a4 c1 c2 c3 c4 hT => checkRef_any w T a1 a2 a3 a4 c1 c2 c3 c4 hT
noncomputable def manyN (T : Treaty) (R : List Int) : Int := if readE T R = 0 then ((yieldL T (leadsF T R)).length : Int) else 0

set_option maxRecDepth 100000 in
set_option maxHeartbeats 4000000 in
theorem manyRef_any (w : World) (T : Treaty) (a1 a2 a3 a4 : Option Addr) (c1 c2 c3 c4 : Nat) (R : List Int) (AR : Option Addr) (cR : Nat) (hT : TRep w T a1 a2 a3 a4) (hR : Ints w AR R) :
    Calls Try.prog 34 #[.agg #[.int .i64 T.places, .slice a1 T.ways.length c1, .slice a2 T.words.length c2, .slice a3 T.starts.length c3, .slice a4 T.legs.length c4], .slice AR R.length cR] w fun e w' => e = .returned (.tuple #[.int .i64 (manyN T R), .int .i64 (readE T R)]) ∧ Aft w w' := by
  have HRD := Lib.hid (fun (y : World) (hy : Aft w y) => readingRef_any checkC y T a1 a2 a3 a4 c1 c2 c3 c4 R AR cR (hT.aft hy) (hR.aft hy))
  have head : ∀ E N : Int, readE T R = E → manyN T R = N → (E = 0 → ∀ (y : World) (hy : Aft w y), Calls Try.prog 90 #[.agg #[.int .i64 T.places, .slice a1 T.ways.length c1, .slice a2 T.words.length c2, .slice a3 T.starts.length c3, .slice a4 T.legs.length c4], .slice AR R.length cR] y fun e w' => e = .returned (.int .i64 N) ∧ Aft y w') → (E ≠ 0 → N = 0) →
      Calls Try.prog 34 #[.agg #[.int .i64 T.places, .slice a1 T.ways.length c1, .slice a2 T.words.length c2, .slice a3 T.starts.length c3, .slice a4 T.legs.length c4], .slice AR R.length cR] w fun e w' => e = .returned (.tuple #[.int .i64 N, .int .i64 E]) ∧ Aft w w' := by
    intro E N hE _ hF hN
    rw [hE] at HRD
    have HF := Lib.hid hF
    have HN := Lib.hid hN
    clear hT hR hE hF hN
    go_enter Try.func34, Try.ntmps34
    go_upto_region 1 with fail
    have hb := Blk.new w 36 #[.int .i64 T.places, .slice a1 T.ways.length c1, .slice a2 T.words.length c2, .slice a3 T.starts.length c3, .slice a4 T.legs.length c4]
    have ha := Aft.alloc w (.cells #[.int .i64 T.places, .slice a1 T.ways.length c1, .slice a2 T.words.length c2, .slice a3 T.starts.length c3, .slice a4 T.legs.length c4] 36)
    generalize w.alloc (.cells #[.int .i64 T.places, .slice a1 T.ways.length c1, .slice a2 T.words.length c2, .slice a3 T.starts.length c3, .slice a4 T.legs.length c4] 36) = X at *
    generalize w.heap.size = B0 at *
    have HB := Lib.hid hb
    have HA := Lib.hid ha
    obtain ⟨k0, k1, k2', k3, k4⟩ := boxC hb
    clear hb ha
    (repeat (first | go_big_skip | go_big_want | go_big_move | go_big_op | go_step | go_upon | go_back))
    go_at_call 65
    refine (HRD.out X HA.out).mono ?_
    rintro e Y ⟨rfl, haY⟩
    dsimp only
    have HAY := Lib.hid (HA.out.trans haY)
    have HB := Lib.hid (HB.out.aft haY)
    clear haY k0 k1 k2' k3 k4
    obtain ⟨k0, k1, k2', k3, k4⟩ := boxC HB.out
    by_cases hz : E = 0
    · have HFC := Lib.hid (HF.out hz)
      subst hz
      clear HF HN
      (repeat (first | go_big_skip | go_big_want | go_big_move | go_big_op | go_step | go_upon | go_back))
      go_at_call 90
      refine (HFC.out Y HAY.out).mono ?_
      rintro e Z ⟨rfl, haZ⟩
      dsimp only
      (repeat (first | go_big_skip | go_big_want | go_big_move | go_big_op | go_step | go_upon | go_back))
      go_ret2
      exact ⟨rfl, HAY.out.trans haZ⟩
    · have hne : (E != 0) = true := by simpa using hz
      have hN0 := HN.out hz
      subst hN0
      clear hz HF HN
      (repeat (first | go_big_skip | go_big_want | go_big_move | go_big_op | go_step | go_upon | go_back))
      go_ret2
      exact ⟨rfl, HAY.out⟩
  refine head _ _ rfl rfl (fun h y hy => ?_) (fun h => by unfold manyN; rw [if_neg h])
  have : manyN T R = ((yieldL T (leadsF T R)).length : Int) := by unfold manyN; rw [if_pos h]
  rw [this]
  exact fewestRef_any y T a1 a2 a3 a4 c1 c2 c3 c4 R AR cR (hT.aft hy) (hR.aft hy) (checkE_ok (readE_zero.1 h).1) (readE_zero.1 h).2

set_option maxRecDepth 100000 in
set_option maxHeartbeats 4000000 in
theorem enoughRefTop_any (w : World) (T : Treaty) (a1 a2 a3 a4 : Option Addr) (c1 c2 c3 c4 : Nat) (R : List Int) (AR : Option Addr) (cR : Nat) (S : List Int) (AS : Option Addr) (cS : Nat) (hT : TRep w T a1 a2 a3 a4) (hR : Ints w AR R) (hS : Ints w AS S) (hlegs : T.legs.length ≤ 1000) :
    Calls Try.prog 35 #[.agg #[.int .i64 T.places, .slice a1 T.ways.length c1, .slice a2 T.words.length c2, .slice a3 T.starts.length c3, .slice a4 T.legs.length c4], .slice AR R.length cR, .slice AS S.length cS] w (EnoughR w T R S) := by
  have HRD := Lib.hid (fun (y : World) (hy : Aft w y) => readingRef_any checkC y T a1 a2 a3 a4 c1 c2 c3 c4 R AR cR (hT.aft hy) (hR.aft hy))
  have head : ∀ (E E2 : Int) (b b2 : Bool) (n : Nat), readE T R = E → T.legs.length = n → enoughE T R S = E2 → enoughB T R S = b → (E = 0 → n ≤ 10) → (E2 = if E = 0 then (if S.all fun x => fromB x 0 (n - 1) then (if risesB S then 0 else 5) else 2) else E) → (b = (decide (E2 = 0) && b2)) →
      (E = 0 → ∀ (y : World) (hy : Aft w y) (bs : Nat) (hp : BRow y bs n (fun i => hasB S i)), Calls Try.prog 91 #[.agg #[.int .i64 T.places, .slice a1 T.ways.length c1, .slice a2 T.words.length c2, .slice a3 T.starts.length c3, .slice a4 n c4], .slice AR R.length cR, .slice (some ⟨bs, 0, none⟩) n n] y fun e w' => e = .returned (.bool b2) ∧ Aft y w') →
      Calls Try.prog 35 #[.agg #[.int .i64 T.places, .slice a1 T.ways.length c1, .slice a2 T.words.length c2, .slice a3 T.starts.length c3, .slice a4 n c4], .slice AR R.length cR, .slice AS S.length cS] w fun e w' => e = .returned (.tuple #[.bool b, .int .i64 E2]) ∧ Aft w w' := by
    intro E E2 b b2 n hE hn _ _ hn10 hE2 hb2 hF
    rw [hE, hn] at HRD
    rw [hn] at hlegs
    have HF := Lib.hid hF
    have HN := Lib.hid hn10
    have HE2 := Lib.hid hE2
    have HB2 := Lib.hid hb2
    have HSI := Lib.hid hS
    have hsl := hS.len
    clear hT hR hE hF hn10 hE2 hb2 hS hn
    go_enter Try.func35, Try.ntmps35
    go_upto_region 1 with fail
    have hb := Blk.new w 36 #[.int .i64 T.places, .slice a1 T.ways.length c1, .slice a2 T.words.length c2, .slice a3 T.starts.length c3, .slice a4 n c4]
    have ha := Aft.alloc w (.cells #[.int .i64 T.places, .slice a1 T.ways.length c1, .slice a2 T.words.length c2, .slice a3 T.starts.length c3, .slice a4 n c4] 36)
    generalize w.alloc (.cells #[.int .i64 T.places, .slice a1 T.ways.length c1, .slice a2 T.words.length c2, .slice a3 T.starts.length c3, .slice a4 n c4] 36) = X at *
    generalize w.heap.size = B0 at *
    have HB := Lib.hid hb
    have HA := Lib.hid ha
    obtain ⟨k0, k1, k2', k3, k4⟩ := boxC hb
    clear hb ha
    (repeat (first | go_big_skip | go_big_want | go_big_move | go_big_op | go_step | go_upon | go_back))
    go_at_call 65
    refine (HRD.out X HA.out).mono ?_
    rintro e Y ⟨rfl, haY⟩
    dsimp only
    have HAY := Lib.hid (HA.out.trans haY)
    have HB := Lib.hid (HB.out.aft haY)
    clear haY k0 k1 k2' k3 k4
    obtain ⟨k0, k1, k2', k3, k4⟩ := boxC HB.out
    by_cases hz : E = 0
    · have HFC := Lib.hid (HF.out hz)
      have hn10 := HN.out hz
      subst hz
      have HE2 : Hid (E2 = if (S.all fun x => fromB x 0 (n - 1)) then (if risesB S then 0 else 5) else 2) := Lib.hid (by rw [HE2.out, if_pos rfl])
      clear HF HN
      (repeat (first | go_big_skip | go_big_want | go_big_move | go_big_op | go_step | go_upon | go_back))
      go_at_call 61
      refine (anyBeside_any AS S cS 0 ((n : Int) - 1) Y (HSI.out.aft HAY.out)).mono ?_
      rintro e Y2 ⟨rfl, rfl⟩
      dsimp only
      cases hal : (S.all fun x => fromB x 0 ((n : Int) - 1)) with
      | false =>
        have hE2 : E2 = 2 := by rw [HE2.out, hal]; rfl
        subst hE2
        have hb : b = false := by rw [HB2.out]; rfl
        subst hb
        clear hal
        (repeat (first | go_big_skip | go_big_want | go_big_move | go_big_op | go_step | go_upon | go_back))
        go_ret2
        exact ⟨rfl, HAY.out⟩
      | true =>
        have HAL := Lib.hid hal
        have HE2 : Hid (E2 = if risesB S then 0 else 5) := Lib.hid (by rw [HE2.out, hal]; rfl)
        clear hal
        (repeat (first | go_big_skip | go_big_want | go_big_move | go_big_op | go_step | go_upon | go_back))
        go_at_call 62
        refine (mixed_any AS S cS Y2 (HSI.out.aft HAY.out)).mono ?_
        rintro e Y3 ⟨rfl, haY⟩
        dsimp only
        have HAY := Lib.hid (HAY.out.trans haY)
        have HB := Lib.hid (HB.out.aft haY)
        clear haY k0 k1 k2' k3 k4
        obtain ⟨k0, k1, k2', k3, k4⟩ := boxC HB.out
        cases hri : risesB S with
        | false =>
          have hE2 : E2 = 5 := by rw [HE2.out, hri]; rfl
          subst hE2
          have hb : b = false := by rw [HB2.out]; rfl
          subst hb
          clear hri
          (repeat (first | go_big_skip | go_big_want | go_big_move | go_big_op | go_step | go_upon | go_back))
          go_ret2
          exact ⟨rfl, HAY.out⟩
        | true =>
          have hE2 : E2 = 0 := by rw [HE2.out, hri]; rfl
          subst hE2
          have hb : b = b2 := by rw [HB2.out]; simp
          subst hb
          clear hri HE2 HB2
          go_upto_region 9 with (at_make; refine wpList_make_bools rfl _ _ rfl rfl rfl (by omega) ?_)
          have HR0 : Hid (NRow Y3 Y3.heap.size n (fun c => hasB (S.take 0) c) (Y3.alloc (.cells (madeCells #[.bool false] n) 4))) := Lib.hid ⟨Aft.alloc _ _, Nat.le_refl _, (BRow.made _ _).congr fun _ _ => rfl⟩
          generalize Y3.alloc (.cells (madeCells #[.bool false] n) 4) = Y4 at *
          generalize hbx : Y3.heap.size = bx at *
          clear k0 k1 k2' k3 k4 hbx
          (repeat (first | go_big_skip | go_big_want | go_big_move | go_big_op | go_step | go_upon | go_back))
          go_loopw [10] (fun i wr => ∃ k : Nat, i = .int .i64 k ∧ k ≤ S.length ∧ NRow Y3 bx n (fun c => hasB (S.take k) c) wr) (fun i _ => S.length - (intOf i).toNat)
          case atStart => exact ⟨0, rfl, by omega, HR0.out⟩
          case round =>
            obtain ⟨k, rfl, hk, hn⟩ := hrel
            have HN := Lib.hid hn
            clear hn HR0
            by_cases hkn : k < S.length
            · have hdec : decide (k < S.length) = true := decide_eq_true hkn
              have i1 : (0 : Int) ≤ (k : Int) ∧ (k : Int) < (S.length : Int) := by omega
              obtain ⟨b3, o3, rfl, hb3, hc3⟩ := (HSI.out.aft (HAY.out.trans HN.out.1)).at hkn
              have x0 := hc3 k hkn
              have hfr := fromB_iff.1 (List.all_eq_true.1 HAL.out _ (List.getElem_mem hkn))
              obtain ⟨s, hs⟩ := Int.eq_ofNat_of_zero_le hfr.1
              have hsn : s < n := by omega
              rw [hs] at x0
              have i2 : (0 : Int) ≤ (s : Int) ∧ (s : Int) < (n : Int) := by omega
              have y0 := HN.out.2.2.cell hsn
              have y1 := HN.out.2.2.frozen s
              have hlt := HN.out.2.2.lt
              have HN' : Hid (NRow Y3 bx n (fun c => hasB (S.take (k + 1)) c) (wr.setCell ⟨bx, s, none⟩ (.bool true))) := Lib.hid (HN.out.set hsn true fun d _ => by
                rw [List.take_succ_eq_append_getElem hkn, hs]
                unfold hasB
                rw [List.contains_eq_mem, List.contains_eq_mem]
                by_cases e : d = s
                · subst e; simp
                · have : ¬ ((d : Int) = (s : Int)) := by omega
                  simp [e, this])
              clear hc3 hs hfr
              (repeat (first | go_big_skip | go_big_want | go_big_move | go_big_op | go_step | go_upon | go_back))
              exact ⟨⟨k + 1, by go_num, by omega, HN'.out⟩, by simp [intOf]; omega⟩
            · have hdec : decide (k < S.length) = false := decide_eq_false hkn
              have HBR : Hid (BRow wr bx n (fun i => hasB S i)) := Lib.hid (by have := HN.out.2.2; rw [List.take_of_length_le (by omega)] at this; exact this)
              obtain ⟨k0, k1, k2', k3, k4⟩ := boxC (HB.out.aft HN.out.1)
              (repeat (first | go_big_skip | go_big_want | go_big_move | go_big_op | go_step | go_upon | go_back))
              go_at_call 91
              refine (HFC.out _ (HAY.out.trans HN.out.1) bx HBR.out).mono ?_
              rintro e Z ⟨rfl, haZ⟩
              dsimp only
              (repeat (first | go_big_skip | go_big_want | go_big_move | go_big_op | go_step | go_upon | go_back))
              go_ret2
              exact ⟨rfl, (HAY.out.trans HN.out.1).trans haZ⟩
    · have hne : (E != 0) = true := by simpa using hz
      have hE2 : E2 = E := by rw [HE2.out, if_neg hz]
      subst hE2
      have hb : b = false := by rw [HB2.out, decide_eq_false hz]; rfl
      subst hb
      clear hz HF HN HE2 HB2
      (repeat (first | go_big_skip | go_big_want | go_big_move | go_big_op | go_step | go_upon | go_back))
      go_ret2
      exact ⟨rfl, HAY.out⟩
  refine (head _ _ _ (opens T (setS (leadsF T R) S T.places.toNat)) _ rfl rfl rfl rfl (fun h => (checkE_ok (readE_zero.1 h).1).nlegs) rfl rfl (fun h y hy bs hp => ?_)).mono fun e w' h => ⟨h.2, h.1⟩
  rw [← enB_set (checkE_ok (readE_zero.1 h).1)]
  exact enoughRef_any y T a1 a2 a3 a4 c1 c2 c3 c4 R AR cR (hT.aft hy) (hR.aft hy) (checkE_ok (readE_zero.1 h).1) (readE_zero.1 h).2 _ bs hp
end Go.Proofs
end
