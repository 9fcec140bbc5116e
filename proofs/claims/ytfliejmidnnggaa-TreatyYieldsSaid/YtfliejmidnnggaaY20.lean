/- Own texts, merged: Rve Fou Awb Awc. -/
import Derived.Test.YtfliejmidnnggaaY19
import Derived.Lib.BufferWrite
import Derived.BigGuard
section
/- Walks: the reference's every. -/
namespace Go.Proofs
open Go.RowKit
attribute [local go_sem] Oper.semAt_some

theorem own_nil2 (u : World) : OwnLists ((u.alloc (.cells #[] 3)).alloc (.cells #[.slice (some ⟨u.heap.size, 0, none⟩) 0 0] 24)) u.heap.size (.slice (some ⟨u.heap.size + 1, 0, none⟩) 1 1) [[]] := by
  have h1 := own_aft (own_zero u) (Aft.alloc (u.alloc (.cells #[] 3)) (.cells #[.slice (some ⟨u.heap.size, 0, none⟩) 0 0] 24))
  have hb := Blk.new (u.alloc (.cells #[] 3)) 24 #[.slice (some ⟨u.heap.size, 0, none⟩) 0 0]
  rw [World.size_alloc] at hb
  refine ⟨[.slice (some ⟨u.heap.size, 0, none⟩) 0 0], ⟨rfl, .inr ⟨u.heap.size + 1, 1, _, rfl, by omega, hb, by decide, by decide, rfl, rfl⟩⟩, fun i hi hi' => ?_, fun i hi g hg => ?_⟩
  · have e : i = 0 := by simp at hi; omega
    subst e
    exact h1
  · have e : i = 0 := by simp at hi; omega
    subst e
    cases hg
    refine ⟨fun e => ?_, fun j hj hne => ?_⟩
    · have e' : some (u.heap.size + 1) = some u.heap.size := e
      injection e'; omega
    · simp at hj; omega

theorem ints_src3 {w : World} {A : Option Addr} {l : List Int} (h : Ints w A l) : ∀ ad, A = some ad → ∀ j u, (l.map (Value.int .i64))[j]? = some u → w.cell? (ad.add j) = some u := by
  intro ad e j u hu
  subst e
  have hj : j < l.length := by have := (List.getElem?_eq_some_iff.1 hu).1; simpa using this
  obtain ⟨b', o', e, -, hc⟩ := h.at hj
  cases e
  rw [Addr.add_lit]
  have := hc j hj
  rw [List.getElem?_map, List.getElem?_eq_getElem hj] at hu
  rw [this]
  exact hu
theorem ints_none {w : World} {A : Option Addr} {l : List Int} (h : Ints w A l) : A = none → l.length = 0 := fun e => by
  rcases Nat.eq_zero_or_pos l.length with h0 | h0
  · exact h0
  · obtain ⟨b', o', e2, -⟩ := h.at h0
    rw [e] at e2; cases e2
theorem readW_le {T : Treaty} (ok : TOk T) {k : Nat} (hk : k ≤ T.words.length) : (readW T k).length ≤ 4096 := by
  have h1 : (readW T k).length = prodLen (T.words.take k) := by
    unfold readW prodLen
    rw [foldl_prod, Nat.one_mul, List.length_map, List.length_range]
  rw [h1]
  exact Nat.le_trans (prodLen_le T.words (fun l hl => (ok.wlen l hl).2) k hk) (Nat.le_trans (Nat.pow_le_pow_right (by decide) (show k ≤ 6 by have := ok.nwords; omega)) (by decide))
theorem flat_le {n : Nat} (rk : List (List Int)) (i : Nat) : ((rk.take i).flatMap fun r => extW 0 r n).length ≤ rk.length * n := by
  have h : ∀ l : List (List Int), (l.flatMap fun r => extW 0 r n).length = l.length * n := by
    intro l
    induction l with
    | nil => simp
    | cons a l ih => rw [List.flatMap_cons, List.length_append, ih, List.length_cons, Nat.add_mul]; unfold extW; simp; omega
  rw [h, List.length_take]
  exact Nat.mul_le_mul_right _ (Nat.min_le_right _ _)

set_option maxRecDepth 100000 in
set_option maxHeartbeats 8000000 in
theorem everyRef_any (w : World) (T : Treaty) (a1 a2 a3 a4 : Option Addr) (c1 c2 c3 c4 : Nat) (hT : TRep w T a1 a2 a3 a4) (ok : TOk T) :
    Calls Try.prog 75 #[.agg #[.int .i64 T.places, .slice a1 T.ways.length c1, .slice a2 T.words.length c2, .slice a3 T.starts.length c3, .slice a4 T.legs.length c4]] w fun e w' => ∃ v, e = .returned v ∧ Aft w w' ∧ OwnLists w' w.heap.size v (readingsL T) := by
  have HT := Lib.hid hT
  have HOK := Lib.hid ok
  have hnw := ok.nwords
  clear hT ok
  go_enter Try.func75, Try.ntmps75
  go_upto_region 1 with fail
  have hb := Blk.new w 36 #[.int .i64 T.places, .slice a1 T.ways.length c1, .slice a2 T.words.length c2, .slice a3 T.starts.length c3, .slice a4 T.legs.length c4]
  have ha := Aft.alloc w (.cells #[.int .i64 T.places, .slice a1 T.ways.length c1, .slice a2 T.words.length c2, .slice a3 T.starts.length c3, .slice a4 T.legs.length c4] 36)
  generalize w.alloc (.cells #[.int .i64 T.places, .slice a1 T.ways.length c1, .slice a2 T.words.length c2, .slice a3 T.starts.length c3, .slice a4 T.legs.length c4] 36) = X at *
  have HB := Lib.hid hb
  have HA := Lib.hid ha
  have hsz := ha.size
  clear hb ha
  go_upto_region 2 with fail
  have hL0 := own_nil2 X
  have hA0 : Aft X ((X.alloc (.cells #[] 3)).alloc (.cells #[.slice (some ⟨X.heap.size, 0, none⟩) 0 0] 24)) := (Aft.alloc _ _).then_alloc _
  generalize ((X.alloc (.cells #[] 3)).alloc (.cells #[.slice (some ⟨X.heap.size, 0, none⟩) 0 0] 24)) = Y at *
  have HE0 : Hid (Aft X Y ∧ OwnLists Y X.heap.size (.slice (some ⟨X.heap.size + 1, 0, none⟩) 1 1) (readW T 0)) := Lib.hid ⟨hA0, by rw [readW_zero]; exact hL0⟩
  clear hL0 hA0
  (repeat (first | go_big_skip | go_big_want | go_big_move | go_big_op | go_step | go_upon | go_back))
  go_loopw [3, 4] (fun v i wr => ∃ k : Nat, i = .int .i64 k ∧ k ≤ T.words.length ∧ Aft X wr ∧ OwnLists wr X.heap.size v (readW T k)) (fun _ i _ => T.words.length - (intOf i).toNat)
  case atStart => exact ⟨0, rfl, by omega, HE0.out⟩
  case round =>
    obtain ⟨k, rfl, hk, haX, ⟨vs, hls⟩⟩ := hrel
    obtain ⟨sA, sc, rfl⟩ := own_slice2 hls.own
    have HAX := Lib.hid haX
    have HLS := Lib.hid hls
    have hBw := HB.out.aft haX
    have k2 : wr.cell? ⟨w.heap.size, 2, none⟩ = some (.slice a2 T.words.length c2) := hBw.cell 2
    have hszr := haX.size
    clear haX hls hBw HE0
    by_cases hkn : k < T.words.length
    · have hdec : decide (k < T.words.length) = true := decide_eq_true hkn
      have hw4 := (HOK.out.wlen _ (List.getElem_mem hkn))
      have HRW := Lib.hid (readW_succ hkn hw4.1)
      have hrl := readW_le HOK.out hk
      have HRL := Lib.hid (fun l hl => readW_len (T := T) (k := k) (l := l) hk hl)
      generalize readW T k = rk at *
      obtain ⟨b2, o2, Am, cm, rfl, cW, hms⟩ := word_cell2 (HT.out.aft (HA.out.trans HAX.out)).words hkn
      have CW := Lib.hid cW
      have HWK := Lib.hid (show T.words[k].length = T.words[k].length from rfl)
      clear hms cW HWK
      generalize T.words[k].length = ln at *
      have HN0 : Hid (Aft wr wr ∧ OwnLists wr wr.heap.size (.slice none 0 0) ((rk.take 0).flatMap fun r => extW 0 r ln)) := Lib.hid ⟨Aft.refl _, OwnLists.nil⟩
      (repeat (first | go_big_skip | go_big_want | go_big_move | go_big_op | go_step | go_upon | go_back))
      clear k2
      go_loopw [5, 6] (fun v i2 w5 => ∃ i : Nat, i2 = .int .i64 i ∧ i ≤ rk.length ∧ Aft wr w5 ∧ OwnLists w5 wr.heap.size v ((rk.take i).flatMap fun r => extW 0 r ln)) (fun _ i2 _ => rk.length - (intOf i2).toNat)
      case atStart => exact ⟨0, rfl, by omega, HN0.out⟩
      case round =>
        rename World => w5
        obtain ⟨i, rfl, hi, ha5, ⟨vs5, hls5⟩⟩ := hrel
        have hfl := Nat.le_trans (flat_le (n := ln) rk i) (Nat.mul_le_mul hrl hw4.2)
        generalize hpre : ((rk.take i).flatMap fun r => extW 0 r ln) = pre at *
        have HPRE := Lib.hid hpre
        clear hpre
        obtain ⟨uA, uc, rfl⟩ := own_slice2 hls5.own
        have HA5 := Lib.hid ha5
        have HL5 := Lib.hid hls5
        clear ha5 hls5 HN0
        by_cases hil : i < rk.length
        · have hdi : decide (i < rk.length) = true := decide_eq_true hil
          have hrk : ∀ l ∈ rk, l.length ≤ 17592186043904 := fun l hl => by have := HRL.out l hl; omega
          obtain ⟨Aal, cal, eal, -, hLi⟩ := HLS.out.lists (by omega) hrk
          cases eal
          obtain ⟨bA, oA, rfl, hbA, hcA⟩ := hLi.at hil
          obtain ⟨Aj, cj, hvj, hij⟩ := hcA i hil
          have CA := Lib.hid hvj
          have HIJ := Lib.hid hij
          have hjb : rk[i].length ≤ 6 := by have := HRL.out _ (List.getElem_mem hil); omega
          have HTK : Hid (((rk.take (i + 1)).flatMap fun r => extW 0 r ln) = pre ++ extW 0 rk[i] ln) := Lib.hid (by rw [List.take_succ_eq_append_getElem hil, List.flatMap_append, HPRE.out]; simp)
          clear hrk hcA hvj hij
          generalize rk[i] = lj at *
          have HB0 : Hid (OwnLists w5 wr.heap.size (.slice uA pre.length uc) (pre ++ extW 0 lj 0)) := Lib.hid (by unfold extW; rw [List.range_zero, List.map_nil, List.append_nil]; exact ⟨_, HL5.out⟩)
          (repeat (first | go_big_skip | go_big_want | go_big_move | go_big_op | go_step | go_upon | go_back))
          go_loopw [5, 7] (fun v i3 w6 => ∃ m : Nat, i3 = .int .i64 m ∧ m ≤ ln ∧ Aft wr w6 ∧ OwnLists w6 wr.heap.size v (pre ++ extW 0 lj m)) (fun _ i3 _ => ln - (intOf i3).toNat)
          case atStart => exact ⟨0, rfl, by omega, HA5.out, HB0.out⟩
          case round =>
            rename World => w6
            obtain ⟨m, rfl, hm, ha6, ⟨vs6, hls6⟩⟩ := hrel
            have hxl : (pre ++ extW 0 lj m).length = pre.length + m := by rw [List.length_append]; unfold extW; simp
            generalize hll : pre ++ extW 0 lj m = ll at *
            have HLL := Lib.hid hll
            clear hll
            obtain ⟨xA, xc, rfl⟩ := own_slice2 hls6.own
            have HA6 := Lib.hid ha6
            have HL6 := Lib.hid hls6
            have hBw := HB.out.aft (HAX.out.trans ha6)
            have k2 : w6.cell? ⟨w.heap.size, 2, none⟩ = some (.slice (some ⟨b2, o2, none⟩) T.words.length c2) := hBw.cell 2
            have cW := cells_aft ha6 CW.out
            have hsz6 := ha6.size
            have i1 : (0 : Int) ≤ (k : Int) ∧ (k : Int) < (T.words.length : Int) := by omega
            have i2 : (0 : Int) ≤ (i : Int) ∧ (i : Int) < (rk.length : Int) := by omega
            have hll5 : ll.length ≤ 100000 := by omega
            clear ha6 hls6 hBw HB0 hxl
            by_cases hml : m < ln
            · have hdm : decide (m < ln) = true := decide_eq_true hml
              have HE : Hid (extW 0 lj (m + 1) = extW 0 lj m ++ [lj ++ [(m : Int)]]) := Lib.hid (by unfold extW; rw [List.range_succ, List.map_append]; rfl)
              have ca0 := cells_aft (HA6.out.then_alloc (.cells #[] 3)) CA.out
              have HIU := Lib.hid (HIJ.out.aft HA6.out)
              go_upto_region 11 with (first | (at_builtin; refine wpList_app_at (m := lj.length) (n := 0) (xs := []) ty24 rfl _ _ rfl (Aft.alloc w6 _).size rfl (own_zero w6) rfl (news := lj.map (Value.int .i64)) (by simp) (ints_none HIU.out) (ints_src3 (HIU.out.aft (Aft.alloc w6 _))) (fun q hq => by obtain ⟨z, -, rfl⟩ := List.mem_map.1 hq; rfl) (by omega) (by decide) ?_; intro v7 w7 hown7 hg7; have ho7 : w7.ownsRow w6.heap.size 3 1 v7 lj.length (lj.map (Value.int .i64)) := (by simpa using hown7); obtain ⟨yA, yc, rfl⟩ := own_slice2 ho7; have hA7 : Aft w6 w7 := (Aft.alloc w6 _).grown hg7 (fun q e => by cases e; exact Nat.le_refl _); have HA7 := Lib.hid hA7; have HO7 := Lib.hid ho7; have hsz7 := hA7.size; clear hown7 hg7 ho7 hA7 ca0 k2 cW) | (at_builtin; refine wpList_push rfl _ _ rfl (own_aft HO7.out (Aft.alloc w7 _)) (Nat.le_trans hsz7 (Aft.alloc w7 _).size) rfl rfl (cell_new1 _ _ _) (by omega) ?_; intro v8 w8 hown8 hg8; generalize hl8 : lj ++ [(m : Int)] = l8 at *; clear hl8; obtain ⟨yA, yc, rfl⟩ := own_slice2 hown8; have hA8 : Aft w6 w8 := (HA7.out.trans (Aft.alloc w7 _)).grown hg8 (fun q e => (HO7.out.lt q e).1); have HA8 := Lib.hid hA8; have HO8 := Lib.hid hown8; have hsz8 := hA8.size; clear hown8 hg8 hA8) | (at_builtin; refine wpList_app_list rfl _ _ rfl HL6.out hsz6 rfl rfl (cell_new1 _ _ _) rfl (HA8.out.trans (Aft.alloc w8 _)) (own_aft HO8.out (Aft.alloc w8 _)) (by omega) ?_; intro v9 vs9 w9 hls9 hg9; have HL9 := Lib.hid hls9; have HA9 := Lib.hid ((HA6.out.trans (HA8.out.trans (Aft.alloc w8 _))).grown hg9 (fun q e => (HL6.out.own.lt q e).1)); clear hls9 hg9))
              (repeat (first | go_big_skip | go_big_want | go_big_move | go_big_op | go_step | go_upon | go_back))
              exact ⟨⟨m + 1, by go_num, by omega, HA9.out, by rw [HE.out, ← List.append_assoc, HLL.out]; exact ⟨_, HL9.out⟩⟩, by simp [intOf] <;> omega⟩
            · have hdm : decide (m < ln) = false := decide_eq_false hml
              have e : m = ln := by omega
              have HFI : Hid (OwnLists w6 wr.heap.size (.slice xA ll.length xc) ((rk.take (i + 1)).flatMap fun r => extW 0 r ln)) := Lib.hid (by rw [HTK.out, ← e, HLL.out]; exact ⟨_, HL6.out⟩)
              clear e
              (repeat (first | go_big_skip | go_big_want | go_big_move | go_big_op | go_step | go_upon | go_back))
              exact ⟨⟨i + 1, by go_num, by omega, HA6.out, HFI.out⟩, by simp [intOf] <;> omega⟩
        · have hdi : decide (i < rk.length) = false := decide_eq_false hil
          have HFI : Hid (OwnLists w5 X.heap.size (.slice uA pre.length uc) (readW T (k + 1))) := Lib.hid (by rw [HRW.out]; have e := HPRE.out; rw [List.take_of_length_le (by omega)] at e; rw [e]; exact (show OwnLists _ _ _ _ from ⟨_, HL5.out⟩).mono hszr)
          (repeat (first | go_big_skip | go_big_want | go_big_move | go_big_op | go_step | go_upon | go_back))
          exact ⟨⟨k + 1, by go_num, by omega, HAX.out.trans HA5.out, HFI.out⟩, by simp [intOf] <;> omega⟩
    · have hdec : decide (k < T.words.length) = false := decide_eq_false hkn
      have HR : Hid (readW T k = readingsL T) := Lib.hid (by have e : k = T.words.length := by omega
                                                             rw [e]; exact readW_all T)
      have HFI : Hid (OwnLists wr w.heap.size (.slice sA (readW T k).length sc) (readingsL T)) := Lib.hid (by
        have h := (show OwnLists _ _ _ _ from ⟨_, HLS.out⟩).mono hsz
        generalize Value.slice sA (readW T k).length sc = vv at h ⊢
        rw [HR.out] at h
        exact h)
      clear HLS HR
      generalize (readW T k).length = nl at *
      (repeat (first | go_big_skip | go_big_want | go_big_move | go_big_op | go_step | go_upon | go_back))
      go_ret
      exact ⟨_, rfl, HA.out.trans HAX.out, HFI.out⟩
end Go.Proofs
end

section
/- Walks: the treaty of example 1. -/
namespace Go.Proofs
open Go.RowKit

theorem rows_blk {α : Type} {R : World → α → List Value → Prop} {w : World} {b : Nat} {t : TypeId} {cs : Array Value} {sz : Nat} {l : List α} (hb : Blk w b t cs) (hl : l.length * sz ≤ 17592186043904)
    (h : ∀ i, (hi : i < l.length) → ∃ vs : List Value, vs.length = sz ∧ R w l[i] vs ∧ ∀ j, (hj : j < vs.length) → cs[i * sz + j]? = some vs[j]) : RowsP w (some ⟨b, 0, none⟩) sz R l := by
  refine ⟨hl, .inr ⟨b, 0, rfl, hb.lt, fun i hi => ?_⟩⟩
  obtain ⟨vs, h1, h2, h3⟩ := h i hi
  refine ⟨vs, h1, h2, fun j hj => ?_⟩
  rw [Nat.zero_add]
  exact (hb.cell _).trans (h3 j hj)
theorem ints_blk {w : World} {b : Nat} {t : TypeId} {l : List Int} (hb : Blk w b t (l.map (Value.int .i64)).toArray) (hl : l.length ≤ 17592186043904) : Ints w (some ⟨b, 0, none⟩) l :=
  rows_blk hb (by omega) fun i hi => ⟨[.int .i64 l[i]], rfl, rfl, fun j hj => by
    have : j = 0 := by simp at hj; omega
    subst this
    simp [hi]⟩

/-- What Four answers: the treaty; its legs in a block that can be written apart from the rest. -/
def FourR (w : World) (e : Ending) (w' : World) : Prop :=
  ∃ b1 b2 b3 L c1 c2 c3 c4, e = .returned (.agg #[.int .i64 4, .slice (some ⟨b1, 0, none⟩) 4 c1, .slice (some ⟨b2, 0, none⟩) 2 c2, .slice (some ⟨b3, 0, none⟩) 1 c3, .slice (some ⟨L, 0, none⟩) 2 c4]) ∧ Aft w w' ∧ w.heap.size ≤ L ∧
    Blk w' L 83 #[.int .i64 0, .int .i64 (-1), .int .i64 1, .int .i64 (-1)] ∧
    ∀ w'', w'.grownBy w'' (some L) → RowsP w'' (some ⟨b1, 0, none⟩) 3 WayR T4.ways ∧ RowsP w'' (some ⟨b2, 0, none⟩) 1 WordR T4.words ∧ Ints w'' (some ⟨b3, 0, none⟩) T4.starts

theorem four_final (w X : World) (hX : X = (((((((((((((w.alloc (.cells #[.int .i64 4, .slice (some ⟨w.heap.size + 1, 0, none⟩) 4 4, .slice (some ⟨w.heap.size + 1 + 1 + 1 + 1 + 1 + 1 + 1 + 1 + 1 + 1, 0, none⟩) 2 2, .slice (some ⟨w.heap.size + 1 + 1 + 1 + 1 + 1 + 1 + 1 + 1 + 1 + 1 + 1, 0, none⟩) 1 1, .slice (some ⟨w.heap.size + 1 + 1 + 1 + 1 + 1 + 1 + 1 + 1 + 1 + 1 + 1 + 1, 0, none⟩) 2 2] 27)).alloc (.cells #[.int .i64 0, .int .i64 1, .int .i64 0, .int .i64 1, .int .i64 2, .int .i64 0, .int .i64 1, .int .i64 3, .int .i64 1, .int .i64 2, .int .i64 3, .int .i64 2] 86)).alloc (.cells #[.int .i64 0] 3)).alloc (.cells #[.int .i64 1, .int .i64 2] 3)).alloc (.cells #[.int .i64 1] 3)).alloc (.cells #[.int .i64 3] 3)).alloc (.cells #[.slice (some ⟨w.heap.size + 1 + 1, 0, none⟩) 1 1, .slice (some ⟨w.heap.size + 1 + 1 + 1, 0, none⟩) 2 2, .slice (some ⟨w.heap.size + 1 + 1 + 1 + 1, 0, none⟩) 1 1, .slice (some ⟨w.heap.size + 1 + 1 + 1 + 1 + 1, 0, none⟩) 1 1] 80)).alloc (.cells #[.int .i64 1, .int .i64 2] 3)).alloc (.cells #[.int .i64 3] 3)).alloc (.cells #[.slice (some ⟨w.heap.size + 1 + 1 + 1 + 1 + 1 + 1 + 1, 0, none⟩) 2 2, .slice (some ⟨w.heap.size + 1 + 1 + 1 + 1 + 1 + 1 + 1 + 1, 0, none⟩) 1 1] 80)).alloc (.cells #[.slice (some ⟨w.heap.size + 1 + 1 + 1 + 1 + 1 + 1, 0, none⟩) 2 2, .slice (some ⟨w.heap.size + 1 + 1 + 1 + 1 + 1 + 1 + 1 + 1 + 1, 0, none⟩) 1 1] 78)).alloc (.cells #[.int .i64 0] 3)).alloc (.cells #[.int .i64 0, .int .i64 (-1), .int .i64 1, .int .i64 (-1)] 83))) : FourR w (.returned (.agg #[.int .i64 4, .slice (some ⟨w.heap.size + 1, 0, none⟩) 4 4, .slice (some ⟨w.heap.size + 1 + 1 + 1 + 1 + 1 + 1 + 1 + 1 + 1 + 1, 0, none⟩) 2 2, .slice (some ⟨w.heap.size + 1 + 1 + 1 + 1 + 1 + 1 + 1 + 1 + 1 + 1 + 1, 0, none⟩) 1 1, .slice (some ⟨w.heap.size + 1 + 1 + 1 + 1 + 1 + 1 + 1 + 1 + 1 + 1 + 1 + 1, 0, none⟩) 2 2])) X := by
  have hsz : X.heap.size = w.heap.size + 13 := by rw [hX]; simp
  have hA : Aft w X := by
    rw [hX]
    exact (((((((((((((Aft.alloc w _).then_alloc _).then_alloc _).then_alloc _).then_alloc _).then_alloc _).then_alloc _).then_alloc _).then_alloc _).then_alloc _).then_alloc _).then_alloc _).then_alloc _)
  have B1 : Blk X (w.heap.size + 1) 86 #[.int .i64 0, .int .i64 1, .int .i64 0, .int .i64 1, .int .i64 2, .int .i64 0, .int .i64 1, .int .i64 3, .int .i64 1, .int .i64 2, .int .i64 3, .int .i64 2] := by
    have h := Blk.new (w.alloc (.cells #[.int .i64 4, .slice (some ⟨w.heap.size + 1, 0, none⟩) 4 4, .slice (some ⟨w.heap.size + 1 + 1 + 1 + 1 + 1 + 1 + 1 + 1 + 1 + 1, 0, none⟩) 2 2, .slice (some ⟨w.heap.size + 1 + 1 + 1 + 1 + 1 + 1 + 1 + 1 + 1 + 1 + 1, 0, none⟩) 1 1, .slice (some ⟨w.heap.size + 1 + 1 + 1 + 1 + 1 + 1 + 1 + 1 + 1 + 1 + 1 + 1, 0, none⟩) 2 2] 27)) 86 #[.int .i64 0, .int .i64 1, .int .i64 0, .int .i64 1, .int .i64 2, .int .i64 0, .int .i64 1, .int .i64 3, .int .i64 1, .int .i64 2, .int .i64 3, .int .i64 2]
    simp only [World.size_alloc] at h
    rw [hX]
    exact (((((((((((h.alloc _).alloc _).alloc _).alloc _).alloc _).alloc _).alloc _).alloc _).alloc _).alloc _).alloc _)
  have B2 : Blk X (w.heap.size + 2) 3 #[.int .i64 0] := by
    have h := Blk.new ((w.alloc (.cells #[.int .i64 4, .slice (some ⟨w.heap.size + 1, 0, none⟩) 4 4, .slice (some ⟨w.heap.size + 1 + 1 + 1 + 1 + 1 + 1 + 1 + 1 + 1 + 1, 0, none⟩) 2 2, .slice (some ⟨w.heap.size + 1 + 1 + 1 + 1 + 1 + 1 + 1 + 1 + 1 + 1 + 1, 0, none⟩) 1 1, .slice (some ⟨w.heap.size + 1 + 1 + 1 + 1 + 1 + 1 + 1 + 1 + 1 + 1 + 1 + 1, 0, none⟩) 2 2] 27)).alloc (.cells #[.int .i64 0, .int .i64 1, .int .i64 0, .int .i64 1, .int .i64 2, .int .i64 0, .int .i64 1, .int .i64 3, .int .i64 1, .int .i64 2, .int .i64 3, .int .i64 2] 86)) 3 #[.int .i64 0]
    simp only [World.size_alloc] at h
    rw [hX]
    exact ((((((((((h.alloc _).alloc _).alloc _).alloc _).alloc _).alloc _).alloc _).alloc _).alloc _).alloc _)
  have B3 : Blk X (w.heap.size + 3) 3 #[.int .i64 1, .int .i64 2] := by
    have h := Blk.new (((w.alloc (.cells #[.int .i64 4, .slice (some ⟨w.heap.size + 1, 0, none⟩) 4 4, .slice (some ⟨w.heap.size + 1 + 1 + 1 + 1 + 1 + 1 + 1 + 1 + 1 + 1, 0, none⟩) 2 2, .slice (some ⟨w.heap.size + 1 + 1 + 1 + 1 + 1 + 1 + 1 + 1 + 1 + 1 + 1, 0, none⟩) 1 1, .slice (some ⟨w.heap.size + 1 + 1 + 1 + 1 + 1 + 1 + 1 + 1 + 1 + 1 + 1 + 1, 0, none⟩) 2 2] 27)).alloc (.cells #[.int .i64 0, .int .i64 1, .int .i64 0, .int .i64 1, .int .i64 2, .int .i64 0, .int .i64 1, .int .i64 3, .int .i64 1, .int .i64 2, .int .i64 3, .int .i64 2] 86)).alloc (.cells #[.int .i64 0] 3)) 3 #[.int .i64 1, .int .i64 2]
    simp only [World.size_alloc] at h
    rw [hX]
    exact (((((((((h.alloc _).alloc _).alloc _).alloc _).alloc _).alloc _).alloc _).alloc _).alloc _)
  have B4 : Blk X (w.heap.size + 4) 3 #[.int .i64 1] := by
    have h := Blk.new ((((w.alloc (.cells #[.int .i64 4, .slice (some ⟨w.heap.size + 1, 0, none⟩) 4 4, .slice (some ⟨w.heap.size + 1 + 1 + 1 + 1 + 1 + 1 + 1 + 1 + 1 + 1, 0, none⟩) 2 2, .slice (some ⟨w.heap.size + 1 + 1 + 1 + 1 + 1 + 1 + 1 + 1 + 1 + 1 + 1, 0, none⟩) 1 1, .slice (some ⟨w.heap.size + 1 + 1 + 1 + 1 + 1 + 1 + 1 + 1 + 1 + 1 + 1 + 1, 0, none⟩) 2 2] 27)).alloc (.cells #[.int .i64 0, .int .i64 1, .int .i64 0, .int .i64 1, .int .i64 2, .int .i64 0, .int .i64 1, .int .i64 3, .int .i64 1, .int .i64 2, .int .i64 3, .int .i64 2] 86)).alloc (.cells #[.int .i64 0] 3)).alloc (.cells #[.int .i64 1, .int .i64 2] 3)) 3 #[.int .i64 1]
    simp only [World.size_alloc] at h
    rw [hX]
    exact ((((((((h.alloc _).alloc _).alloc _).alloc _).alloc _).alloc _).alloc _).alloc _)
  have B5 : Blk X (w.heap.size + 5) 3 #[.int .i64 3] := by
    have h := Blk.new (((((w.alloc (.cells #[.int .i64 4, .slice (some ⟨w.heap.size + 1, 0, none⟩) 4 4, .slice (some ⟨w.heap.size + 1 + 1 + 1 + 1 + 1 + 1 + 1 + 1 + 1 + 1, 0, none⟩) 2 2, .slice (some ⟨w.heap.size + 1 + 1 + 1 + 1 + 1 + 1 + 1 + 1 + 1 + 1 + 1, 0, none⟩) 1 1, .slice (some ⟨w.heap.size + 1 + 1 + 1 + 1 + 1 + 1 + 1 + 1 + 1 + 1 + 1 + 1, 0, none⟩) 2 2] 27)).alloc (.cells #[.int .i64 0, .int .i64 1, .int .i64 0, .int .i64 1, .int .i64 2, .int .i64 0, .int .i64 1, .int .i64 3, .int .i64 1, .int .i64 2, .int .i64 3, .int .i64 2] 86)).alloc (.cells #[.int .i64 0] 3)).alloc (.cells #[.int .i64 1, .int .i64 2] 3)).alloc (.cells #[.int .i64 1] 3)) 3 #[.int .i64 3]
    simp only [World.size_alloc] at h
    rw [hX]
    exact (((((((h.alloc _).alloc _).alloc _).alloc _).alloc _).alloc _).alloc _)
  have B6 : Blk X (w.heap.size + 6) 80 #[.slice (some ⟨w.heap.size + 1 + 1, 0, none⟩) 1 1, .slice (some ⟨w.heap.size + 1 + 1 + 1, 0, none⟩) 2 2, .slice (some ⟨w.heap.size + 1 + 1 + 1 + 1, 0, none⟩) 1 1, .slice (some ⟨w.heap.size + 1 + 1 + 1 + 1 + 1, 0, none⟩) 1 1] := by
    have h := Blk.new ((((((w.alloc (.cells #[.int .i64 4, .slice (some ⟨w.heap.size + 1, 0, none⟩) 4 4, .slice (some ⟨w.heap.size + 1 + 1 + 1 + 1 + 1 + 1 + 1 + 1 + 1 + 1, 0, none⟩) 2 2, .slice (some ⟨w.heap.size + 1 + 1 + 1 + 1 + 1 + 1 + 1 + 1 + 1 + 1 + 1, 0, none⟩) 1 1, .slice (some ⟨w.heap.size + 1 + 1 + 1 + 1 + 1 + 1 + 1 + 1 + 1 + 1 + 1 + 1, 0, none⟩) 2 2] 27)).alloc (.cells #[.int .i64 0, .int .i64 1, .int .i64 0, .int .i64 1, .int .i64 2, .int .i64 0, .int .i64 1, .int .i64 3, .int .i64 1, .int .i64 2, .int .i64 3, .int .i64 2] 86)).alloc (.cells #[.int .i64 0] 3)).alloc (.cells #[.int .i64 1, .int .i64 2] 3)).alloc (.cells #[.int .i64 1] 3)).alloc (.cells #[.int .i64 3] 3)) 80 #[.slice (some ⟨w.heap.size + 1 + 1, 0, none⟩) 1 1, .slice (some ⟨w.heap.size + 1 + 1 + 1, 0, none⟩) 2 2, .slice (some ⟨w.heap.size + 1 + 1 + 1 + 1, 0, none⟩) 1 1, .slice (some ⟨w.heap.size + 1 + 1 + 1 + 1 + 1, 0, none⟩) 1 1]
    simp only [World.size_alloc] at h
    rw [hX]
    exact ((((((h.alloc _).alloc _).alloc _).alloc _).alloc _).alloc _)
  have B7 : Blk X (w.heap.size + 7) 3 #[.int .i64 1, .int .i64 2] := by
    have h := Blk.new (((((((w.alloc (.cells #[.int .i64 4, .slice (some ⟨w.heap.size + 1, 0, none⟩) 4 4, .slice (some ⟨w.heap.size + 1 + 1 + 1 + 1 + 1 + 1 + 1 + 1 + 1 + 1, 0, none⟩) 2 2, .slice (some ⟨w.heap.size + 1 + 1 + 1 + 1 + 1 + 1 + 1 + 1 + 1 + 1 + 1, 0, none⟩) 1 1, .slice (some ⟨w.heap.size + 1 + 1 + 1 + 1 + 1 + 1 + 1 + 1 + 1 + 1 + 1 + 1, 0, none⟩) 2 2] 27)).alloc (.cells #[.int .i64 0, .int .i64 1, .int .i64 0, .int .i64 1, .int .i64 2, .int .i64 0, .int .i64 1, .int .i64 3, .int .i64 1, .int .i64 2, .int .i64 3, .int .i64 2] 86)).alloc (.cells #[.int .i64 0] 3)).alloc (.cells #[.int .i64 1, .int .i64 2] 3)).alloc (.cells #[.int .i64 1] 3)).alloc (.cells #[.int .i64 3] 3)).alloc (.cells #[.slice (some ⟨w.heap.size + 1 + 1, 0, none⟩) 1 1, .slice (some ⟨w.heap.size + 1 + 1 + 1, 0, none⟩) 2 2, .slice (some ⟨w.heap.size + 1 + 1 + 1 + 1, 0, none⟩) 1 1, .slice (some ⟨w.heap.size + 1 + 1 + 1 + 1 + 1, 0, none⟩) 1 1] 80)) 3 #[.int .i64 1, .int .i64 2]
    simp only [World.size_alloc] at h
    rw [hX]
    exact (((((h.alloc _).alloc _).alloc _).alloc _).alloc _)
  have B8 : Blk X (w.heap.size + 8) 3 #[.int .i64 3] := by
    have h := Blk.new ((((((((w.alloc (.cells #[.int .i64 4, .slice (some ⟨w.heap.size + 1, 0, none⟩) 4 4, .slice (some ⟨w.heap.size + 1 + 1 + 1 + 1 + 1 + 1 + 1 + 1 + 1 + 1, 0, none⟩) 2 2, .slice (some ⟨w.heap.size + 1 + 1 + 1 + 1 + 1 + 1 + 1 + 1 + 1 + 1 + 1, 0, none⟩) 1 1, .slice (some ⟨w.heap.size + 1 + 1 + 1 + 1 + 1 + 1 + 1 + 1 + 1 + 1 + 1 + 1, 0, none⟩) 2 2] 27)).alloc (.cells #[.int .i64 0, .int .i64 1, .int .i64 0, .int .i64 1, .int .i64 2, .int .i64 0, .int .i64 1, .int .i64 3, .int .i64 1, .int .i64 2, .int .i64 3, .int .i64 2] 86)).alloc (.cells #[.int .i64 0] 3)).alloc (.cells #[.int .i64 1, .int .i64 2] 3)).alloc (.cells #[.int .i64 1] 3)).alloc (.cells #[.int .i64 3] 3)).alloc (.cells #[.slice (some ⟨w.heap.size + 1 + 1, 0, none⟩) 1 1, .slice (some ⟨w.heap.size + 1 + 1 + 1, 0, none⟩) 2 2, .slice (some ⟨w.heap.size + 1 + 1 + 1 + 1, 0, none⟩) 1 1, .slice (some ⟨w.heap.size + 1 + 1 + 1 + 1 + 1, 0, none⟩) 1 1] 80)).alloc (.cells #[.int .i64 1, .int .i64 2] 3)) 3 #[.int .i64 3]
    simp only [World.size_alloc] at h
    rw [hX]
    exact ((((h.alloc _).alloc _).alloc _).alloc _)
  have B9 : Blk X (w.heap.size + 9) 80 #[.slice (some ⟨w.heap.size + 1 + 1 + 1 + 1 + 1 + 1 + 1, 0, none⟩) 2 2, .slice (some ⟨w.heap.size + 1 + 1 + 1 + 1 + 1 + 1 + 1 + 1, 0, none⟩) 1 1] := by
    have h := Blk.new (((((((((w.alloc (.cells #[.int .i64 4, .slice (some ⟨w.heap.size + 1, 0, none⟩) 4 4, .slice (some ⟨w.heap.size + 1 + 1 + 1 + 1 + 1 + 1 + 1 + 1 + 1 + 1, 0, none⟩) 2 2, .slice (some ⟨w.heap.size + 1 + 1 + 1 + 1 + 1 + 1 + 1 + 1 + 1 + 1 + 1, 0, none⟩) 1 1, .slice (some ⟨w.heap.size + 1 + 1 + 1 + 1 + 1 + 1 + 1 + 1 + 1 + 1 + 1 + 1, 0, none⟩) 2 2] 27)).alloc (.cells #[.int .i64 0, .int .i64 1, .int .i64 0, .int .i64 1, .int .i64 2, .int .i64 0, .int .i64 1, .int .i64 3, .int .i64 1, .int .i64 2, .int .i64 3, .int .i64 2] 86)).alloc (.cells #[.int .i64 0] 3)).alloc (.cells #[.int .i64 1, .int .i64 2] 3)).alloc (.cells #[.int .i64 1] 3)).alloc (.cells #[.int .i64 3] 3)).alloc (.cells #[.slice (some ⟨w.heap.size + 1 + 1, 0, none⟩) 1 1, .slice (some ⟨w.heap.size + 1 + 1 + 1, 0, none⟩) 2 2, .slice (some ⟨w.heap.size + 1 + 1 + 1 + 1, 0, none⟩) 1 1, .slice (some ⟨w.heap.size + 1 + 1 + 1 + 1 + 1, 0, none⟩) 1 1] 80)).alloc (.cells #[.int .i64 1, .int .i64 2] 3)).alloc (.cells #[.int .i64 3] 3)) 80 #[.slice (some ⟨w.heap.size + 1 + 1 + 1 + 1 + 1 + 1 + 1, 0, none⟩) 2 2, .slice (some ⟨w.heap.size + 1 + 1 + 1 + 1 + 1 + 1 + 1 + 1, 0, none⟩) 1 1]
    simp only [World.size_alloc] at h
    rw [hX]
    exact (((h.alloc _).alloc _).alloc _)
  have B10 : Blk X (w.heap.size + 10) 78 #[.slice (some ⟨w.heap.size + 1 + 1 + 1 + 1 + 1 + 1, 0, none⟩) 2 2, .slice (some ⟨w.heap.size + 1 + 1 + 1 + 1 + 1 + 1 + 1 + 1 + 1, 0, none⟩) 1 1] := by
    have h := Blk.new ((((((((((w.alloc (.cells #[.int .i64 4, .slice (some ⟨w.heap.size + 1, 0, none⟩) 4 4, .slice (some ⟨w.heap.size + 1 + 1 + 1 + 1 + 1 + 1 + 1 + 1 + 1 + 1, 0, none⟩) 2 2, .slice (some ⟨w.heap.size + 1 + 1 + 1 + 1 + 1 + 1 + 1 + 1 + 1 + 1 + 1, 0, none⟩) 1 1, .slice (some ⟨w.heap.size + 1 + 1 + 1 + 1 + 1 + 1 + 1 + 1 + 1 + 1 + 1 + 1, 0, none⟩) 2 2] 27)).alloc (.cells #[.int .i64 0, .int .i64 1, .int .i64 0, .int .i64 1, .int .i64 2, .int .i64 0, .int .i64 1, .int .i64 3, .int .i64 1, .int .i64 2, .int .i64 3, .int .i64 2] 86)).alloc (.cells #[.int .i64 0] 3)).alloc (.cells #[.int .i64 1, .int .i64 2] 3)).alloc (.cells #[.int .i64 1] 3)).alloc (.cells #[.int .i64 3] 3)).alloc (.cells #[.slice (some ⟨w.heap.size + 1 + 1, 0, none⟩) 1 1, .slice (some ⟨w.heap.size + 1 + 1 + 1, 0, none⟩) 2 2, .slice (some ⟨w.heap.size + 1 + 1 + 1 + 1, 0, none⟩) 1 1, .slice (some ⟨w.heap.size + 1 + 1 + 1 + 1 + 1, 0, none⟩) 1 1] 80)).alloc (.cells #[.int .i64 1, .int .i64 2] 3)).alloc (.cells #[.int .i64 3] 3)).alloc (.cells #[.slice (some ⟨w.heap.size + 1 + 1 + 1 + 1 + 1 + 1 + 1, 0, none⟩) 2 2, .slice (some ⟨w.heap.size + 1 + 1 + 1 + 1 + 1 + 1 + 1 + 1, 0, none⟩) 1 1] 80)) 78 #[.slice (some ⟨w.heap.size + 1 + 1 + 1 + 1 + 1 + 1, 0, none⟩) 2 2, .slice (some ⟨w.heap.size + 1 + 1 + 1 + 1 + 1 + 1 + 1 + 1 + 1, 0, none⟩) 1 1]
    simp only [World.size_alloc] at h
    rw [hX]
    exact ((h.alloc _).alloc _)
  have B11 : Blk X (w.heap.size + 11) 3 #[.int .i64 0] := by
    have h := Blk.new (((((((((((w.alloc (.cells #[.int .i64 4, .slice (some ⟨w.heap.size + 1, 0, none⟩) 4 4, .slice (some ⟨w.heap.size + 1 + 1 + 1 + 1 + 1 + 1 + 1 + 1 + 1 + 1, 0, none⟩) 2 2, .slice (some ⟨w.heap.size + 1 + 1 + 1 + 1 + 1 + 1 + 1 + 1 + 1 + 1 + 1, 0, none⟩) 1 1, .slice (some ⟨w.heap.size + 1 + 1 + 1 + 1 + 1 + 1 + 1 + 1 + 1 + 1 + 1 + 1, 0, none⟩) 2 2] 27)).alloc (.cells #[.int .i64 0, .int .i64 1, .int .i64 0, .int .i64 1, .int .i64 2, .int .i64 0, .int .i64 1, .int .i64 3, .int .i64 1, .int .i64 2, .int .i64 3, .int .i64 2] 86)).alloc (.cells #[.int .i64 0] 3)).alloc (.cells #[.int .i64 1, .int .i64 2] 3)).alloc (.cells #[.int .i64 1] 3)).alloc (.cells #[.int .i64 3] 3)).alloc (.cells #[.slice (some ⟨w.heap.size + 1 + 1, 0, none⟩) 1 1, .slice (some ⟨w.heap.size + 1 + 1 + 1, 0, none⟩) 2 2, .slice (some ⟨w.heap.size + 1 + 1 + 1 + 1, 0, none⟩) 1 1, .slice (some ⟨w.heap.size + 1 + 1 + 1 + 1 + 1, 0, none⟩) 1 1] 80)).alloc (.cells #[.int .i64 1, .int .i64 2] 3)).alloc (.cells #[.int .i64 3] 3)).alloc (.cells #[.slice (some ⟨w.heap.size + 1 + 1 + 1 + 1 + 1 + 1 + 1, 0, none⟩) 2 2, .slice (some ⟨w.heap.size + 1 + 1 + 1 + 1 + 1 + 1 + 1 + 1, 0, none⟩) 1 1] 80)).alloc (.cells #[.slice (some ⟨w.heap.size + 1 + 1 + 1 + 1 + 1 + 1, 0, none⟩) 2 2, .slice (some ⟨w.heap.size + 1 + 1 + 1 + 1 + 1 + 1 + 1 + 1 + 1, 0, none⟩) 1 1] 78)) 3 #[.int .i64 0]
    simp only [World.size_alloc] at h
    rw [hX]
    exact (h.alloc _)
  have B12 : Blk X (w.heap.size + 12) 83 #[.int .i64 0, .int .i64 (-1), .int .i64 1, .int .i64 (-1)] := by
    have h := Blk.new ((((((((((((w.alloc (.cells #[.int .i64 4, .slice (some ⟨w.heap.size + 1, 0, none⟩) 4 4, .slice (some ⟨w.heap.size + 1 + 1 + 1 + 1 + 1 + 1 + 1 + 1 + 1 + 1, 0, none⟩) 2 2, .slice (some ⟨w.heap.size + 1 + 1 + 1 + 1 + 1 + 1 + 1 + 1 + 1 + 1 + 1, 0, none⟩) 1 1, .slice (some ⟨w.heap.size + 1 + 1 + 1 + 1 + 1 + 1 + 1 + 1 + 1 + 1 + 1 + 1, 0, none⟩) 2 2] 27)).alloc (.cells #[.int .i64 0, .int .i64 1, .int .i64 0, .int .i64 1, .int .i64 2, .int .i64 0, .int .i64 1, .int .i64 3, .int .i64 1, .int .i64 2, .int .i64 3, .int .i64 2] 86)).alloc (.cells #[.int .i64 0] 3)).alloc (.cells #[.int .i64 1, .int .i64 2] 3)).alloc (.cells #[.int .i64 1] 3)).alloc (.cells #[.int .i64 3] 3)).alloc (.cells #[.slice (some ⟨w.heap.size + 1 + 1, 0, none⟩) 1 1, .slice (some ⟨w.heap.size + 1 + 1 + 1, 0, none⟩) 2 2, .slice (some ⟨w.heap.size + 1 + 1 + 1 + 1, 0, none⟩) 1 1, .slice (some ⟨w.heap.size + 1 + 1 + 1 + 1 + 1, 0, none⟩) 1 1] 80)).alloc (.cells #[.int .i64 1, .int .i64 2] 3)).alloc (.cells #[.int .i64 3] 3)).alloc (.cells #[.slice (some ⟨w.heap.size + 1 + 1 + 1 + 1 + 1 + 1 + 1, 0, none⟩) 2 2, .slice (some ⟨w.heap.size + 1 + 1 + 1 + 1 + 1 + 1 + 1 + 1, 0, none⟩) 1 1] 80)).alloc (.cells #[.slice (some ⟨w.heap.size + 1 + 1 + 1 + 1 + 1 + 1, 0, none⟩) 2 2, .slice (some ⟨w.heap.size + 1 + 1 + 1 + 1 + 1 + 1 + 1 + 1 + 1, 0, none⟩) 1 1] 78)).alloc (.cells #[.int .i64 0] 3)) 83 #[.int .i64 0, .int .i64 (-1), .int .i64 1, .int .i64 (-1)]
    simp only [World.size_alloc] at h
    rw [hX]
    exact h
  clear hX
  refine ⟨w.heap.size + 1, w.heap.size + 10, w.heap.size + 11, w.heap.size + 12, _, _, _, _, rfl, hA, by omega, B12, fun w2 hg => ?_⟩
  have C1 := B1.grown hg (fun e => by injection e with e; omega)
  have C2 := B2.grown hg (fun e => by injection e with e; omega)
  have C3 := B3.grown hg (fun e => by injection e with e; omega)
  have C4 := B4.grown hg (fun e => by injection e with e; omega)
  have C5 := B5.grown hg (fun e => by injection e with e; omega)
  have C6 := B6.grown hg (fun e => by injection e with e; omega)
  have C7 := B7.grown hg (fun e => by injection e with e; omega)
  have C8 := B8.grown hg (fun e => by injection e with e; omega)
  have C9 := B9.grown hg (fun e => by injection e with e; omega)
  have C10 := B10.grown hg (fun e => by injection e with e; omega)
  have C11 := B11.grown hg (fun e => by injection e with e; omega)
  have I2 : Ints w2 (some ⟨w.heap.size + 2, 0, none⟩) [0] := ints_blk (t := 3) (by exact C2) (by decide)
  have I3 : Ints w2 (some ⟨w.heap.size + 3, 0, none⟩) [1, 2] := ints_blk (t := 3) (by exact C3) (by decide)
  have I4 : Ints w2 (some ⟨w.heap.size + 4, 0, none⟩) [1] := ints_blk (t := 3) (by exact C4) (by decide)
  have I5 : Ints w2 (some ⟨w.heap.size + 5, 0, none⟩) [3] := ints_blk (t := 3) (by exact C5) (by decide)
  have I7 : Ints w2 (some ⟨w.heap.size + 7, 0, none⟩) [1, 2] := ints_blk (t := 3) (by exact C7) (by decide)
  have I8 : Ints w2 (some ⟨w.heap.size + 8, 0, none⟩) [3] := ints_blk (t := 3) (by exact C8) (by decide)
  have M6 : RowsP w2 (some ⟨w.heap.size + 6, 0, none⟩) 2 MeanR [⟨[0], [1, 2]⟩, ⟨[1], [3]⟩] := rows_blk C6 (by decide) fun i hi => by
    match i, hi with
    | 0, _ => exact ⟨[.slice (some ⟨w.heap.size + 2, 0, none⟩) 1 1, .slice (some ⟨w.heap.size + 3, 0, none⟩) 2 2], rfl, ⟨_, 1, _, 2, rfl, I2, I3⟩, fun j hj => by match j, hj with | 0, _ => rfl | 1, _ => rfl⟩
    | 1, _ => exact ⟨[.slice (some ⟨w.heap.size + 4, 0, none⟩) 1 1, .slice (some ⟨w.heap.size + 5, 0, none⟩) 1 1], rfl, ⟨_, 1, _, 1, rfl, I4, I5⟩, fun j hj => by match j, hj with | 0, _ => rfl | 1, _ => rfl⟩
  have M9 : RowsP w2 (some ⟨w.heap.size + 9, 0, none⟩) 2 MeanR [⟨[1, 2], [3]⟩] := rows_blk C9 (by decide) fun i hi => by
    match i, hi with
    | 0, _ => exact ⟨[.slice (some ⟨w.heap.size + 7, 0, none⟩) 2 2, .slice (some ⟨w.heap.size + 8, 0, none⟩) 1 1], rfl, ⟨_, 2, _, 1, rfl, I7, I8⟩, fun j hj => by match j, hj with | 0, _ => rfl | 1, _ => rfl⟩
  refine ⟨rows_blk C1 (by decide) fun i hi => ?_, rows_blk C10 (by decide) fun i hi => ?_, ints_blk (t := 3) (by exact C11) (by decide)⟩
  · match i, hi with
    | 0, _ => exact ⟨[.int .i64 0, .int .i64 1, .int .i64 0], rfl, rfl, fun j hj => by match j, hj with | 0, _ => rfl | 1, _ => rfl | 2, _ => rfl⟩
    | 1, _ => exact ⟨[.int .i64 1, .int .i64 2, .int .i64 0], rfl, rfl, fun j hj => by match j, hj with | 0, _ => rfl | 1, _ => rfl | 2, _ => rfl⟩
    | 2, _ => exact ⟨[.int .i64 1, .int .i64 3, .int .i64 1], rfl, rfl, fun j hj => by match j, hj with | 0, _ => rfl | 1, _ => rfl | 2, _ => rfl⟩
    | 3, _ => exact ⟨[.int .i64 2, .int .i64 3, .int .i64 2], rfl, rfl, fun j hj => by match j, hj with | 0, _ => rfl | 1, _ => rfl | 2, _ => rfl⟩
  · match i, hi with
    | 0, _ => exact ⟨[.slice (some ⟨w.heap.size + 6, 0, none⟩) 2 2], rfl, ⟨_, 2, rfl, M6⟩, fun j hj => by match j, hj with | 0, _ => rfl⟩
    | 1, _ => exact ⟨[.slice (some ⟨w.heap.size + 9, 0, none⟩) 1 1], rfl, ⟨_, 1, rfl, M9⟩, fun j hj => by match j, hj with | 0, _ => rfl⟩

set_option maxRecDepth 100000 in
set_option maxHeartbeats 2000000 in
theorem four_any (w : World) : Calls Try.prog 44 #[] w (FourR w) := by
  go_enter Try.func44, Try.ntmps44
  go_wp2_with fail
  refine bodyPost_ret (v := .agg #[.int .i64 4, .slice (some ⟨w.heap.size + 1, 0, none⟩) 4 4, .slice (some ⟨w.heap.size + 1 + 1 + 1 + 1 + 1 + 1 + 1 + 1 + 1 + 1, 0, none⟩) 2 2, .slice (some ⟨w.heap.size + 1 + 1 + 1 + 1 + 1 + 1 + 1 + 1 + 1 + 1 + 1, 0, none⟩) 1 1, .slice (some ⟨w.heap.size + 1 + 1 + 1 + 1 + 1 + 1 + 1 + 1 + 1 + 1 + 1 + 1, 0, none⟩) 2 2]) (by simp [results, Try.results44, go_sem]) rfl ?_
  exact four_final w _ rfl
end Go.Proofs
end

section
/- Walks: what the program asks of itself before it holds anything: the contracts. -/
namespace Go.Proofs
open Go.RowKit

theorem al1 (w : World) (t : TypeId) (cs : Array Value) : Blk (w.alloc (.cells cs t)) w.heap.size t cs := Blk.new w t cs
theorem al2 (w : World) (x : Obj) (t : TypeId) (cs : Array Value) : Blk ((w.alloc x).alloc (.cells cs t)) (w.heap.size + 1) t cs := by
  have h := Blk.new (w.alloc x) t cs
  rwa [World.size_alloc] at h
theorem al3 (w : World) (x y : Obj) (t : TypeId) (cs : Array Value) : Blk (((w.alloc x).alloc y).alloc (.cells cs t)) (w.heap.size + 1 + 1) t cs := by
  have h := al2 (w.alloc x) y t cs
  rwa [World.size_alloc] at h
theorem al4 (w : World) (x y z : Obj) (t : TypeId) (cs : Array Value) : Blk ((((w.alloc x).alloc y).alloc z).alloc (.cells cs t)) (w.heap.size + 1 + 1 + 1) t cs := by
  have h := al3 (w.alloc x) y z t cs
  rwa [World.size_alloc] at h
theorem al5 (w : World) (x y z u : Obj) (t : TypeId) (cs : Array Value) : Blk (((((w.alloc x).alloc y).alloc z).alloc u).alloc (.cells cs t)) (w.heap.size + 1 + 1 + 1 + 1) t cs := by
  have h := al4 (w.alloc x) y z u t cs
  rwa [World.size_alloc] at h
theorem lists_blk {w : World} {b : Nat} {cs : Array Value} {l : List (List Int)} (hb : Blk w b 24 cs) (hl : l.length ≤ 17592186043904)
    (h : ∀ i, (hi : i < l.length) → ∃ A c, cs[i]? = some (.slice A l[i].length c) ∧ Ints w A l[i]) : Lists w (some ⟨b, 0, none⟩) l := by
  refine rows_blk hb (by omega) fun i hi => ?_
  obtain ⟨A, c, h1, h2⟩ := h i hi
  refine ⟨[.slice A l[i].length c], rfl, ⟨A, c, rfl, h2⟩, fun j hj => ?_⟩
  have : j = 0 := by simp at hj; omega
  subst this
  simpa using h1

section
variable {W : World} {b1 b2 b3 L c1 c2 c3 c4 : Nat}
theorem aw15 (hT : TRep W T4 (some ⟨b1, 0, none⟩) (some ⟨b2, 0, none⟩) (some ⟨b3, 0, none⟩) (some ⟨L, 0, none⟩)) {g : Nat} (hg : Blk W g 3 #[.int .i64 0, .int .i64 0]) : Calls Try.prog 15 #[.agg #[.int .i64 4, .slice (some ⟨b1, 0, none⟩) 4 c1, .slice (some ⟨b2, 0, none⟩) 2 c2, .slice (some ⟨b3, 0, none⟩) 1 c3, .slice (some ⟨L, 0, none⟩) 2 c4], .slice (some ⟨g, 0, none⟩) 2 2] W fun e w' => Aft W w' ∧ ∃ A c, e = .returned (.tuple #[.slice A 2 c, .int .i64 0]) ∧ Lists w' A [[0, 1, 3], [0, 2, 3]] := by
  refine (lines_any W T4 _ _ _ _ c1 c2 c3 c4 [0, 0] _ 2 hT (ints_blk (t := 3) (l := [0, 0]) (by exact hg) (by decide))).mono ?_
  rintro e w' ⟨ha, h | h⟩
  · exact (h.1 linesE400).elim
  · obtain ⟨_, v, rfl, hv⟩ := h
    rw [lines400] at hv
    obtain ⟨A, c, rfl, _, hl⟩ := hv.lists (by decide) (by decide)
    exact ⟨ha, A, c, rfl, hl⟩
theorem aw15b (hT : TRep W T4 (some ⟨b1, 0, none⟩) (some ⟨b2, 0, none⟩) (some ⟨b3, 0, none⟩) (some ⟨L, 0, none⟩)) {g : Nat} (hg : Blk W g 3 #[.int .i64 1, .int .i64 0]) : Calls Try.prog 15 #[.agg #[.int .i64 4, .slice (some ⟨b1, 0, none⟩) 4 c1, .slice (some ⟨b2, 0, none⟩) 2 c2, .slice (some ⟨b3, 0, none⟩) 1 c3, .slice (some ⟨L, 0, none⟩) 2 c4], .slice (some ⟨g, 0, none⟩) 2 2] W fun e w' => Aft W w' ∧ ∃ A c, e = .returned (.tuple #[.slice A 0 c, .int .i64 0]) := by
  refine (lines_any W T4 _ _ _ _ c1 c2 c3 c4 [1, 0] _ 2 hT (ints_blk (t := 3) (l := [1, 0]) (by exact hg) (by decide))).mono ?_
  rintro e w' ⟨ha, h | h⟩
  · exact (h.1 linesE410).elim
  · obtain ⟨_, v, rfl, hv⟩ := h
    rw [lines410] at hv
    obtain ⟨A, c, rfl, _, hl⟩ := hv.lists (by decide) (by decide)
    exact ⟨ha, A, c, rfl⟩
theorem aw43 (hT : TRep W T4 (some ⟨b1, 0, none⟩) (some ⟨b2, 0, none⟩) (some ⟨b3, 0, none⟩) (some ⟨L, 0, none⟩))  : Calls Try.prog 43 #[.agg #[.int .i64 4, .slice (some ⟨b1, 0, none⟩) 4 c1, .slice (some ⟨b2, 0, none⟩) 2 c2, .slice (some ⟨b3, 0, none⟩) 1 c3, .slice (some ⟨L, 0, none⟩) 2 c4]] W fun e w' => Aft W w' ∧ ∃ A c, e = .returned (.tuple #[.slice A 1 c, .int .i64 0]) ∧ Lists w' A [[0, 0]] := by
  refine (readingsX_any W T4 _ _ _ _ c1 c2 c3 c4 hT).mono ?_
  rintro e w' ⟨ha, h | h⟩
  · exact (h.1 chk4).elim
  · obtain ⟨_, v, rfl, hv⟩ := h
    rw [read4] at hv
    obtain ⟨A, c, rfl, _, hl⟩ := hv.lists (by decide) (by decide)
    exact ⟨ha, A, c, rfl, hl⟩
theorem aw45 (hT : TRep W T4 (some ⟨b1, 0, none⟩) (some ⟨b2, 0, none⟩) (some ⟨b3, 0, none⟩) (some ⟨L, 0, none⟩))  : Calls Try.prog 45 #[.agg #[.int .i64 4, .slice (some ⟨b1, 0, none⟩) 4 c1, .slice (some ⟨b2, 0, none⟩) 2 c2, .slice (some ⟨b3, 0, none⟩) 1 c3, .slice (some ⟨L, 0, none⟩) 2 c4]] W fun e w' => Aft W w' ∧ ∃ A c, e = .returned (.tuple #[.slice A 3 c, .int .i64 0]) ∧ Lists w' A [[0], [1, 2], [3]] := by
  refine (ends_good W T4 _ _ _ _ c1 c2 c3 c4 hT chk4).mono ?_
  rintro e w' ⟨ha, h | h⟩
  · exact (h.1 endsOk4).elim
  · obtain ⟨_, v, rfl, hv⟩ := h
    rw [ends4] at hv
    obtain ⟨A, c, rfl, _, hl⟩ := hv.lists (by decide) (by decide)
    exact ⟨ha, A, c, rfl, hl⟩
theorem aw21 (hT : TRep W T4 (some ⟨b1, 0, none⟩) (some ⟨b2, 0, none⟩) (some ⟨b3, 0, none⟩) (some ⟨L, 0, none⟩)) {g : Nat} (hg : Blk W g 3 #[.int .i64 0, .int .i64 1, .int .i64 3]) : Calls Try.prog 21 #[.agg #[.int .i64 4, .slice (some ⟨b1, 0, none⟩) 4 c1, .slice (some ⟨b2, 0, none⟩) 2 c2, .slice (some ⟨b3, 0, none⟩) 1 c3, .slice (some ⟨L, 0, none⟩) 2 c4], .slice (some ⟨g, 0, none⟩) 3 3] W fun e w' => Aft W w' ∧ ∃ A c, e = .returned (.tuple #[.slice A 2 c, .int .i64 0]) ∧ Ints w' A [0, 0] := by
  refine (agrees_good W T4 _ _ _ _ c1 c2 c3 c4 [0, 1, 3] _ 3 hT (ints_blk (t := 3) (l := [0, 1, 3]) (by exact hg) (by decide)) chk4 lin4 st4).mono ?_
  rintro e w' ⟨ha, h | ⟨R, v, h, rfl, hv⟩⟩
  · rw [agr4] at h; cases h.1
  · rw [agr4] at h
    cases h
    obtain ⟨A, c, rfl, _, hl⟩ := own_ints hv (by decide)
    exact ⟨ha, A, c, rfl, hl⟩
theorem aw18 (hT : TRep W T4 (some ⟨b1, 0, none⟩) (some ⟨b2, 0, none⟩) (some ⟨b3, 0, none⟩) (some ⟨L, 0, none⟩)) {g k : Nat} (hg : Blk W g 3 #[.int .i64 1, .int .i64 0]) (hk : Blk W k 3 #[.int .i64 0, .int .i64 1, .int .i64 3]) : Calls Try.prog 18 #[.agg #[.int .i64 4, .slice (some ⟨b1, 0, none⟩) 4 c1, .slice (some ⟨b2, 0, none⟩) 2 c2, .slice (some ⟨b3, 0, none⟩) 1 c3, .slice (some ⟨L, 0, none⟩) 2 c4], .slice (some ⟨g, 0, none⟩) 2 2, .slice (some ⟨k, 0, none⟩) 3 3] W fun e w' => Aft W w' ∧ ∃ A c, e = .returned (.tuple #[.slice A 1 c, .int .i64 0]) ∧ Ints w' A [0] := by
  refine (breaks_any W T4 _ _ _ _ c1 c2 c3 c4 [1, 0] _ 2 [0, 1, 3] _ 3 hT (ints_blk (t := 3) (l := [1, 0]) (by exact hg) (by decide)) (ints_blk (t := 3) (l := [0, 1, 3]) (by exact hk) (by decide))).mono ?_
  rintro e w' ⟨ha, h | h⟩
  · exact (h.1 brkE4).elim
  · obtain ⟨_, v, rfl, hv⟩ := h
    rw [brk4] at hv
    obtain ⟨A, c, rfl, _, hl⟩ := own_ints hv (by decide)
    exact ⟨ha, A, c, rfl, hl⟩
theorem aw27 (hT : TRep W T4 (some ⟨b1, 0, none⟩) (some ⟨b2, 0, none⟩) (some ⟨b3, 0, none⟩) (some ⟨L, 0, none⟩)) {g : Nat} (hg : Blk W g 3 #[.int .i64 1, .int .i64 0]) : Calls Try.prog 27 #[.agg #[.int .i64 4, .slice (some ⟨b1, 0, none⟩) 4 c1, .slice (some ⟨b2, 0, none⟩) 2 c2, .slice (some ⟨b3, 0, none⟩) 1 c3, .slice (some ⟨L, 0, none⟩) 2 c4], .slice (some ⟨g, 0, none⟩) 2 2] W fun e w' => Aft W w' ∧ ∃ A c, e = .returned (.tuple #[.slice A 1 c, .int .i64 0]) ∧ Ints w' A [0] ∧ ∀ b o, A = some ⟨b, o, none⟩ → W.heap.size ≤ b := by
  refine (yield_any W T4 _ _ _ _ c1 c2 c3 c4 [1, 0] _ 2 hT (ints_blk (t := 3) (l := [1, 0]) (by exact hg) (by decide))).mono ?_
  rintro e w' ⟨ha, h | h⟩
  · exact (h.1 rE410).elim
  · obtain ⟨_, v, rfl, hv⟩ := h
    rw [yl4] at hv
    obtain ⟨A, c, rfl, _, hl⟩ := own_ints hv (by decide)
    exact ⟨ha, A, c, rfl, hl, fun b o e => by subst e; exact (hv.lt b rfl).1⟩
theorem aw30 (hT : TRep W T4 (some ⟨b1, 0, none⟩) (some ⟨b2, 0, none⟩) (some ⟨b3, 0, none⟩) (some ⟨L, 0, none⟩)) {g k1 k2 k3 k : Nat} (hg : Blk W g 3 #[.int .i64 1, .int .i64 0]) (h1 : Blk W k1 3 #[.int .i64 0, .int .i64 3, .int .i64 3, .int .i64 3]) (h2 : Blk W k2 3 #[.int .i64 1, .int .i64 1, .int .i64 1, .int .i64 1]) (h3 : Blk W k3 3 #[.int .i64 2, .int .i64 2, .int .i64 2, .int .i64 1]) (hk : Blk W k 24 #[.slice (some ⟨k1, 0, none⟩) 4 4, .slice (some ⟨k2, 0, none⟩) 4 4, .slice (some ⟨k3, 0, none⟩) 4 4]) :
    Calls Try.prog 30 #[.agg #[.int .i64 4, .slice (some ⟨b1, 0, none⟩) 4 c1, .slice (some ⟨b2, 0, none⟩) 2 c2, .slice (some ⟨b3, 0, none⟩) 1 c3, .slice (some ⟨L, 0, none⟩) 2 c4], .slice (some ⟨g, 0, none⟩) 2 2, .slice (some ⟨k, 0, none⟩) 3 3] W fun e w' => Aft W w' ∧ e = .returned (.tuple #[.int .i64 1, .int .i64 0]) := by
  have hF : Lists W (some ⟨k, 0, none⟩) F4 := lists_blk hk (by decide) fun i hi => by
    match i, hi with
    | 0, _ => exact ⟨_, 4, rfl, ints_blk (t := 3) (l := [0, 3, 3, 3]) (by exact h1) (by decide)⟩
    | 1, _ => exact ⟨_, 4, rfl, ints_blk (t := 3) (l := [1, 1, 1, 1]) (by exact h2) (by decide)⟩
    | 2, _ => exact ⟨_, 4, rfl, ints_blk (t := 3) (l := [2, 2, 2, 1]) (by exact h3) (by decide)⟩
  refine (proves_any W T4 _ _ _ _ c1 c2 c3 c4 [1, 0] _ 2 F4 _ 3 hT (ints_blk (t := 3) (l := [1, 0]) (by exact hg) (by decide)) hF).mono ?_
  rintro e w' ⟨ha, h⟩
  rw [prN4, prE4] at h
  exact ⟨ha, h⟩
theorem aw38 (hT : TRep W T5 (some ⟨b1, 0, none⟩) (some ⟨b2, 0, none⟩) (some ⟨b3, 0, none⟩) (some ⟨L, 0, none⟩)) : Calls Try.prog 38 #[.agg #[.int .i64 4, .slice (some ⟨b1, 0, none⟩) 4 c1, .slice (some ⟨b2, 0, none⟩) 2 c2, .slice (some ⟨b3, 0, none⟩) 1 c3, .slice (some ⟨L, 0, none⟩) 2 c4]] W fun e w' => Aft W w' ∧ ∃ A c, e = .returned (.tuple #[.slice A 2 c, .int .i64 1, .int .i64 0]) ∧ Ints w' A [0, 0] := by
  refine (fewest_any W T5 _ _ _ _ c1 c2 c3 c4 hT).mono ?_
  rintro e w' ⟨ha, h | h⟩
  · exact (h.1 chk5).elim
  · obtain ⟨_, v, rfl, hv⟩ := h
    rw [few5] at hv ⊢
    obtain ⟨A, c, rfl, _, hl⟩ := own_ints hv (by decide)
    exact ⟨ha, A, c, rfl, hl⟩
theorem aw17a {A : Option Addr} {c k1 k2 k : Nat} (hA : Lists W A [[0, 1, 3], [0, 2, 3]]) (h1 : Blk W k1 3 #[.int .i64 0, .int .i64 1, .int .i64 3]) (h2 : Blk W k2 3 #[.int .i64 0, .int .i64 2, .int .i64 3]) (hk : Blk W k 24 #[.slice (some ⟨k1, 0, none⟩) 3 3, .slice (some ⟨k2, 0, none⟩) 3 3]) :
    Calls Try.prog 17 #[.slice A 2 c, .slice (some ⟨k, 0, none⟩) 2 2] W fun e w' => e = .returned (.bool true) ∧ Aft W w' :=
  equalAll_any W A _ [[0, 1, 3], [0, 2, 3]] [[0, 1, 3], [0, 2, 3]] c 2 hA (lists_blk hk (by decide) fun i hi => by
    match i, hi with
    | 0, _ => exact ⟨_, 3, rfl, ints_blk (t := 3) (l := [0, 1, 3]) (by exact h1) (by decide)⟩
    | 1, _ => exact ⟨_, 3, rfl, ints_blk (t := 3) (l := [0, 2, 3]) (by exact h2) (by decide)⟩)
theorem aw17b {A : Option Addr} {c k1 k : Nat} (hA : Lists W A [[0, 0]]) (h1 : Blk W k1 3 #[.int .i64 0, .int .i64 0]) (hk : Blk W k 24 #[.slice (some ⟨k1, 0, none⟩) 2 2]) :
    Calls Try.prog 17 #[.slice A 1 c, .slice (some ⟨k, 0, none⟩) 1 1] W fun e w' => e = .returned (.bool true) ∧ Aft W w' :=
  equalAll_any W A _ [[0, 0]] [[0, 0]] c 1 hA (lists_blk hk (by decide) fun i hi => by
    match i, hi with
    | 0, _ => exact ⟨_, 2, rfl, ints_blk (t := 3) (l := [0, 0]) (by exact h1) (by decide)⟩)
theorem aw17c {A : Option Addr} {c k1 k2 k3 k : Nat} (hA : Lists W A [[0], [1, 2], [3]]) (h1 : Blk W k1 3 #[.int .i64 0]) (h2 : Blk W k2 3 #[.int .i64 1, .int .i64 2]) (h3 : Blk W k3 3 #[.int .i64 3]) (hk : Blk W k 24 #[.slice (some ⟨k1, 0, none⟩) 1 1, .slice (some ⟨k2, 0, none⟩) 2 2, .slice (some ⟨k3, 0, none⟩) 1 1]) :
    Calls Try.prog 17 #[.slice A 3 c, .slice (some ⟨k, 0, none⟩) 3 3] W fun e w' => e = .returned (.bool true) ∧ Aft W w' :=
  equalAll_any W A _ [[0], [1, 2], [3]] [[0], [1, 2], [3]] c 3 hA (lists_blk hk (by decide) fun i hi => by
    match i, hi with
    | 0, _ => exact ⟨_, 1, rfl, ints_blk (t := 3) (l := [0]) (by exact h1) (by decide)⟩
    | 1, _ => exact ⟨_, 2, rfl, ints_blk (t := 3) (l := [1, 2]) (by exact h2) (by decide)⟩
    | 2, _ => exact ⟨_, 1, rfl, ints_blk (t := 3) (l := [3]) (by exact h3) (by decide)⟩)
end
end Go.Proofs
end

section
/- Walks: what the program asks of itself before it holds anything. -/
namespace Go.Proofs
open Go.RowKit

structure Aw (w : World) (b1 b2 b3 L c1 c2 c3 c4 D : Nat) (X : World) : Prop where
  aft : Aft w X
  base : w.heap.size ≤ L
  far : L < D
  rows : ∀ Z, X.grownBy Z (some L) → RowsP Z (some ⟨b1, 0, none⟩) 3 WayR T4.ways ∧ RowsP Z (some ⟨b2, 0, none⟩) 1 WordR T4.words ∧ Ints Z (some ⟨b3, 0, none⟩) T4.starts
  legs : Blk X L 83 #[.int .i64 0, .int .i64 (-1), .int .i64 1, .int .i64 (-1)]
  box : Blk X D 27 #[.int .i64 4, .slice (some ⟨b1, 0, none⟩) 4 c1, .slice (some ⟨b2, 0, none⟩) 2 c2, .slice (some ⟨b3, 0, none⟩) 1 c3, .slice (some ⟨L, 0, none⟩) 2 c4]
section
variable {w X Y : World} {b1 b2 b3 L c1 c2 c3 c4 D : Nat}
theorem Aw.start (h : Aft w X) (h2 : w.heap.size ≤ L) (h3 : Blk X L 83 #[.int .i64 0, .int .i64 (-1), .int .i64 1, .int .i64 (-1)]) (h4 : ∀ Z, X.grownBy Z (some L) → RowsP Z (some ⟨b1, 0, none⟩) 3 WayR T4.ways ∧ RowsP Z (some ⟨b2, 0, none⟩) 1 WordR T4.words ∧ Ints Z (some ⟨b3, 0, none⟩) T4.starts) :
    Aw w b1 b2 b3 L c1 c2 c3 c4 X.heap.size (X.alloc (.cells #[.int .i64 4, .slice (some ⟨b1, 0, none⟩) 4 c1, .slice (some ⟨b2, 0, none⟩) 2 c2, .slice (some ⟨b3, 0, none⟩) 1 c3, .slice (some ⟨L, 0, none⟩) 2 c4] 27)) :=
  ⟨h.then_alloc _, h2, h3.lt, fun Z hz => h4 Z ((only_of_aft (Aft.alloc _ _) _).trans hz), h3.alloc _, Blk.new _ _ _⟩
theorem Aw.next (h : Aw w b1 b2 b3 L c1 c2 c3 c4 D X) (ha : Aft X Y) : Aw w b1 b2 b3 L c1 c2 c3 c4 D Y := ⟨h.aft.trans ha, h.base, h.far, fun Z hz => h.rows Z ((only_of_aft ha _).trans hz), h.legs.aft ha, h.box.aft ha⟩
theorem legs_blk {l : List Leg} {b : Nat} {cs : Array Value} (hb : Blk X b 83 cs) (hl : l.length * 2 ≤ 17592186043904) (h : ∀ i, (hi : i < l.length) → cs[i * 2]? = some (.int .i64 l[i].word) ∧ cs[i * 2 + 1]? = some (.int .i64 l[i].other)) : RowsP X (some ⟨b, 0, none⟩) 2 LegR l :=
  rows_blk hb hl fun i hi => ⟨[.int .i64 l[i].word, .int .i64 l[i].other], rfl, rfl, fun j hj => by match j, hj with | 0, _ => exact (h i hi).1 | 1, _ => exact (h i hi).2⟩
theorem Aw.rep (h : Aw w b1 b2 b3 L c1 c2 c3 c4 D X) : TRep X T4 (some ⟨b1, 0, none⟩) (some ⟨b2, 0, none⟩) (some ⟨b3, 0, none⟩) (some ⟨L, 0, none⟩) :=
  ⟨(h.rows X (only_refl _ _)).1, (h.rows X (only_refl _ _)).2.1, (h.rows X (only_refl _ _)).2.2, legs_blk h.legs (by decide) fun i hi => by match i, hi with | 0, _ => exact ⟨rfl, rfl⟩ | 1, _ => exact ⟨rfl, rfl⟩⟩
theorem setc (X : World) (L i : Nat) (v : Value) : X.grownBy (X.setCell ⟨L, i, none⟩ v) (some L) := Go.Lib.grownBy_setCell X L i v
theorem Aw.rep5 (h : Aw w b1 b2 b3 L c1 c2 c3 c4 D X) : TRep (X.setCell ⟨L, 1, none⟩ (.int .i64 1)) T5 (some ⟨b1, 0, none⟩) (some ⟨b2, 0, none⟩) (some ⟨b3, 0, none⟩) (some ⟨L, 0, none⟩) :=
  ⟨(h.rows _ (setc X L 1 _)).1, (h.rows _ (setc X L 1 _)).2.1, (h.rows _ (setc X L 1 _)).2.2, legs_blk (h.legs.store 1 _) (by decide) fun i hi => by match i, hi with | 0, _ => exact ⟨rfl, rfl⟩ | 1, _ => exact ⟨rfl, rfl⟩⟩
theorem Aw.aft5 (h : Aw w b1 b2 b3 L c1 c2 c3 c4 D X) (v : Value) : Aft w (X.setCell ⟨L, 1, none⟩ v) := h.aft.then_setCell (by exact h.base) v
theorem Aw.cells (h : Blk X D 27 #[.int .i64 4, .slice (some ⟨b1, 0, none⟩) 4 c1, .slice (some ⟨b2, 0, none⟩) 2 c2, .slice (some ⟨b3, 0, none⟩) 1 c3, .slice (some ⟨L, 0, none⟩) 2 c4]) :
    X.cell? ⟨D, 0, none⟩ = some (.int .i64 4) ∧ X.cell? ⟨D, 1, none⟩ = some (.slice (some ⟨b1, 0, none⟩) 4 c1) ∧ X.cell? ⟨D, 2, none⟩ = some (.slice (some ⟨b2, 0, none⟩) 2 c2) ∧ X.cell? ⟨D, 3, none⟩ = some (.slice (some ⟨b3, 0, none⟩) 1 c3) ∧ X.cell? ⟨D, 4, none⟩ = some (.slice (some ⟨L, 0, none⟩) 2 c4) :=
  ⟨h.cell 0, h.cell 1, h.cell 2, h.cell 3, h.cell 4⟩
theorem hwL {A : Option Addr} {n : Nat} (h : L < n) (hf : ∀ b o, A = some ⟨b, o, none⟩ → n ≤ b) : ∀ b o, A = some ⟨b, o, none⟩ → some b ≠ some L := fun b o e h2 => by have := hf b o e; cases h2; omega
theorem aw20 {A A' : Option Addr} {c c' : Nat} (l : List Int) (hA : Ints X A l) (hA' : Ints X A' l) :
    Calls Try.prog 20 #[.slice A l.length c, .slice A' l.length c'] X fun e w' => e = .returned (.bool true) ∧ Aft X w' := by
  refine (kitEqual_int A A' l l c c' X hA hA').mono ?_
  rintro e w' ⟨rfl, ha⟩
  exact ⟨by simp [eqB], ha⟩
end

set_option maxRecDepth 100000 in
set_option maxHeartbeats 4000000 in
theorem awake_any (w : World) : Calls Try.prog 9 #[] w fun e w' => e = .returned (.bool true) ∧ Aft w w' := by
  go_enter Try.func9, Try.ntmps9
  go_upto_region 2 with (first
    | (go_at_call 44; refine (four_any _).mono ?_; rintro e x ⟨b1, b2, b3, L, c1, c2, c3, c4, rfl, ha1, hL, hbL, hst⟩; have HS := Lib.hid (Aw.start (c1 := c1) (c2 := c2) (c3 := c3) (c4 := c4) ha1 hL hbL hst); clear ha1 hL hbL hst))
  have hb := HS.out.box
  generalize hx2 : (x.alloc (Obj.cells #[Value.int IntKind.i64 4, Value.slice (some { block := b1, off := 0 }) 4 c1, Value.slice (some { block := b2, off := 0 }) 2 c2, Value.slice (some { block := b3, off := 0 }) 1 c3, Value.slice (some { block := L, off := 0 }) 2 c4] 27)) = x2 at *
  clear hx2
  generalize x.heap.size = D at *
  have hlt := hb.lt
  obtain ⟨k0, k1, k2, k3, k4⟩ := Aw.cells hb
  clear hb
  go_upto_region 8 with (first
    | (go_at_call 15; refine (aw15 (HS.out.next (Aft.alloc _ _)).rep (al1 _ _ _)).mono ?_; rintro e x ⟨ha, A1, d1, rfl, hl⟩; have HL1 := Lib.hid hl; clear hl; have HS := Lib.hid (HS.out.next ((Aft.alloc _ _).trans ha)); have hb := HS.out.box; clear hlt k0 k1 k2 k3 k4; have hlt := hb.lt; obtain ⟨k0, k1, k2, k3, k4⟩ := Aw.cells hb; clear hb ha)
    | (go_at_call 15; refine (aw15b (HS.out.next (Aft.alloc _ _)).rep (al1 _ _ _)).mono ?_; rintro e x ⟨ha, A2, d2, rfl⟩; have HL1 := Lib.hid (HL1.out.aft ((Aft.alloc _ _).trans ha)); have HS := Lib.hid (HS.out.next ((Aft.alloc _ _).trans ha)); have hb := HS.out.box; clear hlt k0 k1 k2 k3 k4; have hlt := hb.lt; obtain ⟨k0, k1, k2, k3, k4⟩ := Aw.cells hb; clear hb ha)
    | (go_at_call 43; refine (aw43 HS.out.rep).mono ?_; rintro e x ⟨ha, A3, d3, rfl, hl⟩; have HL3 := Lib.hid hl; clear hl;have HL1 := Lib.hid (HL1.out.aft ha); have HS := Lib.hid (HS.out.next ha); have hb := HS.out.box; clear hlt k0 k1 k2 k3 k4; have hlt := hb.lt; obtain ⟨k0, k1, k2, k3, k4⟩ := Aw.cells hb; clear hb ha)
    | (go_at_call 45; refine (aw45 HS.out.rep).mono ?_; rintro e x ⟨ha, A4, d4, rfl, hl⟩; have HL4 := Lib.hid hl; clear hl;have HL1 := Lib.hid (HL1.out.aft ha); have HL3 := Lib.hid (HL3.out.aft ha); have HS := Lib.hid (HS.out.next ha); have hb := HS.out.box; clear hlt k0 k1 k2 k3 k4; have hlt := hb.lt; obtain ⟨k0, k1, k2, k3, k4⟩ := Aw.cells hb; clear hb ha)
    | (go_at_call 21; refine (aw21 (HS.out.next (Aft.alloc _ _)).rep (al1 _ _ _)).mono ?_; rintro e x ⟨ha, A5, d5, rfl, hl⟩; have HL5 := Lib.hid hl; clear hl;have HL1 := Lib.hid (HL1.out.aft ((Aft.alloc _ _).trans ha)); have HL3 := Lib.hid (HL3.out.aft ((Aft.alloc _ _).trans ha)); have HL4 := Lib.hid (HL4.out.aft ((Aft.alloc _ _).trans ha)); have HS := Lib.hid (HS.out.next ((Aft.alloc _ _).trans ha)); have hb := HS.out.box; clear hlt k0 k1 k2 k3 k4; have hlt := hb.lt; obtain ⟨k0, k1, k2, k3, k4⟩ := Aw.cells hb; clear hb ha)
    | (go_at_call 18; refine (aw18 (HS.out.next (Aft.then_alloc (Aft.alloc _ _) _)).rep ((al1 _ _ _).alloc _) (al2 _ _ _ _)).mono ?_; rintro e x ⟨ha, A6, d6, rfl, hl⟩; have HL6 := Lib.hid hl; clear hl;have HL1 := Lib.hid (HL1.out.aft ((Aft.then_alloc (Aft.alloc _ _) _).trans ha)); have HL3 := Lib.hid (HL3.out.aft ((Aft.then_alloc (Aft.alloc _ _) _).trans ha)); have HL4 := Lib.hid (HL4.out.aft ((Aft.then_alloc (Aft.alloc _ _) _).trans ha)); have HL5 := Lib.hid (HL5.out.aft ((Aft.then_alloc (Aft.alloc _ _) _).trans ha)); have HS := Lib.hid (HS.out.next ((Aft.then_alloc (Aft.alloc _ _) _).trans ha)); have hb := HS.out.box; clear hlt k0 k1 k2 k3 k4; have hlt := hb.lt; obtain ⟨k0, k1, k2, k3, k4⟩ := Aw.cells hb; clear hb ha))
  clear hlt k0 k1 k2 k3 k4
  apply wp_region_lit
  (repeat (first | go_big_skip | go_big_want | go_big_move | go_big_op | go_step | go_upon | go_back))
  go_at_call 17
  refine (aw17a (HL1.out.aft (Aft.then_alloc (Aft.then_alloc (Aft.alloc _ _) _) _)) (((al1 _ _ _).alloc _).alloc _) ((al2 _ _ _ _).alloc _) (al3 _ _ _ _ _)).mono ?_
  rintro e x ⟨rfl, ha⟩
  dsimp only
  have HL3 := Lib.hid (HL3.out.aft ((Aft.then_alloc (Aft.then_alloc (Aft.alloc _ _) _) _).trans ha))
  have HL4 := Lib.hid (HL4.out.aft ((Aft.then_alloc (Aft.then_alloc (Aft.alloc _ _) _) _).trans ha))
  have HL5 := Lib.hid (HL5.out.aft ((Aft.then_alloc (Aft.then_alloc (Aft.alloc _ _) _) _).trans ha))
  have HL6 := Lib.hid (HL6.out.aft ((Aft.then_alloc (Aft.then_alloc (Aft.alloc _ _) _) _).trans ha))
  have HS := Lib.hid (HS.out.next ((Aft.then_alloc (Aft.then_alloc (Aft.alloc _ _) _) _).trans ha))
  clear ha
  (repeat (first | go_big_skip | go_big_want | go_big_move | go_big_op | go_step | go_upon | go_back))
  go_at_call 17
  refine (aw17b (HL3.out.aft (Aft.then_alloc (Aft.alloc _ _) _)) ((al1 _ _ _).alloc _) (al2 _ _ _ _)).mono ?_
  rintro e x ⟨rfl, ha⟩
  dsimp only
  have HL4 := Lib.hid (HL4.out.aft ((Aft.then_alloc (Aft.alloc _ _) _).trans ha))
  have HL5 := Lib.hid (HL5.out.aft ((Aft.then_alloc (Aft.alloc _ _) _).trans ha))
  have HL6 := Lib.hid (HL6.out.aft ((Aft.then_alloc (Aft.alloc _ _) _).trans ha))
  have HS := Lib.hid (HS.out.next ((Aft.then_alloc (Aft.alloc _ _) _).trans ha))
  clear ha
  (repeat (first | go_big_skip | go_big_want | go_big_move | go_big_op | go_step | go_upon | go_back))
  go_at_call 17
  refine (aw17c (HL4.out.aft (Aft.then_alloc (Aft.then_alloc (Aft.then_alloc (Aft.alloc _ _) _) _) _)) ((((al1 _ _ _).alloc _).alloc _).alloc _) (((al2 _ _ _ _).alloc _).alloc _) ((al3 _ _ _ _ _).alloc _) (al4 _ _ _ _ _ _)).mono ?_
  rintro e x ⟨rfl, ha⟩
  dsimp only
  have HL5 := Lib.hid (HL5.out.aft ((Aft.then_alloc (Aft.then_alloc (Aft.then_alloc (Aft.alloc _ _) _) _) _).trans ha))
  have HL6 := Lib.hid (HL6.out.aft ((Aft.then_alloc (Aft.then_alloc (Aft.then_alloc (Aft.alloc _ _) _) _) _).trans ha))
  have HS := Lib.hid (HS.out.next ((Aft.then_alloc (Aft.then_alloc (Aft.then_alloc (Aft.alloc _ _) _) _) _).trans ha))
  clear ha
  (repeat (first | go_big_skip | go_big_want | go_big_move | go_big_op | go_step | go_upon | go_back))
  go_at_call 20
  refine (aw20 [0, 0] (HL5.out.aft (Aft.alloc _ _)) (ints_blk (l := [0, 0]) (t := 3) (by exact (al1 _ _ _)) (by decide))).mono ?_
  rintro e x ⟨rfl, ha⟩
  dsimp only
  have HL6 := Lib.hid (HL6.out.aft ((Aft.alloc _ _).trans ha))
  have HS := Lib.hid (HS.out.next ((Aft.alloc _ _).trans ha))
  clear ha
  (repeat (first | go_big_skip | go_big_want | go_big_move | go_big_op | go_step | go_upon | go_back))
  go_at_call 20
  refine (aw20 [0] (HL6.out.aft (Aft.alloc _ _)) (ints_blk (l := [0]) (t := 3) (by exact (al1 _ _ _)) (by decide))).mono ?_
  rintro e x ⟨rfl, ha⟩
  dsimp only
  have HS := Lib.hid (HS.out.next ((Aft.alloc _ _).trans ha))
  clear ha
  have hb := HS.out.box
  have hlt := hb.lt
  obtain ⟨k0, k1, k2, k3, k4⟩ := Aw.cells hb
  clear hb
  (repeat (first | go_big_skip | go_big_want | go_big_move | go_big_op | go_step | go_upon | go_back))
  go_at_call 27
  refine (aw27 (HS.out.next (Aft.alloc _ _)).rep (al1 _ _ _)).mono ?_
  rintro e x ⟨ha, A7, d7, rfl, hl, hfar⟩
  dsimp only
  have HL7 := Lib.hid hl
  have HF7 := Lib.hid (hwL (Nat.lt_of_lt_of_le HS.out.legs.lt (Aft.alloc _ _).size) hfar)
  have HS := Lib.hid (HS.out.next ((Aft.alloc _ _).trans ha))
  clear hl hfar ha hlt k0 k1 k2 k3 k4
  have hb := HS.out.box
  have hlt := hb.lt
  obtain ⟨k0, k1, k2, k3, k4⟩ := Aw.cells hb
  clear hb
  (repeat (first | go_big_skip | go_big_want | go_big_move | go_big_op | go_step | go_upon | go_back))
  go_at_call 30
  refine (aw30 (HS.out.next (Aft.then_alloc (Aft.then_alloc (Aft.then_alloc (Aft.then_alloc (Aft.alloc _ _) _) _) _) _)).rep (((((al1 _ _ _).alloc _).alloc _).alloc _).alloc _) ((((al2 _ _ _ _).alloc _).alloc _).alloc _) (((al3 _ _ _ _ _).alloc _).alloc _) ((al4 _ _ _ _ _ _).alloc _) (al5 _ _ _ _ _ _ _)).mono ?_
  rintro e x ⟨ha, rfl⟩
  dsimp only
  have HL7 := Lib.hid (HL7.out.aft ((Aft.then_alloc (Aft.then_alloc (Aft.then_alloc (Aft.then_alloc (Aft.alloc _ _) _) _) _) _).trans ha))
  have HS := Lib.hid (HS.out.next ((Aft.then_alloc (Aft.then_alloc (Aft.then_alloc (Aft.then_alloc (Aft.alloc _ _) _) _) _) _).trans ha))
  clear ha hlt k0 k1 k2 k3 k4
  have hb := HS.out.box
  have hlt := hb.lt
  obtain ⟨k0, k1, k2, k3, k4⟩ := Aw.cells hb
  clear hb
  have hf := HS.out.legs.frozen 1
  have hc1 : x.cell? ⟨L, 1, none⟩ = some (.int .i64 (-1)) := HS.out.legs.cell 1
  have hl2 := HS.out.legs.lt
  have hn1 : ¬ L = D := by have := HS.out.far; omega
  have hn2 : ¬ D = L := fun e => hn1 e.symm
  (repeat (first | go_big_skip | go_big_want | go_big_move | go_big_op | go_step | go_upon | go_back))
  go_at_call 38
  refine (aw38 HS.out.rep5).mono ?_
  rintro e y ⟨ha, A9, d9, rfl, hl⟩
  dsimp only
  have HL9 := Lib.hid hl
  have HL7 := Lib.hid ((Go.Proofs.Ints.grown HL7.out (setc x L 1 (.int .i64 1)) HF7.out).aft ha)
  have HA := Lib.hid ((HS.out.aft5 (.int .i64 1)).trans ha)
  clear hl ha hlt k0 k1 k2 k3 k4 hf hc1 hl2 hn1 hn2
  (repeat (first | go_big_skip | go_big_want | go_big_move | go_big_op | go_step | go_upon | go_back))
  go_at_call 20
  refine (aw20 [0] (HL7.out.aft (Aft.alloc _ _)) (ints_blk (l := [0]) (t := 3) (by exact (al1 _ _ _)) (by decide))).mono ?_
  rintro e z ⟨rfl, ha⟩
  dsimp only
  have HL9 := Lib.hid (HL9.out.aft ((Aft.alloc _ _).trans ha))
  have HA := Lib.hid (HA.out.trans ((Aft.alloc _ _).trans ha))
  clear ha
  (repeat (first | go_big_skip | go_big_want | go_big_move | go_big_op | go_step | go_upon | go_back))
  go_at_call 20
  refine (aw20 [0, 0] (HL9.out.aft (Aft.alloc _ _)) (ints_blk (l := [0, 0]) (t := 3) (by exact (al1 _ _ _)) (by decide))).mono ?_
  rintro e z2 ⟨rfl, ha⟩
  dsimp only
  have HA := Lib.hid (HA.out.trans ((Aft.alloc _ _).trans ha))
  clear ha
  (repeat (first | go_big_skip | go_big_want | go_big_move | go_big_op | go_step | go_upon | go_back))
  refine bodyPost_ret (v := .bool true) (by simp [results, Try.results9, go_sem]) rfl ?_
  exact ⟨rfl, HA.out⟩
end Go.Proofs
end
