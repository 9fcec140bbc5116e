/- Own texts, merged: Age Agt Agq Rl3 Agw. -/
import Derived.Test.YtobpdobneocckaaGreatDoorG16
import Derived.Shelf.Slices.Cells
import Derived.BigGuard
import Derived.Deep.CutRange
set_option linter.unusedSimpArgs false
set_option linter.unusedVariables false
section
/- The law TreatyAgreed: the ends are those of all lines. -/
namespace Go.Proofs
open Go

theorem getD_app_left {p r : List Int} {i : Nat} (h : i < p.length) : (p ++ r).getD i 0 = p.getD i 0 := by
  rw [List.getD_eq_getElem?_getD, List.getD_eq_getElem?_getD, List.getElem?_append_left h]
theorem getD_app_right {p r : List Int} {i : Nat} (h : p.length ≤ i) : (p ++ r).getD i 0 = r.getD (i - p.length) 0 := by
  rw [List.getD_eq_getElem?_getD, List.getD_eq_getElem?_getD, List.getElem?_append_right h]
/-- A place is come to behind some legs just if some first part of a line is. -/
theorem come_pre {T : Treaty} {f : Nat → Nat → Nat → Bool} : ∀ (leg b : Nat), comeF T f leg b = true ↔
    ∃ p : List Int, p.length = leg ∧ (∀ x ∈ p, 0 ≤ x ∧ x < T.places) ∧ hasB T.starts ((p ++ [(b : Int)]).getD 0 0) = true ∧ ∀ i, i < leg → f i ((p ++ [(b : Int)]).getD i 0).toNat ((p ++ [(b : Int)]).getD (i + 1) 0).toNat = true
  | 0, b => by
    constructor
    · intro h
      exact ⟨[], rfl, (fun x hx => by cases hx), by simpa [comeF] using h, fun i hi => absurd hi (Nat.not_lt_zero _)⟩
    · rintro ⟨p, hp, -, h, -⟩
      obtain rfl := List.eq_nil_of_length_eq_zero hp
      simpa [comeF] using h
  | leg + 1, b => by
    unfold comeF
    rw [List.any_eq_true]
    constructor
    · rintro ⟨a, ha, h⟩
      rw [Bool.and_eq_true] at h
      obtain ⟨p, hp, hx, hs, hk⟩ := (come_pre leg a).1 h.1
      have hal := List.mem_range.1 ha
      refine ⟨p ++ [(a : Int)], by simp [hp], fun x hx' => ?_, ?_, fun i hi => ?_⟩
      · rcases List.mem_append.1 hx' with h' | h'
        · exact hx x h'
        · rw [List.mem_singleton.1 h']; omega
      · rw [getD_app_left (by simp)]; exact hs
      · by_cases e : i = leg
        · subst e
          rw [getD_app_left (by simp [hp]), getD_app_right (p := p ++ [(a : Int)]) (by simp [hp]), getD_app_right (p := p) (by omega)]
          have e1 : i - p.length = 0 := by omega
          have e2 : i + 1 - (p ++ [(a : Int)]).length = 0 := by simp [hp]
          rw [e1, e2]
          simpa using h.2
        · rw [getD_app_left (p := p ++ [(a : Int)]) (by simp [hp]; omega), getD_app_left (p := p ++ [(a : Int)]) (by simp [hp]; omega)]
          exact hk i (by omega)
    · rintro ⟨p, hp, hx, hs, hk⟩
      have hne : p ≠ [] := fun e => by rw [e] at hp; simp at hp
      obtain ⟨q, a, rfl⟩ : ∃ q a, p = q ++ [a] := ⟨p.dropLast, p.getLast hne, (List.dropLast_concat_getLast hne).symm⟩
      have hq : q.length = leg := by simpa using hp
      have ha := hx a (by simp)
      obtain ⟨a', rfl⟩ := Int.eq_ofNat_of_zero_le ha.1
      refine ⟨a', List.mem_range.2 (by omega), ?_⟩
      rw [Bool.and_eq_true]
      refine ⟨(come_pre leg a').2 ⟨q, hq, fun x hx' => hx x (List.mem_append_left _ hx'), ?_, fun i hi => ?_⟩, ?_⟩
      · rw [getD_app_left (by simp)] at hs; exact hs
      · have := hk i (by omega)
        rw [getD_app_left (p := q ++ [(a' : Int)]) (by simp [hq]; omega), getD_app_left (p := q ++ [(a' : Int)]) (by simp [hq]; omega)] at this
        exact this
      · have := hk leg (by omega)
        rw [getD_app_left (p := q ++ [(a' : Int)]) (by simp [hq]), getD_app_right (p := q ++ [(a' : Int)]) (by simp [hq]), getD_app_right (p := q) (by omega)] at this
        have e1 : leg - q.length = 0 := by omega
        have e2 : leg + 1 - (q ++ [(a' : Int)]).length = 0 := by simp [hq]
        rw [e1, e2] at this
        simpa using this
/-- A place is one that a line has behind so many legs just if some line of the reading has it there. -/
theorem there_line {T : Treaty} (ok : TOk T) {f : Nat → Nat → Nat → Bool} {leg b : Nat} (hl : leg ≤ T.legs.length) (hb : b < T.places.toNat) :
    (comeF T f leg b && ahd T f (T.legs.length - leg) leg b) = true ↔ ∃ l ∈ linesL T f, l.getD leg 0 = (b : Int) := by
  rw [Bool.and_eq_true]
  constructor
  · rintro ⟨h1, h2⟩
    obtain ⟨p, hp, hx, hs, hk⟩ := (come_pre leg b).1 h1
    have hne : linesFrom T f (T.legs.length - leg) leg b ≠ [] := fun e => by rw [(linesFrom_nil _ _ _).2 e] at h2; cases h2
    obtain ⟨l', hl'⟩ := List.exists_mem_of_ne_nil _ hne
    obtain ⟨r, rfl, hr, hxr, hkr⟩ := (mem_linesFrom _ _ _ _).1 hl'
    have hpb : ∀ i, i ≤ leg → (p ++ (b : Int) :: r).getD i 0 = (p ++ [(b : Int)]).getD i 0 := fun i hi => by
      rcases Nat.lt_or_ge i p.length with h | h
      · rw [getD_app_left h, getD_app_left h]
      · rw [getD_app_right h, getD_app_right h]
        have : i - p.length = 0 := by omega
        rw [this]; rfl
    have hrb : ∀ i, (p ++ (b : Int) :: r).getD (leg + i) 0 = ((b : Int) :: r).getD i 0 := fun i => by
      rw [getD_app_right (by omega)]
      congr 1
      omega
    refine ⟨p ++ (b : Int) :: r, (mem_linesL ok.starts).2 ⟨linedB_iff.2 ⟨by simp [hp, hr]; omega, fun x hx' => ?_⟩, ?_, keepsTo_iff.2 fun i hi => ?_⟩, ?_⟩
    · rcases List.mem_append.1 hx' with h' | h'
      · exact hx x h'
      · rcases List.mem_cons.1 h' with rfl | h'
        · omega
        · exact hxr x h'
    · rw [hpb 0 (Nat.zero_le _)]; exact hs
    · rcases Nat.lt_or_ge i leg with h | h
      · rw [hpb i (by omega), hpb (i + 1) (by omega)]
        exact hk i h
      · obtain ⟨d, rfl⟩ : ∃ d, i = leg + d := ⟨i - leg, by omega⟩
        rw [hrb d, show leg + d + 1 = leg + (d + 1) by omega, hrb (d + 1)]
        exact hkr d (by omega)
    · have := hrb 0
      simpa using this
  · rintro ⟨l, hl', hlb⟩
    obtain ⟨h1, h2, h3⟩ := (mem_linesL ok.starts).1 hl'
    obtain ⟨hlen, hx⟩ := linedB_iff.1 h1
    have hk := keepsTo_iff.1 h3
    have hll : leg < l.length := by omega
    have hgb : l[leg] = (b : Int) := by rw [← hlb, List.getD_eq_getElem?_getD, List.getElem?_eq_getElem hll]; rfl
    have hsplit : l = l.take leg ++ (b : Int) :: l.drop (leg + 1) := by
      rw [← hgb, List.getElem_cons_drop, List.take_append_drop]
    have hpl : (l.take leg).length = leg := by rw [List.length_take]; omega
    have hpb : ∀ i, i ≤ leg → (l.take leg ++ [(b : Int)]).getD i 0 = l.getD i 0 := fun i hi => by
      conv => rhs; rw [hsplit]
      rcases Nat.lt_or_ge i leg with h | h
      · rw [getD_app_left (by omega), getD_app_left (by omega)]
      · rw [getD_app_right (by omega), getD_app_right (by omega)]
        have : i - (l.take leg).length = 0 := by omega
        rw [this]; rfl
    have hrb : ∀ i, ((b : Int) :: l.drop (leg + 1)).getD i 0 = l.getD (leg + i) 0 := fun i => by
      conv => rhs; rw [hsplit]
      rw [getD_app_right (by omega)]
      congr 1
      omega
    refine ⟨(come_pre leg b).2 ⟨l.take leg, hpl, fun x hx' => hx x (List.mem_of_mem_take hx'), by rw [hpb 0 (Nat.zero_le _)]; exact h2, fun i hi => by rw [hpb i (by omega), hpb (i + 1) (by omega)]; exact hk i (by omega)⟩, ?_⟩
    cases ha : ahd T f (T.legs.length - leg) leg b with
    | true => rfl
    | false =>
      exfalso
      have e := (linesFrom_nil _ _ _).1 ha
      have : (b : Int) :: l.drop (leg + 1) ∈ linesFrom T f (T.legs.length - leg) leg b := (mem_linesFrom _ _ _ _).2 ⟨_, rfl, by rw [List.length_drop]; omega, fun x hx' => hx x (List.mem_of_mem_drop hx'), fun i hi => by
        rw [hrb i, hrb (i + 1), show leg + (i + 1) = leg + i + 1 by omega]
        exact hk (leg + i) (by omega)⟩
      rw [e] at this
      cases this
/-- whether some line of all has a place behind so many legs -/
noncomputable def onLeg (T : Treaty) (leg b : Nat) : Bool := (allL T).any fun l => decide (l.getD leg 0 = (b : Int))
theorem there_all {T : Treaty} (ok : TOk T) {leg b : Nat} (hl : leg ≤ T.legs.length) (hb : b < T.places.toNat) : thereK T (prodN (lensOf T)) leg b = onLeg T leg b := by
  unfold thereK onLeg
  rw [List.take_of_length_le (by rw [readingsL_len]; omega), Bool.eq_iff_iff, List.any_eq_true, List.any_eq_true]
  constructor
  · rintro ⟨R, hR, h⟩
    unfold thereR at h
    obtain ⟨l, hl', e⟩ := (there_line ok hl hb).1 h
    exact ⟨l, ((allL_spec T).2 l).2 (List.mem_flatMap.2 ⟨R, hR, hl'⟩), decide_eq_true e⟩
  · rintro ⟨l, hl', e⟩
    have hu := ((allL_spec T).2 l).1 hl'
    unfold unionL at hu
    obtain ⟨R, hR, hm⟩ := List.mem_flatMap.1 hu
    refine ⟨R, hR, ?_⟩
    unfold thereR
    exact (there_line ok hl hb).2 ⟨l, hm, of_decide_eq_true e⟩
/-- the first places that some line has there -/
noncomputable def wantTo (T : Treaty) (leg n : Nat) : List Int := ((List.range n).filter fun b => onLeg T leg b).map fun b : Nat => (b : Int)
theorem wantTo_succ (T : Treaty) (leg n : Nat) : wantTo T leg (n + 1) = wantTo T leg n ++ if onLeg T leg n then [(n : Int)] else [] := by
  unfold wantTo
  rw [List.range_succ, List.filter_append, List.map_append]
  congr 1
  cases h : onLeg T leg n <;> (simp only [List.filter_cons, List.filter_nil, h]; rfl)
theorem endRow_want {T : Treaty} (ok : TOk T) {leg : Nat} (hl : leg ≤ T.legs.length) : endRow T leg = wantTo T leg T.places.toNat := by
  unfold endRow wantTo
  congr 1
  exact List.filter_congr fun b hb => there_all ok hl (List.mem_range.1 hb)
theorem ends_nil {T : Treaty} (ok : TOk T) (hc : checkE T = 0) (h : allL T = []) : endE T = 7 := by
  unfold endE
  rw [if_pos hc, if_neg]
  intro hB
  have := endsAllB_iff.1 hB 0 (Nat.zero_le _)
  rw [endRow_want ok (Nat.zero_le _)] at this
  apply this
  unfold wantTo
  rw [List.map_eq_nil_iff, List.filter_eq_nil_iff]
  intro b _
  unfold onLeg
  rw [h]
  simp
theorem ends_some {T : Treaty} (ok : TOk T) (hc : checkE T = 0) (h : allL T ≠ []) : endE T = 0 ∧ endX T = endRows T (T.legs.length + 1) := by
  have e : endE T = 0 := by
    unfold endE
    rw [if_pos hc, if_pos (endsAllB_iff.2 fun leg hl => ?_)]
    obtain ⟨l, hl'⟩ := List.exists_mem_of_ne_nil _ h
    have hu := ((allL_spec T).2 l).1 hl'
    unfold unionL at hu
    obtain ⟨R, hR, hm⟩ := List.mem_flatMap.1 hu
    obtain ⟨h1, -, -⟩ := (mem_linesL ok.starts).1 hm
    obtain ⟨hlen, hx⟩ := linedB_iff.1 h1
    have hll : leg < l.length := by omega
    have hxl := hx l[leg] (List.getElem_mem hll)
    obtain ⟨b, hb⟩ := Int.eq_ofNat_of_zero_le hxl.1
    rw [endRow_want ok hl]
    intro en
    unfold wantTo at en
    rw [List.map_eq_nil_iff, List.filter_eq_nil_iff] at en
    refine en b (List.mem_range.2 (by omega)) ?_
    unfold onLeg
    rw [List.any_eq_true]
    exact ⟨l, hl', decide_eq_true (by rw [List.getD_eq_getElem?_getD, List.getElem?_eq_getElem hll]; exact hb)⟩
  exact ⟨e, by unfold endX; rw [if_pos e]⟩
end Go.Proofs
end

section
/- A table of bools that make has laid, filled row by row. -/
namespace Go.Proofs
open Go.RowKit

theorem info50 : (Tryz.prog.info? 50).map (fun i => (i.zero, i.size, i.bytes)) = some (some (.slice none 0 0), 1, 24) := by kernel_rfl
/-- make([][]bool, n) -/
theorem wpList_make_rows {w : World} {ops : Array Oper} {rest : List Oper} {o : Oper} {a : Act} {Q : Exit → Act → World → Prop} (hgd : o.guard = none) (l c : Operand) (ho : o.op = .makeSlice 49 l c) {n : Nat} (hl : a.eval l = .int .i64 n) (hc : a.eval c = .int .i64 n) (hn : n ≤ 100)
    (hK : wpList Tryz.prog ops Q rest (a.put o.dst (.slice (some ⟨w.heap.size, 0, none⟩) n n)) (w.alloc (.cells (madeCells #[.slice none 0 0] n) 50))) : wpList Tryz.prog ops Q (o :: rest) a w := by
  obtain ⟨i, hi, hz0, hz1, hz2⟩ := info_parts info50
  exact wpList_make_row w hgd l c 49 ho 50 i (.slice none 0 0) Tryz.underlying49 hi hz0 hz1 rfl .i64 .i64 n hl hc (by rw [hz2]; omega) (by omega) hK

/-- The first k rows are laid. -/
structure PTab (W : World) (base gE : Nat) (B : Nat → Nat) (n P k : Nat) : Prop where
  outer : ∃ cs, Blk W gE 50 cs ∧ cs.size = n ∧ ∀ i, i < k → cs[i]? = some (.slice (some ⟨B i, 0, none⟩) P P)
  ge : base ≤ gE
  row : ∀ i, i < k → BRow W (B i) P (fun _ => false)
  far : ∀ i, i < k → base ≤ B i
  inj : ∀ i j, i < k → j < k → B i = B j → i = j
section
variable {W W' : World} {base gE : Nat} {B : Nat → Nat} {n P k : Nat}
theorem PTab.start (w : World) (B : Nat → Nat) (n P : Nat) (h : base ≤ w.heap.size) : PTab (w.alloc (.cells (madeCells #[.slice none 0 0] n) 50)) base w.heap.size B n P 0 :=
  ⟨⟨_, Blk.new _ _ _, size_madeCells _ _, fun i h => absurd h (Nat.not_lt_zero _)⟩, h, fun i h => absurd h (Nat.not_lt_zero _), fun i h => absurd h (Nat.not_lt_zero _), fun i j h => absurd h (Nat.not_lt_zero _)⟩
theorem PTab.lt (h : PTab W base gE B n P k) : gE < W.heap.size := let ⟨⟨_, h1, _, _⟩, _, _, _, _⟩ := h; h1.lt
theorem PTab.slot (h : PTab W base gE B n P k) {i : Nat} (hi : i < n) : ∃ v, W.cell? ⟨gE, i, none⟩ = some v := by
  obtain ⟨⟨cs, h1, h2, h3⟩, -⟩ := h
  exact ⟨cs[i], (h1.cell i).trans (Array.getElem?_eq_getElem (by omega))⟩
theorem PTab.frozen (h : PTab W base gE B n P k) (i : Nat) : W.frozen? ⟨gE, i, none⟩ = false := let ⟨⟨_, h1, _, _⟩, _, _, _, _⟩ := h; h1.frozen i
theorem PTab.put (h : PTab W base gE B n P k) (hk : k < n) (hb : base ≤ W.heap.size) :
    PTab ((W.alloc (.cells (madeCells #[.bool false] P) 4)).setCell ⟨gE, k, none⟩ (.slice (some ⟨W.heap.size, 0, none⟩) P P)) base gE (putB B k W.heap.size) n P (k + 1) := by
  obtain ⟨⟨cs, h1, h2, h3⟩, h4, h5, h6, h7⟩ := h
  have hgl := h1.lt
  have hrl : ∀ i, i < k → B i < W.heap.size ∧ B i ≠ gE := fun i hi => by
    obtain ⟨rs, r1, -⟩ := h5 i hi
    refine ⟨r1.lt, fun e => ?_⟩
    rw [e] at r1
    exact absurd (blk_type r1 h1) (by decide)
  refine ⟨⟨_, (h1.alloc _).store k _, by simpa using h2, fun i hi => ?_⟩, h4, fun i hi => ?_, fun i hi => ?_, fun i j hi hj e => ?_⟩
  · rw [Array.getElem?_setIfInBounds]
    unfold putB
    by_cases e : k = i
    · subst e
      rw [if_pos rfl, if_pos (by omega), if_pos rfl]
    · rw [if_neg e, if_neg (Ne.symm e)]
      exact h3 i (by omega)
  · unfold putB
    by_cases e : i = k
    · rw [if_pos e]
      obtain ⟨rs, r1, r2, r3⟩ := BRow.made W P
      exact ⟨rs, r1.far (by show W.heap.size ≠ gE; omega) _, r2, r3⟩
    · rw [if_neg e]
      obtain ⟨rs, r1, r2, r3⟩ := h5 i (by omega)
      exact ⟨rs, (r1.alloc _).far (hrl i (by omega)).2 _, r2, r3⟩
  · unfold putB
    by_cases e : i = k
    · rw [if_pos e]; exact hb
    · rw [if_neg e]; exact h6 i (by omega)
  · unfold putB at e
    by_cases ei : i = k
    · by_cases ej : j = k
      · omega
      · rw [if_pos ei, if_neg ej] at e
        have := (hrl j (by omega)).1
        omega
    · by_cases ej : j = k
      · rw [if_neg ei, if_pos ej] at e
        have := (hrl i (by omega)).1
        omega
      · rw [if_neg ei, if_neg ej] at e
        exact h7 i j (by omega) (by omega) e
theorem PTab.done (h : PTab W base gE B n P n) (hn : n ≤ 100) : BTab W base (.slice (some ⟨gE, 0, none⟩) n n) B n P (fun _ _ => false) := by
  obtain ⟨⟨cs, h1, h2, h3⟩, h4, h5, h6, h7⟩ := h
  refine ⟨⟨by simp, .inr ⟨gE, n, cs, rfl, h4, h1, Nat.le_refl _, by unfold maxLen; omega, by omega, ?_⟩⟩, h5, h6, h7⟩
  apply List.ext_getElem?
  intro i
  rw [Nat.mul_one, List.getElem?_take, List.getElem?_map]
  by_cases hi : i < n
  · rw [if_pos hi, Array.getElem?_toList, h3 i hi, List.getElem?_range hi]
    rfl
  · rw [if_neg hi, List.getElem?_eq_none (l := List.range n) (by simp; omega)]
    rfl
end
end Go.Proofs
end

section
/- The law TreatyAgreed: its closures, its calls, its table. -/
namespace Go.Proofs
open Go.RowKit

theorem runs_26 (args : Array Value) (w : World) : (callFunc 26 args).run Tryz.prog w = .ok (.enter 26 args) w := by simp [go_sem]
theorem runs_29 (args : Array Value) (w : World) : (callFunc 29 args).run Tryz.prog w = .ok (.enter 29 args) w := by simp [go_sem]
theorem same26_any (bx : Nat) (Ax : Option Addr) (r : List Int) (cx : Nat) (Ay : Option Addr) (y : List Int) (cy : Nat) (w : World) (hx : w.cell? ⟨bx, 0, none⟩ = some (.slice Ax r.length cx)) (hr : Ints w Ax r) (hy : Ints w Ay y) :
    Calls Tryz.prog 26 #[.slice Ay y.length cy, .pointer (some ⟨bx, 0, none⟩)] w fun e w' => e = .returned (.bool (eqB y r)) ∧ Aft w w' := by
  have HE := Lib.hid (kitEqual_int Ay Ax y r cy cx w hy hr)
  go_enter Tryz.func26, Tryz.ntmps26
  go_wp2_with (go_at_call 27; refine HE.out.mono ?_; rintro e w' ⟨rfl, ha⟩)
  go_ret
  exact ⟨rfl, ha⟩
theorem same29_any (bx : Nat) (Ax : Option Addr) (r : List Int) (cx : Nat) (Ay : Option Addr) (y : List Int) (cy : Nat) (w : World) (hx : w.cell? ⟨bx, 0, none⟩ = some (.slice Ax r.length cx)) (hr : Ints w Ax r) (hy : Ints w Ay y) :
    Calls Tryz.prog 29 #[.slice Ay y.length cy, .pointer (some ⟨bx, 0, none⟩)] w fun e w' => e = .returned (.bool (eqB y r)) ∧ Aft w w' := by
  have HE := Lib.hid (kitEqual_int Ay Ax y r cy cx w hy hr)
  go_enter Tryz.func29, Tryz.ntmps29
  go_wp2_with (go_at_call 27; refine HE.out.mono ?_; rintro e w' ⟨rfl, ha⟩)
  go_ret
  exact ⟨rfl, ha⟩
theorem has26_any (bx : Nat) (Ax : Option Addr) (r : List Int) (cx : Nat) (A : Option Addr) (L : List (List Int)) (c : Nat) (w : World) (hb : bx < w.heap.size) (hx : w.cell? ⟨bx, 0, none⟩ = some (.slice Ax r.length cx)) (hr : Ints w Ax r) (hL : Lists w A L) (hm : r ∈ L) :
    Calls Tryz.prog 25 #[.slice A L.length c, .func (.func 26) #[] #[.pointer (some ⟨bx, 0, none⟩)]] w fun e w' => e = .returned (.bool true) ∧ Aft w w' := by
  have h := containsFunc_lists ListR 26 [.pointer (some ⟨bx, 0, none⟩)] (fun y => eqB y r) A L c w hL runs_26 (fun y hy v0 hv u => by
    obtain ⟨Ay, cy, e, hyi⟩ := hv
    cases e
    exact same26_any bx Ax r cx Ay y cy _ ((World.lat_cell _ _ _ _ hb).trans hx) (hr.lat u) (hyi.lat u))
  rw [any_mem hm] at h
  exact h
theorem has29_any (bx : Nat) (Ax : Option Addr) (r : List Int) (cx : Nat) (A : Option Addr) (L : List (List Int)) (c : Nat) (w : World) (hb : bx < w.heap.size) (hx : w.cell? ⟨bx, 0, none⟩ = some (.slice Ax r.length cx)) (hr : Ints w Ax r) (hL : Lists w A L) :
    Calls Tryz.prog 25 #[.slice A L.length c, .func (.func 29) #[] #[.pointer (some ⟨bx, 0, none⟩)]] w fun e w' => e = .returned (.bool (decide (r ∈ L))) ∧ Aft w w' := by
  have h := containsFunc_lists ListR 29 [.pointer (some ⟨bx, 0, none⟩)] (fun y => eqB y r) A L c w hL runs_29 (fun y hy v0 hv u => by
    obtain ⟨Ay, cy, e, hyi⟩ := hv
    cases e
    exact same29_any bx Ax r cx Ay y cy _ ((World.lat_cell _ _ _ _ hb).trans hx) (hr.lat u) (hyi.lat u))
  rw [any_listed] at h
  exact h
theorem breaksT_any (w : World) (T : Treaty) (a1 a2 a3 a4 : Option Addr) (c1 c2 c3 c4 : Nat) (R : List Int) (AR : Option Addr) (cR : Nat) (l : List Int) (Al : Option Addr) (cl : Nat) (hT : TRep w T a1 a2 a3 a4) (hR : Ints w AR R) (hA : Ints w Al l) (hn : T.legs.length ≤ 1000) :
    Calls Tryz.prog 24 #[.agg #[.int .i64 T.places, .slice a1 T.ways.length c1, .slice a2 T.words.length c2, .slice a3 T.starts.length c3, .slice a4 T.legs.length c4], .slice AR R.length cR, .slice Al l.length cl] w fun e w' => (∃ A c, e = .returned (.tuple #[.slice A (brkX T R l).length c, .int .i64 (breaksE T R l)])) ∧ Aft w w' :=
  (breaks_any w T a1 a2 a3 a4 c1 c2 c3 c4 R AR cR l Al cl hT hR hA).mono fun e w' h' => let ⟨ha, A, c, he, _⟩ := breaksR_uni hn h'; ⟨⟨A, c, he⟩, ha⟩
theorem redZ_any (w : World) (T : Treaty) (a1 a2 a3 a4 : Option Addr) (c1 c2 c3 c4 : Nat) (hT : TRep w T a1 a2 a3 a4) : Calls Tryz.prog 12 #[.agg #[.int .i64 T.places, .slice a1 T.ways.length c1, .slice a2 T.words.length c2, .slice a3 T.starts.length c3, .slice a4 T.legs.length c4]] w fun e w' => ∃ A c, e = .returned (.tuple #[.slice A (redX T).length c, .int .i64 (checkE T)]) ∧ Lists w' A (redX T) ∧ Aft w w' :=
  (readingsX_any w T a1 a2 a3 a4 c1 c2 c3 c4 hT).mono fun e w' h => let ⟨ha, A, c, he, hl⟩ := readingsR_uni h; ⟨A, c, he, hl, ha⟩
theorem endsZ_any (w : World) (T : Treaty) (a1 a2 a3 a4 : Option Addr) (c1 c2 c3 c4 : Nat) (hT : TRep w T a1 a2 a3 a4) : Calls Tryz.prog 17 #[.agg #[.int .i64 T.places, .slice a1 T.ways.length c1, .slice a2 T.words.length c2, .slice a3 T.starts.length c3, .slice a4 T.legs.length c4]] w fun e w' => ∃ A c, e = .returned (.tuple #[.slice A (endX T).length c, .int .i64 (endE T)]) ∧ Lists w' A (endX T) ∧ Aft w w' :=
  (endsTop_any w T a1 a2 a3 a4 c1 c2 c3 c4 hT).mono fun e w' ⟨ha, A, c, he, hl⟩ => ⟨A, c, he, hl, ha⟩

/-- A line that a deck deals is one of the ground, from one of the starts. -/
theorem gone_lined {T : Treaty} {ns : List Int} (ok : TOk T) (hp : 2 ≤ T.places) (hg : GoneL T ns) (hl : ns.length = 1 + T.legs.length) : linedB T ns = true ∧ hasB T.starts (ns.getD 0 0) = true := by
  obtain ⟨s, rest, rfl, hs, hr⟩ := hg
  refine ⟨linedB_iff.2 ⟨by omega, fun x hx => ?_⟩, hasB_iff.2 (by simpa using hs)⟩
  rcases List.mem_cons.1 hx with rfl | hx
  · exact ok.starts x hs
  · have := hr x hx
    omega

/-- The table while the lines are looked through: the first j of them all, and of the next one the first q places. -/
def linTo (L : List (List Int)) (m : List Int) (j q : Nat) : Nat → Nat → Bool := fun a b => (L.take j).any (fun l => decide (l.getD a 0 = (b : Int))) || decide (a < q ∧ m.getD a 0 = (b : Int))
theorem linTo_start (L : List (List Int)) (m : List Int) (a b : Nat) : linTo L m 0 0 a b = false := by
  unfold linTo; simp
theorem linTo_next {L : List (List Int)} {j n : Nat} (hj : j < L.length) (m' : List Int) {a b : Nat} (ha : a < n) : linTo L L[j] j n a b = linTo L m' (j + 1) 0 a b := by
  unfold linTo
  rw [List.take_succ_eq_append_getElem hj, List.any_append]
  simp [ha]
theorem linTo_put (L : List (List Int)) (m : List Int) (j q : Nat) {x : Nat} (hx : m.getD q 0 = (x : Int)) (a b : Nat) : upd2 (linTo L m j q) q x true a b = linTo L m j (q + 1) a b := by
  by_cases e : a = q ∧ b = x
  · obtain ⟨rfl, rfl⟩ := e
    unfold upd2
    rw [if_pos ⟨rfl, rfl⟩]
    unfold linTo
    rw [decide_eq_true (show a < a + 1 ∧ m.getD a 0 = (b : Int) from ⟨by omega, hx⟩), Bool.or_true]
  · have hu : upd2 (linTo L m j q) q x true a b = linTo L m j q a b := by unfold upd2; rw [if_neg e]
    rw [hu]
    unfold linTo
    congr 1
    by_cases ea : a = q
    · subst ea
      have hb : b ≠ x := fun h => e ⟨rfl, h⟩
      have : ¬ (m.getD a 0 = (b : Int)) := by rw [hx]; omega
      rw [decide_eq_false (fun h => this h.2), decide_eq_false (fun h => this h.2)]
    · have : (a < q ∧ m.getD a 0 = (b : Int)) ↔ (a < q + 1 ∧ m.getD a 0 = (b : Int)) := ⟨fun h => ⟨by omega, h.2⟩, fun h => ⟨by omega, h.2⟩⟩
      exact decide_eq_decide.2 this
theorem linTo_any (L : List (List Int)) (m : List Int) (a b : Nat) : linTo L m L.length 0 a b = L.any fun l => decide (l.getD a 0 = (b : Int)) := by
  unfold linTo
  rw [List.take_length]
  simp
theorem BTab.keptb {W W' : World} {base : Nat} {v : Value} {B : Nat → Nat} {n P : Nat} {g : Nat → Nat → Bool} (h : BTab W base v B n P g) {row : Option Nat} (hg : W.grownBy W' row) (hr : ∀ k, row = some k → k < base) : BTab W' base v B n P g :=
  ⟨own_kept' h.own hg hr, fun i hi => (h.row i hi).grown hg (fun e => by have := hr _ e.symm; have := h.far i hi; omega), h.far, h.inj⟩
end Go.Proofs
end

section
/- Walks: the drawn region of the law TreatyReadings. -/
namespace Go.Proofs
open Go.RowKit


section
variable {T : Treaty} {v u : Value} {S : Nat → Prop} {w w' X : World} {t : TypeId} {e e1 e3 e4 e5 e6 e7 : Bool} {v3 v4 v14 v16 : Value}
end
theorem boxR5 {X : World} {g : Nat} {t : TypeId} {p v1 v2 v3 v4 : Value} (h : Blk X g t #[p, v1, v2, v3, v4]) : X.cell? ⟨g, 0, none⟩ = some p ∧ X.cell? ⟨g, 1, none⟩ = some v1 ∧ X.cell? ⟨g, 2, none⟩ = some v2 ∧ X.cell? ⟨g, 3, none⟩ = some v3 ∧ X.cell? ⟨g, 4, none⟩ = some v4 :=
  ⟨h.cell 0, h.cell 1, h.cell 2, h.cell 3, h.cell 4⟩


end Go.Proofs
end

section
/- Walks: the law TreatyAgreed (4). -/
namespace Go.Proofs
open Go.RowKit

set_option maxRecDepth 100000 in
set_option maxHeartbeats 16000000 in
theorem agreed_any (w : World) (A : Option Addr) (l : List Int) (c : Nat) (Am : Option Addr) (tr : List Int) (cm : Nat) (hA : Bytes w A l) (hB : Bytes w Am tr) : Calls Tryz.prog 4 #[.slice A l.length c, .slice Am tr.length cm] w fun e w' => e = .returned (.bool true) ∧ Aft w w' := by
  have HA := Lib.hid hA
  have HB := Lib.hid hB
  clear hA hB
  go_enter Tryz.func4, Tryz.ntmps4
  (repeat (first | go_big_skip | go_big_want | go_big_move | go_big_op | go_step | go_upon | go_back))
  go_at_call 21
  refine (of_any A l c w HA.out).mono ?_
  rintro e x ⟨rfl, hdk⟩
  dsimp only
  have HDK := Lib.hid hdk
  clear hdk
  (repeat (first | go_big_skip | go_big_want | go_big_move | go_big_op | go_step | go_upon | go_back))
  go_at_call 20
  refine (made_any w w.heap.size A l c 0 x HDK.out (by omega) 5 (by omega)).mono ?_
  rintro e y ⟨T, a1, a2, a3, a4, c1, c2, c3, c4, rfl, hok, hdk, hgr, htr⟩
  dsimp only
  have HOK := Lib.hid hok
  have ha := Aft.alloc y (.cells #[.int .i64 T.places, .slice a1 T.ways.length c1, .slice a2 T.words.length c2, .slice a3 T.starts.length c3, .slice a4 T.legs.length c4] 27)
  have HAW : Hid (Aft w (y.alloc (.cells #[.int .i64 T.places, .slice a1 T.ways.length c1, .slice a2 T.words.length c2, .slice a3 T.starts.length c3, .slice a4 T.legs.length c4] 27))) := Lib.hid (hdk.2.2.1.trans ha)
  have HT : Hid (TRep (y.alloc (.cells #[.int .i64 T.places, .slice a1 T.ways.length c1, .slice a2 T.words.length c2, .slice a3 T.starts.length c3, .slice a4 T.legs.length c4] 27)) T a1 a2 a3 a4) := Lib.hid (htr _ (only_of_aft ha _))
  have hb := Blk.new y 27 #[.int .i64 T.places, .slice a1 T.ways.length c1, .slice a2 T.words.length c2, .slice a3 T.starts.length c3, .slice a4 T.legs.length c4]
  clear hok hdk hgr htr ha HDK
  go_upto_region 2 with fail
  generalize y.alloc (.cells #[.int .i64 T.places, .slice a1 T.ways.length c1, .slice a2 T.words.length c2, .slice a3 T.starts.length c3, .slice a4 T.legs.length c4] 27) = Y at *
  generalize y.heap.size = D at *
  have HBX := Lib.hid hb
  have HBY := Lib.hid (HB.out.aft HAW.out)
  clear hb
  have hcc := HOK.out.check
  have ok := checkE_ok hcc
  have hnl := ok.nlegs
  have hpl := ok.p2
  have hnw : T.words.length ≤ 1000 := by have := ok.nwords; omega
  obtain ⟨P, hP⟩ := Int.eq_ofNat_of_zero_le (show 0 ≤ T.places by have := ok.p1; omega)
  have hP12 : P ≤ 12 := by omega
  obtain ⟨N, hN⟩ : ∃ N, T.legs.length + 1 = N := ⟨_, rfl⟩
  have hN11 : N ≤ 11 := by omega
  have HN := Lib.hid hN
  have OK := Lib.hid ok
  have HCC := Lib.hid hcc
  have HPP := Lib.hid hP
  have HP2 : Hid (2 ≤ T.places) := Lib.hid HOK.out.p1
  clear ok hcc hpl hP
  (repeat (first | go_big_skip | go_big_want | go_big_move | go_big_op | go_step | go_upon | go_back))
  go_at_call 21
  refine (of_any Am tr cm Y HBY.out).mono ?_
  rintro e x2 ⟨rfl, hdk⟩
  dsimp only
  have HZ := Lib.hid hdk.2.2.1
  have hd6 := hdk.lt
  have HDK := Lib.hid hdk
  clear hdk
  generalize hD6 : Y.heap.size = D6 at *
  have HD6 := Lib.hid hD6
  clear hD6
  obtain ⟨k0, k1, k2, k3, k4⟩ := boxR5 (HBX.out.aft HZ.out)
  have HC15 : Hid (Calls Tryz.prog 15 #[.agg #[.int .i64 T.places, .slice a1 T.ways.length c1, .slice a2 T.words.length c2, .slice a3 T.starts.length c3, .slice a4 T.legs.length c4]] x2 fun e w' => ∃ A c, e = .returned (.tuple #[.slice A (allX T).length c, .int .i64 (allE T)]) ∧ ListsF x2.heap.size w' A (allX T) ∧ Aft x2 w') := Lib.hid ((allTopF_any x2 T a1 a2 a3 a4 c1 c2 c3 c4 (HT.out.aft HZ.out)).mono fun e w' ⟨ha, A, c, he, hl⟩ => ⟨A, c, he, hl, ha⟩)
  have HC12 := Lib.hid (fun (y : World) (hy : Aft Y y) => redZ_any y T a1 a2 a3 a4 c1 c2 c3 c4 (HT.out.aft hy))
  obtain ⟨E, hE⟩ : ∃ E, allE T = E := ⟨_, rfl⟩
  obtain ⟨L1, hL1⟩ : ∃ L, allX T = L := ⟨_, rfl⟩
  obtain ⟨RX, hRX⟩ : ∃ L, redX T = L := ⟨_, rfl⟩
  have HE2 := Lib.hid (allE_two HCC.out)
  rw [hE] at HE2
  simp only [hE, hL1] at HC15
  simp only [HCC.out, hRX] at HC12
  have HEQ := Lib.hid hE
  have HL1 := Lib.hid hL1
  have HRX := Lib.hid hRX
  clear hE hL1 hRX
  (repeat (first | go_big_skip | go_big_want | go_big_move | go_big_op | go_step | go_upon | go_back))
  go_at_call 15
  refine HC15.out.mono ?_
  rintro e X1 ⟨A1, e1, rfl, hli, ha⟩
  dsimp only
  have HZ := Lib.hid (HZ.out.trans ha)
  have HDK := Lib.hid (HDK.out.aft ha)
  have HI1 := Lib.hid hli
  generalize x2.heap.size = bs at *
  clear hli ha k0 k1 k2 k3 k4 HC15
  obtain ⟨k0, k1, k2, k3, k4⟩ := boxR5 (HBX.out.aft HZ.out)
  (repeat (first | go_big_skip | go_big_want | go_big_move | go_big_op | go_step | go_upon | go_back))
  go_at_call 12
  refine (HC12.out X1 HZ.out).mono ?_
  rintro e X2 ⟨A2, e2, rfl, hli, ha⟩
  dsimp only
  have HZ := Lib.hid (HZ.out.trans ha)
  have HDK := Lib.hid (HDK.out.aft ha)
  have HI1 := Lib.hid (HI1.out.aft ha)
  have HI2 := Lib.hid hli
  have hd6X := HDK.out.lt
  clear hli ha k0 k1 k2 k3 k4 HC12
  rcases HE2.out with hE0 | hE0
  · have hl1 := allX_zero (HEQ.out.trans hE0)
    rw [HL1.out] at hl1
    have HLA := Lib.hid hl1
    obtain ⟨bb, hb1, hb2⟩ : ∃ bb, ((L1.length : Int) == 0) = bb ∧ ((RX.length : Int) == 0) = bb := by
      refine ⟨_, rfl, ?_⟩
      have h := all_readings HCC.out
      rw [HRX.out, ← hl1] at h
      rcases L1 with _ | ⟨x, r⟩
      · have e := h.1 rfl
        rw [e]
      · rcases RX with _ | ⟨y, q⟩
        · have := h.2 rfl; cases this
        · rw [show (((y :: q).length : Int) == 0) = false by simp; omega, show (((x :: r).length : Int) == 0) = false by simp; omega]
    have HBB := Lib.hid hb1
    have HM : Hid (∀ m ∈ L1, agrE T m = 0 ∧ agrX T m ∈ RX ∧ readE T (agrX T m) = 0 ∧ m ∈ linesL T (leadsF T (agrX T m)) ∧ m.length = N ∧ (∀ x ∈ m, 0 ≤ x ∧ x < T.places) ∧ ∀ r ∈ RX, lexB r (agrX T m) = true → breaksE T r m = 0 ∧ (brkX T r m).length ≠ 0) := Lib.hid fun m hm => by
      rw [hl1] at hm
      obtain ⟨h1, R, hR, h2, h3, h4⟩ := agrees_all OK.out HCC.out hm
      rw [hR]
      have hfi := first_in OK.out HCC.out hm
      rw [hR, HRX.out] at hfi
      have hlin := linedB_iff.1 ((mem_linesL OK.out.starts).1 h4).1
      refine ⟨h1, hfi, h2, h4, hlin.1.trans HN.out, hlin.2, fun r hr hlt => first_breaks OK.out HCC.out hm (by rw [HRX.out]; exact hr) (by rw [hR]; exact hlt)⟩
    have HSO : Hid (SortedL L1) := Lib.hid (by rw [hl1]; exact (allL_spec T).1)
    have HRL : Hid (∀ r ∈ RX, r.length = T.words.length) := Lib.hid fun r hr => by
      rw [← HRX.out] at hr
      exact ((mem_readings OK.out).1 ((mem_redX HCC.out).1 hr).1).1
    clear hl1
    subst hE0
    obtain ⟨k0, k1, k2, k3, k4⟩ := boxR5 (HBX.out.aft HZ.out)
    go_upto_region 9 with fail
    have hNi : (T.legs.length : Int) + 1 = (N : Int) := by omega
    go_upto_region 10 with (at_make; refine wpList_make_rows rfl _ _ rfl (n := N) rfl rfl (by omega) ?_)
    clear hNi
    have hpt := PTab.start (base := X2.heap.size) X2 (fun _ => 0) N P (Nat.le_refl _)
    have ha0 := Aft.alloc X2 (.cells (madeCells #[.slice none 0 0] N) 50)
    clear k0 k1 k2 k3 k4 hb1 hb2
    (repeat (first | go_big_skip | go_big_want | go_big_move | go_big_op | go_step | go_upon | go_back))
    generalize X2.alloc (.cells (madeCells #[.slice none 0 0] N) 50) = Z0 at *
    have HPT := Lib.hid hpt
    have HA0 := Lib.hid ha0
    have hgX := Nat.le_refl X2.heap.size
    clear hpt ha0
    generalize hgE : X2.heap.size = gE at *
    have HGE := Lib.hid hgE
    clear hgE
    go_loopw [84] (fun i wr => ∃ (k : Nat) (B : Nat → Nat), i = .int .i64 k ∧ k ≤ N ∧ Aft X2 wr ∧ PTab wr gE gE B N P k) (fun i _ => N - (intOf i).toNat)
    case atStart => exact ⟨0, fun _ => 0, rfl, by omega, HA0.out, HPT.out⟩
    case round =>
      obtain ⟨k, B, rfl, hk, ha, ht⟩ := hrel
      have HAX := Lib.hid ha
      have HTB := Lib.hid ht
      clear ha ht
      by_cases hkn : k < N
      · have hdec : decide (k < N) = true := decide_eq_true hkn
        obtain ⟨v0, hv0⟩ := HTB.out.slot hkn
        have hfz := HTB.out.frozen k
        have hlt := HTB.out.lt
        have i1 : (0 : Int) ≤ (k : Int) ∧ (k : Int) < (N : Int) := by omega
        have hb := HBX.out.aft (HZ.out.trans HAX.out)
        have k0 : wr.cell? ⟨D, 0, none⟩ = some (.int .i64 P) := by rw [← HPP.out]; exact hb.cell 0
        clear hb
        go_upto_region 14 with (at_make; refine wpList_make_bools rfl _ _ rfl rfl rfl (by omega) ?_)
        have HSA := Lib.hid (World.setCell_alloc_past (w := wr) (.cells (madeCells #[.bool false] P) 4) gE k (.slice (some ⟨wr.heap.size, 0, none⟩) P P) hlt)
        (repeat (first | go_big_skip | go_big_want | go_big_move | go_big_op | go_step | go_upon | go_back))
        exact ⟨⟨k + 1, putB B k wr.heap.size, by go_num, by omega, (by rw [← HSA.out]; exact (HAX.out.then_alloc _).then_setCell (p := ⟨gE, k, none⟩) (by show X2.heap.size ≤ gE; rw [HGE.out]; exact Nat.le_refl _) _), (by rw [← HSA.out]; exact HTB.out.put hkn (Nat.le_of_lt hlt))⟩, by simp [intOf]; omega⟩
      · have hkN : N = k := by omega
        subst hkN
        have hirr : decide ((N : Int) < (N : Int)) = false := decide_eq_false (by omega)
        have hbt := (HTB.out.done (by omega)).congr (g' := linTo L1 [] 0 0) fun a b _ _ => (linTo_start L1 [] a b).symm
        have HTB := Lib.hid hbt
        clear hbt HPT HA0
        (repeat (first | go_big_skip | go_big_want | go_big_move | go_big_op | go_step | go_upon | go_back))
        clear hirr
        have hn1 := HI1.out.lists.len
        have hn2 := HI2.out.len
        go_loopw [96] (fun i wr => ∃ j : Nat, i = .int .i64 j ∧ j ≤ L1.length ∧ Aft X2 wr ∧ BTab wr gE (.slice (some ⟨gE, 0, none⟩) N N) B N P (linTo L1 [] j 0)) (fun i _ => L1.length - (intOf i).toNat)
        case atStart => exact ⟨0, rfl, by omega, HAX.out, HTB.out⟩
        case round =>
          obtain ⟨j, rfl, hj, ha, ht⟩ := hrel
          have HAX := Lib.hid ha
          have HTB := Lib.hid ht
          clear ha ht
          by_cases hjl : j < L1.length
          · have hdec : decide (j < L1.length) = true := decide_eq_true hjl
            obtain ⟨bL, oL, rfl, hbL, hcL⟩ := HI1.out.lists.at hjl
            obtain ⟨Al, cl, x0', hi⟩ := hcL j hjl
            have x0 := (aft_cell' HAX.out hbL).trans x0'
            have HIX := Lib.hid hi
            have HIM := Lib.hid (hi.aft HAX.out)
            have HMM := Lib.hid (HM.out L1[j] (List.getElem_mem hjl))
            have HNX : Hid (∀ a b, a < N → linTo L1 L1[j] j N a b = linTo L1 [] (j + 1) 0 a b) := Lib.hid fun a b h => linTo_next hjl [] h
            have HST : Hid (∀ a b, linTo L1 [] j 0 a b = linTo L1 L1[j] j 0 a b) := Lib.hid fun a b => by unfold linTo; simp
            have HPV : Hid (∀ jp, jp + 1 = j → ∃ Ap lp cp, wr.cell? ⟨bL, oL + jp, none⟩ = some (.slice Ap lp.length cp) ∧ Ints wr Ap lp ∧ lp.length = L1[j].length ∧ cmpB lp L1[j] = -1) := Lib.hid fun jp hjp => by
              obtain ⟨Ap, cp, q0, qi⟩ := hcL jp (by omega)
              have hs := (List.pairwise_iff_getElem.1 HSO.out) jp j (by omega) hjl (by omega)
              exact ⟨Ap, L1[jp], cp, (aft_cell' HAX.out hbL).trans q0, qi.aft HAX.out, by rw [(HM.out _ (List.getElem_mem _)).2.2.2.2.1, (HM.out _ (List.getElem_mem _)).2.2.2.2.1], cmpB_lt hs⟩
            clear hcL hi x0'
            generalize L1[j] = m at *
            have hmn := HMM.out.2.2.2.2.1
            have i1 : (0 : Int) ≤ (j : Int) ∧ (j : Int) < (L1.length : Int) := by omega
            have hql : ((m.length : Int) != (T.legs.length : Int) + 1) = false := by simp; omega
            have HMN := Lib.hid hmn
            clear hmn
            obtain ⟨k0, k1, k2, k3, k4⟩ := boxR5 (HBX.out.aft (HZ.out.trans HAX.out))
            rcases Nat.eq_zero_or_pos j with hj0 | hj0
            case' inl =>
              have hgt : decide (0 < j) = false := decide_eq_false (by omega)
              clear hj0
              go_upto_region 20 with fail
            case' inr =>
              have hgt : decide (0 < j) = true := decide_eq_true (by omega)
              obtain ⟨jp, hjp⟩ : ∃ jp : Nat, jp + 1 = j := ⟨j - 1, by omega⟩
              obtain ⟨Ap, lp, cp, q0, qi, q1, q2⟩ := HPV.out jp hjp
              have i2 : (0 : Int) ≤ (jp : Int) ∧ (jp : Int) < (L1.length : Int) := by omega
              have hsub : (j : Int) - 1 = (jp : Int) := by omega
              clear hjp
              have HCMP := compare22_any wr lp m Ap Al cp cl qi HIM.out q1
              rw [q2] at HCMP
              clear q1 q2
              (repeat (first | go_big_skip | go_big_want | go_big_move | go_big_op | go_step | go_upon | go_back))
              go_at_call 22
              refine HCMP.mono ?_
              rintro e wz ⟨rfl, hwz⟩
              have hwz := hwz.symm
              subst hwz
              dsimp only
              go_upto_region 20 with fail
              clear q0 qi i2 hsub HCMP
            all_goals
              clear hgt x0 i1 hql k0 k1 k2 k3 k4 HPV hbL
              obtain ⟨R1, hR1⟩ : ∃ R, agrX T m = R := ⟨_, rfl⟩
              have HC23 := Lib.hid (agreesZ_any wr T a1 a2 a3 a4 c1 c2 c3 c4 m Al cl (HT.out.aft (HZ.out.trans HAX.out)) HIM.out hnw)
              rw [HMM.out.1, hR1] at HC23
              rw [hR1] at HMM
              clear hR1
              obtain ⟨k0, k1, k2, k3, k4⟩ := boxR5 (HBX.out.aft (HZ.out.trans HAX.out))
              (repeat (first | go_big_skip | go_big_want | go_big_move | go_big_op | go_step | go_upon | go_back))
              go_at_call 23
              refine HC23.out.mono ?_
              rintro e V0 ⟨A4, e4, rfl, hi4, ha⟩
              dsimp only
              have hv : Aft wr (V0.alloc (.cells #[.slice A4 R1.length e4] 24)) := ha.then_alloc _
              have hn15 := Blk.new V0 24 #[.slice A4 R1.length e4]
              have hi5 := hi4.aft (Aft.alloc V0 (.cells #[.slice A4 R1.length e4] 24))
              clear k0 k1 k2 k3 k4 ha hi4 HC23
              go_upto_region 21 with fail
              generalize (V0.alloc (.cells #[.slice A4 R1.length e4] 24)) = V at *
              generalize V0.heap.size = bn at *
              have HV := Lib.hid hv
              have HN15 := Lib.hid hn15
              have HI5 := Lib.hid hi5
              have x15 : V.cell? ⟨bn, 0, none⟩ = some (.slice A4 R1.length e4) := hn15.cell 0
              obtain ⟨k0, k1, k2, k3, k4⟩ := boxR5 (HBX.out.aft (HZ.out.trans (HAX.out.trans HV.out)))
              clear hv hn15 hi5
              (repeat (first | go_big_skip | go_big_want | go_big_move | go_big_op | go_step | go_upon | go_back))
              go_at_call 24
              refine (breaksZ_any V T a1 a2 a3 a4 c1 c2 c3 c4 R1 A4 e4 m Al cl (HT.out.aft (HZ.out.trans (HAX.out.trans HV.out))) HI5.out (HIM.out.aft HV.out) HCC.out HMM.out.2.2.1 HMM.out.2.2.2.1).mono ?_
              rintro e V2 ⟨⟨A6, e6, rfl⟩, ha⟩
              dsimp only
              have HV2 := Lib.hid ha
              have HN16 := Lib.hid (HN15.out.aft ha)
              have HI6 := Lib.hid (HI5.out.aft ha)
              clear ha k0 k1 k2 k3 k4 x15
              (repeat (first | go_big_skip | go_big_want | go_big_move | go_big_op | go_step | go_upon | go_back))
              go_at_call 25
              refine (has26_any bn A4 R1 e4 A2 RX e2 V2 HN16.out.lt (HN16.out.cell 0) HI6.out (HI2.out.aft (HAX.out.trans (HV.out.trans HV2.out))) HMM.out.2.1).mono ?_
              rintro e V3 ⟨rfl, ha⟩
              dsimp only
              have HV3 := Lib.hid (HV.out.trans (HV2.out.trans ha))
              have HN17 := Lib.hid (HN16.out.aft ha)
              have HI7 := Lib.hid (HI6.out.aft ha)
              clear ha HV HV2 HN15 HN16 HI5 HI6
              (repeat (first | go_big_skip | go_big_want | go_big_move | go_big_op | go_step | go_upon | go_back))
              go_loopw [154] (fun i wq => ∃ q : Nat, i = .int .i64 q ∧ q ≤ RX.length ∧ Aft V3 wq) (fun i _ => RX.length - (intOf i).toNat)
              case atStart => exact ⟨0, rfl, by omega, Aft.refl _⟩
              case round =>
                rename World => wq
                obtain ⟨q, rfl, hq, ha⟩ := hrel
                have HAQ := Lib.hid ha
                have hq0 := hq
                clear ha
                by_cases hql : q < RX.length
                case' pos =>
                  have hdecq : decide (q < RX.length) = true := decide_eq_true hql
                  obtain ⟨bR, oR, eR, hbR, hcR⟩ := (HI2.out.aft (HAX.out.trans (HV3.out.trans HAQ.out))).at hql
                  obtain ⟨Ar, cr, y0, hir⟩ := hcR q hql
                  subst eR
                  have HIR := Lib.hid hir
                  have hrm := List.getElem_mem hql
                  have hrl := HRL.out _ hrm
                  have hfl := HRL.out R1 HMM.out.2.1
                  have hx := HMM.out.2.2.2.2.2.2 _ hrm
                  clear hcR hir
                  obtain ⟨r, hr⟩ : ∃ r, RX[q] = r := ⟨_, rfl⟩
                  rw [hr] at y0 HIR hrl hx
                  clear hr
                  have i3 : (0 : Int) ≤ (q : Int) ∧ (q : Int) < (RX.length : Int) := by omega
                  have x15 : wq.cell? ⟨bn, 0, none⟩ = some (.slice A4 R1.length e4) := (HN17.out.aft HAQ.out).cell 0
                  have HCMP := Lib.hid (compare22_any wq r R1 Ar A4 cr e4 HIR.out (HI7.out.aft HAQ.out) (by omega))
                  have HX := Lib.hid hx
                  clear hrl hfl hx hrm
                  cases hlx : lexB r R1
                  case' false =>
                    have hcb : 0 ≤ cmpB r R1 := by
                      have := @cmpB_neg r R1
                      rw [hlx] at this
                      have := of_decide_eq_false this
                      omega
                    generalize cmpB r R1 = cb at *
                    have hge : decide (0 ≤ cb) = true := decide_eq_true hcb
                    (repeat (first | go_big_skip | go_big_want | go_big_move | go_big_op | go_step | go_upon | go_back))
                    go_at_call 22
                    refine HCMP.out.mono ?_
                    rintro e wz ⟨rfl, hwz⟩
                    have hwz := hwz.symm
                    subst hwz
                    dsimp only
                    go_upto_region 32 with fail
                    clear hcb hge HCMP
                  case' true =>
                    have hx := HX.out hlx
                    have hcb : cmpB r R1 = -1 := cmpB_lt hlx
                    rw [hcb] at HCMP
                    have HC24 := Lib.hid (fun (y : World) (hy : Aft wq y) => breaksT_any y T a1 a2 a3 a4 c1 c2 c3 c4 r Ar cr m Al cl (HT.out.aft (HZ.out.trans (HAX.out.trans (HV3.out.trans (HAQ.out.trans hy))))) (HIR.out.aft hy) (HIM.out.aft (HV3.out.trans (HAQ.out.trans hy))) (by omega))
                    obtain ⟨nb, hnb⟩ : ∃ n, (brkX T r m).length = n := ⟨_, rfl⟩
                    rw [hx.1, hnb] at HC24
                    have hn0 : nb ≠ 0 := by rw [← hnb]; exact hx.2
                    have hbeq : ((nb : Int) == 0) = false := by simp; omega
                    clear hx hcb hnb
                    obtain ⟨k0, k1, k2, k3, k4⟩ := boxR5 (HBX.out.aft (HZ.out.trans (HAX.out.trans (HV3.out.trans HAQ.out))))
                    (repeat (first | go_big_skip | go_big_want | go_big_move | go_big_op | go_step | go_upon | go_back))
                    go_at_call 22
                    refine HCMP.out.mono ?_
                    rintro e wz ⟨rfl, hwz⟩
                    have hwz := hwz.symm
                    subst hwz
                    dsimp only
                    (repeat (first | go_big_skip | go_big_want | go_big_move | go_big_op | go_step | go_upon | go_back))
                    go_at_call 24
                    refine (HC24.out _ (Aft.refl _)).mono ?_
                    rintro e V5 ⟨⟨A7, e7, rfl⟩, ha⟩
                    dsimp only
                    have HAV := Lib.hid (HAQ.out.trans ha)
                    clear ha k0 k1 k2 k3 k4
                    (repeat (first | go_big_skip | go_big_want | go_big_move | go_big_op | go_step | go_upon | go_back))
                    exact ⟨⟨q + 1, by go_num, by omega, HAV.out⟩, by simp [intOf]; omega⟩
                case' neg =>
                  have hdecq : decide (q < RX.length) = false := decide_eq_false hql
                  have hirr : decide ((q : Int) < (RX.length : Int)) = false := decide_eq_false (by omega)
                  go_upto_region 32 with fail
                all_goals
                  have HAW3 := Lib.hid (HAX.out.trans (HV3.out.trans HAQ.out))
                  have HTB3 := Lib.hid ((HTB.out.aft (HV3.out.trans HAQ.out)).congr fun a b _ _ => HST.out a b)
                  (repeat (first | go_big_skip | go_big_want | go_big_move | go_big_op | go_step | go_upon | go_back))
                  go_loopw [179] (fun i wz => ∃ q2 : Nat, i = .int .i64 q2 ∧ q2 ≤ m.length ∧ Aft X2 wz ∧ BTab wz gE (.slice (some ⟨gE, 0, none⟩) N N) B N P (linTo L1 m j q2)) (fun i _ => m.length - (intOf i).toNat)
                  case atStart => exact ⟨0, rfl, by omega, HAW3.out, HTB3.out⟩
                  case round =>
                    rename World => wz
                    obtain ⟨q2, rfl, hq2, haZ, htz⟩ := hrel
                    have HAZ := Lib.hid haZ
                    have HTZ := Lib.hid htz
                    clear haZ htz
                    by_cases hql2 : q2 < m.length
                    · have hdecz : decide (q2 < m.length) = true := decide_eq_true hql2
                      obtain ⟨bM, oM, eM, hbM, hcM⟩ := (HIX.out.aft HAZ.out).at hql2
                      subst eM
                      have hxr := HMM.out.2.2.2.2.2.1 _ (List.getElem_mem hql2)
                      have hx0 := hcM q2 hql2
                      have hgd : m.getD q2 0 = m[q2] := by rw [List.getD_eq_getElem?_getD, List.getElem?_eq_getElem hql2]; rfl
                      obtain ⟨x, hx⟩ := Int.eq_ofNat_of_zero_le hxr.1
                      rw [hx] at hx0 hxr hgd
                      have HGD := Lib.hid hgd
                      have hxP : x < P := by have := HPP.out; omega
                      have hqN : q2 < N := by have := HMN.out; omega
                      obtain ⟨bv, cv, evE, -, -, hsl⟩ := HTZ.out.slot hqN
                      cases evE
                      have s1 := hsl q2 hqN
                      have hrow := HTZ.out.row q2 hqN
                      have s2 := hrow.cell hxP
                      have s3 := hrow.frozen x
                      have s4 := hrow.lt
                      have hbk := HTZ.out.far q2 hqN
                      have k0 : wz.cell? ⟨D, 0, none⟩ = some (.int .i64 P) := by rw [← HPP.out]; exact (HBX.out.aft (HZ.out.trans HAZ.out)).cell 0
                      have d1 : decide ((x : Int) < 0) = false := decide_eq_false (by omega)
                      have d2 : decide ((P : Int) ≤ (x : Int)) = false := decide_eq_false (by omega)
                      have i4 : (0 : Int) ≤ (q2 : Int) ∧ (q2 : Int) < (m.length : Int) := by omega
                      have i5 : (0 : Int) ≤ (q2 : Int) ∧ (q2 : Int) < (N : Int) := by omega
                      have i6 : (0 : Int) ≤ (x : Int) ∧ (x : Int) < (P : Int) := by omega
                      clear hcM hsl hrow hx hxr hgd
                      (repeat (first | go_big_skip | go_big_want | go_big_move | go_big_op | go_step | go_upon | go_back))
                      exact ⟨⟨q2 + 1, by go_num, by omega, HAZ.out.then_setCell (p := ⟨B q2, x, none⟩) (by show X2.heap.size ≤ B q2; rw [HGE.out]; exact hbk) _, (HTZ.out.set hqN hxP true).congr fun a b _ _ => linTo_put L1 m j q2 HGD.out a b⟩, by simp [intOf]; omega⟩
                    · have hqm : q2 = m.length := by omega
                      have hdecz : decide (q2 < m.length) = false := decide_eq_false hql2
                      have hirz : decide ((q2 : Int) < (m.length : Int)) = false := decide_eq_false (by omega)
                      have hqN : q2 = N := by have := HMN.out; omega
                      have HTN := Lib.hid (HTZ.out.congr (g' := linTo L1 [] (j + 1) 0) fun a b ha _ => by rw [hqN]; exact HNX.out a b ha)
                      (repeat (first | go_big_skip | go_big_want | go_big_move | go_big_op | go_step | go_upon | go_back))
                      exact ⟨⟨j + 1, by go_num, by omega, HAZ.out, HTN.out⟩, by simp [intOf]; omega⟩
          · have hjL : j = L1.length := by omega
            have hdec : decide (j < L1.length) = false := decide_eq_false hjl
            have hirr : decide ((j : Int) < (L1.length : Int)) = false := decide_eq_false (by omega)
            have HTL := Lib.hid (HTB.out.congr (g' := fun a b => L1.any fun l => decide (l.getD a 0 = (b : Int))) fun a b _ _ => by rw [hjL]; exact linTo_any L1 [] a b)
            have HDK := Lib.hid (HDK.out.aft HAX.out)
            have HI1 := Lib.hid (HI1.out.aft HAX.out)
            have HZ := Lib.hid (HZ.out.trans HAX.out)
            clear HTB
            (repeat (first | go_big_skip | go_big_want | go_big_move | go_big_op | go_step | go_upon | go_back))
            clear hdec hirr
            generalize wr = Z2 at *
            go_loopw [200] (fun i wt => ∃ k : Nat, i = .int .i64 k ∧ k ≤ 8 ∧ DeckAt Y D6 Am tr cm (12 * k) wt ∧ Z2.grownBy wt (some D6)) (fun i _ => 8 - (intOf i).toNat)
            case atStart => exact ⟨0, rfl, by omega, HDK.out, World.grownBy.refl _ _⟩
            case round =>
              rename World => wt
              obtain ⟨k, rfl, hk, hdk, hg⟩ := hrel
              have HDT := Lib.hid hdk
              have HG := Lib.hid hg
              have hay := hdk.2.2.1
              have HAY := Lib.hid hay
              clear hdk hg hay
              by_cases hk8 : k < 8
              · have hdec : decide ((k : Int) < 8) = true := decide_eq_true (by omega)
                have HTF : Hid (TRepF D6 wt T a1 a2 a3 a4) := Lib.hid fun w' hg => HT.out.aft (HAY.out.grown hg (fun q e => by cases e; rw [HD6.out]; exact Nat.le_refl _))
                obtain ⟨k0, k1, k2, k3, k4⟩ := boxR5 (HBX.out.aft HAY.out)
                (repeat (first | go_big_skip | go_big_want | go_big_move | go_big_op | go_step | go_upon | go_back))
                go_at_call 28
                refine (gone_any Y D6 Am tr cm (12 * k) T a1 a2 a3 a4 c1 c2 c3 c4 wt HDT.out HTF.out (by omega) (by have := HOK.out.p1; omega) (by have := HOK.out.p2; omega) OK.out.nstarts (by have := HOK.out.nstarts2; have := HOK.out.p2; omega) (by omega)).mono ?_
                rintro e U ⟨v, ns, rfl, hown, hnl2, hgl, hdk, hg⟩
                obtain ⟨An, cn, rfl, -, hni⟩ := own_ints hown (by omega)
                dsimp only
                have HGU := Lib.hid (World.grownBy.trans HG.out hg)
                have hlg := gone_lined OK.out HP2.out hgl hnl2
                have HLG := Lib.hid (agr_listed OK.out HCC.out hlg.1 hlg.2)
                have hdk2 := (hdk.aft (Aft.alloc U (.cells #[.slice An ns.length cn] 24))).more (m' := 12 * (k + 1)) (by omega)
                have hg2 := only_aft HGU.out (Aft.alloc U (.cells #[.slice An ns.length cn] 24))
                have hn25 := Blk.new U 24 #[.slice An ns.length cn]
                have hi25 := hni.aft (Aft.alloc U (.cells #[.slice An ns.length cn] 24))
                clear hown hgl hdk hg hni hlg hnl2 k0 k1 k2 k3 k4
                go_upto_region 43 with fail
                generalize (U.alloc (.cells #[.slice An ns.length cn] 24)) = U1 at *
                generalize U.heap.size = bn at *
                have HDU := Lib.hid hdk2
                have HGU1 := Lib.hid hg2
                have HN25 := Lib.hid hn25
                have HI25 := Lib.hid hi25
                have HAU := Lib.hid hdk2.2.2.1
                have x25 : U1.cell? ⟨bn, 0, none⟩ = some (.slice An ns.length cn) := hn25.cell 0
                obtain ⟨k0, k1, k2, k3, k4⟩ := boxR5 (HBX.out.aft HAU.out)
                have HC23 := Lib.hid (agreesZ_any U1 T a1 a2 a3 a4 c1 c2 c3 c4 ns An cn (HT.out.aft HAU.out) hi25 hnw)
                rw [← HLA.out] at HLG
                obtain ⟨En, hEn⟩ : ∃ E, agrE T ns = E := ⟨_, rfl⟩
                rw [hEn] at HLG HC23
                clear hdk2 hg2 hn25 hi25 hEn HGU
                (repeat (first | go_big_skip | go_big_want | go_big_move | go_big_op | go_step | go_upon | go_back))
                go_at_call 23
                refine HC23.out.mono ?_
                rintro e U2 ⟨A8, e8, rfl, -, ha⟩
                dsimp only
                have HAU2 := Lib.hid ha
                have HN26 := Lib.hid (HN25.out.aft ha)
                clear ha k0 k1 k2 k3 k4 x25
                have HL2 := Lib.hid ((HI1.out.grown (only_aft HGU1.out HAU2.out) (fun q e => by cases e; omega)).lists)
                (repeat (first | go_big_skip | go_big_want | go_big_move | go_big_op | go_step | go_upon | go_back))
                go_at_call 25
                refine (has29_any bn An ns cn _ L1 e1 U2 HN26.out.lt (HN26.out.cell 0) (HI25.out.aft HAU2.out) HL2.out).mono ?_
                rintro e U3 ⟨rfl, ha⟩
                dsimp only
                have HDU3 := Lib.hid ((HDU.out.aft HAU2.out).aft ha)
                have HGU3 := Lib.hid (only_aft (only_aft HGU1.out HAU2.out) ha)
                clear ha
                rcases HLG.out with ⟨h1, h2⟩ | ⟨h1, h2⟩
                all_goals
                  subst h2
                  first
                    | rw [decide_eq_true h1]
                    | rw [decide_eq_false h1]
                  (repeat (first | go_big_skip | go_big_want | go_big_move | go_big_op | go_step | go_upon | go_back))
                  exact ⟨⟨k + 1, by go_num, by omega, HDU3.out, HGU3.out⟩, by simp [intOf]; omega⟩
              · have hk9 : k = 8 := by omega
                have hdec : decide ((k : Int) < 8) = false := decide_eq_false (by omega)
                have HC17 := Lib.hid (endsZ_any wt T a1 a2 a3 a4 c1 c2 c3 c4 (HT.out.aft HAY.out))
                have HTW := Lib.hid (HTL.out.keptb HG.out (fun q e => by cases e; omega))
                obtain ⟨Ee, hEe⟩ : ∃ E, endE T = E := ⟨_, rfl⟩
                obtain ⟨X6, hX6⟩ : ∃ L, endX T = L := ⟨_, rfl⟩
                rw [hEe, hX6] at HC17
                have HEE := Lib.hid hEe
                have HX6 := Lib.hid hX6
                obtain ⟨k0, k1, k2, k3, k4⟩ := boxR5 (HBX.out.aft HAY.out)
                clear hEe hX6
                (repeat (first | go_big_skip | go_big_want | go_big_move | go_big_op | go_step | go_upon | go_back))
                go_at_call 17
                refine HC17.out.mono ?_
                rintro e W1 ⟨A9, e9, rfl, hli9, ha⟩
                dsimp only
                have HW1 := Lib.hid ha
                have HI9 := Lib.hid hli9
                have HTW1 := Lib.hid (HTW.out.aft ha)
                clear ha hli9 k0 k1 k2 k3 k4
                by_cases hL0 : L1.length = 0
                · have hb1 : ((L1.length : Int) == 0) = true := by simp [hL0]
                  have hn7 := ends_nil OK.out HCC.out (by rw [← HLA.out]; exact List.eq_nil_of_length_eq_zero hL0)
                  rw [HEE.out] at hn7
                  subst hn7
                  (repeat (first | go_big_skip | go_big_want | go_big_move | go_big_op | go_step | go_upon | go_back))
                  go_at_call 9
                  refine (awake_any _).mono ?_
                  rintro e z ⟨rfl, ha⟩
                  dsimp only
                  (repeat (first | go_big_skip | go_big_want | go_big_move | go_big_op | go_step | go_upon | go_back))
                  go_ret
                  exact ⟨rfl, HAW.out.trans (HAY.out.trans (HW1.out.trans ha))⟩
                · have hb1 : ((L1.length : Int) == 0) = false := by
                    have hne : ¬ ((L1.length : Int) = 0) := by omega
                    simpa using hne
                  have hn8 := ends_some OK.out HCC.out (by rw [← HLA.out]; intro e; rw [e] at hL0; exact hL0 rfl)
                  rw [HEE.out, HX6.out, HN.out] at hn8
                  have hX := hn8.2
                  have hlX : X6.length = N := by rw [hX, endRows_len]
                  have hlq : ((X6.length : Int) != (N : Int)) = false := by simp; omega
                  have HROW : Hid (∀ i, (hi : i < X6.length) → X6[i] = wantTo T i P) := Lib.hid fun i hi => by
                    have hi' : i < N := by omega
                    have e1 : X6[i] = endRow T i := by simp only [hX]; unfold endRows; rw [List.getElem_map, List.getElem_range]
                    rw [e1, endRow_want OK.out (by omega), HPP.out]
                    simp
                  have hE0 := hn8.1
                  subst hE0
                  clear hX hn8
                  (repeat (first | go_big_skip | go_big_want | go_big_move | go_big_op | go_step | go_upon | go_back))
                  clear hdec hlq hb1
                  go_loopw [251] (fun ix wr => ∃ i : Nat, ix = .int .i64 i ∧ i ≤ X6.length ∧ Aft W1 wr) (fun ix _ => X6.length - (intOf ix).toNat)
                  case atStart => exact ⟨0, rfl, by omega, Aft.refl _⟩
                  case round =>
                    obtain ⟨i, rfl, hi, ha⟩ := hrel
                    have HR9 := Lib.hid ha
                    clear ha
                    by_cases hil : i < X6.length
                    · have hdec : decide (i < X6.length) = true := decide_eq_true hil
                      have hiN : i < N := by omega
                      obtain ⟨bE, oE, eE, hbE, hcE⟩ := (HI9.out.aft HR9.out).at hil
                      obtain ⟨Ai, ci, y0, hii⟩ := hcE i hil
                      subst eE
                      have hrw := HROW.out i hil
                      rw [hrw] at y0 hii
                      have HII := Lib.hid hii
                      have HTR := Lib.hid (HTW1.out.aft HR9.out)
                      obtain ⟨bv, cv, evE, -, -, hsl⟩ := HTR.out.slot hiN
                      cases evE
                      have s1 := hsl i hiN
                      have i4 : (0 : Int) ≤ (i : Int) ∧ (i : Int) < (X6.length : Int) := by omega
                      have i5 : (0 : Int) ≤ (i : Int) ∧ (i : Int) < (N : Int) := by omega
                      have HW0 : Hid (wr.ownsRow wr.heap.size 3 1 (.slice none 0 0) (wantTo T i 0).length ((wantTo T i 0).map (Value.int .i64))) := Lib.hid (World.ownsRow_nil _ _ 3 1)
                      clear hcE hii hrw hsl
                      (repeat (first | go_big_skip | go_big_want | go_big_move | go_big_op | go_step | go_upon | go_back))
                      clear y0 s1 i4 i5
                      go_loopw [32, 261] (fun v ix wz => ∃ b : Nat, ix = .int .i64 b ∧ b ≤ P ∧ Aft wr wz ∧ wz.ownsRow wr.heap.size 3 1 v (wantTo T i b).length ((wantTo T i b).map (Value.int .i64))) (fun _ ix _ => P - (intOf ix).toNat)
                      case atStart => exact ⟨0, rfl, by omega, Aft.refl _, HW0.out⟩
                      case round =>
                        rename World => wz
                        obtain ⟨b, rfl, hb, haz, hown⟩ := hrel
                        have HAZ := Lib.hid haz
                        have HO := Lib.hid hown
                        obtain ⟨wA, wc, rfl⟩ := own_slice2 hown
                        clear haz hown
                        by_cases hbP : b < P
                        · have hdecb : decide (b < P) = true := decide_eq_true hbP
                          have hrow := (HTR.out.aft HAZ.out).row i hiN
                          have s2 := hrow.cell hbP
                          have s4 := hrow.lt
                          have hon : (L1.any fun l => decide (l.getD i 0 = (b : Int))) = onLeg T i b := by rw [HLA.out]; rfl
                          rw [hon] at s2
                          have HSU := Lib.hid (wantTo_succ T i b)
                          have i6 : (0 : Int) ≤ (b : Int) ∧ (b : Int) < (P : Int) := by omega
                          have hwlen : (wantTo T i b).length ≤ 1000 := by unfold wantTo; rw [List.length_map]; exact Nat.le_trans (List.length_filter_le _ _) (by simp; omega)
                          clear hrow hon
                          cases hon : onLeg T i b
                          all_goals
                            rw [hon] at s2 HSU
                            clear hon
                          · have HO1 : Hid (wz.ownsRow wr.heap.size 3 1 (.slice wA (wantTo T i b).length wc) (wantTo T i (b + 1)).length ((wantTo T i (b + 1)).map (Value.int .i64))) := Lib.hid (by rw [HSU.out]; simpa using HO.out)
                            (repeat (first | go_big_skip | go_big_want | go_big_move | go_big_op | go_step | go_upon | go_back))
                            exact ⟨⟨b + 1, by go_num, by omega, HAZ.out, HO1.out⟩, by simp [intOf]; omega⟩
                          · go_upto_region 61 with fail
                            go_wp2_with (at_builtin; refine wpList_push rfl _ _ rfl (own_aft HO.out (Aft.alloc _ _)) (Nat.le_trans HAZ.out.size (Aft.alloc _ _).size) rfl rfl (cell_new1 _ _ _) (by omega) ?_; intro v' w6 hown6 hg6)
                            have hlt : ∀ q, (Value.slice wA (wantTo T i b).length wc).ownBlock = some q → wr.heap.size ≤ q := own_ge HO.out
                            exact ⟨⟨v', .int .i64 b, .bool true, .int .i64 ((b : Int) + 1), ⟨b + 1, by go_num, by omega, (HAZ.out.then_alloc _).grown hg6 hlt, by rw [HSU.out]; simpa using hown6⟩, rfl, rfl, rfl, rfl⟩, by simp [intOf]; omega⟩
                        · have hbP' : b = P := by omega
                          subst hbP'
                          have hdecb : decide (b < b) = false := decide_eq_false (by omega)
                          have hirb : decide ((b : Int) < (b : Int)) = false := decide_eq_false (by omega)
                          have hwlen : (wantTo T i b).length ≤ 1000 := by unfold wantTo; rw [List.length_map]; exact Nat.le_trans (List.length_filter_le _ _) (by simp; omega)
                          obtain ⟨Aw, cw, ew, -, hwi⟩ := own_ints HO.out (by omega)
                          cases ew
                          have HKE := Lib.hid (kitEqual_int Ai wA (wantTo T i b) (wantTo T i b) ci wc wz (HII.out.aft HAZ.out) hwi)
                          rw [eqB_self] at HKE
                          clear hwi
                          (repeat (first | go_big_skip | go_big_want | go_big_move | go_big_op | go_step | go_upon | go_back))
                          go_at_call 27
                          refine HKE.out.mono ?_
                          rintro e wy ⟨rfl, ha⟩
                          dsimp only
                          have HY2 := Lib.hid (HR9.out.trans (HAZ.out.trans ha))
                          clear ha
                          (repeat (first | go_big_skip | go_big_want | go_big_move | go_big_op | go_step | go_upon | go_back))
                          exact ⟨⟨i + 1, by go_num, by omega, HY2.out⟩, by simp [intOf]; omega⟩
                    · have hdec : decide (i < X6.length) = false := decide_eq_false hil
                      have hirr : decide ((i : Int) < (X6.length : Int)) = false := decide_eq_false (by omega)
                      (repeat (first | go_big_skip | go_big_want | go_big_move | go_big_op | go_step | go_upon | go_back))
                      go_at_call 9
                      refine (awake_any _).mono ?_
                      rintro e z ⟨rfl, ha⟩
                      dsimp only
                      (repeat (first | go_big_skip | go_big_want | go_big_move | go_big_op | go_step | go_upon | go_back))
                      go_ret
                      exact ⟨rfl, HAW.out.trans (HAY.out.trans (HW1.out.trans (HR9.out.trans ha)))⟩
  · -- more than may be
    have hne : ((RX.length : Int) == 0) = false := by
      have h := all_readings HCC.out
      rw [HRX.out] at h
      have hl : allL T ≠ [] := fun e => by
        have := HEQ.out.trans hE0
        unfold allE at this
        rw [if_pos HCC.out, e] at this
        exact absurd this (by decide)
      rcases RX with _ | ⟨y, q⟩
      · exact absurd (h.2 rfl) hl
      · simp; omega
    have hgt : decide (0 < RX.length) = true := decide_eq_true (Nat.pos_of_ne_zero fun e => by simp [e] at hne)
    subst hE0
    (repeat (first | go_big_skip | go_big_want | go_big_move | go_big_op | go_step | go_upon | go_back))
    go_at_call 9
    refine (awake_any _).mono ?_
    rintro e z ⟨rfl, ha⟩
    dsimp only
    (repeat (first | go_big_skip | go_big_want | go_big_move | go_big_op | go_step | go_upon | go_back))
    go_ret
    exact ⟨rfl, HAW.out.trans (HZ.out.trans ha)⟩
end Go.Proofs
end
