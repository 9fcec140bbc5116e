/- Own texts, merged: Vb Vc. -/
import Derived.Test.YthegmhnaiabcpaaE18
import Derived.BigGuard
set_option linter.unusedSimpArgs false
set_option linter.unusedVariables false
set_option linter.unnecessarySimpa false
section
/- Walks: what the law's examples come to. -/
namespace Go.Proofs
open Go.RowKit

def threeS : SetL := ⟨3, threeJ⟩
def ringS : SetL := ⟨4, ringJ⟩
theorem three_play : PlayOf threeS (2, 1) :=
  .inr (.inr ⟨rfl, (2, 1), (0, 1), ⟨Sheet.three_least, by decide, by decide, by decide⟩, ⟨Sheet.three_leastY, by decide, by decide, by decide⟩, by decide⟩)
theorem ring_play : PlayOf ringS (1, 1) :=
  .inr (.inr ⟨rfl, (1, 1), (0, 1), ⟨Sheet.ring_least, by decide, by decide, by decide⟩, ⟨Sheet.ring_leastY, by decide, by decide, by decide⟩, by decide⟩)
theorem aw12a {w : World} {b : Nat} (h : Quads w (some ⟨b, 0, none⟩) threeJ) : Calls Try.prog 12 #[.agg #[.int .i64 3, .slice (some ⟨b, 0, none⟩) 3 3]] w fun e w' => e = .returned (.tuple #[.agg #[.int .i64 2, .int .i64 1], .int .i64 0]) ∧ Aft w w' := by
  refine Calls.mono (play_good threeS (some ⟨b, 0, none⟩) 3 w h (by decide)) ?_
  rintro e w' ⟨p, rfl, hp, ha⟩
  have := hp.same three_play
  subst this
  exact ⟨rfl, ha⟩
theorem aw12b {w : World} {b : Nat} (h : Quads w (some ⟨b, 0, none⟩) ringJ) : Calls Try.prog 12 #[.agg #[.int .i64 4, .slice (some ⟨b, 0, none⟩) 4 4]] w fun e w' => e = .returned (.tuple #[.agg #[.int .i64 1, .int .i64 1], .int .i64 0]) ∧ Aft w w' := by
  refine Calls.mono (play_good ringS (some ⟨b, 0, none⟩) 4 w h (by decide)) ?_
  rintro e w' ⟨p, rfl, hp, ha⟩
  have := hp.same ring_play
  subst this
  exact ⟨rfl, ha⟩
def legL : List (Int × Bool) := [(0, false), (1, false), (2, true)]
theorem aw51 {w : World} {b g : Nat} (h : Quads w (some ⟨b, 0, none⟩) threeJ) (hb : Blk w g 120 #[.int .i64 0, .bool false, .int .i64 1, .bool false, .int .i64 2, .bool true]) : Calls Try.prog 51 #[.agg #[.int .i64 3, .slice (some ⟨b, 0, none⟩) 3 3], .agg #[.bool false, .slice (some ⟨g, 0, none⟩) 3 3]] w fun e w' => e = .returned (.tuple #[.agg #[.int .i64 2, .int .i64 1], .int .i64 0]) ∧ Aft w w' := by
  have h1 : provesE threeS legL = 0 := by decide
  have h2 : provesP threeS false legL = (2, 1) := by decide
  have := proves_any threeS (some ⟨b, 0, none⟩) 3 false legL (some ⟨g, 0, none⟩) 3 w h (rows_of_blk (enc := encG) (fun _ => rfl) hb rfl (by decide))
  rw [h1, h2] at this
  exact this
theorem aw37a {w : World} {b : Nat} {A : Option Addr} {c : Nat} (h : Quads w (some ⟨b, 0, none⟩) threeJ) (hL : Quads w A ([0, 12, 34].map shI)) : Calls Try.prog 37 #[.agg #[.int .i64 3, .slice (some ⟨b, 0, none⟩) 3 3], .slice A 3 c] w fun e w' => e = .returned (.tuple #[.agg #[.int .i64 2, .int .i64 1], .int .i64 0]) ∧ Aft w w' := by
  have h2 : needsP threeS ([0, 12, 34].map shI) = (2, 1) := by decide
  have := needs_good threeS (some ⟨b, 0, none⟩) 3 ([0, 12, 34].map shI) A c w h hL (by decide)
  rw [h2] at this
  exact this
theorem aw37b {w : World} {b : Nat} {A : Option Addr} {c : Nat} (h : Quads w (some ⟨b, 0, none⟩) ringJ) (hL : Quads w A ([0, 0, 0, 0].map shI)) : Calls Try.prog 37 #[.agg #[.int .i64 4, .slice (some ⟨b, 0, none⟩) 4 4], .slice A 4 c] w fun e w' => e = .returned (.tuple #[.agg #[.int .i64 1, .int .i64 1], .int .i64 0]) ∧ Aft w w' := by
  have h2 : needsP ringS ([0, 0, 0, 0].map shI) = (1, 1) := by decide
  have := needs_good ringS (some ⟨b, 0, none⟩) 4 ([0, 0, 0, 0].map shI) A c w h hL (by decide)
  rw [h2] at this
  exact this
theorem three_most (N : Int) (hN : 2 ≤ N) : ∀ north, Sheet.AtMost (Sheet.legs (joOf north threeS.J)) N 1 := fun north => by
  have := three_play.most north
  exact this.more (by decide) (by decide) (by omega)
theorem aw14a {w : World} {b : Nat} (h : Quads w (some ⟨b, 0, none⟩) threeJ) : Calls Try.prog 14 #[.agg #[.int .i64 3, .slice (some ⟨b, 0, none⟩) 3 3], .int .i64 0, .int .i64 1, .agg #[.int .i64 3, .int .i64 1]] w fun e w' => e = .returned (.tuple #[.agg #[.int .i64 10, .int .i64 1, .int .i64 13, .int .i64 1], .agg #[.int .i64 (-3), .int .i64 1, .int .i64 3, .int .i64 1], .int .i64 0]) ∧ Aft w w' := by
  refine Calls.mono (between_good threeS (some ⟨b, 0, none⟩) 3 0 1 3 1 w h (by decide) (by decide) (by decide) ⟨by decide, by decide, by decide, by decide⟩) ?_
  intro e w' hr
  obtain ⟨t0, t1, ha, c0, c1, hr⟩ := hr.most (three_most 3 (by decide))
  obtain ⟨e1, e2⟩ := Sheet.three_x3 c0
  obtain ⟨e3, e4⟩ := Sheet.three_y3 c1
  rcases hr with ⟨h1, -⟩ | ⟨-, rfl⟩
  · rw [e1] at h1; exact absurd h1 (by decide)
  · refine ⟨?_, ha⟩
    unfold bt4
    rw [e1, e2, e3, e4]
    rfl
theorem aw14b {w : World} {b : Nat} (h : Quads w (some ⟨b, 0, none⟩) threeJ) : Calls Try.prog 14 #[.agg #[.int .i64 3, .slice (some ⟨b, 0, none⟩) 3 3], .int .i64 0, .int .i64 1, .agg #[.int .i64 2, .int .i64 1]] w fun e w' => (∃ q1 q2 q3 q4, e = .returned (.tuple #[.agg #[.int .i64 12, .int .i64 1, .int .i64 12, .int .i64 1], .agg #[.int .i64 q1, .int .i64 q2, .int .i64 q3, .int .i64 q4], .int .i64 0])) ∧ Aft w w' := by
  refine Calls.mono (between_good threeS (some ⟨b, 0, none⟩) 3 0 1 2 1 w h (by decide) (by decide) (by decide) ⟨by decide, by decide, by decide, by decide⟩) ?_
  intro e w' hr
  obtain ⟨t0, t1, ha, c0, c1, hr⟩ := hr.most (three_most 2 (by decide))
  obtain ⟨e1, e2⟩ := Sheet.three_x2 c0
  rcases hr with ⟨h1, -⟩ | ⟨-, rfl⟩
  · rw [e1] at h1; exact absurd h1 (by decide)
  · refine ⟨⟨(bt4 1 t1 0 1).a, (bt4 1 t1 0 1).b, (bt4 1 t1 0 1).x, (bt4 1 t1 0 1).y, ?_⟩, ha⟩
    have e5 : bt4 1 t0 0 1 = ⟨12, 1, 12, 1⟩ := by
      unfold bt4
      rw [e1, e2]
      rfl
    rw [e5]
    rfl
def tabV (p : Nat × Nat) : Nat := vN [[0, 1, 0], [1, 0, 2], [0, 2, 0]] p
theorem ex_bar : Sheet.Bar (sameB 11 edgeA edgeB) 3 3 fun a b => tabV (a, b) := by
  refine ⟨fun i k hi hk => ?_, fun i k i' k' hi hk hi' hk' => ?_⟩
  · have h : ∀ i, i < 3 → ∀ k, k < 3 → (0 < tabV (i, k) ↔ sameB 11 edgeA edgeB i k = true) := by decide
    exact h i hi k hk
  · have h : ∀ i, i < 3 → ∀ k, k < 3 → ∀ i', i' < i → ∀ k', k' < k → 0 < tabV (i, k) → tabV (i', k') ≠ tabV (i, k) := by decide
    exact h i hi k hk i' hi' k' hk'
theorem tab_two : ∀ i k, i < 3 → k < 3 → tabV (i, k) ≤ 2 := fun i k hi hk => by
  have h : ∀ i, i < 3 → ∀ k, k < 3 → tabV (i, k) ≤ 2 := by decide
  exact h i hi k hk
theorem ex_long : Sheet.Long (sameB 11 edgeA edgeB) 3 3 0 0 2 :=
  ⟨⟨[(1, 0), (2, 1)], ⟨by decide, by decide, by decide, by decide⟩, rfl⟩, fun l hl => ex_bar.le tab_two hl⟩
theorem aw25 {w : World} {b1 b2 : Nat} (h1 : Prs w (some ⟨b1, 0, none⟩) edgeA) (h2 : Prs w (some ⟨b2, 0, none⟩) edgeB) : Calls Try.prog 25 #[.slice (some ⟨b1, 0, none⟩) 3 3, .slice (some ⟨b2, 0, none⟩) 3 3, .int .i64 11] w fun e w' => (∃ A c, e = .returned (.tuple #[.slice A 2 c, .int .i64 0])) ∧ Aft w w' := by
  refine Calls.mono (match_good edgeA edgeB 11 (some ⟨b1, 0, none⟩) (some ⟨b2, 0, none⟩) 3 3 w h1 h2 (by decide)) ?_
  rintro e w' ⟨v, l, rfl, ho, -, hl, ha⟩
  have hl2 : l.length = 2 := hl.same ex_long
  obtain ⟨A, q, c, rfl, rfl⟩ := own_form ho
  exact ⟨⟨A, c, by rw [hl2]⟩, ha⟩
def pairL : List (Int × Int) := [(1, 0), (2, 1)]
theorem aw20 {w : World} {b1 b2 g : Nat} (h1 : Prs w (some ⟨b1, 0, none⟩) edgeA) (h2 : Prs w (some ⟨b2, 0, none⟩) edgeB) (hb : Blk w g 57 #[.int .i64 1, .int .i64 0, .int .i64 2, .int .i64 1]) : Calls Try.prog 20 #[.slice (some ⟨b1, 0, none⟩) 3 3, .slice (some ⟨b2, 0, none⟩) 3 3, .int .i64 11, .slice (some ⟨g, 0, none⟩) 2 2] w fun e w' => e = .returned (.tuple #[.bool true, .int .i64 0]) ∧ Aft w w' := by
  have e1 : matchV edgeA edgeB 11 pairL = true := by decide
  have e2 : matchE edgeA edgeB 11 pairL = 0 := by decide
  have := matches_any edgeA edgeB 11 pairL (some ⟨b1, 0, none⟩) (some ⟨b2, 0, none⟩) (some ⟨g, 0, none⟩) 3 3 2 w h1 h2 (rows_of_blk (enc := enc2) (fun _ => rfl) hb rfl (by decide))
  rw [e1, e2] at this
  exact this
def tabL : List (List Int) := [[0, 1, 0], [1, 0, 2], [0, 2, 0]]
theorem tab_ok : LvlOk tabL 3 3 := ⟨rfl, by decide, by decide⟩
theorem max_two {mx : Nat} (h : Sheet.MaxTo 3 3 (vN tabL) (3 * 3) mx) : mx = 2 := by
  have h1 := h.le 1 2 (by decide) (by decide) (by decide)
  have e1 : vN tabL (1, 2) = 2 := rfl
  rcases h.has with e | ⟨i, k, hi, hk, e⟩
  · omega
  · have := tab_two i k hi hk
    have e2 : tabV (i, k) = vN tabL (i, k) := rfl
    omega
theorem ints_of_blk {w : World} {g : Nat} {l : List Int} {cs : Array Value} (h : Blk w g 3 cs) (hc : cs = (l.map (Value.int .i64)).toArray) (hl : l.length ≤ 1000) : Ints w (some ⟨g, 0, none⟩) l := by
  subst hc
  refine ⟨by omega, .inr ⟨g, 0, rfl, h.lt, fun i hi => ⟨[.int .i64 l[i]], rfl, rfl, fun j hj => ?_⟩⟩⟩
  have : j = 0 := by simp at hj; omega
  subst this
  have := h.cell i
  simpa [hi] using this
theorem one_cell {w : World} {g i : Nat} {v : Value} (h : w.cell? ⟨g, i, none⟩ = some v) : ∀ j, (hj : j < [v].length) → w.cell? ⟨g, 0 + i * 1 + j, none⟩ = some [v][j] := fun j hj => by
  have : j = 0 := by simp at hj; omega
  subst this
  simpa using h
theorem aw23 {w : World} {b1 b2 g1 g2 g3 g : Nat} (h1 : Prs w (some ⟨b1, 0, none⟩) edgeA) (h2 : Prs w (some ⟨b2, 0, none⟩) edgeB) (k1 : Blk w g1 3 #[.int .i64 0, .int .i64 1, .int .i64 0]) (k2 : Blk w g2 3 #[.int .i64 1, .int .i64 0, .int .i64 2]) (k3 : Blk w g3 3 #[.int .i64 0, .int .i64 2, .int .i64 0])
    (hb : Blk w g 51 #[.slice (some ⟨g1, 0, none⟩) 3 3, .slice (some ⟨g2, 0, none⟩) 3 3, .slice (some ⟨g3, 0, none⟩) 3 3]) : Calls Try.prog 23 #[.slice (some ⟨b1, 0, none⟩) 3 3, .slice (some ⟨b2, 0, none⟩) 3 3, .int .i64 11, .slice (some ⟨g, 0, none⟩) 3 3] w fun e w' => e = .returned (.tuple #[.int .i64 2, .int .i64 0]) ∧ Aft w w' := by
  have hL : Lists w (some ⟨g, 0, none⟩) tabL := by
    refine ⟨by decide, .inr ⟨g, 0, rfl, hb.lt, fun i hi => ?_⟩⟩
    have hi' : i < 3 := hi
    match i, hi' with
    | 0, _ => exact ⟨[.slice (some ⟨g1, 0, none⟩) 3 3], rfl, ⟨_, 3, rfl, ints_of_blk k1 rfl (Nat.le_of_ble_eq_true rfl)⟩, one_cell (hb.cell 0)⟩
    | 1, _ => exact ⟨[.slice (some ⟨g2, 0, none⟩) 3 3], rfl, ⟨_, 3, rfl, ints_of_blk k2 rfl (Nat.le_of_ble_eq_true rfl)⟩, one_cell (hb.cell 1)⟩
    | 2, _ => exact ⟨[.slice (some ⟨g3, 0, none⟩) 3 3], rfl, ⟨_, 3, rfl, ints_of_blk k3 rfl (Nat.le_of_ble_eq_true rfl)⟩, one_cell (hb.cell 2)⟩
  refine Calls.mono (bars_good edgeA edgeB 11 tabL (some ⟨b1, 0, none⟩) (some ⟨b2, 0, none⟩) (some ⟨g, 0, none⟩) 3 3 3 w h1 h2 hL (by decide) tab_ok) ?_
  rintro e w' ⟨ha, ⟨mx, rfl, -, hm⟩ | ⟨-, hn⟩⟩
  · have := max_two hm
    subst this
    exact ⟨rfl, ha⟩
  · exact absurd ex_bar hn
end Go.Proofs
end

section
/- Walks: what the law asks of itself before it holds anything. -/
namespace Go.Proofs
open Go.RowKit
attribute [local go_sem] Oper.semAt_some

theorem blk_2 (w : World) (o1 : Obj) (t : TypeId) (cs : Array Value) : Blk ((w.alloc o1).alloc (.cells cs t)) (w.heap.size + 1) t cs := by
  have := Blk.new (w.alloc o1) t cs
  rwa [World.size_alloc] at this
theorem blk_3 (w : World) (o1 o2 : Obj) (t : TypeId) (cs : Array Value) : Blk (((w.alloc o1).alloc o2).alloc (.cells cs t)) (w.heap.size + 1 + 1) t cs := by
  have := Blk.new ((w.alloc o1).alloc o2) t cs
  rwa [World.size_alloc, World.size_alloc] at this
theorem blk_4 (w : World) (o1 o2 o3 : Obj) (t : TypeId) (cs : Array Value) : Blk ((((w.alloc o1).alloc o2).alloc o3).alloc (.cells cs t)) (w.heap.size + 1 + 1 + 1) t cs := by
  have := Blk.new (((w.alloc o1).alloc o2).alloc o3) t cs
  rwa [World.size_alloc, World.size_alloc, World.size_alloc] at this
set_option maxRecDepth 100000 in
set_option maxHeartbeats 4000000 in
theorem awake_any (w : World) : Calls Try.prog 15 #[] w fun e w' => e = .returned (.bool true) ∧ Aft w w' := by
  go_enter Try.func15, Try.ntmps15
  (repeat (first | go_big_skip | go_big_want | go_big_move | go_big_op | go_step | go_upon | go_back))
  go_at_call 50
  refine (three_any _).mono ?_
  rintro e x1 ⟨b, rfl, hq, ha⟩
  dsimp only
  have HA := Lib.hid (ha)
  have HQ := Lib.hid hq
  clear hq ha
  (repeat (first | go_big_skip | go_big_want | go_big_move | go_big_op | go_step | go_upon | go_back))
  go_at_call 12
  refine (aw12a HQ.out).mono ?_
  rintro e x2 ⟨rfl, ha⟩
  dsimp only
  have HA := Lib.hid (HA.out.trans (ha))
  clear ha HQ
  go_upto_region 2 with fail
  obtain ⟨p1, hp1⟩ : ∃ p1, x2.heap.size = p1 := ⟨_, rfl⟩
  have hp1ge : w.heap.size ≤ p1 := by rw [← hp1]; exact HA.out.size
  have HBp1 : Hid (Blk (x2.alloc (.cells #[.int .i64 2, .int .i64 1] 37)) (p1) 37 #[.int .i64 2, .int .i64 1]) := Lib.hid (by
    have q := Blk.new x2 37 #[.int .i64 2, .int .i64 1]
    try simp only [World.size_alloc] at q
    rw [hp1] at q
    exact q)
  have HA := Lib.hid (HA.out.trans (Aft.alloc x2 (.cells #[.int .i64 2, .int .i64 1] 37)))
  rw [hp1]
  generalize x2.alloc (.cells #[.int .i64 2, .int .i64 1] 37) = y3 at *
  clear hp1
  (repeat (first | go_big_skip | go_big_want | go_big_move | go_big_op | go_step | go_upon | go_back))
  go_at_call 50
  refine (three_any _).mono ?_
  rintro e x4 ⟨b, rfl, hq, ha⟩
  dsimp only
  have HBp1 := Lib.hid (HBp1.out.aft (ha))
  have HA := Lib.hid (HA.out.trans (ha))
  have HQ := Lib.hid hq
  clear hq ha
  (repeat (first | go_big_skip | go_big_want | go_big_move | go_big_op | go_step | go_upon | go_back))
  go_at_call 51
  refine (aw51 (HQ.out.aft (Aft.alloc _ _)) (Blk.new _ _ _)).mono ?_
  rintro e x5 ⟨rfl, ha⟩
  dsimp only
  have HBp1 := Lib.hid (HBp1.out.aft ((Aft.alloc _ _).trans ha))
  have HA := Lib.hid (HA.out.trans ((Aft.alloc _ _).trans ha))
  clear ha HQ
  go_upto_region 3 with fail
  obtain ⟨p3, hp3⟩ : ∃ p3, x5.heap.size = p3 := ⟨_, rfl⟩
  have hp3ge : w.heap.size ≤ p3 := by rw [← hp3]; exact HA.out.size
  have hp13 : p1 < p3 := by rw [← hp3]; exact HBp1.out.lt
  have HBp3 : Hid (Blk (x5.alloc (.cells #[.int .i64 2, .int .i64 1] 37)) (p3) 37 #[.int .i64 2, .int .i64 1]) := Lib.hid (by
    have q := Blk.new x5 37 #[.int .i64 2, .int .i64 1]
    try simp only [World.size_alloc] at q
    rw [hp3] at q
    exact q)
  have HBp1 := Lib.hid (HBp1.out.aft (Aft.alloc x5 (.cells #[.int .i64 2, .int .i64 1] 37)))
  have HA := Lib.hid (HA.out.trans (Aft.alloc x5 (.cells #[.int .i64 2, .int .i64 1] 37)))
  rw [hp3]
  generalize x5.alloc (.cells #[.int .i64 2, .int .i64 1] 37) = y6 at *
  clear hp3
  (repeat (first | go_big_skip | go_big_want | go_big_move | go_big_op | go_step | go_upon | go_back))
  go_at_call 50
  refine (three_any _).mono ?_
  rintro e x7 ⟨b, rfl, hq, ha⟩
  dsimp only
  have HBp1 := Lib.hid (HBp1.out.aft (ha))
  have HBp3 := Lib.hid (HBp3.out.aft (ha))
  have HA := Lib.hid (HA.out.trans (ha))
  have HQ := Lib.hid hq
  clear hq ha
  (repeat (first | go_big_skip | go_big_want | go_big_move | go_big_op | go_step | go_upon | go_back))
  go_at_call 52
  refine (shifted_any _ [0, 12, 34] _ _ (ints_of_blk (Blk.new _ _ _) rfl (by decide)) (by decide)).mono ?_
  rintro e x8 ⟨v, rfl, ho, ha⟩
  dsimp only
  have HBp1 := Lib.hid (HBp1.out.aft ((Aft.alloc _ _).trans ha))
  have HBp3 := Lib.hid (HBp3.out.aft ((Aft.alloc _ _).trans ha))
  have HQ := Lib.hid (HQ.out.aft ((Aft.alloc _ _).trans ha))
  have HA := Lib.hid (HA.out.trans ((Aft.alloc _ _).trans ha))
  obtain ⟨A, c, rfl, -, hs, -⟩ := own_flat (enc := enc4) (fun _ => rfl) ho (by decide)
  have HS := Lib.hid hs
  rw [show ([0, 12, 34].map shI).length = 3 from rfl]
  clear ha ho hs
  (repeat (first | go_big_skip | go_big_want | go_big_move | go_big_op | go_step | go_upon | go_back))
  go_at_call 37
  refine (aw37a HQ.out HS.out).mono ?_
  rintro e x9 ⟨rfl, ha⟩
  dsimp only
  have HBp1 := Lib.hid (HBp1.out.aft (ha))
  have HBp3 := Lib.hid (HBp3.out.aft (ha))
  have HA := Lib.hid (HA.out.trans (ha))
  clear ha HQ HS
  go_upto_region 4 with fail
  obtain ⟨p5, hp5⟩ : ∃ p5, x9.heap.size = p5 := ⟨_, rfl⟩
  have HBp5 : Hid (Blk (x9.alloc (.cells #[.int .i64 2, .int .i64 1] 37)) (p5) 37 #[.int .i64 2, .int .i64 1]) := Lib.hid (by
    have q := Blk.new x9 37 #[.int .i64 2, .int .i64 1]
    try simp only [World.size_alloc] at q
    rw [hp5] at q
    exact q)
  have HBp1 := Lib.hid (HBp1.out.aft (Aft.alloc x9 (.cells #[.int .i64 2, .int .i64 1] 37)))
  have HBp3 := Lib.hid (HBp3.out.aft (Aft.alloc x9 (.cells #[.int .i64 2, .int .i64 1] 37)))
  have HA := Lib.hid (HA.out.trans (Aft.alloc x9 (.cells #[.int .i64 2, .int .i64 1] 37)))
  rw [hp5]
  generalize x9.alloc (.cells #[.int .i64 2, .int .i64 1] 37) = y10 at *
  clear hp5
  (repeat (first | go_big_skip | go_big_want | go_big_move | go_big_op | go_step | go_upon | go_back))
  go_at_call 50
  refine (three_any _).mono ?_
  rintro e x11 ⟨b, rfl, hq, ha⟩
  dsimp only
  have HBp1 := Lib.hid (HBp1.out.aft (ha))
  have HBp3 := Lib.hid (HBp3.out.aft (ha))
  have HBp5 := Lib.hid (HBp5.out.aft (ha))
  have HA := Lib.hid (HA.out.trans (ha))
  have HQ := Lib.hid hq
  clear hq ha
  (repeat (first | go_big_skip | go_big_want | go_big_move | go_big_op | go_step | go_upon | go_back))
  go_at_call 38
  refine (ratioL_any 3 1 _).mono ?_
  rintro e x12 ⟨rfl, ha⟩
  dsimp only
  have HBp1 := Lib.hid (HBp1.out.aft (ha))
  have HBp3 := Lib.hid (HBp3.out.aft (ha))
  have HBp5 := Lib.hid (HBp5.out.aft (ha))
  have HQ := Lib.hid (HQ.out.aft (ha))
  have HA := Lib.hid (HA.out.trans (ha))
  clear ha
  (repeat (first | go_big_skip | go_big_want | go_big_move | go_big_op | go_step | go_upon | go_back))
  go_at_call 14
  refine (aw14a HQ.out).mono ?_
  rintro e x13 ⟨rfl, ha⟩
  dsimp only
  have HBp1 := Lib.hid (HBp1.out.aft (ha))
  have HBp3 := Lib.hid (HBp3.out.aft (ha))
  have HBp5 := Lib.hid (HBp5.out.aft (ha))
  have HA := Lib.hid (HA.out.trans (ha))
  clear ha HQ
  go_upto_region 5 with fail
  obtain ⟨p7, hp7⟩ : ∃ p7, x13.heap.size = p7 := ⟨_, rfl⟩
  have HBp7 : Hid (Blk ((x13.alloc (.cells #[.int .i64 10, .int .i64 1, .int .i64 13, .int .i64 1] 43)).alloc (.cells #[.int .i64 (-3), .int .i64 1, .int .i64 3, .int .i64 1] 43)) (p7) 43 #[.int .i64 10, .int .i64 1, .int .i64 13, .int .i64 1]) := Lib.hid (by
    have q := (Blk.new x13 43 #[.int .i64 10, .int .i64 1, .int .i64 13, .int .i64 1]).alloc (.cells #[.int .i64 (-3), .int .i64 1, .int .i64 3, .int .i64 1] 43)
    try simp only [World.size_alloc] at q
    rw [hp7] at q
    exact q)
  have HBp8 : Hid (Blk ((x13.alloc (.cells #[.int .i64 10, .int .i64 1, .int .i64 13, .int .i64 1] 43)).alloc (.cells #[.int .i64 (-3), .int .i64 1, .int .i64 3, .int .i64 1] 43)) (p7 + 1) 43 #[.int .i64 (-3), .int .i64 1, .int .i64 3, .int .i64 1]) := Lib.hid (by
    have q := Blk.new (x13.alloc (.cells #[.int .i64 10, .int .i64 1, .int .i64 13, .int .i64 1] 43)) 43 #[.int .i64 (-3), .int .i64 1, .int .i64 3, .int .i64 1]
    try simp only [World.size_alloc] at q
    rw [hp7] at q
    exact q)
  have HBp1 := Lib.hid (HBp1.out.aft ((Aft.alloc x13 (.cells #[.int .i64 10, .int .i64 1, .int .i64 13, .int .i64 1] 43)).then_alloc (.cells #[.int .i64 (-3), .int .i64 1, .int .i64 3, .int .i64 1] 43)))
  have HBp3 := Lib.hid (HBp3.out.aft ((Aft.alloc x13 (.cells #[.int .i64 10, .int .i64 1, .int .i64 13, .int .i64 1] 43)).then_alloc (.cells #[.int .i64 (-3), .int .i64 1, .int .i64 3, .int .i64 1] 43)))
  have HBp5 := Lib.hid (HBp5.out.aft ((Aft.alloc x13 (.cells #[.int .i64 10, .int .i64 1, .int .i64 13, .int .i64 1] 43)).then_alloc (.cells #[.int .i64 (-3), .int .i64 1, .int .i64 3, .int .i64 1] 43)))
  have HA := Lib.hid (HA.out.trans ((Aft.alloc x13 (.cells #[.int .i64 10, .int .i64 1, .int .i64 13, .int .i64 1] 43)).then_alloc (.cells #[.int .i64 (-3), .int .i64 1, .int .i64 3, .int .i64 1] 43)))
  rw [hp7]
  generalize (x13.alloc (.cells #[.int .i64 10, .int .i64 1, .int .i64 13, .int .i64 1] 43)).alloc (.cells #[.int .i64 (-3), .int .i64 1, .int .i64 3, .int .i64 1] 43) = y14 at *
  clear hp7
  (repeat (first | go_big_skip | go_big_want | go_big_move | go_big_op | go_step | go_upon | go_back))
  go_at_call 50
  refine (three_any _).mono ?_
  rintro e x15 ⟨b, rfl, hq, ha⟩
  dsimp only
  have HBp1 := Lib.hid (HBp1.out.aft (ha))
  have HBp3 := Lib.hid (HBp3.out.aft (ha))
  have HBp5 := Lib.hid (HBp5.out.aft (ha))
  have HBp7 := Lib.hid (HBp7.out.aft (ha))
  have HBp8 := Lib.hid (HBp8.out.aft (ha))
  have HA := Lib.hid (HA.out.trans (ha))
  have HQ := Lib.hid hq
  clear hq ha
  (repeat (first | go_big_skip | go_big_want | go_big_move | go_big_op | go_step | go_upon | go_back))
  go_at_call 38
  refine (ratioL_any 2 1 _).mono ?_
  rintro e x16 ⟨rfl, ha⟩
  dsimp only
  have HBp1 := Lib.hid (HBp1.out.aft (ha))
  have HBp3 := Lib.hid (HBp3.out.aft (ha))
  have HBp5 := Lib.hid (HBp5.out.aft (ha))
  have HBp7 := Lib.hid (HBp7.out.aft (ha))
  have HBp8 := Lib.hid (HBp8.out.aft (ha))
  have HQ := Lib.hid (HQ.out.aft (ha))
  have HA := Lib.hid (HA.out.trans (ha))
  clear ha
  (repeat (first | go_big_skip | go_big_want | go_big_move | go_big_op | go_step | go_upon | go_back))
  go_at_call 14
  refine (aw14b HQ.out).mono ?_
  rintro e x17 ⟨⟨q1, q2, q3, q4, rfl⟩, ha⟩
  dsimp only
  have HBp1 := Lib.hid (HBp1.out.aft (ha))
  have HBp3 := Lib.hid (HBp3.out.aft (ha))
  have HBp5 := Lib.hid (HBp5.out.aft (ha))
  have HBp7 := Lib.hid (HBp7.out.aft (ha))
  have HBp8 := Lib.hid (HBp8.out.aft (ha))
  have HA := Lib.hid (HA.out.trans (ha))
  clear ha HQ
  go_upto_region 6 with fail
  obtain ⟨p10, hp10⟩ : ∃ p10, x17.heap.size = p10 := ⟨_, rfl⟩
  have HBp10 : Hid (Blk ((x17.alloc (.cells #[.int .i64 12, .int .i64 1, .int .i64 12, .int .i64 1] 43)).alloc (.cells #[.int .i64 q1, .int .i64 q2, .int .i64 q3, .int .i64 q4] 43)) (p10) 43 #[.int .i64 12, .int .i64 1, .int .i64 12, .int .i64 1]) := Lib.hid (by
    have q := (Blk.new x17 43 #[.int .i64 12, .int .i64 1, .int .i64 12, .int .i64 1]).alloc (.cells #[.int .i64 q1, .int .i64 q2, .int .i64 q3, .int .i64 q4] 43)
    try simp only [World.size_alloc] at q
    rw [hp10] at q
    exact q)
  have HBp11 : Hid (Blk ((x17.alloc (.cells #[.int .i64 12, .int .i64 1, .int .i64 12, .int .i64 1] 43)).alloc (.cells #[.int .i64 q1, .int .i64 q2, .int .i64 q3, .int .i64 q4] 43)) (p10 + 1) 43 #[.int .i64 q1, .int .i64 q2, .int .i64 q3, .int .i64 q4]) := Lib.hid (by
    have q := Blk.new (x17.alloc (.cells #[.int .i64 12, .int .i64 1, .int .i64 12, .int .i64 1] 43)) 43 #[.int .i64 q1, .int .i64 q2, .int .i64 q3, .int .i64 q4]
    try simp only [World.size_alloc] at q
    rw [hp10] at q
    exact q)
  have HBp1 := Lib.hid (HBp1.out.aft ((Aft.alloc x17 (.cells #[.int .i64 12, .int .i64 1, .int .i64 12, .int .i64 1] 43)).then_alloc (.cells #[.int .i64 q1, .int .i64 q2, .int .i64 q3, .int .i64 q4] 43)))
  have HBp3 := Lib.hid (HBp3.out.aft ((Aft.alloc x17 (.cells #[.int .i64 12, .int .i64 1, .int .i64 12, .int .i64 1] 43)).then_alloc (.cells #[.int .i64 q1, .int .i64 q2, .int .i64 q3, .int .i64 q4] 43)))
  have HBp5 := Lib.hid (HBp5.out.aft ((Aft.alloc x17 (.cells #[.int .i64 12, .int .i64 1, .int .i64 12, .int .i64 1] 43)).then_alloc (.cells #[.int .i64 q1, .int .i64 q2, .int .i64 q3, .int .i64 q4] 43)))
  have HBp7 := Lib.hid (HBp7.out.aft ((Aft.alloc x17 (.cells #[.int .i64 12, .int .i64 1, .int .i64 12, .int .i64 1] 43)).then_alloc (.cells #[.int .i64 q1, .int .i64 q2, .int .i64 q3, .int .i64 q4] 43)))
  have HBp8 := Lib.hid (HBp8.out.aft ((Aft.alloc x17 (.cells #[.int .i64 12, .int .i64 1, .int .i64 12, .int .i64 1] 43)).then_alloc (.cells #[.int .i64 q1, .int .i64 q2, .int .i64 q3, .int .i64 q4] 43)))
  have HA := Lib.hid (HA.out.trans ((Aft.alloc x17 (.cells #[.int .i64 12, .int .i64 1, .int .i64 12, .int .i64 1] 43)).then_alloc (.cells #[.int .i64 q1, .int .i64 q2, .int .i64 q3, .int .i64 q4] 43)))
  rw [hp10]
  generalize (x17.alloc (.cells #[.int .i64 12, .int .i64 1, .int .i64 12, .int .i64 1] 43)).alloc (.cells #[.int .i64 q1, .int .i64 q2, .int .i64 q3, .int .i64 q4] 43) = y18 at *
  clear hp10
  refine wp_region_valsT (by kernel_rfl) 53 189 rfl (by kernel_rfl) (by kernel_rfl) (by kernel_rfl) [.int .i64 0, .bool false, .bool false, .int .i64 0, .bool false, .bool false, .bool false, .int .i64 0, .bool false, .bool false, .bool false, .int .i64 0, .bool false, .bool false, .bool false, .int .i64 0, .bool false, .bool false, .bool false, .agg #[.int .i64 2, .int .i64 1], .agg #[.int .i64 2, .int .i64 1], .bool false, .bool false, .bool false, .agg #[.int .i64 2, .int .i64 1], .agg #[.int .i64 2, .int .i64 1], .bool false, .bool false, .bool false, .agg #[.int .i64 2, .int .i64 1], .agg #[.int .i64 2, .int .i64 1], .bool false, .bool false, .bool false, .agg #[.int .i64 10, .int .i64 1, .int .i64 13, .int .i64 1], .agg #[.int .i64 10, .int .i64 1], .agg #[.int .i64 13, .int .i64 1], .agg #[.int .i64 10, .int .i64 1, .int .i64 13, .int .i64 1], .bool false, .bool false, .bool false, .agg #[.int .i64 (-3), .int .i64 1, .int .i64 3, .int .i64 1], .agg #[.int .i64 (-3), .int .i64 1], .agg #[.int .i64 3, .int .i64 1], .agg #[.int .i64 (-3), .int .i64 1, .int .i64 3, .int .i64 1], .bool false, .bool false, .bool false, .agg #[.int .i64 12, .int .i64 1, .int .i64 12, .int .i64 1], .agg #[.int .i64 12, .int .i64 1], .agg #[.int .i64 12, .int .i64 1], .agg #[.int .i64 12, .int .i64 1, .int .i64 12, .int .i64 1], .bool false] rfl (fun _ W => Aft y18 W) (Aft.drew _) ?st1 ?fi1
  case st1 =>
    intro i o v ho hv
    match i, ho, hv with
    | 0, ho, hv =>
      cases ho; cases hv
      refine .inl ⟨rfl, fun done a W hd hp hk hw K hK => ?_⟩
      have e2 := hk.same 2 (by decide)
      exact op_val (by simp [go_sem, ev' e2]) (hK _ hw)
    | 1, ho, hv =>
      cases ho; cases hv
      refine .inl ⟨rfl, fun done a W hd hp hk hw K hK => ?_⟩
      have e54 := hk.at_ 0 _ 54 _ rfl (by decide) _ rfl rfl rfl
      exact op_val (by simp [go_sem, ev' e54]) (hK _ hw)
    | 2, ho, hv =>
      cases ho; cases hv
      refine .inl ⟨rfl, fun done a W hd hp hk hw K hK => ?_⟩
      have e55 := hk.at_ 1 _ 55 _ rfl (by decide) _ rfl rfl rfl
      exact op_val (by simp [go_sem, ev' e55]) (hK _ hw)
    | 3, ho, hv =>
      cases ho; cases hv
      refine .inl ⟨rfl, fun done a W hd hp hk hw K hK => ?_⟩
      have e4 := hk.same 4 (by decide)
      exact op_val (by simp [go_sem, ev' e4]) (hK _ hw)
    | 4, ho, hv =>
      cases ho; cases hv
      refine .inl ⟨rfl, fun done a W hd hp hk hw K hK => ?_⟩
      have e57 := hk.at_ 3 _ 57 _ rfl (by decide) _ rfl rfl rfl
      exact op_val (by simp [go_sem, ev' e57]) (hK _ hw)
    | 5, ho, hv =>
      cases ho; cases hv
      refine .inl ⟨rfl, fun done a W hd hp hk hw K hK => ?_⟩
      have e56 := hk.at_ 2 _ 56 _ rfl (by decide) _ rfl rfl rfl
      have e58 := hk.at_ 4 _ 58 _ rfl (by decide) _ rfl rfl rfl
      exact op_val (by simp [go_sem, ev' e56, ev' e58]) (hK _ hw)
    | 6, ho, hv =>
      cases ho; cases hv
      refine .inl ⟨rfl, fun done a W hd hp hk hw K hK => ?_⟩
      have e59 := hk.at_ 5 _ 59 _ rfl (by decide) _ rfl rfl rfl
      exact op_val (by simp [go_sem, ev' e59]) (hK _ hw)
    | 7, ho, hv =>
      cases ho; cases hv
      refine .inl ⟨rfl, fun done a W hd hp hk hw K hK => ?_⟩
      have e6 := hk.same 6 (by decide)
      exact op_val (by simp [go_sem, ev' e6]) (hK _ hw)
    | 8, ho, hv =>
      cases ho; cases hv
      refine .inl ⟨rfl, fun done a W hd hp hk hw K hK => ?_⟩
      have e61 := hk.at_ 7 _ 61 _ rfl (by decide) _ rfl rfl rfl
      exact op_val (by simp [go_sem, ev' e61]) (hK _ hw)
    | 9, ho, hv =>
      cases ho; cases hv
      refine .inl ⟨rfl, fun done a W hd hp hk hw K hK => ?_⟩
      have e60 := hk.at_ 6 _ 60 _ rfl (by decide) _ rfl rfl rfl
      have e62 := hk.at_ 8 _ 62 _ rfl (by decide) _ rfl rfl rfl
      exact op_val (by simp [go_sem, ev' e60, ev' e62]) (hK _ hw)
    | 10, ho, hv =>
      cases ho; cases hv
      refine .inl ⟨rfl, fun done a W hd hp hk hw K hK => ?_⟩
      have e63 := hk.at_ 9 _ 63 _ rfl (by decide) _ rfl rfl rfl
      exact op_val (by simp [go_sem, ev' e63]) (hK _ hw)
    | 11, ho, hv =>
      cases ho; cases hv
      refine .inl ⟨rfl, fun done a W hd hp hk hw K hK => ?_⟩
      have e9 := hk.same 9 (by decide)
      exact op_val (by simp [go_sem, ev' e9]) (hK _ hw)
    | 12, ho, hv =>
      cases ho; cases hv
      refine .inl ⟨rfl, fun done a W hd hp hk hw K hK => ?_⟩
      have e65 := hk.at_ 11 _ 65 _ rfl (by decide) _ rfl rfl rfl
      exact op_val (by simp [go_sem, ev' e65]) (hK _ hw)
    | 13, ho, hv =>
      cases ho; cases hv
      refine .inl ⟨rfl, fun done a W hd hp hk hw K hK => ?_⟩
      have e64 := hk.at_ 10 _ 64 _ rfl (by decide) _ rfl rfl rfl
      have e66 := hk.at_ 12 _ 66 _ rfl (by decide) _ rfl rfl rfl
      exact op_val (by simp [go_sem, ev' e64, ev' e66]) (hK _ hw)
    | 14, ho, hv =>
      cases ho; cases hv
      refine .inl ⟨rfl, fun done a W hd hp hk hw K hK => ?_⟩
      have e67 := hk.at_ 13 _ 67 _ rfl (by decide) _ rfl rfl rfl
      exact op_val (by simp [go_sem, ev' e67]) (hK _ hw)
    | 15, ho, hv =>
      cases ho; cases hv
      refine .inl ⟨rfl, fun done a W hd hp hk hw K hK => ?_⟩
      have e12 := hk.same 12 (by decide)
      exact op_val (by simp [go_sem, ev' e12]) (hK _ hw)
    | 16, ho, hv =>
      cases ho; cases hv
      refine .inl ⟨rfl, fun done a W hd hp hk hw K hK => ?_⟩
      have e69 := hk.at_ 15 _ 69 _ rfl (by decide) _ rfl rfl rfl
      exact op_val (by simp [go_sem, ev' e69]) (hK _ hw)
    | 17, ho, hv =>
      cases ho; cases hv
      refine .inl ⟨rfl, fun done a W hd hp hk hw K hK => ?_⟩
      have e68 := hk.at_ 14 _ 68 _ rfl (by decide) _ rfl rfl rfl
      have e70 := hk.at_ 16 _ 70 _ rfl (by decide) _ rfl rfl rfl
      exact op_val (by simp [go_sem, ev' e68, ev' e70]) (hK _ hw)
    | 18, ho, hv =>
      cases ho; cases hv
      refine .inl ⟨rfl, fun done a W hd hp hk hw K hK => ?_⟩
      have e71 := hk.at_ 17 _ 71 _ rfl (by decide) _ rfl rfl rfl
      exact op_val (by simp [go_sem, ev' e71]) (hK _ hw)
    | 19, ho, hv =>
      cases ho; cases hv
      refine .inl ⟨rfl, fun done a W hd hp hk hw K hK => ?_⟩
      have e1 := hk.same 1 (by decide)
      exact op_val (by simp [go_sem, ev' e1, (HBp1.out.aft hw).cell 0, (HBp1.out.aft hw).cell 1]) (hK _ hw)
    | 20, ho, hv =>
      cases ho; cases hv
      refine .inl ⟨rfl, fun done a W hd hp hk hw K hK => ?_⟩
      refine op_callN rfl rfl rfl _ rfl (vs := #[.int .i64 2, .int .i64 1]) (by simp [Act.eval]) (ratioL_any 2 1 W) ?_
      rintro e w7 ⟨rfl, hw7⟩
      exact ⟨_, rfl, hK _ (hw.trans hw7)⟩
    | 21, ho, hv =>
      cases ho; cases hv
      refine .inl ⟨rfl, fun done a W hd hp hk hw K hK => ?_⟩
      have e73 := hk.at_ 19 _ 73 _ rfl (by decide) _ rfl rfl rfl
      have e74 := hk.at_ 20 _ 74 _ rfl (by decide) _ rfl rfl rfl
      exact op_val (by simp [go_sem, ev' e73, ev' e74]) (hK _ hw)
    | 22, ho, hv =>
      cases ho; cases hv
      refine .inl ⟨rfl, fun done a W hd hp hk hw K hK => ?_⟩
      have e72 := hk.at_ 18 _ 72 _ rfl (by decide) _ rfl rfl rfl
      have e75 := hk.at_ 21 _ 75 _ rfl (by decide) _ rfl rfl rfl
      exact op_val (by simp [go_sem, ev' e72, ev' e75]) (hK _ hw)
    | 23, ho, hv =>
      cases ho; cases hv
      refine .inl ⟨rfl, fun done a W hd hp hk hw K hK => ?_⟩
      have e76 := hk.at_ 22 _ 76 _ rfl (by decide) _ rfl rfl rfl
      exact op_val (by simp [go_sem, ev' e76]) (hK _ hw)
    | 24, ho, hv =>
      cases ho; cases hv
      refine .inl ⟨rfl, fun done a W hd hp hk hw K hK => ?_⟩
      have e3 := hk.same 3 (by decide)
      exact op_val (by simp [go_sem, ev' e3, (HBp3.out.aft hw).cell 0, (HBp3.out.aft hw).cell 1]) (hK _ hw)
    | 25, ho, hv =>
      cases ho; cases hv
      refine .inl ⟨rfl, fun done a W hd hp hk hw K hK => ?_⟩
      have e1 := hk.same 1 (by decide)
      exact op_val (by simp [go_sem, ev' e1, (HBp1.out.aft hw).cell 0, (HBp1.out.aft hw).cell 1]) (hK _ hw)
    | 26, ho, hv =>
      cases ho; cases hv
      refine .inl ⟨rfl, fun done a W hd hp hk hw K hK => ?_⟩
      have e78 := hk.at_ 24 _ 78 _ rfl (by decide) _ rfl rfl rfl
      have e79 := hk.at_ 25 _ 79 _ rfl (by decide) _ rfl rfl rfl
      exact op_val (by simp [go_sem, ev' e78, ev' e79]) (hK _ hw)
    | 27, ho, hv =>
      cases ho; cases hv
      refine .inl ⟨rfl, fun done a W hd hp hk hw K hK => ?_⟩
      have e77 := hk.at_ 23 _ 77 _ rfl (by decide) _ rfl rfl rfl
      have e80 := hk.at_ 26 _ 80 _ rfl (by decide) _ rfl rfl rfl
      exact op_val (by simp [go_sem, ev' e77, ev' e80]) (hK _ hw)
    | 28, ho, hv =>
      cases ho; cases hv
      refine .inl ⟨rfl, fun done a W hd hp hk hw K hK => ?_⟩
      have e81 := hk.at_ 27 _ 81 _ rfl (by decide) _ rfl rfl rfl
      exact op_val (by simp [go_sem, ev' e81]) (hK _ hw)
    | 29, ho, hv =>
      cases ho; cases hv
      refine .inl ⟨rfl, fun done a W hd hp hk hw K hK => ?_⟩
      have e5 := hk.same 5 (by decide)
      exact op_val (by simp [go_sem, ev' e5, (HBp5.out.aft hw).cell 0, (HBp5.out.aft hw).cell 1]) (hK _ hw)
    | 30, ho, hv =>
      cases ho; cases hv
      refine .inl ⟨rfl, fun done a W hd hp hk hw K hK => ?_⟩
      have e1 := hk.same 1 (by decide)
      exact op_val (by simp [go_sem, ev' e1, (HBp1.out.aft hw).cell 0, (HBp1.out.aft hw).cell 1]) (hK _ hw)
    | 31, ho, hv =>
      cases ho; cases hv
      refine .inl ⟨rfl, fun done a W hd hp hk hw K hK => ?_⟩
      have e83 := hk.at_ 29 _ 83 _ rfl (by decide) _ rfl rfl rfl
      have e84 := hk.at_ 30 _ 84 _ rfl (by decide) _ rfl rfl rfl
      exact op_val (by simp [go_sem, ev' e83, ev' e84]) (hK _ hw)
    | 32, ho, hv =>
      cases ho; cases hv
      refine .inl ⟨rfl, fun done a W hd hp hk hw K hK => ?_⟩
      have e82 := hk.at_ 28 _ 82 _ rfl (by decide) _ rfl rfl rfl
      have e85 := hk.at_ 31 _ 85 _ rfl (by decide) _ rfl rfl rfl
      exact op_val (by simp [go_sem, ev' e82, ev' e85]) (hK _ hw)
    | 33, ho, hv =>
      cases ho; cases hv
      refine .inl ⟨rfl, fun done a W hd hp hk hw K hK => ?_⟩
      have e86 := hk.at_ 32 _ 86 _ rfl (by decide) _ rfl rfl rfl
      exact op_val (by simp [go_sem, ev' e86]) (hK _ hw)
    | 34, ho, hv =>
      cases ho; cases hv
      refine .inl ⟨rfl, fun done a W hd hp hk hw K hK => ?_⟩
      have e7 := hk.same 7 (by decide)
      exact op_val (by simp [go_sem, ev' e7, (HBp7.out.aft hw).cell 0, (HBp7.out.aft hw).cell 1, (HBp7.out.aft hw).cell 2, (HBp7.out.aft hw).cell 3]) (hK _ hw)
    | 35, ho, hv =>
      cases ho; cases hv
      refine .inl ⟨rfl, fun done a W hd hp hk hw K hK => ?_⟩
      refine op_callN rfl rfl rfl _ rfl (vs := #[.int .i64 10, .int .i64 1]) (by simp [Act.eval]) (ratioL_any 10 1 W) ?_
      rintro e w7 ⟨rfl, hw7⟩
      exact ⟨_, rfl, hK _ (hw.trans hw7)⟩
    | 36, ho, hv =>
      cases ho; cases hv
      refine .inl ⟨rfl, fun done a W hd hp hk hw K hK => ?_⟩
      refine op_callN rfl rfl rfl _ rfl (vs := #[.int .i64 13, .int .i64 1]) (by simp [Act.eval]) (ratioL_any 13 1 W) ?_
      rintro e w7 ⟨rfl, hw7⟩
      exact ⟨_, rfl, hK _ (hw.trans hw7)⟩
    | 37, ho, hv =>
      cases ho; cases hv
      refine .inl ⟨rfl, fun done a W hd hp hk hw K hK => ?_⟩
      have e89 := hk.at_ 35 _ 89 _ rfl (by decide) _ rfl rfl rfl
      have e90 := hk.at_ 36 _ 90 _ rfl (by decide) _ rfl rfl rfl
      exact op_val (by simp [go_sem, ev' e89, ev' e90]) (hK _ hw)
    | 38, ho, hv =>
      cases ho; cases hv
      refine .inl ⟨rfl, fun done a W hd hp hk hw K hK => ?_⟩
      have e88 := hk.at_ 34 _ 88 _ rfl (by decide) _ rfl rfl rfl
      have e91 := hk.at_ 37 _ 91 _ rfl (by decide) _ rfl rfl rfl
      exact op_val (by simp [go_sem, ev' e88, ev' e91]) (hK _ hw)
    | 39, ho, hv =>
      cases ho; cases hv
      refine .inl ⟨rfl, fun done a W hd hp hk hw K hK => ?_⟩
      have e87 := hk.at_ 33 _ 87 _ rfl (by decide) _ rfl rfl rfl
      have e92 := hk.at_ 38 _ 92 _ rfl (by decide) _ rfl rfl rfl
      exact op_val (by simp [go_sem, ev' e87, ev' e92]) (hK _ hw)
    | 40, ho, hv =>
      cases ho; cases hv
      refine .inl ⟨rfl, fun done a W hd hp hk hw K hK => ?_⟩
      have e93 := hk.at_ 39 _ 93 _ rfl (by decide) _ rfl rfl rfl
      exact op_val (by simp [go_sem, ev' e93]) (hK _ hw)
    | 41, ho, hv =>
      cases ho; cases hv
      refine .inl ⟨rfl, fun done a W hd hp hk hw K hK => ?_⟩
      have e8 := hk.same 8 (by decide)
      exact op_val (by simp [go_sem, ev' e8, (HBp8.out.aft hw).cell 0, (HBp8.out.aft hw).cell 1, (HBp8.out.aft hw).cell 2, (HBp8.out.aft hw).cell 3]) (hK _ hw)
    | 42, ho, hv =>
      cases ho; cases hv
      refine .inl ⟨rfl, fun done a W hd hp hk hw K hK => ?_⟩
      refine op_callN rfl rfl rfl _ rfl (vs := #[.int .i64 (-3), .int .i64 1]) (by simp [Act.eval]) (ratioL_any (-3) 1 W) ?_
      rintro e w7 ⟨rfl, hw7⟩
      exact ⟨_, rfl, hK _ (hw.trans hw7)⟩
    | 43, ho, hv =>
      cases ho; cases hv
      refine .inl ⟨rfl, fun done a W hd hp hk hw K hK => ?_⟩
      refine op_callN rfl rfl rfl _ rfl (vs := #[.int .i64 3, .int .i64 1]) (by simp [Act.eval]) (ratioL_any 3 1 W) ?_
      rintro e w7 ⟨rfl, hw7⟩
      exact ⟨_, rfl, hK _ (hw.trans hw7)⟩
    | 44, ho, hv =>
      cases ho; cases hv
      refine .inl ⟨rfl, fun done a W hd hp hk hw K hK => ?_⟩
      have e96 := hk.at_ 42 _ 96 _ rfl (by decide) _ rfl rfl rfl
      have e97 := hk.at_ 43 _ 97 _ rfl (by decide) _ rfl rfl rfl
      exact op_val (by simp [go_sem, ev' e96, ev' e97]) (hK _ hw)
    | 45, ho, hv =>
      cases ho; cases hv
      refine .inl ⟨rfl, fun done a W hd hp hk hw K hK => ?_⟩
      have e95 := hk.at_ 41 _ 95 _ rfl (by decide) _ rfl rfl rfl
      have e98 := hk.at_ 44 _ 98 _ rfl (by decide) _ rfl rfl rfl
      exact op_val (by simp [go_sem, ev' e95, ev' e98]) (hK _ hw)
    | 46, ho, hv =>
      cases ho; cases hv
      refine .inl ⟨rfl, fun done a W hd hp hk hw K hK => ?_⟩
      have e94 := hk.at_ 40 _ 94 _ rfl (by decide) _ rfl rfl rfl
      have e99 := hk.at_ 45 _ 99 _ rfl (by decide) _ rfl rfl rfl
      exact op_val (by simp [go_sem, ev' e94, ev' e99]) (hK _ hw)
    | 47, ho, hv =>
      cases ho; cases hv
      refine .inl ⟨rfl, fun done a W hd hp hk hw K hK => ?_⟩
      have e100 := hk.at_ 46 _ 100 _ rfl (by decide) _ rfl rfl rfl
      exact op_val (by simp [go_sem, ev' e100]) (hK _ hw)
    | 48, ho, hv =>
      cases ho; cases hv
      refine .inl ⟨rfl, fun done a W hd hp hk hw K hK => ?_⟩
      have e10 := hk.same 10 (by decide)
      exact op_val (by simp [go_sem, ev' e10, (HBp10.out.aft hw).cell 0, (HBp10.out.aft hw).cell 1, (HBp10.out.aft hw).cell 2, (HBp10.out.aft hw).cell 3]) (hK _ hw)
    | 49, ho, hv =>
      cases ho; cases hv
      refine .inl ⟨rfl, fun done a W hd hp hk hw K hK => ?_⟩
      refine op_callN rfl rfl rfl _ rfl (vs := #[.int .i64 12, .int .i64 1]) (by simp [Act.eval]) (ratioL_any 12 1 W) ?_
      rintro e w7 ⟨rfl, hw7⟩
      exact ⟨_, rfl, hK _ (hw.trans hw7)⟩
    | 50, ho, hv =>
      cases ho; cases hv
      refine .inl ⟨rfl, fun done a W hd hp hk hw K hK => ?_⟩
      refine op_callN rfl rfl rfl _ rfl (vs := #[.int .i64 12, .int .i64 1]) (by simp [Act.eval]) (ratioL_any 12 1 W) ?_
      rintro e w7 ⟨rfl, hw7⟩
      exact ⟨_, rfl, hK _ (hw.trans hw7)⟩
    | 51, ho, hv =>
      cases ho; cases hv
      refine .inl ⟨rfl, fun done a W hd hp hk hw K hK => ?_⟩
      have e103 := hk.at_ 49 _ 103 _ rfl (by decide) _ rfl rfl rfl
      have e104 := hk.at_ 50 _ 104 _ rfl (by decide) _ rfl rfl rfl
      exact op_val (by simp [go_sem, ev' e103, ev' e104]) (hK _ hw)
    | 52, ho, hv =>
      cases ho; cases hv
      refine .inl ⟨rfl, fun done a W hd hp hk hw K hK => ?_⟩
      have e102 := hk.at_ 48 _ 102 _ rfl (by decide) _ rfl rfl rfl
      have e105 := hk.at_ 51 _ 105 _ rfl (by decide) _ rfl rfl rfl
      exact op_val (by simp [go_sem, ev' e102, ev' e105]) (hK _ hw)
    | _ + 53, _, hv => cases hv
  intro done W hd hw
  simp only [List.drop_succ_cons, List.drop_zero, List.zip_cons_cons, List.zip_nil_right, putAll]
  simp only [Act.put, List.setIfInBounds_toArray, List.set]
  clear hd
  have HBp1 := Lib.hid (HBp1.out.aft hw)
  have HBp3 := Lib.hid (HBp3.out.aft hw)
  have HA := Lib.hid (HA.out.trans hw)
  clear hw HBp5 HBp7 HBp8 HBp10 HBp11
  go_upto_region 8 with fail
  have HA := Lib.hid (HA.out.trans (Aft.refl _))
  (repeat (first | go_big_skip | go_big_want | go_big_move | go_big_op | go_step | go_upon | go_back))
  go_at_call 53
  refine (ring_any _).mono ?_
  rintro e x19 ⟨b, rfl, hq, ha⟩
  dsimp only
  have HBp1 := Lib.hid (HBp1.out.aft (ha))
  have HBp3 := Lib.hid (HBp3.out.aft (ha))
  have HA := Lib.hid (HA.out.trans (ha))
  have HQ := Lib.hid hq
  clear hq ha
  (repeat (first | go_big_skip | go_big_want | go_big_move | go_big_op | go_step | go_upon | go_back))
  go_at_call 12
  refine (aw12b HQ.out).mono ?_
  rintro e x20 ⟨rfl, ha⟩
  dsimp only
  have HBp1 := Lib.hid (HBp1.out.aft (ha))
  have HBp3 := Lib.hid (HBp3.out.aft (ha))
  have HA := Lib.hid (HA.out.trans (ha))
  clear ha HQ
  have hne : (p3 : Nat) ≠ p1 := by omega
  have c0 := HBp1.out.cell 0
  have c1 := HBp1.out.cell 1
  have c2 := HBp1.out.frozen 0
  have c3 := HBp1.out.frozen 1
  have c4 := HBp1.out.lt
  simp only [List.getElem?_toArray, List.getElem?_cons_zero, List.getElem?_cons_succ] at c0 c1
  go_upto_region 9 with fail
  clear c0 c1 c2 c3 c4
  have HA := Lib.hid ((HA.out.then_setCell (p := ⟨p1, 0, none⟩) hp1ge (.int .i64 1)).then_setCell (p := ⟨p1, 1, none⟩) hp1ge (.int .i64 1))
  have HBp1 : Hid (Blk ((x20.setCell ⟨p1, 0, none⟩ (.int .i64 1)).setCell ⟨p1, 1, none⟩ (.int .i64 1)) p1 37 #[.int .i64 1, .int .i64 1]) := Lib.hid ((HBp1.out.store 0 (.int .i64 1)).store 1 (.int .i64 1))
  have HBp3 := Lib.hid ((HBp3.out.far (p := ⟨p1, 0, none⟩) hne (.int .i64 1)).far (p := ⟨p1, 1, none⟩) hne (.int .i64 1))
  generalize (x20.setCell ⟨p1, 0, none⟩ (.int .i64 1)).setCell ⟨p1, 1, none⟩ (.int .i64 1) = y21 at *
  (repeat (first | go_big_skip | go_big_want | go_big_move | go_big_op | go_step | go_upon | go_back))
  go_at_call 53
  refine (ring_any _).mono ?_
  rintro e x22 ⟨b, rfl, hq, ha⟩
  dsimp only
  have HBp1 := Lib.hid (HBp1.out.aft (ha))
  have HBp3 := Lib.hid (HBp3.out.aft (ha))
  have HA := Lib.hid (HA.out.trans (ha))
  have HQ := Lib.hid hq
  clear hq ha
  (repeat (first | go_big_skip | go_big_want | go_big_move | go_big_op | go_step | go_upon | go_back))
  go_at_call 52
  refine (shifted_any _ [0, 0, 0, 0] _ _ (ints_of_blk (Blk.new _ _ _) rfl (by decide)) (by decide)).mono ?_
  rintro e x23 ⟨v, rfl, ho, ha⟩
  dsimp only
  have HBp1 := Lib.hid (HBp1.out.aft ((Aft.alloc _ _).trans ha))
  have HBp3 := Lib.hid (HBp3.out.aft ((Aft.alloc _ _).trans ha))
  have HQ := Lib.hid (HQ.out.aft ((Aft.alloc _ _).trans ha))
  have HA := Lib.hid (HA.out.trans ((Aft.alloc _ _).trans ha))
  obtain ⟨A, c, rfl, -, hs, -⟩ := own_flat (enc := enc4) (fun _ => rfl) ho (by decide)
  have HS := Lib.hid hs
  rw [show ([0, 0, 0, 0].map shI).length = 4 from rfl]
  clear ha ho hs
  (repeat (first | go_big_skip | go_big_want | go_big_move | go_big_op | go_step | go_upon | go_back))
  go_at_call 37
  refine (aw37b HQ.out HS.out).mono ?_
  rintro e x24 ⟨rfl, ha⟩
  dsimp only
  have HBp1 := Lib.hid (HBp1.out.aft (ha))
  have HBp3 := Lib.hid (HBp3.out.aft (ha))
  have HA := Lib.hid (HA.out.trans (ha))
  clear ha HQ HS hne
  have hne : (p1 : Nat) ≠ p3 := by omega
  have c0 := HBp3.out.cell 0
  have c1 := HBp3.out.cell 1
  have c2 := HBp3.out.frozen 0
  have c3 := HBp3.out.frozen 1
  have c4 := HBp3.out.lt
  simp only [List.getElem?_toArray, List.getElem?_cons_zero, List.getElem?_cons_succ] at c0 c1
  go_upto_region 10 with fail
  clear c0 c1 c2 c3 c4
  have HA := Lib.hid ((HA.out.then_setCell (p := ⟨p3, 0, none⟩) hp3ge (.int .i64 1)).then_setCell (p := ⟨p3, 1, none⟩) hp3ge (.int .i64 1))
  have HBp3 : Hid (Blk ((x24.setCell ⟨p3, 0, none⟩ (.int .i64 1)).setCell ⟨p3, 1, none⟩ (.int .i64 1)) p3 37 #[.int .i64 1, .int .i64 1]) := Lib.hid ((HBp3.out.store 0 (.int .i64 1)).store 1 (.int .i64 1))
  have HBp1 := Lib.hid ((HBp1.out.far (p := ⟨p3, 0, none⟩) hne (.int .i64 1)).far (p := ⟨p3, 1, none⟩) hne (.int .i64 1))
  generalize (x24.setCell ⟨p3, 0, none⟩ (.int .i64 1)).setCell ⟨p3, 1, none⟩ (.int .i64 1) = y25 at *
  (repeat (first | go_big_skip | go_big_want | go_big_move | go_big_op | go_step | go_upon | go_back))
  go_at_call 54
  refine (edges_any _).mono ?_
  rintro e x26 ⟨b1, b2, rfl, hq1, hq2, ha⟩
  dsimp only
  have HBp1 := Lib.hid (HBp1.out.aft (ha))
  have HBp3 := Lib.hid (HBp3.out.aft (ha))
  have HA := Lib.hid (HA.out.trans (ha))
  have HQ1 := Lib.hid hq1
  have HQ2 := Lib.hid hq2
  clear hq1 hq2 ha
  (repeat (first | go_big_skip | go_big_want | go_big_move | go_big_op | go_step | go_upon | go_back))
  go_at_call 25
  refine (aw25 HQ1.out HQ2.out).mono ?_
  rintro e x27 ⟨⟨A, c, rfl⟩, ha⟩
  dsimp only
  have HBp1 := Lib.hid (HBp1.out.aft (ha))
  have HBp3 := Lib.hid (HBp3.out.aft (ha))
  have HQ1 := Lib.hid (HQ1.out.aft (ha))
  have HQ2 := Lib.hid (HQ2.out.aft (ha))
  have HA := Lib.hid (HA.out.trans (ha))
  clear ha
  (repeat (first | go_big_skip | go_big_want | go_big_move | go_big_op | go_step | go_upon | go_back))
  go_at_call 20
  refine (aw20 (HQ1.out.aft (Aft.alloc _ _)) (HQ2.out.aft (Aft.alloc _ _)) (Blk.new _ _ _)).mono ?_
  rintro e x28 ⟨rfl, ha⟩
  dsimp only
  have HBp1 := Lib.hid (HBp1.out.aft ((Aft.alloc _ _).trans ha))
  have HBp3 := Lib.hid (HBp3.out.aft ((Aft.alloc _ _).trans ha))
  have HQ1 := Lib.hid (HQ1.out.aft ((Aft.alloc _ _).trans ha))
  have HQ2 := Lib.hid (HQ2.out.aft ((Aft.alloc _ _).trans ha))
  have HA := Lib.hid (HA.out.trans ((Aft.alloc _ _).trans ha))
  clear ha
  (repeat (first | go_big_skip | go_big_want | go_big_move | go_big_op | go_step | go_upon | go_back))
  go_at_call 23
  refine (aw23 (HQ1.out.aft ((((Aft.alloc _ _).then_alloc _).then_alloc _).then_alloc _)) (HQ2.out.aft ((((Aft.alloc _ _).then_alloc _).then_alloc _).then_alloc _)) ((((Blk.new _ _ _).alloc _).alloc _).alloc _) (((blk_2 _ _ _ _).alloc _).alloc _) ((blk_3 _ _ _ _ _).alloc _) (blk_4 _ _ _ _ _ _)).mono ?_
  rintro e x29 ⟨rfl, ha⟩
  dsimp only
  have HBp1 := Lib.hid (HBp1.out.aft (((((Aft.alloc _ _).then_alloc _).then_alloc _).then_alloc _).trans ha))
  have HBp3 := Lib.hid (HBp3.out.aft (((((Aft.alloc _ _).then_alloc _).then_alloc _).then_alloc _).trans ha))
  have HA := Lib.hid (HA.out.trans (((((Aft.alloc _ _).then_alloc _).then_alloc _).then_alloc _).trans ha))
  clear ha HQ1 HQ2
  go_upto_region 14 with fail
  refine wp_region_valsT (by kernel_rfl) 40 189 rfl (by kernel_rfl) (by kernel_rfl) (by kernel_rfl) [.int .i64 0, .bool true, .bool true, .int .i64 0, .bool true, .bool true, .bool true, .int .i64 0, .bool true, .bool true, .bool true, .int .i64 0, .bool true, .bool true, .bool true, .int .i64 0, .bool true, .bool true, .bool true, .agg #[.int .i64 1, .int .i64 1], .agg #[.int .i64 1, .int .i64 1], .bool true, .bool true, .bool true, .agg #[.int .i64 1, .int .i64 1], .agg #[.int .i64 1, .int .i64 1], .bool true, .bool true, .bool true, .slice A 2 c, .int .i64 2, .bool true, .bool true, .bool true, .bool true, .bool true, .bool true, .int .i64 2, .bool true, .bool true] rfl (fun _ W => Aft x29 W) (Aft.drew _) ?st2 ?fi2
  case st2 =>
    intro i o v ho hv
    match i, ho, hv with
    | 0, ho, hv =>
      cases ho; cases hv
      refine .inl ⟨rfl, fun done a W hd hp hk hw K hK => ?_⟩
      have e2 := hk.same 2 (by decide)
      exact op_val (by simp [go_sem, ev' e2]) (hK _ hw)
    | 1, ho, hv =>
      cases ho; cases hv
      refine .inl ⟨rfl, fun done a W hd hp hk hw K hK => ?_⟩
      have e149 := hk.at_ 0 _ 149 _ rfl (by decide) _ rfl rfl rfl
      exact op_val (by simp [go_sem, ev' e149]) (hK _ hw)
    | 2, ho, hv =>
      cases ho; cases hv
      refine .inl ⟨rfl, fun done a W hd hp hk hw K hK => ?_⟩
      have e150 := hk.at_ 1 _ 150 _ rfl (by decide) _ rfl rfl rfl
      exact op_val (by simp [go_sem, ev' e150]) (hK _ hw)
    | 3, ho, hv =>
      cases ho; cases hv
      refine .inl ⟨rfl, fun done a W hd hp hk hw K hK => ?_⟩
      have e4 := hk.same 4 (by decide)
      exact op_val (by simp [go_sem, ev' e4]) (hK _ hw)
    | 4, ho, hv =>
      cases ho; cases hv
      refine .inl ⟨rfl, fun done a W hd hp hk hw K hK => ?_⟩
      have e152 := hk.at_ 3 _ 152 _ rfl (by decide) _ rfl rfl rfl
      exact op_val (by simp [go_sem, ev' e152]) (hK _ hw)
    | 5, ho, hv =>
      cases ho; cases hv
      refine .inl ⟨rfl, fun done a W hd hp hk hw K hK => ?_⟩
      have e151 := hk.at_ 2 _ 151 _ rfl (by decide) _ rfl rfl rfl
      have e153 := hk.at_ 4 _ 153 _ rfl (by decide) _ rfl rfl rfl
      exact op_val (by simp [go_sem, ev' e151, ev' e153]) (hK _ hw)
    | 6, ho, hv =>
      cases ho; cases hv
      refine .inl ⟨rfl, fun done a W hd hp hk hw K hK => ?_⟩
      have e154 := hk.at_ 5 _ 154 _ rfl (by decide) _ rfl rfl rfl
      exact op_val (by simp [go_sem, ev' e154]) (hK _ hw)
    | 7, ho, hv =>
      cases ho; cases hv
      refine .inl ⟨rfl, fun done a W hd hp hk hw K hK => ?_⟩
      have e6 := hk.same 6 (by decide)
      exact op_val (by simp [go_sem, ev' e6]) (hK _ hw)
    | 8, ho, hv =>
      cases ho; cases hv
      refine .inl ⟨rfl, fun done a W hd hp hk hw K hK => ?_⟩
      have e156 := hk.at_ 7 _ 156 _ rfl (by decide) _ rfl rfl rfl
      exact op_val (by simp [go_sem, ev' e156]) (hK _ hw)
    | 9, ho, hv =>
      cases ho; cases hv
      refine .inl ⟨rfl, fun done a W hd hp hk hw K hK => ?_⟩
      have e155 := hk.at_ 6 _ 155 _ rfl (by decide) _ rfl rfl rfl
      have e157 := hk.at_ 8 _ 157 _ rfl (by decide) _ rfl rfl rfl
      exact op_val (by simp [go_sem, ev' e155, ev' e157]) (hK _ hw)
    | 10, ho, hv =>
      cases ho; cases hv
      refine .inl ⟨rfl, fun done a W hd hp hk hw K hK => ?_⟩
      have e158 := hk.at_ 9 _ 158 _ rfl (by decide) _ rfl rfl rfl
      exact op_val (by simp [go_sem, ev' e158]) (hK _ hw)
    | 11, ho, hv =>
      cases ho; cases hv
      refine .inl ⟨rfl, fun done a W hd hp hk hw K hK => ?_⟩
      have e9 := hk.same 9 (by decide)
      exact op_val (by simp [go_sem, ev' e9]) (hK _ hw)
    | 12, ho, hv =>
      cases ho; cases hv
      refine .inl ⟨rfl, fun done a W hd hp hk hw K hK => ?_⟩
      have e160 := hk.at_ 11 _ 160 _ rfl (by decide) _ rfl rfl rfl
      exact op_val (by simp [go_sem, ev' e160]) (hK _ hw)
    | 13, ho, hv =>
      cases ho; cases hv
      refine .inl ⟨rfl, fun done a W hd hp hk hw K hK => ?_⟩
      have e159 := hk.at_ 10 _ 159 _ rfl (by decide) _ rfl rfl rfl
      have e161 := hk.at_ 12 _ 161 _ rfl (by decide) _ rfl rfl rfl
      exact op_val (by simp [go_sem, ev' e159, ev' e161]) (hK _ hw)
    | 14, ho, hv =>
      cases ho; cases hv
      refine .inl ⟨rfl, fun done a W hd hp hk hw K hK => ?_⟩
      have e162 := hk.at_ 13 _ 162 _ rfl (by decide) _ rfl rfl rfl
      exact op_val (by simp [go_sem, ev' e162]) (hK _ hw)
    | 15, ho, hv =>
      cases ho; cases hv
      refine .inl ⟨rfl, fun done a W hd hp hk hw K hK => ?_⟩
      have e12 := hk.same 12 (by decide)
      exact op_val (by simp [go_sem, ev' e12]) (hK _ hw)
    | 16, ho, hv =>
      cases ho; cases hv
      refine .inl ⟨rfl, fun done a W hd hp hk hw K hK => ?_⟩
      have e164 := hk.at_ 15 _ 164 _ rfl (by decide) _ rfl rfl rfl
      exact op_val (by simp [go_sem, ev' e164]) (hK _ hw)
    | 17, ho, hv =>
      cases ho; cases hv
      refine .inl ⟨rfl, fun done a W hd hp hk hw K hK => ?_⟩
      have e163 := hk.at_ 14 _ 163 _ rfl (by decide) _ rfl rfl rfl
      have e165 := hk.at_ 16 _ 165 _ rfl (by decide) _ rfl rfl rfl
      exact op_val (by simp [go_sem, ev' e163, ev' e165]) (hK _ hw)
    | 18, ho, hv =>
      cases ho; cases hv
      refine .inl ⟨rfl, fun done a W hd hp hk hw K hK => ?_⟩
      have e166 := hk.at_ 17 _ 166 _ rfl (by decide) _ rfl rfl rfl
      exact op_val (by simp [go_sem, ev' e166]) (hK _ hw)
    | 19, ho, hv =>
      cases ho; cases hv
      refine .inl ⟨rfl, fun done a W hd hp hk hw K hK => ?_⟩
      have e1 := hk.same 1 (by decide)
      exact op_val (by simp [go_sem, ev' e1, (HBp1.out.aft hw).cell 0, (HBp1.out.aft hw).cell 1]) (hK _ hw)
    | 20, ho, hv =>
      cases ho; cases hv
      refine .inl ⟨rfl, fun done a W hd hp hk hw K hK => ?_⟩
      refine op_callN rfl rfl rfl _ rfl (vs := #[.int .i64 1, .int .i64 1]) (by simp [Act.eval]) (ratioL_any 1 1 W) ?_
      rintro e w7 ⟨rfl, hw7⟩
      exact ⟨_, rfl, hK _ (hw.trans hw7)⟩
    | 21, ho, hv =>
      cases ho; cases hv
      refine .inl ⟨rfl, fun done a W hd hp hk hw K hK => ?_⟩
      have e168 := hk.at_ 19 _ 168 _ rfl (by decide) _ rfl rfl rfl
      have e169 := hk.at_ 20 _ 169 _ rfl (by decide) _ rfl rfl rfl
      exact op_val (by simp [go_sem, ev' e168, ev' e169]) (hK _ hw)
    | 22, ho, hv =>
      cases ho; cases hv
      refine .inl ⟨rfl, fun done a W hd hp hk hw K hK => ?_⟩
      have e167 := hk.at_ 18 _ 167 _ rfl (by decide) _ rfl rfl rfl
      have e170 := hk.at_ 21 _ 170 _ rfl (by decide) _ rfl rfl rfl
      exact op_val (by simp [go_sem, ev' e167, ev' e170]) (hK _ hw)
    | 23, ho, hv =>
      cases ho; cases hv
      refine .inl ⟨rfl, fun done a W hd hp hk hw K hK => ?_⟩
      have e171 := hk.at_ 22 _ 171 _ rfl (by decide) _ rfl rfl rfl
      exact op_val (by simp [go_sem, ev' e171]) (hK _ hw)
    | 24, ho, hv =>
      cases ho; cases hv
      refine .inl ⟨rfl, fun done a W hd hp hk hw K hK => ?_⟩
      have e3 := hk.same 3 (by decide)
      exact op_val (by simp [go_sem, ev' e3, (HBp3.out.aft hw).cell 0, (HBp3.out.aft hw).cell 1]) (hK _ hw)
    | 25, ho, hv =>
      cases ho; cases hv
      refine .inl ⟨rfl, fun done a W hd hp hk hw K hK => ?_⟩
      have e1 := hk.same 1 (by decide)
      exact op_val (by simp [go_sem, ev' e1, (HBp1.out.aft hw).cell 0, (HBp1.out.aft hw).cell 1]) (hK _ hw)
    | 26, ho, hv =>
      cases ho; cases hv
      refine .inl ⟨rfl, fun done a W hd hp hk hw K hK => ?_⟩
      have e173 := hk.at_ 24 _ 173 _ rfl (by decide) _ rfl rfl rfl
      have e174 := hk.at_ 25 _ 174 _ rfl (by decide) _ rfl rfl rfl
      exact op_val (by simp [go_sem, ev' e173, ev' e174]) (hK _ hw)
    | 27, ho, hv =>
      cases ho; cases hv
      refine .inl ⟨rfl, fun done a W hd hp hk hw K hK => ?_⟩
      have e172 := hk.at_ 23 _ 172 _ rfl (by decide) _ rfl rfl rfl
      have e175 := hk.at_ 26 _ 175 _ rfl (by decide) _ rfl rfl rfl
      exact op_val (by simp [go_sem, ev' e172, ev' e175]) (hK _ hw)
    | 28, ho, hv =>
      cases ho; cases hv
      refine .inl ⟨rfl, fun done a W hd hp hk hw K hK => ?_⟩
      have e176 := hk.at_ 27 _ 176 _ rfl (by decide) _ rfl rfl rfl
      exact op_val (by simp [go_sem, ev' e176]) (hK _ hw)
    | 29, ho, hv =>
      cases ho; cases hv
      refine .inl ⟨rfl, fun done a W hd hp hk hw K hK => ?_⟩
      have e15 := hk.same 15 (by decide)
      exact op_val (by simp [go_sem, ev' e15]) (hK _ hw)
    | 30, ho, hv =>
      cases ho; cases hv
      refine .inl ⟨rfl, fun done a W hd hp hk hw K hK => ?_⟩
      have e178 := hk.at_ 29 _ 178 _ rfl (by decide) _ rfl rfl rfl
      exact op_val (by simp [go_sem, ev' e178]) (hK _ hw)
    | 31, ho, hv =>
      cases ho; cases hv
      refine .inl ⟨rfl, fun done a W hd hp hk hw K hK => ?_⟩
      have e179 := hk.at_ 30 _ 179 _ rfl (by decide) _ rfl rfl rfl
      exact op_val (by simp [go_sem, ev' e179]) (hK _ hw)
    | 32, ho, hv =>
      cases ho; cases hv
      refine .inl ⟨rfl, fun done a W hd hp hk hw K hK => ?_⟩
      have e177 := hk.at_ 28 _ 177 _ rfl (by decide) _ rfl rfl rfl
      have e180 := hk.at_ 31 _ 180 _ rfl (by decide) _ rfl rfl rfl
      exact op_val (by simp [go_sem, ev' e177, ev' e180]) (hK _ hw)
    | 33, ho, hv =>
      cases ho; cases hv
      refine .inl ⟨rfl, fun done a W hd hp hk hw K hK => ?_⟩
      have e181 := hk.at_ 32 _ 181 _ rfl (by decide) _ rfl rfl rfl
      exact op_val (by simp [go_sem, ev' e181]) (hK _ hw)
    | 34, ho, hv =>
      cases ho; cases hv
      refine .inl ⟨rfl, fun done a W hd hp hk hw K hK => ?_⟩
      have e16 := hk.same 16 (by decide)
      exact op_val (by simp [go_sem, ev' e16]) (hK _ hw)
    | 35, ho, hv =>
      cases ho; cases hv
      refine .inl ⟨rfl, fun done a W hd hp hk hw K hK => ?_⟩
      have e182 := hk.at_ 33 _ 182 _ rfl (by decide) _ rfl rfl rfl
      have e183 := hk.at_ 34 _ 183 _ rfl (by decide) _ rfl rfl rfl
      exact op_val (by simp [go_sem, ev' e182, ev' e183]) (hK _ hw)
    | 36, ho, hv =>
      cases ho; cases hv
      refine .inl ⟨rfl, fun done a W hd hp hk hw K hK => ?_⟩
      have e184 := hk.at_ 35 _ 184 _ rfl (by decide) _ rfl rfl rfl
      exact op_val (by simp [go_sem, ev' e184]) (hK _ hw)
    | 37, ho, hv =>
      cases ho; cases hv
      refine .inl ⟨rfl, fun done a W hd hp hk hw K hK => ?_⟩
      have e17 := hk.same 17 (by decide)
      exact op_val (by simp [go_sem, ev' e17]) (hK _ hw)
    | 38, ho, hv =>
      cases ho; cases hv
      refine .inl ⟨rfl, fun done a W hd hp hk hw K hK => ?_⟩
      have e186 := hk.at_ 37 _ 186 _ rfl (by decide) _ rfl rfl rfl
      exact op_val (by simp [go_sem, ev' e186]) (hK _ hw)
    | 39, ho, hv =>
      cases ho; cases hv
      refine .inl ⟨rfl, fun done a W hd hp hk hw K hK => ?_⟩
      have e185 := hk.at_ 36 _ 185 _ rfl (by decide) _ rfl rfl rfl
      have e187 := hk.at_ 38 _ 187 _ rfl (by decide) _ rfl rfl rfl
      exact op_val (by simp [go_sem, ev' e185, ev' e187]) (hK _ hw)
    | _ + 40, _, hv => cases hv
  intro done W hd hw
  simp only [List.drop_succ_cons, List.drop_zero, List.zip_cons_cons, List.zip_nil_right, putAll]
  simp only [Act.put, List.setIfInBounds_toArray, List.set]
  clear hd
  have HAW := Lib.hid (HA.out.trans hw)
  clear hw
  go_wp2_with fail
  go_ret
  exact ⟨rfl, HAW.out⟩
end Go.Proofs
end
