/- Own texts, merged: Mgc Mge Mgg Ctr Rpc Tab. -/
import Derived.Test.YtobpdobneocckaaGreatDoorG06
import Derived.Test.YtobpdobneocckaaGreatDoorG09
import Derived.Shelf.Slices.Cells
import Derived.Deep.OwnRows
set_option linter.unusedSimpArgs false
set_option linter.unusedVariables false
section
/- Walks: a made treaty: how a leg is added. -/
namespace Go.Proofs
open Go.RowKit

def LegOk (nW : Int) (x : Leg) : Prop := 0 ≤ x.word ∧ x.word < nW ∧ -1 ≤ x.other ∧ x.other < nW

structure W21 (w0 : World) (d : Nat) (A : Option Addr) (l : List Int) (c m : Nat) (wE W8 : World) (B base n : Nat) (P : Int) (z1 z3 v4 : Value) (A2 : Option Addr) (nW c2 : Nat) (xs : List Value) (done : Nat → Bool) (w : World) : Prop where
  deck : DeckAt w0 d A l c (m + b1 (done 6) + b1 (done 12)) w
  grown : wE.grownBy w (some d)
  size : base ≤ w.heap.size
  keep : W8.heap.size ≤ w.heap.size ∧ ∀ k, k < W8.heap.size → k ≠ d → k ≠ B → v4.ownBlock ≠ some k → w.heap[k]? = W8.heap[k]?
  box : done 17 = false → Blk w B 27 #[.int .i64 P, z1, .slice A2 nW c2, z3, v4]
  own : done 15 = false → w.ownsRow base 70 2 v4 n xs
  fin : done 17 = true → ∃ v' lg, LegOk nW lg ∧ Blk w B 27 #[.int .i64 P, z1, .slice A2 nW c2, z3, v'] ∧ w.ownsRow base 70 2 v' (n + 1) (xs ++ encLeg lg)

def Fact21 (d B base n : Nat) (nW c2 : Nat) (A2 : Option Addr) (v4 : Value) (xs : List Value) : Nat → Value → World → Prop
  | 0, v, _ => v = .pointer (some ⟨B, 4, none⟩)
  | 1, v, _ => v = v4
  | 2, v, _ => v = .pointer (some ⟨d, 0, none⟩)
  | 3, v, _ => v = .pointer (some ⟨B, 2, none⟩)
  | 4, v, _ => v = .slice A2 nW c2
  | 5, v, _ => v = .int .i64 nW
  | 6, v, _ => ∃ x, v = .int .i64 x ∧ 0 ≤ x ∧ x < (nW : Int)
  | 7, v, _ => v = .pointer (some ⟨d, 0, none⟩)
  | 8, v, _ => v = .pointer (some ⟨B, 2, none⟩)
  | 9, v, _ => v = .slice A2 nW c2
  | 10, v, _ => v = .int .i64 nW
  | 11, v, _ => v = .int .i64 (nW - 1)
  | 12, v, _ => ∃ x, v = .int .i64 x ∧ -1 ≤ x ∧ x < (nW : Int)
  | 13, v, _ => ∃ lg : Leg, LegOk nW lg ∧ v = .agg #[.int .i64 lg.word, .int .i64 lg.other]
  | 14, v, w => ∃ lg : Leg, LegOk nW lg ∧ ∃ b, v = .slice (some ⟨b, 0, none⟩) 1 1 ∧ Blk w b 70 (encLeg lg).toArray ∧ v4.ownBlock ≠ some b ∧ B < b
  | 15, v, w => ∃ lg : Leg, LegOk nW lg ∧ w.ownsRow base 70 2 v (n + 1) (xs ++ encLeg lg)
  | 16, v, _ => v = .pointer (some ⟨B, 4, none⟩)
  | _, _, _ => True
theorem Fact21.kept {d B base n nW c2 : Nat} {A2 : Option Addr} {v4 : Value} {xs : List Value} {w w' : World} {row : Option Nat} (hg : w.grownBy w' row) (hr : ∀ k, row = some k → k < base ∧ (k = d ∨ k = B) ∧ d < B) {i : Nat} {v : Value} (h : Fact21 d B base n nW c2 A2 v4 xs i v w) : Fact21 d B base n nW c2 A2 v4 xs i v w' := by
  unfold Fact21 at h ⊢
  split at h <;> first
    | exact h
    | (obtain ⟨lg, h1, b, h2, h3, h4, h5⟩ := h; exact ⟨lg, h1, b, h2, h3.grown hg (fun e => by have := hr b e.symm; omega), h4, h5⟩)
    | (obtain ⟨lg, h1, h2⟩ := h; refine ⟨lg, h1, h2.kept hg ?_⟩; cases hb : v.ownBlock with
        | none => exact .inl rfl
        | some g => exact .inr fun e => by have := (h2.lt g hb).1; have := hr g (by rw [← e]); omega)
theorem Fact21.low {d B base n nW c2 : Nat} {A2 : Option Addr} {v4 : Value} {xs : List Value} {w w' : World} {i : Nat} {v : Value} (hi : i < 14) (h : Fact21 d B base n nW c2 A2 v4 xs i v w) : Fact21 d B base n nW c2 A2 v4 xs i v w' := by
  unfold Fact21 at h ⊢
  split at h <;> first | exact h | omega

section
variable {w0 : World} {d : Nat} {A : Option Addr} {l : List Int} {c m : Nat} {wE W8 : World} {B base n : Nat} {P : Int} {z1 z3 v4 : Value} {A2 : Option Addr} {nW c2 : Nat} {xs : List Value} {done : Nat → Bool} {w w' : World}
theorem W21.same (h : W21 w0 d A l c m wE W8 B base n P z1 z3 v4 A2 nW c2 xs done w) {i : Nat} (h8 : i ≠ 6) (h14 : i ≠ 12) (h17 : i ≠ 15) (h19 : i ≠ 17) : W21 w0 d A l c m wE W8 B base n P z1 z3 v4 A2 nW c2 xs (Go.upd done i) w := by
  have e : ∀ j, j ≠ i → Go.upd done i j = done j := fun j hj => by unfold Go.upd; rw [if_neg hj]
  refine ⟨?_, h.grown, h.size, h.keep, ?_, ?_, ?_⟩
  · rw [e 6 (Ne.symm h8), e 12 (Ne.symm h14)]; exact h.deck
  · rw [e 17 (Ne.symm h19)]; exact h.box
  · rw [e 15 (Ne.symm h17)]; exact h.own
  · rw [e 17 (Ne.symm h19)]; exact h.fin
theorem W21.kept (h : W21 w0 d A l c m wE W8 B base n P z1 z3 v4 A2 nW c2 xs done w) {row : Option Nat} (hg : w.grownBy w' row) (hr : ∀ k, row = some k → k = d ∨ k = B ∨ v4.ownBlock = some k) : W8.heap.size ≤ w'.heap.size ∧ ∀ k, k < W8.heap.size → k ≠ d → k ≠ B → v4.ownBlock ≠ some k → w'.heap[k]? = W8.heap[k]? :=
  ⟨Nat.le_trans h.keep.1 hg.size, fun k hk h1 h2 h3 => (hg.block k (Nat.lt_of_lt_of_le hk h.keep.1) (fun e => by rcases hr k e.symm with g | g | g <;> (first | exact h1 g | exact h2 g | exact h3 g))).trans (h.keep.2 k hk h1 h2 h3)⟩
end

set_option maxRecDepth 100000 in
set_option maxHeartbeats 2000000 in
theorem region21_made (w0 : World) (d : Nat) (A : Option Addr) (l : List Int) (c m : Nat) (wE : World) (B base n : Nat) (P : Int) (z1 z3 v4 : Value) (A2 : Option Addr) (nW c2 : Nat) (xs : List Value) (a0 : Act) (Q0 : Exit → Act → World → Prop) (W8 : World)
    (hz : a0.tmps.size = 105) (s0 : a0.eval (.tmp 0) = .pointer (some ⟨d, 0, none⟩)) (s5 : a0.eval (.tmp 5) = .pointer (some ⟨B, 0, none⟩)) (hW1 : 1 ≤ nW) (hW3 : nW ≤ 3)
    (hD : DeckAt w0 d A l c m W8) (hm : m ≤ 900000) (hg : wE.grownBy W8 (some d)) (hbx : Blk W8 B 27 #[.int .i64 P, z1, .slice A2 nW c2, z3, v4]) (hown : W8.ownsRow base 70 2 v4 n xs) (hn : n ≤ 100) (hBb : B < base) (hdB : d < B) (hE : wE.heap.size ≤ B) (hsz : base ≤ W8.heap.size)
    (hexit : ∀ a W' lg v', a.tmps.size = 105 → a.defers = a0.defers → (∀ s : Nat, (s < 86 ∨ 102 < s) → a.eval (.tmp s) = a0.eval (.tmp s)) → DeckAt w0 d A l c (m + 2) W' → wE.grownBy W' (some d) → base ≤ W'.heap.size →
      (W8.heap.size ≤ W'.heap.size ∧ ∀ k, k < W8.heap.size → k ≠ d → k ≠ B → v4.ownBlock ≠ some k → W'.heap[k]? = W8.heap[k]?) → Blk W' B 27 #[.int .i64 P, z1, .slice A2 nW c2, z3, v'] → LegOk nW lg → W'.ownsRow base 70 2 v' (n + 1) (xs ++ encLeg lg) → Q0 .normal a W') :
    Code.wp Tryz.prog (Code.region 21 (opsMade 21).toArray true) Q0 a0 W8 := by
  have HEX := Lib.hid hexit
  clear hexit
  refine wp_region_facts (by kernel_rfl) 105 hz (by kernel_rfl) (Fact21 d B base n nW c2 A2 v4 xs) (W21 w0 d A l c m wE W8 B base n P z1 z3 v4 A2 nW c2 xs) ⟨hD.aft (Aft.drew _), only_drew hg, hsz, ⟨Nat.le_refl _, fun _ _ _ _ _ => rfl⟩, fun _ => hbx.drew, fun _ => hown, fun h => by cases h⟩ ?step ?fin
  case step =>
    intro i o ho done a w hH hd hp K hK
    have hW := hH.wd
    have hold : ∀ s : Nat, (s < 86 ∨ 102 < s) → a.eval (.tmp s) = a0.eval (.tmp s) := fun s h => hH.old s fun k ok hk hs => by
      match k, hk with
      | 0, hk => cases hk; cases hs; exact absurd h (by decide)
      | 1, hk => cases hk; cases hs; exact absurd h (by decide)
      | 2, hk => cases hk; cases hs; exact absurd h (by decide)
      | 3, hk => cases hk; cases hs; exact absurd h (by decide)
      | 4, hk => cases hk; cases hs; exact absurd h (by decide)
      | 5, hk => cases hk; cases hs; exact absurd h (by decide)
      | 6, hk => cases hk; cases hs; exact absurd h (by decide)
      | 7, hk => cases hk; cases hs; exact absurd h (by decide)
      | 8, hk => cases hk; cases hs; exact absurd h (by decide)
      | 9, hk => cases hk; cases hs; exact absurd h (by decide)
      | 10, hk => cases hk; cases hs; exact absurd h (by decide)
      | 11, hk => cases hk; cases hs; exact absurd h (by decide)
      | 12, hk => cases hk; cases hs; exact absurd h (by decide)
      | 13, hk => cases hk; cases hs; exact absurd h (by decide)
      | 14, hk => cases hk; cases hs; exact absurd h (by decide)
      | 15, hk => cases hk; cases hs; exact absurd h (by decide)
      | 16, hk => cases hk; cases hs; exact absurd h (by decide)
      | 17, hk => cases hk; cases hs
      | _ + 18, hk => cases hk
    have hK' : ∀ v, i ≠ 6 → i ≠ 12 → i ≠ 15 → i ≠ 17 → Fact21 d B base n nW c2 A2 v4 xs i v w → K (a.put o.dst v) w := fun v h8 h14 h17 h19 hv => hK v w hv (hW.same h8 h14 h17 h19) fun j _ u hu => hu
    have h19 : i ≠ 17 → done 17 = false := fun hi => by
      cases hdk : done 17 with
      | false => rfl
      | true => have := hH.closed 17 _ rfl hdk i (by revert hd; match i, ho with
        | 0, _ => intro _; decide
        | 1, _ => intro _; decide
        | 2, _ => intro _; decide
        | 3, _ => intro _; decide
        | 4, _ => intro _; decide
        | 5, _ => intro _; decide
        | 6, _ => intro _; decide
        | 7, _ => intro _; decide
        | 8, _ => intro _; decide
        | 9, _ => intro _; decide
        | 10, _ => intro _; decide
        | 11, _ => intro _; decide
        | 12, _ => intro _; decide
        | 13, _ => intro _; decide
        | 14, _ => intro _; decide
        | 15, _ => intro _; decide
        | 16, _ => intro _; decide
        | 17, _ => exact absurd rfl hi
        | _ + 18, ho => cases ho); rw [hd] at this; cases this
    match i, ho with
    | 0, ho =>
      cases ho
      have e : a.eval (.tmp 5) = .pointer (some ⟨B, 0, none⟩) := (hold 5 (by decide)).trans s5
      exact op_value (by simp [go_sem, ev e]) (hK' _ (by decide) (by decide) (by decide) (by decide) rfl)
    | 1, ho =>
      cases ho
      have e : a.eval (.tmp 86) = .pointer (some ⟨B, 4, none⟩) := hH.fact 0 _ 86 rfl rfl (hp 0 (by decide))
      have hc : w.cell? ⟨B, 4, none⟩ = some (v4) := (hW.box (h19 (by decide))).cell 4
      exact op_value (by simp [go_sem, ev e, hc]) (hK' _ (by decide) (by decide) (by decide) (by decide) rfl)
    | 2, ho =>
      cases ho
      have e : a.eval (.tmp 0) = .pointer (some ⟨d, 0, none⟩) := (hold 0 (by decide)).trans s0
      exact op_value (by simp [go_sem, ev e]) (hK' _ (by decide) (by decide) (by decide) (by decide) rfl)
    | 3, ho =>
      cases ho
      have e : a.eval (.tmp 5) = .pointer (some ⟨B, 0, none⟩) := (hold 5 (by decide)).trans s5
      exact op_value (by simp [go_sem, ev e]) (hK' _ (by decide) (by decide) (by decide) (by decide) rfl)
    | 4, ho =>
      cases ho
      have e : a.eval (.tmp 89) = .pointer (some ⟨B, 2, none⟩) := hH.fact 3 _ 89 rfl rfl (hp 3 (by decide))
      have hc : w.cell? ⟨B, 2, none⟩ = some (.slice A2 nW c2) := (hW.box (h19 (by decide))).cell 2
      exact op_value (by simp [go_sem, ev e, hc]) (hK' _ (by decide) (by decide) (by decide) (by decide) rfl)
    | 5, ho =>
      cases ho
      have e : a.eval (.tmp 90) = .slice A2 nW c2 := hH.fact 4 _ 90 rfl rfl (hp 4 (by decide))
      exact op_value (by simp [go_sem, ev e]) (hK' _ (by decide) (by decide) (by decide) (by decide) rfl)
    | 6, ho =>
      cases ho
      have e : a.eval (.tmp 88) = .pointer (some ⟨d, 0, none⟩) := hH.fact 2 _ 88 rfl rfl (hp 2 (by decide))
      have e2 : a.eval (.tmp 91) = .int .i64 nW := hH.fact 5 _ 91 rfl rfl (hp 5 (by decide))
      have hdk := hW.deck
      rw [hd] at hdk
      refine op_call2 Tryz.func39 (by kernel_rfl) (by kernel_rfl) _ _ rfl e e2 (draw_any w0 d A l c _ nW w hdk (by have h1 := b1_le (done 12); have h2 : b1 false = 0 := rfl; omega) (by omega) (by omega)) ?_
      rintro e w' ⟨x, rfl, g1, g2, g3, g4⟩
      refine ⟨_, rfl, hK _ _ ⟨x, rfl, g1, by omega⟩ ⟨g3.more ?_, hW.grown.trans g4, Nat.le_trans hW.size g4.size, hW.kept g4 (fun k e => by cases e; exact .inl rfl), fun _ => (hW.box (h19 (by decide))).grown g4 (fun e => by injection e; omega), fun h => ?_, fun h => ?_⟩ fun j _ u hu => Fact21.kept g4 (fun k e => by cases e; exact ⟨by omega, .inl rfl, hdB⟩) hu⟩
      · show m + b1 false + b1 (done 12) + 1 ≤ m + b1 (Go.upd done 6 6) + b1 (Go.upd done 6 12)
        have e1 : Go.upd done 6 6 = true := rfl
        have e2 : Go.upd done 6 12 = done 12 := rfl
        rw [e1, e2]; unfold b1; simp; omega
      · refine (hW.own h).kept g4 ?_
        cases hb : v4.ownBlock with
        | none => exact .inl rfl
        | some g => exact .inr fun e => by cases e; have := ((hW.own h).lt _ hb).1; omega
      · have := h19 (by decide); rw [show Go.upd done 6 17 = done 17 from rfl, this] at h; cases h
    | 7, ho =>
      cases ho
      have e : a.eval (.tmp 0) = .pointer (some ⟨d, 0, none⟩) := (hold 0 (by decide)).trans s0
      exact op_value (by simp [go_sem, ev e]) (hK' _ (by decide) (by decide) (by decide) (by decide) rfl)
    | 8, ho =>
      cases ho
      have e : a.eval (.tmp 5) = .pointer (some ⟨B, 0, none⟩) := (hold 5 (by decide)).trans s5
      exact op_value (by simp [go_sem, ev e]) (hK' _ (by decide) (by decide) (by decide) (by decide) rfl)
    | 9, ho =>
      cases ho
      have e : a.eval (.tmp 94) = .pointer (some ⟨B, 2, none⟩) := hH.fact 8 _ 94 rfl rfl (hp 8 (by decide))
      have hc : w.cell? ⟨B, 2, none⟩ = some (.slice A2 nW c2) := (hW.box (h19 (by decide))).cell 2
      exact op_value (by simp [go_sem, ev e, hc]) (hK' _ (by decide) (by decide) (by decide) (by decide) rfl)
    | 10, ho =>
      cases ho
      have e : a.eval (.tmp 95) = .slice A2 nW c2 := hH.fact 9 _ 95 rfl rfl (hp 9 (by decide))
      exact op_value (by simp [go_sem, ev e]) (hK' _ (by decide) (by decide) (by decide) (by decide) rfl)
    | 11, ho =>
      cases ho
      have e : a.eval (.tmp 96) = .int .i64 nW := hH.fact 10 _ 96 rfl rfl (hp 10 (by decide))
      have hwr : IntKind.i64.wrap ((nW : Int) - 1) = (nW : Int) - 1 := by rw [IntKind.wrap_i64]; omega
      exact op_value (by simp [go_sem, ev e, hwr]) (hK' _ (by decide) (by decide) (by decide) (by decide) rfl)
    | 12, ho =>
      cases ho
      have e : a.eval (.tmp 93) = .pointer (some ⟨d, 0, none⟩) := hH.fact 7 _ 93 rfl rfl (hp 7 (by decide))
      have e2 : a.eval (.tmp 97) = .int .i64 (nW - 1) := hH.fact 11 _ 97 rfl rfl (hp 11 (by decide))
      have hdk := hW.deck
      rw [hd] at hdk
      refine op_call3 Tryz.func66 (by kernel_rfl) (by kernel_rfl) _ _ _ rfl e rfl e2 (between_any w0 d A l c _ (-1) (nW - 1) w hdk (by have h1 := b1_le (done 6); have h2 : b1 false = 0 := rfl; omega) (by omega) (by omega) (by omega)) ?_
      rintro e w' ⟨x, rfl, g1, g2, g3, g4⟩
      refine ⟨_, rfl, hK _ _ ⟨x, rfl, g1, by omega⟩ ⟨g3.more ?_, hW.grown.trans g4, Nat.le_trans hW.size g4.size, hW.kept g4 (fun k e => by cases e; exact .inl rfl), fun _ => (hW.box (h19 (by decide))).grown g4 (fun e => by injection e; omega), fun h => ?_, fun h => ?_⟩ fun j _ u hu => Fact21.kept g4 (fun k e => by cases e; exact ⟨by omega, .inl rfl, hdB⟩) hu⟩
      · show m + b1 (done 6) + b1 false + 1 ≤ m + b1 (Go.upd done 12 6) + b1 (Go.upd done 12 12)
        have e1 : Go.upd done 12 12 = true := rfl
        have e2 : Go.upd done 12 6 = done 6 := rfl
        rw [e1, e2]; unfold b1; simp
      · refine (hW.own h).kept g4 ?_
        cases hb : v4.ownBlock with
        | none => exact .inl rfl
        | some g => exact .inr fun e => by cases e; have := ((hW.own h).lt _ hb).1; omega
      · have := h19 (by decide); rw [show Go.upd done 12 17 = done 17 from rfl, this] at h; cases h
    | 13, ho =>
      cases ho
      obtain ⟨y, e2, i1, i2⟩ : ∃ y, a.eval (.tmp 92) = .int .i64 y ∧ 0 ≤ y ∧ y < (nW : Int) := hH.fact 6 _ 92 rfl rfl (hp 6 (by decide))
      obtain ⟨z, e3, i4, i5⟩ : ∃ z, a.eval (.tmp 98) = .int .i64 z ∧ -1 ≤ z ∧ z < (nW : Int) := hH.fact 12 _ 98 rfl rfl (hp 12 (by decide))
      exact op_value (by simp [go_sem, ev e2, ev e3]) (hK' _ (by decide) (by decide) (by decide) (by decide) ⟨⟨y, z⟩, ⟨i1, i2, i4, i5⟩, rfl⟩)
    | 14, ho =>
      cases ho
      obtain ⟨lg, hlg, e⟩ : ∃ lg : Leg, LegOk nW lg ∧ a.eval (.tmp 99) = .agg #[.int .i64 lg.word, .int .i64 lg.other] := hH.fact 13 _ 99 rfl rfl (hp 13 (by decide))
      have h17 : done 15 = false := by
        cases hdk : done 15 with
        | false => rfl
        | true => have := hH.closed 15 _ rfl hdk 14 (by decide); rw [hd] at this; cases this
      have hb19 := hW.box (h19 (by decide))
      have hnew : v4.ownBlock ≠ some w.heap.size := fun e => by have := ((hW.own h17).lt _ e).2; omega
      have h1 : Fact21 d B base n nW c2 A2 v4 xs 14 (.slice (some ⟨w.heap.size, 0, none⟩) 1 1) (w.alloc (.cells (encLeg lg).toArray 70)) := ⟨lg, hlg, _, rfl, Blk.new _ _ _, hnew, hb19.lt⟩
      have hg' := only_of_aft (Aft.alloc w (.cells (encLeg lg).toArray 70)) none
      have := hK _ _ h1 ⟨(hW.same (i := 14) (by decide) (by decide) (by decide) (by decide)).deck.aft (Aft.alloc _ _), only_aft hW.grown (Aft.alloc _ _), Nat.le_trans hW.size hg'.size, hW.kept hg' (fun k e => by cases e), fun _ => hb19.alloc _, fun _ => own_aft (hW.own h17) (Aft.alloc _ _), fun h => by rw [show Go.upd done 14 17 = done 17 from rfl, h19 (by decide)] at h; cases h⟩ fun j _ u hu => Fact21.kept hg' (fun k e => by cases e) hu
      unfold Oper.wp
      simpa [go_sem, ev e, encLeg] using this
    | 15, ho =>
      cases ho
      obtain ⟨lg, hlg, b, e, hb, hne, hBb'⟩ : ∃ lg : Leg, LegOk nW lg ∧ ∃ b, a.eval (.tmp 100) = .slice (some ⟨b, 0, none⟩) 1 1 ∧ Blk w b 70 (encLeg lg).toArray ∧ v4.ownBlock ≠ some b ∧ B < b := hH.fact 14 _ 100 rfl rfl (hp 14 (by decide))
      have e2 : a.eval (.tmp 87) = v4 := hH.fact 1 _ 87 rfl rfl (hp 1 (by decide))
      have hb19 := hW.box (h19 (by decide))
      have ho1 := hW.own hd
      have hfar : ∀ k, v4.ownBlock = some k → base ≤ k := fun k e => (ho1.lt k e).1
      refine op_app ty25 _ _ rfl hW.size e2 ho1 e hb rfl (fun u hu => by simp [encLeg] at hu; rcases hu with rfl | rfl <;> rfl) (by omega) (by decide) fun v' w' h1 h2 h3 => ?_
      refine hK _ _ ⟨lg, hlg, h1⟩ ⟨(hW.deck).grown h2 (fun k e => by have := hfar k e; omega), only_grown hW.grown h2 (fun k e => by have := hfar k e; omega), Nat.le_trans hW.size h2.size, hW.kept h2 (fun k e => .inr (.inr e)), fun _ => hb19.grown h2 (fun e => by have := hfar B e.symm; omega), fun h => (by (have h' : Go.upd done 15 15 = true := rfl); rw [h'] at h; cases h), fun h => by rw [show Go.upd done 15 17 = done 17 from rfl, h19 (by decide)] at h; cases h⟩ fun j hj u hu => ?_
      have : j ≠ 15 := fun e => by rw [e, hd] at hj; cases hj
      by_cases h16 : j < 14
      · exact Fact21.low h16 hu
      · by_cases e16 : j = 14
        · subst e16
          obtain ⟨lg', h1', b', h2', h3', h4', h5'⟩ := hu
          exact ⟨lg', h1', b', h2', h3'.grown h2 (Ne.symm h4'), h4', h5'⟩
        · by_cases e18 : j = 16
          · subst e18; exact hu
          · unfold Fact21 at hu ⊢; split at hu <;> first | exact hu | omega
    | 16, ho =>
      cases ho
      have e : a.eval (.tmp 5) = .pointer (some ⟨B, 0, none⟩) := (hold 5 (by decide)).trans s5
      exact op_value (by simp [go_sem, ev e]) (hK' _ (by decide) (by decide) (by decide) (by decide) rfl)
    | 17, ho =>
      cases ho
      obtain ⟨lg, hlg, h1⟩ : ∃ lg : Leg, LegOk nW lg ∧ w.ownsRow base 70 2 (a.eval (.tmp 101)) (n + 1) (xs ++ encLeg lg) := hH.fact 15 _ 101 rfl rfl (hp 15 (by decide))
      have e : a.eval (.tmp 102) = .pointer (some ⟨B, 4, none⟩) := hH.fact 16 _ 102 rfl rfl (hp 16 (by decide))
      have hb19 := hW.box hd
      obtain ⟨v', e2⟩ : ∃ v', a.eval (.tmp 101) = v' := ⟨_, rfl⟩
      rw [e2] at h1
      obtain ⟨sA, sn, sc, rfl⟩ := own_slice' h1
      have hf := hb19.frozen 4
      have hc : w.cell? ⟨B, 4, none⟩ = some v4 := hb19.cell 4
      have hlt := hb19.lt
      have hg' : w.grownBy (w.setCell ⟨B, 4, none⟩ (.slice sA sn sc)) (some B) := only_setCell (only_refl w (some B)) (p := ⟨B, 4, none⟩) (.inl rfl) (.slice sA sn sc)
      have := hK undef (w.setCell ⟨B, 4, none⟩ (.slice sA sn sc)) trivial ⟨(hW.same (i := 16) (by decide) (by decide) (by decide) (by decide)).deck.grown hg' (fun k e => by cases e; exact hdB), only_grown hW.grown hg' (fun k e => by cases e; exact hE), Nat.le_trans hW.size hg'.size, hW.kept hg' (fun k e => by cases e; exact .inr (.inl rfl)), fun h => (by (have h' : Go.upd done 17 17 = true := rfl); rw [h'] at h; cases h), fun h => ?_, fun _ => ⟨.slice sA sn sc, lg, hlg, hb19.store 4 _, ?_⟩⟩ fun j _ u hu => Fact21.kept hg' (fun k e => by cases e; exact ⟨hBb, .inr rfl, hdB⟩) hu
      unfold Oper.wp
      simpa [go_sem, ev e, ev e2, hf, hc, hlt] using this
      · rw [show Go.upd done 17 15 = done 15 from rfl, hp 15 (by decide)] at h; cases h
      · refine h1.kept hg' ?_
        cases hb : (Value.slice sA sn sc).ownBlock with
        | none => exact .inl rfl
        | some g => exact .inr fun e => by cases e; have := (h1.lt _ hb).1; omega
    | _ + 18, ho => cases ho
  case fin =>
    intro done a w hall hH
    have hdone : ∀ i, i < 18 → done i = true := fun i hi => hall i (by exact hi)
    obtain ⟨v', lg, hlg, h1, h2⟩ := hH.wd.fin (hdone 17 (by decide))
    refine HEX.out a w lg v' (hH.size.trans hz) hH.defers (fun s h => hH.old s fun k ok hk hs => ?_) ?_ hH.wd.grown hH.wd.size hH.wd.keep h1 hlg h2
    · match k, hk with
      | 0, hk => cases hk; cases hs; exact absurd h (by decide)
      | 1, hk => cases hk; cases hs; exact absurd h (by decide)
      | 2, hk => cases hk; cases hs; exact absurd h (by decide)
      | 3, hk => cases hk; cases hs; exact absurd h (by decide)
      | 4, hk => cases hk; cases hs; exact absurd h (by decide)
      | 5, hk => cases hk; cases hs; exact absurd h (by decide)
      | 6, hk => cases hk; cases hs; exact absurd h (by decide)
      | 7, hk => cases hk; cases hs; exact absurd h (by decide)
      | 8, hk => cases hk; cases hs; exact absurd h (by decide)
      | 9, hk => cases hk; cases hs; exact absurd h (by decide)
      | 10, hk => cases hk; cases hs; exact absurd h (by decide)
      | 11, hk => cases hk; cases hs; exact absurd h (by decide)
      | 12, hk => cases hk; cases hs; exact absurd h (by decide)
      | 13, hk => cases hk; cases hs; exact absurd h (by decide)
      | 14, hk => cases hk; cases hs; exact absurd h (by decide)
      | 15, hk => cases hk; cases hs; exact absurd h (by decide)
      | 16, hk => cases hk; cases hs; exact absurd h (by decide)
      | 17, hk => cases hk; cases hs
      | _ + 18, hk => cases hk
    · have := hH.wd.deck
      rw [hdone 6 (by decide), hdone 12 (by decide)] at this
      exact this
end Go.Proofs
end

section
/- Walks: a made treaty: its drawn regions, the frame written out. -/
namespace Go.Proofs
open Go.RowKit

set_option maxRecDepth 100000 in
set_option maxHeartbeats 2000000 in
theorem region5_lit (w0 : World) (d : Nat) (A : Option Addr) (l : List Int) (c m : Nat) (wE : World) (B base n : Nat) (P F : Int) (v1 z2 z3 z4 : Value) (xs : List Value) (q1 q2 q3 q4 q7 q8 q9 q10 q11 q12 q13 q14 q15 q16 q17 q18 q19 q20 q21 q22 q23 q24 q25 q26 q27 q28 q29 q30 q31 q32 q33 q34 q35 q36 q37 q38 q39 q40 q41 q42 q43 q44 q45 q46 q47 q48 q49 q50 q51 q52 q53 q54 q55 q56 q57 q58 q59 q60 q61 q62 q63 q64 q65 q66 q67 q68 q69 q70 q71 q72 q73 q74 q75 q76 q77 q78 q79 q80 q81 q82 q83 q84 q85 q86 q87 q88 q89 q90 q91 q92 q93 q94 q95 q96 q97 q98 q99 q100 q101 q102 q103 q104 : Value) (Q0 : Exit → Act → World → Prop) (W8 : World)
    (hF : 0 ≤ F) (hF2 : F < P) (hP : 2 ≤ P) (hP8 : P ≤ 8)
    (hD : DeckAt w0 d A l c m W8) (hm : m ≤ 900000) (hg : wE.grownBy W8 (some d)) (hbx : Blk W8 B 27 #[.int .i64 P, v1, z2, z3, z4]) (hown : W8.ownsRow base 65 3 v1 n xs) (hn : n ≤ 100) (hBb : B < base) (hdB : d < B) (hE : wE.heap.size ≤ B) (hsz : base ≤ W8.heap.size)
    (hexit : ∀ (u19 u20 u21 u22 u23 u24 u25 u26 u27 u28 u29 u30 u31 u32 u33 u34 u35 u36 u37 : Value) W' wy v', DeckAt w0 d A l c (m + 2) W' → wE.grownBy W' (some d) → base ≤ W'.heap.size → Blk W' B 27 #[.int .i64 P, v', z2, z3, z4] → WayOk P wy → W'.ownsRow base 65 3 v' (n + 1) (xs ++ encWay wy) → Q0 .normal ⟨(List.toArray (.pointer (some ⟨d, 0, none⟩) :: q1 :: q2 :: q3 :: q4 :: .pointer (some ⟨B, 0, none⟩) :: .int .i64 F :: q7 :: q8 :: q9 :: q10 :: q11 :: q12 :: q13 :: q14 :: q15 :: q16 :: q17 :: q18 :: u19 :: u20 :: u21 :: u22 :: u23 :: u24 :: u25 :: u26 :: u27 :: u28 :: u29 :: u30 :: u31 :: u32 :: u33 :: u34 :: u35 :: u36 :: u37 :: q38 :: q39 :: q40 :: q41 :: q42 :: q43 :: q44 :: q45 :: q46 :: q47 :: q48 :: q49 :: q50 :: q51 :: q52 :: q53 :: q54 :: q55 :: q56 :: q57 :: q58 :: q59 :: q60 :: q61 :: q62 :: q63 :: q64 :: q65 :: q66 :: q67 :: q68 :: q69 :: q70 :: q71 :: q72 :: q73 :: q74 :: q75 :: q76 :: q77 :: q78 :: q79 :: q80 :: q81 :: q82 :: q83 :: q84 :: q85 :: q86 :: q87 :: q88 :: q89 :: q90 :: q91 :: q92 :: q93 :: q94 :: q95 :: q96 :: q97 :: q98 :: q99 :: q100 :: q101 :: q102 :: q103 :: q104 :: [])), []⟩ W') :
    Code.wp Tryz.prog (Code.region 5 (opsMade 5).toArray true) Q0 ⟨(List.toArray (.pointer (some ⟨d, 0, none⟩) :: q1 :: q2 :: q3 :: q4 :: .pointer (some ⟨B, 0, none⟩) :: .int .i64 F :: q7 :: q8 :: q9 :: q10 :: q11 :: q12 :: q13 :: q14 :: q15 :: q16 :: q17 :: q18 :: q19 :: q20 :: q21 :: q22 :: q23 :: q24 :: q25 :: q26 :: q27 :: q28 :: q29 :: q30 :: q31 :: q32 :: q33 :: q34 :: q35 :: q36 :: q37 :: q38 :: q39 :: q40 :: q41 :: q42 :: q43 :: q44 :: q45 :: q46 :: q47 :: q48 :: q49 :: q50 :: q51 :: q52 :: q53 :: q54 :: q55 :: q56 :: q57 :: q58 :: q59 :: q60 :: q61 :: q62 :: q63 :: q64 :: q65 :: q66 :: q67 :: q68 :: q69 :: q70 :: q71 :: q72 :: q73 :: q74 :: q75 :: q76 :: q77 :: q78 :: q79 :: q80 :: q81 :: q82 :: q83 :: q84 :: q85 :: q86 :: q87 :: q88 :: q89 :: q90 :: q91 :: q92 :: q93 :: q94 :: q95 :: q96 :: q97 :: q98 :: q99 :: q100 :: q101 :: q102 :: q103 :: q104 :: [])), []⟩ W8 := by
  refine region5_made w0 d A l c m wE B base n P F v1 z2 z3 z4 xs _ Q0 W8 rfl rfl rfl rfl hF hF2 hP hP8 hD hm hg hbx hown hn hBb hdB hE hsz ?_
  intro a W' wy v' hz hd hs h1 h2 h3 h4 h5 h6
  have e := frame_act 105 a _ hz hd (fun j => decide (19 ≤ j ∧ j ≤ 37)) (fun s hp => by
    have hp' := of_decide_eq_false hp
    exact hs s (by omega))
  have e2 : a = ⟨(List.toArray (.pointer (some ⟨d, 0, none⟩) :: q1 :: q2 :: q3 :: q4 :: .pointer (some ⟨B, 0, none⟩) :: .int .i64 F :: q7 :: q8 :: q9 :: q10 :: q11 :: q12 :: q13 :: q14 :: q15 :: q16 :: q17 :: q18 :: a.eval (.tmp 19) :: a.eval (.tmp 20) :: a.eval (.tmp 21) :: a.eval (.tmp 22) :: a.eval (.tmp 23) :: a.eval (.tmp 24) :: a.eval (.tmp 25) :: a.eval (.tmp 26) :: a.eval (.tmp 27) :: a.eval (.tmp 28) :: a.eval (.tmp 29) :: a.eval (.tmp 30) :: a.eval (.tmp 31) :: a.eval (.tmp 32) :: a.eval (.tmp 33) :: a.eval (.tmp 34) :: a.eval (.tmp 35) :: a.eval (.tmp 36) :: a.eval (.tmp 37) :: q38 :: q39 :: q40 :: q41 :: q42 :: q43 :: q44 :: q45 :: q46 :: q47 :: q48 :: q49 :: q50 :: q51 :: q52 :: q53 :: q54 :: q55 :: q56 :: q57 :: q58 :: q59 :: q60 :: q61 :: q62 :: q63 :: q64 :: q65 :: q66 :: q67 :: q68 :: q69 :: q70 :: q71 :: q72 :: q73 :: q74 :: q75 :: q76 :: q77 :: q78 :: q79 :: q80 :: q81 :: q82 :: q83 :: q84 :: q85 :: q86 :: q87 :: q88 :: q89 :: q90 :: q91 :: q92 :: q93 :: q94 :: q95 :: q96 :: q97 :: q98 :: q99 :: q100 :: q101 :: q102 :: q103 :: q104 :: [])), []⟩ := e
  have h := hexit (a.eval (.tmp 19)) (a.eval (.tmp 20)) (a.eval (.tmp 21)) (a.eval (.tmp 22)) (a.eval (.tmp 23)) (a.eval (.tmp 24)) (a.eval (.tmp 25)) (a.eval (.tmp 26)) (a.eval (.tmp 27)) (a.eval (.tmp 28)) (a.eval (.tmp 29)) (a.eval (.tmp 30)) (a.eval (.tmp 31)) (a.eval (.tmp 32)) (a.eval (.tmp 33)) (a.eval (.tmp 34)) (a.eval (.tmp 35)) (a.eval (.tmp 36)) (a.eval (.tmp 37)) W' wy v' h1 h2 h3 h4 h5 h6
  rw [← e2] at h
  exact h

set_option maxRecDepth 100000 in
set_option maxHeartbeats 2000000 in
theorem region12_lit (w0 : World) (d : Nat) (A : Option Addr) (l : List Int) (c m : Nat) (wE : World) (B base p : Nat) (vS : Value) (S : Nat → Prop) (ms : List Mean) (xs : List Value) (z1 z2 z3 z4 : Value) (q1 q2 q3 q4 q6 q8 q9 q10 q11 q12 q13 q14 q15 q16 q17 q18 q19 q20 q21 q22 q23 q24 q25 q26 q27 q28 q29 q30 q31 q32 q33 q34 q35 q36 q37 q38 q39 q40 q41 q42 q43 q44 q45 q46 q47 q48 q49 q50 q51 q52 q53 q54 q55 q56 q57 q58 q59 q60 q61 q62 q63 q64 q65 q66 q67 q68 q69 q70 q71 q72 q73 q74 q75 q76 q77 q78 q79 q80 q81 q82 q83 q84 q85 q86 q87 q88 q89 q90 q91 q92 q93 q94 q95 q96 q97 q98 q99 q100 q101 q102 q103 q104 : Value) (Q0 : Exit → Act → World → Prop) (W8 : World)
    (hp8 : p ≤ 8)
    (hD : DeckAt w0 d A l c m W8) (hm : m ≤ 800000) (hg : wE.grownBy W8 (some d)) (hbx : Blk W8 B 27 #[.int .i64 p, z1, z2, z3, z4]) (hown : OwnK MeanR 67 2 base vS S ms xs W8) (hn : ms.length ≤ 100) (hBb : B < base) (hdB : d < B) (hE : wE.heap.size ≤ base) (hsz : base ≤ W8.heap.size)
    (hexit : ∀ (u7 u47 u48 u49 u50 u51 u52 u53 u54 u55 u56 : Value) W' , DeckAt w0 d A l c (m + 4 + p) W' → wE.grownBy W' (some d) → (W8.heap.size ≤ W'.heap.size ∧ ∀ k, k < W8.heap.size → k ≠ d → vS.ownBlock ≠ some k → W'.heap[k]? = W8.heap[k]?) → More12 base p ms u7 W' → Q0 .normal ⟨(List.toArray (.pointer (some ⟨d, 0, none⟩) :: q1 :: q2 :: q3 :: q4 :: .pointer (some ⟨B, 0, none⟩) :: q6 :: u7 :: q8 :: q9 :: q10 :: q11 :: q12 :: q13 :: q14 :: q15 :: q16 :: q17 :: q18 :: q19 :: q20 :: q21 :: q22 :: q23 :: q24 :: q25 :: q26 :: q27 :: q28 :: q29 :: q30 :: q31 :: q32 :: q33 :: q34 :: q35 :: q36 :: q37 :: q38 :: q39 :: q40 :: q41 :: q42 :: q43 :: q44 :: q45 :: q46 :: u47 :: u48 :: u49 :: u50 :: u51 :: u52 :: u53 :: u54 :: u55 :: u56 :: q57 :: q58 :: q59 :: q60 :: q61 :: q62 :: q63 :: q64 :: q65 :: q66 :: q67 :: q68 :: q69 :: q70 :: q71 :: q72 :: q73 :: q74 :: q75 :: q76 :: q77 :: q78 :: q79 :: q80 :: q81 :: q82 :: q83 :: q84 :: q85 :: q86 :: q87 :: q88 :: q89 :: q90 :: q91 :: q92 :: q93 :: q94 :: q95 :: q96 :: q97 :: q98 :: q99 :: q100 :: q101 :: q102 :: q103 :: q104 :: [])), []⟩ W') :
    Code.wp Tryz.prog (Code.region 12 (opsMade 12).toArray true) Q0 ⟨(List.toArray (.pointer (some ⟨d, 0, none⟩) :: q1 :: q2 :: q3 :: q4 :: .pointer (some ⟨B, 0, none⟩) :: q6 :: vS :: q8 :: q9 :: q10 :: q11 :: q12 :: q13 :: q14 :: q15 :: q16 :: q17 :: q18 :: q19 :: q20 :: q21 :: q22 :: q23 :: q24 :: q25 :: q26 :: q27 :: q28 :: q29 :: q30 :: q31 :: q32 :: q33 :: q34 :: q35 :: q36 :: q37 :: q38 :: q39 :: q40 :: q41 :: q42 :: q43 :: q44 :: q45 :: q46 :: q47 :: q48 :: q49 :: q50 :: q51 :: q52 :: q53 :: q54 :: q55 :: q56 :: q57 :: q58 :: q59 :: q60 :: q61 :: q62 :: q63 :: q64 :: q65 :: q66 :: q67 :: q68 :: q69 :: q70 :: q71 :: q72 :: q73 :: q74 :: q75 :: q76 :: q77 :: q78 :: q79 :: q80 :: q81 :: q82 :: q83 :: q84 :: q85 :: q86 :: q87 :: q88 :: q89 :: q90 :: q91 :: q92 :: q93 :: q94 :: q95 :: q96 :: q97 :: q98 :: q99 :: q100 :: q101 :: q102 :: q103 :: q104 :: [])), []⟩ W8 := by
  refine region12_made w0 d A l c m wE B base p vS S ms xs z1 z2 z3 z4 _ Q0 W8 rfl rfl rfl rfl hp8 hD hm hg hbx hown hn hBb hdB hE hsz ?_
  intro a W' hz hd hs h1 h2 h3 h4
  have e := frame_act 105 a _ hz hd (fun j => decide (j = 7 ∨ (47 ≤ j ∧ j ≤ 56))) (fun s hp => by
    have hp' := of_decide_eq_false hp
    exact hs s (by omega) (by omega))
  have e2 : a = ⟨(List.toArray (.pointer (some ⟨d, 0, none⟩) :: q1 :: q2 :: q3 :: q4 :: .pointer (some ⟨B, 0, none⟩) :: q6 :: a.eval (.tmp 7) :: q8 :: q9 :: q10 :: q11 :: q12 :: q13 :: q14 :: q15 :: q16 :: q17 :: q18 :: q19 :: q20 :: q21 :: q22 :: q23 :: q24 :: q25 :: q26 :: q27 :: q28 :: q29 :: q30 :: q31 :: q32 :: q33 :: q34 :: q35 :: q36 :: q37 :: q38 :: q39 :: q40 :: q41 :: q42 :: q43 :: q44 :: q45 :: q46 :: a.eval (.tmp 47) :: a.eval (.tmp 48) :: a.eval (.tmp 49) :: a.eval (.tmp 50) :: a.eval (.tmp 51) :: a.eval (.tmp 52) :: a.eval (.tmp 53) :: a.eval (.tmp 54) :: a.eval (.tmp 55) :: a.eval (.tmp 56) :: q57 :: q58 :: q59 :: q60 :: q61 :: q62 :: q63 :: q64 :: q65 :: q66 :: q67 :: q68 :: q69 :: q70 :: q71 :: q72 :: q73 :: q74 :: q75 :: q76 :: q77 :: q78 :: q79 :: q80 :: q81 :: q82 :: q83 :: q84 :: q85 :: q86 :: q87 :: q88 :: q89 :: q90 :: q91 :: q92 :: q93 :: q94 :: q95 :: q96 :: q97 :: q98 :: q99 :: q100 :: q101 :: q102 :: q103 :: q104 :: [])), []⟩ := e
  have h := hexit (a.eval (.tmp 7)) (a.eval (.tmp 47)) (a.eval (.tmp 48)) (a.eval (.tmp 49)) (a.eval (.tmp 50)) (a.eval (.tmp 51)) (a.eval (.tmp 52)) (a.eval (.tmp 53)) (a.eval (.tmp 54)) (a.eval (.tmp 55)) (a.eval (.tmp 56)) W' h1 h2 h3 h4
  rw [← e2] at h
  exact h

set_option maxRecDepth 100000 in
set_option maxHeartbeats 2000000 in
theorem region21_lit (w0 : World) (d : Nat) (A : Option Addr) (l : List Int) (c m : Nat) (wE : World) (B base n : Nat) (P : Int) (z1 z3 v4 : Value) (A2 : Option Addr) (nW c2 : Nat) (xs : List Value) (q1 q2 q3 q4 q6 q7 q8 q9 q10 q11 q12 q13 q14 q15 q16 q17 q18 q19 q20 q21 q22 q23 q24 q25 q26 q27 q28 q29 q30 q31 q32 q33 q34 q35 q36 q37 q38 q39 q40 q41 q42 q43 q44 q45 q46 q47 q48 q49 q50 q51 q52 q53 q54 q55 q56 q57 q58 q59 q60 q61 q62 q63 q64 q65 q66 q67 q68 q69 q70 q71 q72 q73 q74 q75 q76 q77 q78 q79 q80 q81 q82 q83 q84 q85 q86 q87 q88 q89 q90 q91 q92 q93 q94 q95 q96 q97 q98 q99 q100 q101 q102 q103 q104 : Value) (Q0 : Exit → Act → World → Prop) (W8 : World)
    (hW1 : 1 ≤ nW) (hW3 : nW ≤ 3)
    (hD : DeckAt w0 d A l c m W8) (hm : m ≤ 900000) (hg : wE.grownBy W8 (some d)) (hbx : Blk W8 B 27 #[.int .i64 P, z1, .slice A2 nW c2, z3, v4]) (hown : W8.ownsRow base 70 2 v4 n xs) (hn : n ≤ 100) (hBb : B < base) (hdB : d < B) (hE : wE.heap.size ≤ B) (hsz : base ≤ W8.heap.size)
    (hexit : ∀ (u86 u87 u88 u89 u90 u91 u92 u93 u94 u95 u96 u97 u98 u99 u100 u101 u102 : Value) W' lg v', DeckAt w0 d A l c (m + 2) W' → wE.grownBy W' (some d) → base ≤ W'.heap.size → (W8.heap.size ≤ W'.heap.size ∧ ∀ k, k < W8.heap.size → k ≠ d → k ≠ B → v4.ownBlock ≠ some k → W'.heap[k]? = W8.heap[k]?) → Blk W' B 27 #[.int .i64 P, z1, .slice A2 nW c2, z3, v'] → LegOk nW lg → W'.ownsRow base 70 2 v' (n + 1) (xs ++ encLeg lg) → Q0 .normal ⟨(List.toArray (.pointer (some ⟨d, 0, none⟩) :: q1 :: q2 :: q3 :: q4 :: .pointer (some ⟨B, 0, none⟩) :: q6 :: q7 :: q8 :: q9 :: q10 :: q11 :: q12 :: q13 :: q14 :: q15 :: q16 :: q17 :: q18 :: q19 :: q20 :: q21 :: q22 :: q23 :: q24 :: q25 :: q26 :: q27 :: q28 :: q29 :: q30 :: q31 :: q32 :: q33 :: q34 :: q35 :: q36 :: q37 :: q38 :: q39 :: q40 :: q41 :: q42 :: q43 :: q44 :: q45 :: q46 :: q47 :: q48 :: q49 :: q50 :: q51 :: q52 :: q53 :: q54 :: q55 :: q56 :: q57 :: q58 :: q59 :: q60 :: q61 :: q62 :: q63 :: q64 :: q65 :: q66 :: q67 :: q68 :: q69 :: q70 :: q71 :: q72 :: q73 :: q74 :: q75 :: q76 :: q77 :: q78 :: q79 :: q80 :: q81 :: q82 :: q83 :: q84 :: q85 :: u86 :: u87 :: u88 :: u89 :: u90 :: u91 :: u92 :: u93 :: u94 :: u95 :: u96 :: u97 :: u98 :: u99 :: u100 :: u101 :: u102 :: q103 :: q104 :: [])), []⟩ W') :
    Code.wp Tryz.prog (Code.region 21 (opsMade 21).toArray true) Q0 ⟨(List.toArray (.pointer (some ⟨d, 0, none⟩) :: q1 :: q2 :: q3 :: q4 :: .pointer (some ⟨B, 0, none⟩) :: q6 :: q7 :: q8 :: q9 :: q10 :: q11 :: q12 :: q13 :: q14 :: q15 :: q16 :: q17 :: q18 :: q19 :: q20 :: q21 :: q22 :: q23 :: q24 :: q25 :: q26 :: q27 :: q28 :: q29 :: q30 :: q31 :: q32 :: q33 :: q34 :: q35 :: q36 :: q37 :: q38 :: q39 :: q40 :: q41 :: q42 :: q43 :: q44 :: q45 :: q46 :: q47 :: q48 :: q49 :: q50 :: q51 :: q52 :: q53 :: q54 :: q55 :: q56 :: q57 :: q58 :: q59 :: q60 :: q61 :: q62 :: q63 :: q64 :: q65 :: q66 :: q67 :: q68 :: q69 :: q70 :: q71 :: q72 :: q73 :: q74 :: q75 :: q76 :: q77 :: q78 :: q79 :: q80 :: q81 :: q82 :: q83 :: q84 :: q85 :: q86 :: q87 :: q88 :: q89 :: q90 :: q91 :: q92 :: q93 :: q94 :: q95 :: q96 :: q97 :: q98 :: q99 :: q100 :: q101 :: q102 :: q103 :: q104 :: [])), []⟩ W8 := by
  refine region21_made w0 d A l c m wE B base n P z1 z3 v4 A2 nW c2 xs _ Q0 W8 rfl rfl rfl hW1 hW3 hD hm hg hbx hown hn hBb hdB hE hsz ?_
  intro a W' lg v' hz hd hs h1 h2 h3 h4 h5 h6 h7
  have e := frame_act 105 a _ hz hd (fun j => decide (86 ≤ j ∧ j ≤ 102)) (fun s hp => by
    have hp' := of_decide_eq_false hp
    exact hs s (by omega))
  have e2 : a = ⟨(List.toArray (.pointer (some ⟨d, 0, none⟩) :: q1 :: q2 :: q3 :: q4 :: .pointer (some ⟨B, 0, none⟩) :: q6 :: q7 :: q8 :: q9 :: q10 :: q11 :: q12 :: q13 :: q14 :: q15 :: q16 :: q17 :: q18 :: q19 :: q20 :: q21 :: q22 :: q23 :: q24 :: q25 :: q26 :: q27 :: q28 :: q29 :: q30 :: q31 :: q32 :: q33 :: q34 :: q35 :: q36 :: q37 :: q38 :: q39 :: q40 :: q41 :: q42 :: q43 :: q44 :: q45 :: q46 :: q47 :: q48 :: q49 :: q50 :: q51 :: q52 :: q53 :: q54 :: q55 :: q56 :: q57 :: q58 :: q59 :: q60 :: q61 :: q62 :: q63 :: q64 :: q65 :: q66 :: q67 :: q68 :: q69 :: q70 :: q71 :: q72 :: q73 :: q74 :: q75 :: q76 :: q77 :: q78 :: q79 :: q80 :: q81 :: q82 :: q83 :: q84 :: q85 :: a.eval (.tmp 86) :: a.eval (.tmp 87) :: a.eval (.tmp 88) :: a.eval (.tmp 89) :: a.eval (.tmp 90) :: a.eval (.tmp 91) :: a.eval (.tmp 92) :: a.eval (.tmp 93) :: a.eval (.tmp 94) :: a.eval (.tmp 95) :: a.eval (.tmp 96) :: a.eval (.tmp 97) :: a.eval (.tmp 98) :: a.eval (.tmp 99) :: a.eval (.tmp 100) :: a.eval (.tmp 101) :: a.eval (.tmp 102) :: q103 :: q104 :: [])), []⟩ := e
  have h := hexit (a.eval (.tmp 86)) (a.eval (.tmp 87)) (a.eval (.tmp 88)) (a.eval (.tmp 89)) (a.eval (.tmp 90)) (a.eval (.tmp 91)) (a.eval (.tmp 92)) (a.eval (.tmp 93)) (a.eval (.tmp 94)) (a.eval (.tmp 95)) (a.eval (.tmp 96)) (a.eval (.tmp 97)) (a.eval (.tmp 98)) (a.eval (.tmp 99)) (a.eval (.tmp 100)) (a.eval (.tmp 101)) (a.eval (.tmp 102)) W' lg v' h1 h2 h3 h4 h5 h6 h7
  rw [← e2] at h
  exact h
end Go.Proofs
end

section
/- Words for memory: flat records of the call's own, and what stands with their block. -/
namespace Go.Proofs
open Go.RowKit

theorem flat_sup {α : Type} {enc : α → List Value} {sz : Nat} {R : World → α → List Value → Prop} (hR : ∀ w x, R w x (enc x)) (hR2 : ∀ w w' x vs, R w x vs → R w' x vs) (hs : ∀ x, (enc x).length = sz) (hz : 0 < sz) {W : World} {base : Nat} {e : TypeId} {v : Value} {l : List α}
    (h : W.ownsRow base e sz v l.length (l.flatMap enc)) (hl : l.length * sz ≤ 17592186043904) : ∃ A c, v = .slice A l.length c ∧ Sup W (fun k => v.ownBlock = some k) (fun W' => RowsP W' A sz R l) := by
  obtain ⟨A, c, rfl, _, hi⟩ := own_rows hR hs hz h hl
  have := RowsP.sup hi (fun _ => False) (fun _ h => h.elim) (fun x _ vs hv => ⟨fun _ h => h.elim, fun _ _ _ => hR2 _ _ _ _ hv⟩)
  exact ⟨A, c, rfl, this.wide (fun k hk => hk.elim (fun h => h.elim) (fun ⟨_, o, e⟩ => by subst e; rfl)) (fun k e => (h.lt k e).2)⟩
theorem ways_sup {W : World} {base : Nat} {v : Value} {l : List Way} (h : W.ownsRow base 65 3 v l.length (l.flatMap encWay)) (hl : l.length ≤ 1000) : ∃ A c, v = .slice A l.length c ∧ Sup W (fun k => v.ownBlock = some k) (fun W' => RowsP W' A 3 WayR l) :=
  flat_sup (R := WayR) (fun _ _ => rfl) (fun _ _ _ _ h => h) (fun _ => rfl) (by decide) h (by omega)
theorem legs_sup {W : World} {base : Nat} {v : Value} {l : List Leg} (h : W.ownsRow base 70 2 v l.length (l.flatMap encLeg)) (hl : l.length ≤ 1000) : ∃ A c, v = .slice A l.length c ∧ Sup W (fun k => v.ownBlock = some k) (fun W' => RowsP W' A 2 LegR l) :=
  flat_sup (R := LegR) (fun _ _ => rfl) (fun _ _ _ _ h => h) (fun _ => rfl) (by decide) h (by omega)
theorem Sup.keep {W0 W : World} {S : Nat → Prop} {P : World → Prop} (h : Sup W0 S P) (hk : ∀ k, S k → W.heap[k]? = W0.heap[k]?) (hs : W0.heap.size ≤ W.heap.size) : Sup W S P :=
  ⟨fun k hS => Nat.lt_of_lt_of_le (h.1 k hS) hs, fun W' h1 h2 => h.2 W' (fun k hS => (h1 k hS).trans (hk k hS)) (Nat.le_trans hs h2)⟩
/-- The same, when the legs alone came later. -/
theorem trepF_keep {W0 W : World} {d base : Nat} {p : Int} {v1 v2 v3 v4 : Value} {S : Nat → Prop} {xs : List Value} {ws : List Way} {ls : List (List Mean)} {ns : List Int} {lg : List Leg} (hd : d < base)
    (h1 : W0.ownsRow base 65 3 v1 ws.length (ws.flatMap encWay)) (h2 : OwnK WordR 68 1 base v2 S ls xs W0) (h3 : W0.ownsRow base 3 1 v3 ns.length (ns.map (Value.int .i64))) (h4 : W.ownsRow W0.heap.size 70 2 v4 lg.length (lg.flatMap encLeg))
    (hk : ∀ k, base ≤ k → k < W0.heap.size → W.heap[k]? = W0.heap[k]?) (hs : W0.heap.size ≤ W.heap.size) (hb : base ≤ W0.heap.size)
    (l1 : ws.length ≤ 1000) (l2 : ls.length ≤ 1000) (l3 : ns.length ≤ 1000) (l4 : lg.length ≤ 1000) :
    ∃ a1 a2 a3 a4 c1 c2 c3 c4, v1 = .slice a1 ws.length c1 ∧ v2 = .slice a2 ls.length c2 ∧ v3 = .slice a3 ns.length c3 ∧ v4 = .slice a4 lg.length c4 ∧ TRepF d W ⟨p, ws, ls, ns, lg⟩ a1 a2 a3 a4 := by
  obtain ⟨a1, c1, e1, s1⟩ := ways_sup h1 l1
  obtain ⟨a2, c2, e2, _, s2⟩ := h2.rowsP (by omega)
  obtain ⟨a3, c3, e3, s3⟩ := own_sup h3 (by omega)
  obtain ⟨a4, c4, e4, s4⟩ := legs_sup h4 l4
  have hb2 : ∀ k, (S k ∨ v2.ownBlock = some k) → base ≤ k := fun k e => e.elim (fun e => (h2.far k e).1) (fun e => (h2.own.lt k e).1)
  have s1 := s1.keep (fun k e => hk k (h1.lt k e).1 (h1.lt k e).2) hs
  have s2 := s2.keep (fun k e => hk k (hb2 k e) (s2.1 k e)) hs
  have s3 := s3.keep (fun k e => hk k (h3.lt k e).1 (h3.lt k e).2) hs
  refine ⟨a1, a2, a3, a4, c1, c2, c3, c4, e1, e2, e3, e4, fun W' hg => ?_⟩
  refine ⟨s1.firm (fun e => ?_) W' hg, s2.firm (fun e => ?_) W' hg, s3.firm (fun e => ?_) W' hg, s4.firm (fun e => ?_) W' hg⟩
  · have := (h1.lt d e).1; omega
  · have := hb2 d e; omega
  · have := (h3.lt d e).1; omega
  · have := (h4.lt d e).1; omega
/-- A record of five cells that is written over. -/
theorem blk_five {w : World} {g : Nat} {t : TypeId} {y0 y1 y2 y3 y4 : Value} (h : Blk w g t #[y0, y1, y2, y3, y4]) (v0 v1 v2 v3 v4 : Value) :
    Blk (((((w.setCell ⟨g, 0, none⟩ v0).setCell ⟨g, 1, none⟩ v1).setCell ⟨g, 2, none⟩ v2).setCell ⟨g, 3, none⟩ v3).setCell ⟨g, 4, none⟩ v4) g t #[v0, v1, v2, v3, v4] ∧
    w.grownBy (((((w.setCell ⟨g, 0, none⟩ v0).setCell ⟨g, 1, none⟩ v1).setCell ⟨g, 2, none⟩ v2).setCell ⟨g, 3, none⟩ v3).setCell ⟨g, 4, none⟩ v4) (some g) := by
  have h0 : Blk (w.setCell ⟨g, 0, none⟩ v0) g t #[v0, y1, y2, y3, y4] := h.store 0 v0
  have g0 : w.grownBy (w.setCell ⟨g, 0, none⟩ v0) (some g) := only_setCell (only_refl w (some g)) (p := ⟨g, 0, none⟩) (.inl rfl) v0
  generalize w.setCell ⟨g, 0, none⟩ v0 = W0 at *
  have h1 : Blk (W0.setCell ⟨g, 1, none⟩ v1) g t #[v0, v1, y2, y3, y4] := h0.store 1 v1
  have g1 := only_setCell g0 (p := ⟨g, 1, none⟩) (.inl rfl) v1
  generalize W0.setCell ⟨g, 1, none⟩ v1 = W1 at *
  have h2 : Blk (W1.setCell ⟨g, 2, none⟩ v2) g t #[v0, v1, v2, y3, y4] := h1.store 2 v2
  have g2 := only_setCell g1 (p := ⟨g, 2, none⟩) (.inl rfl) v2
  generalize W1.setCell ⟨g, 2, none⟩ v2 = W2 at *
  have h3 : Blk (W2.setCell ⟨g, 3, none⟩ v3) g t #[v0, v1, v2, v3, y4] := h2.store 3 v3
  have g3 := only_setCell g2 (p := ⟨g, 3, none⟩) (.inl rfl) v3
  generalize W2.setCell ⟨g, 3, none⟩ v3 = W3 at *
  exact ⟨h3.store 4 v4, only_setCell g3 (p := ⟨g, 4, none⟩) (.inl rfl) v4⟩
end Go.Proofs
end

section
/- Walks: CloneTreaty: its drawn regions. -/
namespace Go.Proofs
open Go.RowKit

theorem own_block {W : World} {b : Nat} {e : TypeId} {sz : Nat} {v : Value} {n : Nat} {xs : List Value} (h : W.ownsRow b e sz v n xs) {g : Nat} (hg : v.ownBlock = some g) : ∃ cs, W.heap[g]? = some (.cells cs e) := by
  rcases h.2 with ⟨rfl, _⟩ | ⟨g', cap, cur, rfl, _, hh, _⟩
  · cases hg
  · cases hg; exact ⟨cur, hh⟩
theorem own_kept3 {b e sz n : Nat} {v : Value} {xs : List Value} {w w' : World} (h : w.ownsRow b e sz v n xs) {row : Option Nat} (hg : w.grownBy w' row) (hr : ∀ k, row = some k → v.ownBlock ≠ some k) : w'.ownsRow b e sz v n xs := by
  refine h.kept hg ?_
  cases hb : v.ownBlock with
  | none => exact .inl rfl
  | some g => exact .inr fun e => hr g e.symm hb
section
variable {α : Type} {R : World → α → List Value → Prop} {e : TypeId} {sz base : Nat} {v : Value} {S : Nat → Prop} {l : List α} {xs : List Value} {W W' : World}
end

section
variable {E : Nat} {W8 : World} {Ak Ae : Option Addr} {ck ce base : Nat} {vS : Value} {ms : List Mean} {mm : Mean} {done done' : Nat → Bool} {w w' : World} {i : Nat} {v : Value}
end



section
variable {B1 : Nat} {W8 : World} {T : Treaty} {a1 a2 a3 a4 : Option Addr} {c1 c2 c3 c4 : Nat} {done done' : Nat → Bool} {w w' : World} {i : Nat} {v : Value}
end


end Go.Proofs
end

section
/- Plain: where one can go, filled in by threes until nothing changes. -/
namespace Go.Proofs


def upd2 (g : Nat → Nat → Bool) (a c : Nat) (v : Bool) : Nat → Nat → Bool := fun a' c' => if a' = a ∧ c' = c then v else g a' c'

section
variable {E : Int → Int → Bool} {P : Nat} {g : Nat → Nat → Bool}
end


section
variable {E : Int → Int → Bool} {P m a b c : Nat} {ch : Bool} {g : Nat → Nat → Bool}
end
end Go.Proofs
end

section
/- Words for memory: tables of bools of the call's own. -/
namespace Go.Proofs
open Go.RowKit


theorem blk_type {W : World} {b : Nat} {t t' : TypeId} {cs cs' : Array Value} (h : Blk W b t cs) (h' : Blk W b t' cs') : t = t' := by
  unfold Blk at h h'; rw [h] at h'; cases h'; rfl
/-- A row of bools in a block. -/
def BRow (W : World) (b P : Nat) (g : Nat → Bool) : Prop := ∃ cs, Blk W b 4 cs ∧ cs.size = P ∧ ∀ c, c < P → cs[c]? = some (.bool (g c))
section
variable {W W' : World} {b P : Nat} {g : Nat → Bool}
theorem BRow.aft (h : BRow W b P g) (ha : Aft W W') : BRow W' b P g := let ⟨cs, h1, h2, h3⟩ := h; ⟨cs, h1.aft ha, h2, h3⟩
theorem BRow.lt (h : BRow W b P g) : b < W.heap.size := let ⟨_, h1, _, _⟩ := h; h1.lt
theorem BRow.grown (h : BRow W b P g) {row : Option Nat} (hg : W.grownBy W' row) (hne : some b ≠ row) : BRow W' b P g := let ⟨cs, h1, h2, h3⟩ := h; ⟨cs, h1.grown hg hne, h2, h3⟩
theorem BRow.cell (h : BRow W b P g) {c : Nat} (hc : c < P) : W.cell? ⟨b, c, none⟩ = some (.bool (g c)) := let ⟨_, h1, _, h3⟩ := h; (h1.cell c).trans (h3 c hc)
theorem BRow.frozen (h : BRow W b P g) (c : Nat) : W.frozen? ⟨b, c, none⟩ = false := let ⟨_, h1, _, _⟩ := h; h1.frozen c
theorem BRow.set (h : BRow W b P g) {c : Nat} (hc : c < P) (x : Bool) : BRow (W.setCell ⟨b, c, none⟩ (.bool x)) b P (fun c' => if c' = c then x else g c') := by
  obtain ⟨cs, h1, h2, h3⟩ := h
  refine ⟨_, h1.store c _, by simpa using h2, fun c' hc' => ?_⟩
  rw [Array.getElem?_setIfInBounds]
  by_cases e : c = c'
  · subst e; rw [if_pos rfl, if_pos (by omega)]; simp
  · rw [if_neg e, h3 c' hc']; simp [Ne.symm e]
theorem BRow.congr (h : BRow W b P g) {g' : Nat → Bool} (he : ∀ c, c < P → g c = g' c) : BRow W b P g' := let ⟨cs, h1, h2, h3⟩ := h; ⟨cs, h1, h2, fun c hc => by rw [h3 c hc, he c hc]⟩
end

theorem BRow.made (w : World) (P : Nat) : BRow (w.alloc (.cells (madeCells #[.bool false] P) 4)) w.heap.size P (fun _ => false) :=
  ⟨_, Blk.new _ _ _, size_madeCells _ _, fun c hc => by rw [← Array.getElem?_toList, toList_madeCells_one, List.getElem?_replicate, if_pos hc]⟩
theorem info4 : (Tryz.prog.info? 4).map (fun i => (i.zero, i.size, i.bytes)) = some (some (.bool false), 1, 1) := by kernel_rfl
/-- make([]bool, P) -/
theorem wpList_make_bools {w : World} {ops : Array Oper} {rest : List Oper} {o : Oper} {a : Act} {Q : Exit → Act → World → Prop} (hgd : o.guard = none) (l c : Operand) (ho : o.op = .makeSlice 50 l c) {P : Nat} (hl : a.eval l = .int .i64 P) (hc : a.eval c = .int .i64 P) (hP : P ≤ 100)
    (hn : wpList Tryz.prog ops Q rest (a.put o.dst (.slice (some ⟨w.heap.size, 0, none⟩) P P)) (w.alloc (.cells (madeCells #[.bool false] P) 4))) : wpList Tryz.prog ops Q (o :: rest) a w := by
  obtain ⟨i, hi, hz0, hz1, hz2⟩ := info_parts info4
  exact wpList_make_row w hgd l c 50 ho 4 i (.bool false) Tryz.underlying50 hi hz0 hz1 rfl .i64 .i64 P hl hc (by rw [hz2]; omega) (by omega) hn

/-- A table of bools of the call's own, row by row. -/
structure BTab (W : World) (base : Nat) (v : Value) (B : Nat → Nat) (n P : Nat) (g : Nat → Nat → Bool) : Prop where
  own : W.ownsRow base 50 1 v n ((List.range n).map fun i => Value.slice (some ⟨B i, 0, none⟩) P P)
  row : ∀ i, i < n → BRow W (B i) P (g i)
  far : ∀ i, i < n → base ≤ B i
  inj : ∀ i j, i < n → j < n → B i = B j → i = j
section
variable {W W' : World} {base : Nat} {v : Value} {B : Nat → Nat} {n P : Nat} {g : Nat → Nat → Bool}
theorem BTab.aft (h : BTab W base v B n P g) (ha : Aft W W') : BTab W' base v B n P g := ⟨own_aft h.own ha, fun i hi => (h.row i hi).aft ha, h.far, h.inj⟩
theorem BTab.congr (h : BTab W base v B n P g) {g' : Nat → Nat → Bool} (he : ∀ a c, a < n → c < P → g a c = g' a c) : BTab W base v B n P g' := ⟨h.own, fun i hi => (h.row i hi).congr fun c hc => he i c hi hc, h.far, h.inj⟩
theorem BTab.apart (h : BTab W base v B n P g) {i : Nat} (hi : i < n) : v.ownBlock ≠ some (B i) := fun e => by
  obtain ⟨cs, h1⟩ := own_block h.own e
  obtain ⟨cs', h2, -⟩ := h.row i hi
  have := blk_type h2 h1
  exact absurd this (by decide)
theorem BTab.slot (h : BTab W base v B n P g) {i : Nat} (hi : i < n) : ∃ bv c, v = .slice (some ⟨bv, 0, none⟩) n c ∧ n ≤ c ∧ base ≤ bv ∧ ∀ i, i < n → W.cell? ⟨bv, i, none⟩ = some (.slice (some ⟨B i, 0, none⟩) P P) := by
  rcases h.own.2 with ⟨rfl, h0⟩ | ⟨gg, cap, cur, rfl, hg, hh, hc, hm, hs, ht⟩
  · omega
  · refine ⟨gg, cap, rfl, hc, hg, fun i hi => ?_⟩
    have := h.own.cells (g := gg) rfl i (Value.slice (some ⟨B i, 0, none⟩) P P) (by rw [List.getElem?_map, List.getElem?_range hi]; rfl)
    rw [Addr.add_lit] at this
    simpa using this
theorem BTab.set (h : BTab W base v B n P g) {a c : Nat} (ha : a < n) (hc : c < P) (x : Bool) : BTab (W.setCell ⟨B a, c, none⟩ (.bool x)) base v B n P (upd2 g a c x) := by
  refine ⟨own_kept3 h.own (only_setCell (p := ⟨B a, c, none⟩) (only_refl W (some (B a))) (.inl rfl) _) (fun k e => by cases e; exact h.apart ha), fun i hi => ?_, h.far, h.inj⟩
  by_cases e : i = a
  · subst e
    refine ((h.row i hi).set hc x).congr fun c' _ => ?_
    unfold upd2
    by_cases e : c' = c
    · rw [if_pos e, if_pos ⟨rfl, e⟩]
    · rw [if_neg e, if_neg fun h => e h.2]
  · obtain ⟨cs, h1, h2, h3⟩ := h.row i hi
    refine ⟨cs, h1.far (fun e2 => e (h.inj i a hi ha e2)) _, h2, fun c' hc' => ?_⟩
    rw [h3 c' hc']
    unfold upd2
    rw [if_neg fun h => e h.1]
def putB (B : Nat → Nat) (n b : Nat) : Nat → Nat := fun i => if i = n then b else B i
end

section
variable {W W' : World} {t : Value} {P : Nat} {g : Nat → Nat → Bool}
end

section
variable {W W' : World} {base : Nat} {v : Value} {n P : Nat} {f : Nat → Nat → Nat → Bool}
end
end Go.Proofs
end
