/- Own texts, merged: Ctr Mgf Ctw. -/
import Derived.Test.YtobpdobneocckaaGreatDoorH10
import Derived.Deep.CutRange
import Derived.BigGuard
set_option linter.unusedSimpArgs false
set_option linter.unusedVariables false
section
/- Walks: CloneTreaty: its drawn regions. -/
namespace Go.Proofs
open Go.RowKit

noncomputable def opsCt (k : Nat) : List Oper := ((regAt k (Tryz.f10.body.getD .skip)).getD #[]).toList
/-- Blocks of other types than a treaty's. -/
def N27 (w : World) (S : Nat → Prop) : Prop := ∀ k, S k → ∃ cs t, w.heap[k]? = some (.cells cs t) ∧ t ≠ 27
theorem own_block {W : World} {b : Nat} {e : TypeId} {sz : Nat} {v : Value} {n : Nat} {xs : List Value} (h : W.ownsRow b e sz v n xs) {g : Nat} (hg : v.ownBlock = some g) : ∃ cs, W.heap[g]? = some (.cells cs e) := by
  rcases h.2 with ⟨rfl, _⟩ | ⟨g', cap, cur, rfl, _, hh, _⟩
  · cases hg
  · cases hg; exact ⟨cur, hh⟩
theorem own_n27 {W : World} {b : Nat} {e : TypeId} {sz : Nat} {v : Value} {n : Nat} {xs : List Value} (h : W.ownsRow b e sz v n xs) (he : e ≠ 27) : N27 W (fun k => v.ownBlock = some k) := fun k hk => let ⟨cs, h1⟩ := own_block h hk; ⟨cs, e, h1, he⟩
theorem N27.not {W : World} {S : Nat → Prop} (h : N27 W S) {g : Nat} {cs : Array Value} (hb : Blk W g 27 cs) : ¬ S g := fun hS => by
  obtain ⟨cs', t, h1, h2⟩ := h g hS
  have hb' : W.heap[g]? = some (.cells cs 27) := hb
  rw [hb'] at h1
  cases h1
  exact h2 rfl
theorem own_ne27 {W : World} {b : Nat} {e : TypeId} {sz : Nat} {v : Value} {n : Nat} {xs : List Value} (h : W.ownsRow b e sz v n xs) (he : e ≠ 27) {g : Nat} {cs : Array Value} (hb : Blk W g 27 cs) : v.ownBlock ≠ some g := fun e2 => (own_n27 h he).not hb e2
theorem own_kept3 {b e sz n : Nat} {v : Value} {xs : List Value} {w w' : World} (h : w.ownsRow b e sz v n xs) {row : Option Nat} (hg : w.grownBy w' row) (hr : ∀ k, row = some k → v.ownBlock ≠ some k) : w'.ownsRow b e sz v n xs := by
  refine h.kept hg ?_
  cases hb : v.ownBlock with
  | none => exact .inl rfl
  | some g => exact .inr fun e => hr g e.symm hb
section
variable {α : Type} {R : World → α → List Value → Prop} {e : TypeId} {sz base : Nat} {v : Value} {S : Nat → Prop} {l : List α} {xs : List Value} {W W' : World}
end
theorem aft_keep {w w' : World} (h : Aft w w') {k : Nat} (hk : k < w.heap.size) : w'.heap[k]? = w.heap[k]? := h.below.block k hk

section
variable {E : Nat} {W8 : World} {Ak Ae : Option Addr} {ck ce base : Nat} {vS : Value} {ms : List Mean} {mm : Mean} {done done' : Nat → Bool} {w w' : World} {i : Nat} {v : Value}
end
def chc9 (s : Nat) : Bool := decide (s = 6) || decide (s = 34) || decide (s = 35) || decide (s = 36) || decide (s = 37) || decide (s = 38) || decide (s = 39) || decide (s = 40) || decide (s = 41) || decide (s = 42) || decide (s = 43)



def Good1 (W8 : World) (T : Treaty) (b : Nat) (w : World) : Prop := ∃ v1 v3 v4, Blk w b 27 #[.int .i64 T.places, v1, .slice none 0 0, v3, v4] ∧ w.ownsRow W8.heap.size 65 3 v1 T.ways.length (T.ways.flatMap encWay) ∧ w.ownsRow W8.heap.size 3 1 v3 T.starts.length (T.starts.map (Value.int .i64)) ∧ w.ownsRow W8.heap.size 70 2 v4 T.legs.length (T.legs.flatMap encLeg)
structure Wc1 (W8 : World) (_ : Nat → Bool) (w : World) : Prop where
  aft : Aft W8 w
def Factc1 (B1 : Nat) (W8 : World) (T : Treaty) (a1 a2 a3 a4 : Option Addr) (c1 c2 c3 c4 : Nat) (done : Nat → Bool) : Nat → Value → World → Prop
  | 0, v, _ => v = .pointer (some ⟨B1, 0, none⟩)
  | 1, v, _ => v = .int .i64 T.places
  | 2, v, _ => v = .pointer (some ⟨B1, 1, none⟩)
  | 3, v, _ => v = .slice a1 T.ways.length c1
  | 4, v, w => w.ownsRow W8.heap.size 65 3 v T.ways.length (T.ways.flatMap encWay)
  | 5, v, _ => v = .pointer (some ⟨B1, 3, none⟩)
  | 6, v, _ => v = .slice a3 T.starts.length c3
  | 7, v, w => w.ownsRow W8.heap.size 3 1 v T.starts.length (T.starts.map (Value.int .i64))
  | 8, v, _ => v = .pointer (some ⟨B1, 4, none⟩)
  | 9, v, _ => v = .slice a4 T.legs.length c4
  | 10, v, w => w.ownsRow W8.heap.size 70 2 v T.legs.length (T.legs.flatMap encLeg)
  | 11, v, w => ∃ v1 v3 v4, v = .agg #[.int .i64 T.places, v1, .slice none 0 0, v3, v4] ∧ w.ownsRow W8.heap.size 65 3 v1 T.ways.length (T.ways.flatMap encWay) ∧ w.ownsRow W8.heap.size 3 1 v3 T.starts.length (T.starts.map (Value.int .i64)) ∧ w.ownsRow W8.heap.size 70 2 v4 T.legs.length (T.legs.flatMap encLeg)
  | 12, v, w => ∃ b, v = .pointer (some ⟨b, 0, none⟩) ∧ W8.heap.size ≤ b ∧ (done 13 = false → Blk w b 27 #[.int .i64 0, .slice none 0 0, .slice none 0 0, .slice none 0 0, .slice none 0 0]) ∧ (done 13 = true → Good1 W8 T b w)
  | _, _, _ => True
section
variable {B1 : Nat} {W8 : World} {T : Treaty} {a1 a2 a3 a4 : Option Addr} {c1 c2 c3 c4 : Nat} {done done' : Nat → Bool} {w w' : World} {i : Nat} {v : Value}
theorem Good1.aft {b : Nat} (h : Good1 W8 T b w) (ha : Aft w w') : Good1 W8 T b w' := let ⟨v1, v3, v4, h1, h2, h3, h4⟩ := h; ⟨v1, v3, v4, h1.aft ha, own_aft h2 ha, own_aft h3 ha, own_aft h4 ha⟩
theorem Factc1.aft (ha : Aft w w') (hd : done' 13 = done 13) (h : Factc1 B1 W8 T a1 a2 a3 a4 c1 c2 c3 c4 done i v w) : Factc1 B1 W8 T a1 a2 a3 a4 c1 c2 c3 c4 done' i v w' := by
  unfold Factc1 at h ⊢
  split at h <;> first
    | exact h
    | exact own_aft h ha
    | (obtain ⟨v1, v3, v4, e, h1, h2, h3⟩ := h; exact ⟨v1, v3, v4, e, own_aft h1 ha, own_aft h2 ha, own_aft h3 ha⟩)
    | (obtain ⟨b, e, h1, h2, h3⟩ := h; exact ⟨b, e, h1, fun h => (h2 (by rw [← hd]; exact h)).aft ha, fun h => (h3 (by rw [← hd]; exact h)).aft ha⟩)
theorem Factc1.low {g : Nat} (hg : w.grownBy w' (some g)) {cs : Array Value} (hb : Blk w g 27 cs) (hi : i ≠ 12) (h : Factc1 B1 W8 T a1 a2 a3 a4 c1 c2 c3 c4 done i v w) : Factc1 B1 W8 T a1 a2 a3 a4 c1 c2 c3 c4 done' i v w' := by
  have k : ∀ {e sz n : Nat} {v : Value} {xs : List Value}, w.ownsRow W8.heap.size e sz v n xs → e ≠ 27 → w'.ownsRow W8.heap.size e sz v n xs := fun h he => own_kept3 h hg (fun q e => by cases e; exact own_ne27 h he hb)
  unfold Factc1 at h ⊢
  split at h <;> first
    | exact h
    | omega
    | exact k h (by decide)
    | (obtain ⟨v1, v3, v4, e, h1, h2, h3⟩ := h; exact ⟨v1, v3, v4, e, k h1 (by decide), k h2 (by decide), k h3 (by decide)⟩)
end
def chc1 (s : Nat) : Bool := decide (s = 3) || decide (s = 9) || decide (s = 10) || decide (s = 11) || decide (s = 12) || decide (s = 13) || decide (s = 14) || decide (s = 15) || decide (s = 16) || decide (s = 17) || decide (s = 18) || decide (s = 19) || decide (s = 20)

set_option maxRecDepth 100000 in
set_option maxHeartbeats 2000000 in
theorem region1_ct (T : Treaty) (a1 a2 a3 a4 : Option Addr) (c1 c2 c3 c4 : Nat) (B1 : Nat) (a0 : Act) (Q0 : Exit → Act → World → Prop) (W8 : World)
    (hz : a0.tmps.size = 53) (s1 : a0.eval (.tmp 1) = .pointer (some ⟨B1, 0, none⟩))
    (hT : TRep W8 T a1 a2 a3 a4) (hbx : Blk W8 B1 27 #[.int .i64 T.places, .slice a1 T.ways.length c1, .slice a2 T.words.length c2, .slice a3 T.starts.length c3, .slice a4 T.legs.length c4]) (hl1 : T.ways.length ≤ 1000) (hl4 : T.legs.length ≤ 1000)
    (hexit : ∀ a W' b, a.tmps.size = 53 → a.defers = a0.defers → (∀ s : Nat, chc1 s = false → a.eval (.tmp s) = a0.eval (.tmp s)) → a.eval (.tmp 3) = .pointer (some ⟨b, 0, none⟩) → W8.heap.size ≤ b → Good1 W8 T b W' → Aft W8 W' → Q0 .normal a W') :
    Code.wp Tryz.prog (Code.region 1 (opsCt 1).toArray true) Q0 a0 W8 := by
  have HEX := Lib.hid hexit
  clear hexit
  refine wp_region_factsE (by kernel_rfl) 53 hz (by kernel_rfl) (Factc1 B1 W8 T a1 a2 a3 a4 c1 c2 c3 c4) (Wc1 W8) ⟨Aft.drew _⟩ ?step ?fin
  case step =>
    intro i o ho done a w hH hd hp K hK
    have hW := hH.wd
    have hold : ∀ s : Nat, chc1 s = false → a.eval (.tmp s) = a0.eval (.tmp s) := fun s h => hH.old s fun k ok hk hs => by
      match k, hk with
      | 0, hk => cases hk; cases hs; exact absurd h (by decide)
      | 1, hk => cases hk; cases hs; exact absurd h (by decide)
      | 2, hk => cases hk; cases hs; exact absurd h (by decide)
      | 3, hk => cases hk; cases hs; exact absurd h (by decide)
      | 4, hk => cases hk; cases hs; exact absurd h (by decide)
      | 5, hk => cases hk; cases hs; exact absurd h (by decide)
      | 6, hk => cases hk; cases hs; exact absurd h (by decide)
      | 7, hk => cases hk; cases hs; exact absurd h (by decide)
      | 8, hk => cases hk; cases hs; exact absurd h (by decide)
      | 9, hk => cases hk; cases hs; exact absurd h (by decide)
      | 10, hk => cases hk; cases hs; exact absurd h (by decide)
      | 11, hk => cases hk; cases hs; exact absurd h (by decide)
      | 12, hk => cases hk; cases hs; exact absurd h (by decide)
      | 13, hk => cases hk; cases hs
      | _ + 14, hk => cases hk
    have hbox : Blk w B1 27 #[.int .i64 T.places, .slice a1 T.ways.length c1, .slice a2 T.words.length c2, .slice a3 T.starts.length c3, .slice a4 T.legs.length c4] := hbx.aft hW.aft
    have h13' : i ≠ 13 → done 13 = false := fun hi => by
      cases hdk : done 13 with
      | false => rfl
      | true => have := hH.closed 13 _ rfl hdk i (by revert hd; match i, ho with
        | 0, _ => intro _; decide
        | 1, _ => intro _; decide
        | 2, _ => intro _; decide
        | 3, _ => intro _; decide
        | 4, _ => intro _; decide
        | 5, _ => intro _; decide
        | 6, _ => intro _; decide
        | 7, _ => intro _; decide
        | 8, _ => intro _; decide
        | 9, _ => intro _; decide
        | 10, _ => intro _; decide
        | 11, _ => intro _; decide
        | 12, _ => intro _; decide
        | 13, _ => exact absurd rfl hi
        | _ + 14, ho => cases ho); rw [hd] at this; cases this
    have hK' : ∀ v, i ≠ 13 → Factc1 B1 W8 T a1 a2 a3 a4 c1 c2 c3 c4 (Go.upd done i) i v w → K (a.put o.dst v) w := fun v h9 hv => hK v w hv ⟨hW.aft⟩ fun j _ _ _ _ _ hu => Factc1.aft (Aft.refl w) (by unfold Go.upd; rw [if_neg (Ne.symm h9)]) hu
    match i, ho, hd, hp, hK, hK', h13' with
    | 0, ho, hd, hp, hK, hK', h13' =>
      cases ho
      have e : a.eval (.tmp 1) = .pointer (some ⟨B1, 0, none⟩) := (hold 1 (by decide)).trans s1
      exact op_value (by simp [go_sem, ev e]) (hK' _ (by decide) rfl)
    | 1, ho, hd, hp, hK, hK', h13' =>
      cases ho
      have e : a.eval (.tmp 9) = .pointer (some ⟨B1, 0, none⟩) := hH.fact 0 _ 9 rfl rfl (hp 0 (by decide))
      have hc : w.cell? ⟨B1, 0, none⟩ = some (.int .i64 T.places) := hbox.cell 0
      exact op_value (by simp [go_sem, ev e, hc]) (hK' _ (by decide) rfl)
    | 2, ho, hd, hp, hK, hK', h13' =>
      cases ho
      have e : a.eval (.tmp 1) = .pointer (some ⟨B1, 0, none⟩) := (hold 1 (by decide)).trans s1
      exact op_value (by simp [go_sem, ev e]) (hK' _ (by decide) rfl)
    | 3, ho, hd, hp, hK, hK', h13' =>
      cases ho
      have e : a.eval (.tmp 11) = .pointer (some ⟨B1, 1, none⟩) := hH.fact 2 _ 11 rfl rfl (hp 2 (by decide))
      have hc : w.cell? ⟨B1, 1, none⟩ = some (.slice a1 T.ways.length c1) := hbox.cell 1
      exact op_value (by simp [go_sem, ev e, hc]) (hK' _ (by decide) rfl)
    | 4, ho, hd, hp, hK, hK', h13' =>
      cases ho
      have e : a.eval (.tmp 12) = .slice a1 T.ways.length c1 := hH.fact 3 _ 12 rfl rfl (hp 3 (by decide))
      refine op_call1 Tryz.func45 (by kernel_rfl) (by kernel_rfl) _ rfl e (cloneWays a1 T.ways c1 w (hT.aft hW.aft).ways (by omega)) ?_
      rintro e w' ⟨v, rfl, hown, ha⟩
      exact ⟨_, rfl, hK _ _ (World.ownsRow.mono hown hW.aft.size) ⟨hW.aft.trans ha⟩ fun j _ _ _ _ _ hu => Factc1.aft ha rfl hu⟩
    | 5, ho, hd, hp, hK, hK', h13' =>
      cases ho
      have e : a.eval (.tmp 1) = .pointer (some ⟨B1, 0, none⟩) := (hold 1 (by decide)).trans s1
      exact op_value (by simp [go_sem, ev e]) (hK' _ (by decide) rfl)
    | 6, ho, hd, hp, hK, hK', h13' =>
      cases ho
      have e : a.eval (.tmp 14) = .pointer (some ⟨B1, 3, none⟩) := hH.fact 5 _ 14 rfl rfl (hp 5 (by decide))
      have hc : w.cell? ⟨B1, 3, none⟩ = some (.slice a3 T.starts.length c3) := hbox.cell 3
      exact op_value (by simp [go_sem, ev e, hc]) (hK' _ (by decide) rfl)
    | 7, ho, hd, hp, hK, hK', h13' =>
      cases ho
      have e : a.eval (.tmp 15) = .slice a3 T.starts.length c3 := hH.fact 6 _ 15 rfl rfl (hp 6 (by decide))
      refine op_call1 Tryz.func46 (by kernel_rfl) (by kernel_rfl) _ rfl e (kitClone_int a3 T.starts c3 w (hT.aft hW.aft).starts) ?_
      rintro e w' ⟨v, rfl, hown, ha⟩
      exact ⟨_, rfl, hK _ _ (World.ownsRow.mono hown hW.aft.size) ⟨hW.aft.trans ha⟩ fun j _ _ _ _ _ hu => Factc1.aft ha rfl hu⟩
    | 8, ho, hd, hp, hK, hK', h13' =>
      cases ho
      have e : a.eval (.tmp 1) = .pointer (some ⟨B1, 0, none⟩) := (hold 1 (by decide)).trans s1
      exact op_value (by simp [go_sem, ev e]) (hK' _ (by decide) rfl)
    | 9, ho, hd, hp, hK, hK', h13' =>
      cases ho
      have e : a.eval (.tmp 17) = .pointer (some ⟨B1, 4, none⟩) := hH.fact 8 _ 17 rfl rfl (hp 8 (by decide))
      have hc : w.cell? ⟨B1, 4, none⟩ = some (.slice a4 T.legs.length c4) := hbox.cell 4
      exact op_value (by simp [go_sem, ev e, hc]) (hK' _ (by decide) rfl)
    | 10, ho, hd, hp, hK, hK', h13' =>
      cases ho
      have e : a.eval (.tmp 18) = .slice a4 T.legs.length c4 := hH.fact 9 _ 18 rfl rfl (hp 9 (by decide))
      refine op_call1 Tryz.func47 (by kernel_rfl) (by kernel_rfl) _ rfl e (cloneLegs a4 T.legs c4 w (hT.aft hW.aft).legs (by omega)) ?_
      rintro e w' ⟨v, rfl, hown, ha⟩
      exact ⟨_, rfl, hK _ _ (World.ownsRow.mono hown hW.aft.size) ⟨hW.aft.trans ha⟩ fun j _ _ _ _ _ hu => Factc1.aft ha rfl hu⟩
    | 11, ho, hd, hp, hK, hK', h13' =>
      cases ho
      have e0 : a.eval (.tmp 10) = .int .i64 T.places := hH.fact 1 _ 10 rfl rfl (hp 1 (by decide))
      obtain ⟨v1, e1⟩ : ∃ v, a.eval (.tmp 13) = v := ⟨_, rfl⟩
      obtain ⟨v3, e3⟩ : ∃ v, a.eval (.tmp 16) = v := ⟨_, rfl⟩
      obtain ⟨v4, e4⟩ : ∃ v, a.eval (.tmp 19) = v := ⟨_, rfl⟩
      have g1 : w.ownsRow W8.heap.size 65 3 v1 T.ways.length (T.ways.flatMap encWay) := by rw [← e1]; exact hH.fact 4 _ 13 rfl rfl (hp 4 (by decide))
      have g3 : w.ownsRow W8.heap.size 3 1 v3 T.starts.length (T.starts.map (Value.int .i64)) := by rw [← e3]; exact hH.fact 7 _ 16 rfl rfl (hp 7 (by decide))
      have g4 : w.ownsRow W8.heap.size 70 2 v4 T.legs.length (T.legs.flatMap encLeg) := by rw [← e4]; exact hH.fact 10 _ 19 rfl rfl (hp 10 (by decide))
      have hf : Factc1 B1 W8 T a1 a2 a3 a4 c1 c2 c3 c4 (Go.upd done 11) 11 (.agg #[.int .i64 T.places, v1, .slice none 0 0, v3, v4]) w := ⟨v1, v3, v4, rfl, g1, g3, g4⟩
      obtain ⟨s1A, s1n, s1c, rfl⟩ := own_slice' g1
      obtain ⟨s3A, s3n, s3c, rfl⟩ := own_slice' g3
      obtain ⟨s4A, s4n, s4c, rfl⟩ := own_slice' g4
      exact op_value (by simp [go_sem, ev e0, ev e1, ev e3, ev e4]) (hK' _ (by decide) hf)
    | 12, ho, hd, hp, hK, hK', h13' =>
      cases ho
      have ha := Aft.alloc w (.cells #[.int .i64 0, .slice none 0 0, .slice none 0 0, .slice none 0 0, .slice none 0 0] 27)
      have h13 := h13' (by decide)
      have h1 : Factc1 B1 W8 T a1 a2 a3 a4 c1 c2 c3 c4 (Go.upd done 12) 12 (.pointer (some ⟨w.heap.size, 0, none⟩)) (w.alloc (.cells #[.int .i64 0, .slice none 0 0, .slice none 0 0, .slice none 0 0, .slice none 0 0] 27)) := ⟨_, rfl, hW.aft.size, fun _ => Blk.new _ _ _, fun h => by rw [show Go.upd done 12 13 = done 13 from rfl, h13] at h; cases h⟩
      have := hK _ _ h1 ⟨hW.aft.trans ha⟩ fun j _ _ _ _ _ hu => Factc1.aft ha rfl hu
      unfold Oper.wp
      simpa [go_sem] using this
    | 13, ho, hd, hp, hK, hK', h13' =>
      cases ho
      obtain ⟨v1, v3, v4, e, g1, g3, g4⟩ : ∃ v1 v3 v4, a.eval (.tmp 20) = .agg #[.int .i64 T.places, v1, .slice none 0 0, v3, v4] ∧ w.ownsRow W8.heap.size 65 3 v1 T.ways.length (T.ways.flatMap encWay) ∧ w.ownsRow W8.heap.size 3 1 v3 T.starts.length (T.starts.map (Value.int .i64)) ∧ w.ownsRow W8.heap.size 70 2 v4 T.legs.length (T.legs.flatMap encLeg) := hH.fact 11 _ 20 rfl rfl (hp 11 (by decide))
      obtain ⟨b, e2, hbb, hbl, -⟩ : ∃ b, a.eval (.tmp 3) = .pointer (some ⟨b, 0, none⟩) ∧ W8.heap.size ≤ b ∧ (done 13 = false → Blk w b 27 #[.int .i64 0, .slice none 0 0, .slice none 0 0, .slice none 0 0, .slice none 0 0]) ∧ (done 13 = true → Good1 W8 T b w) := hH.fact 12 _ 3 rfl rfl (hp 12 (by decide))
      have hb0 := hbl hd
      obtain ⟨h5, hg5⟩ := blk_five hb0 (.int .i64 T.places) v1 (.slice none 0 0) v3 v4
      have k : ∀ {e sz n : Nat} {v : Value} {xs : List Value}, w.ownsRow W8.heap.size e sz v n xs → e ≠ 27 → World.ownsRow (((((w.setCell ⟨b, 0, none⟩ (.int .i64 T.places)).setCell ⟨b, 1, none⟩ v1).setCell ⟨b, 2, none⟩ (.slice none 0 0)).setCell ⟨b, 3, none⟩ v3).setCell ⟨b, 4, none⟩ v4) W8.heap.size e sz v n xs := fun h he => own_kept3 h hg5 (fun q e => by cases e; exact own_ne27 h he hb0)
      have hgood : Good1 W8 T b _ := ⟨v1, v3, v4, h5, k g1 (by decide), k g3 (by decide), k g4 (by decide)⟩
      have := hK undef _ trivial ⟨hW.aft.grown hg5 (fun q e => by cases e; exact hbb)⟩ fun j oj s hoj hs hj hu => by
        by_cases hj12 : j = 12
        · subst hj12
          cases hoj
          cases hs
          exact ⟨b, e2, hbb, fun h => (by (have h' : Go.upd done 13 13 = true := rfl); rw [h'] at h; cases h), fun _ => hgood⟩
        · exact Factc1.low hg5 hb0 hj12 hu
      obtain ⟨s1A, s1n, s1c, rfl⟩ := own_slice' g1
      obtain ⟨s3A, s3n, s3c, rfl⟩ := own_slice' g3
      obtain ⟨s4A, s4n, s4c, rfl⟩ := own_slice' g4
      have hlt := hb0.lt
      have hf : ∀ i, w.frozen? ⟨b, i, none⟩ = false := fun i => hb0.frozen i
      have j0 : w.cell? ⟨b, 0, none⟩ = some (.int .i64 0) := hb0.cell 0
      have j1 : w.cell? ⟨b, 1, none⟩ = some (.slice none 0 0) := hb0.cell 1
      have j2 : w.cell? ⟨b, 2, none⟩ = some (.slice none 0 0) := hb0.cell 2
      have j3 : w.cell? ⟨b, 3, none⟩ = some (.slice none 0 0) := hb0.cell 3
      have j4 : w.cell? ⟨b, 4, none⟩ = some (.slice none 0 0) := hb0.cell 4
      unfold Oper.wp
      simpa [go_sem, ev e, ev e2, hf, j0, j1, j2, j3, j4, hlt] using this
    | _ + 14, ho, _, _, _, _, _ => cases ho
  case fin =>
    intro done a w hall hH
    have hdone : ∀ i, i < 14 → done i = true := fun i hi => hall i (by exact hi)
    have hold : ∀ s : Nat, chc1 s = false → a.eval (.tmp s) = a0.eval (.tmp s) := fun s h => hH.old s fun k ok hk hs => by
      match k, hk with
      | 0, hk => cases hk; cases hs; exact absurd h (by decide)
      | 1, hk => cases hk; cases hs; exact absurd h (by decide)
      | 2, hk => cases hk; cases hs; exact absurd h (by decide)
      | 3, hk => cases hk; cases hs; exact absurd h (by decide)
      | 4, hk => cases hk; cases hs; exact absurd h (by decide)
      | 5, hk => cases hk; cases hs; exact absurd h (by decide)
      | 6, hk => cases hk; cases hs; exact absurd h (by decide)
      | 7, hk => cases hk; cases hs; exact absurd h (by decide)
      | 8, hk => cases hk; cases hs; exact absurd h (by decide)
      | 9, hk => cases hk; cases hs; exact absurd h (by decide)
      | 10, hk => cases hk; cases hs; exact absurd h (by decide)
      | 11, hk => cases hk; cases hs; exact absurd h (by decide)
      | 12, hk => cases hk; cases hs; exact absurd h (by decide)
      | 13, hk => cases hk; cases hs
      | _ + 14, hk => cases hk
    obtain ⟨b, e, h1, -, h2⟩ : ∃ b, a.eval (.tmp 3) = .pointer (some ⟨b, 0, none⟩) ∧ W8.heap.size ≤ b ∧ (done 13 = false → Blk w b 27 #[.int .i64 0, .slice none 0 0, .slice none 0 0, .slice none 0 0, .slice none 0 0]) ∧ (done 13 = true → Good1 W8 T b w) := hH.fact 12 _ 3 rfl rfl (hdone 12 (by decide))
    exact HEX.out a w b (hH.size.trans hz) hH.defers hold e h1 (h2 (hdone 13 (by decide))) hH.wd.aft

set_option maxRecDepth 100000 in
set_option maxHeartbeats 2000000 in
theorem region1_ctlit (T : Treaty) (a1 a2 a3 a4 : Option Addr) (c1 c2 c3 c4 : Nat) (B1 : Nat) (W8 : World) (hT : TRep W8 T a1 a2 a3 a4) (hbx : Blk W8 B1 27 #[.int .i64 T.places, .slice a1 T.ways.length c1, .slice a2 T.words.length c2, .slice a3 T.starts.length c3, .slice a4 T.legs.length c4]) (hl1 : T.ways.length ≤ 1000) (hl4 : T.legs.length ≤ 1000)
    (q0 q2 q3 q4 q5 q6 q7 q8 q9 q10 q11 q12 q13 q14 q15 q16 q17 q18 q19 q20 q21 q22 q23 q24 q25 q26 q27 q28 q29 q30 q31 q32 q33 q34 q35 q36 q37 q38 q39 q40 q41 q42 q43 q44 q45 q46 q47 q48 q49 q50 q51 q52 : Value) (Q0 : Exit → Act → World → Prop)
    (hexit : ∀ (u3 u9 u10 u11 u12 u13 u14 u15 u16 u17 u18 u19 u20 : Value) W' b, u3 = .pointer (some ⟨b, 0, none⟩) → W8.heap.size ≤ b → Good1 W8 T b W' → Aft W8 W' → Q0 .normal ⟨(List.toArray (q0 :: .pointer (some ⟨B1, 0, none⟩) :: q2 :: u3 :: q4 :: q5 :: q6 :: q7 :: q8 :: u9 :: u10 :: u11 :: u12 :: u13 :: u14 :: u15 :: u16 :: u17 :: u18 :: u19 :: u20 :: q21 :: q22 :: q23 :: q24 :: q25 :: q26 :: q27 :: q28 :: q29 :: q30 :: q31 :: q32 :: q33 :: q34 :: q35 :: q36 :: q37 :: q38 :: q39 :: q40 :: q41 :: q42 :: q43 :: q44 :: q45 :: q46 :: q47 :: q48 :: q49 :: q50 :: q51 :: q52 :: [])), []⟩ W') :
    Code.wp Tryz.prog (Code.region 1 (opsCt 1).toArray true) Q0 ⟨(List.toArray (q0 :: .pointer (some ⟨B1, 0, none⟩) :: q2 :: q3 :: q4 :: q5 :: q6 :: q7 :: q8 :: q9 :: q10 :: q11 :: q12 :: q13 :: q14 :: q15 :: q16 :: q17 :: q18 :: q19 :: q20 :: q21 :: q22 :: q23 :: q24 :: q25 :: q26 :: q27 :: q28 :: q29 :: q30 :: q31 :: q32 :: q33 :: q34 :: q35 :: q36 :: q37 :: q38 :: q39 :: q40 :: q41 :: q42 :: q43 :: q44 :: q45 :: q46 :: q47 :: q48 :: q49 :: q50 :: q51 :: q52 :: [])), []⟩ W8 := by
  refine region1_ct T a1 a2 a3 a4 c1 c2 c3 c4 B1 _ Q0 W8 rfl rfl hT hbx hl1 hl4 ?_
  intro a W' b hz hd hs h1 h2 h3 h4
  have e := frame_act 53 a _ hz hd chc1 (fun s hp => hs s hp)
  have e2 : a = ⟨(List.toArray (q0 :: .pointer (some ⟨B1, 0, none⟩) :: q2 :: a.eval (.tmp 3) :: q4 :: q5 :: q6 :: q7 :: q8 :: a.eval (.tmp 9) :: a.eval (.tmp 10) :: a.eval (.tmp 11) :: a.eval (.tmp 12) :: a.eval (.tmp 13) :: a.eval (.tmp 14) :: a.eval (.tmp 15) :: a.eval (.tmp 16) :: a.eval (.tmp 17) :: a.eval (.tmp 18) :: a.eval (.tmp 19) :: a.eval (.tmp 20) :: q21 :: q22 :: q23 :: q24 :: q25 :: q26 :: q27 :: q28 :: q29 :: q30 :: q31 :: q32 :: q33 :: q34 :: q35 :: q36 :: q37 :: q38 :: q39 :: q40 :: q41 :: q42 :: q43 :: q44 :: q45 :: q46 :: q47 :: q48 :: q49 :: q50 :: q51 :: q52 :: [])), []⟩ := e
  have h := hexit (a.eval (.tmp 3)) (a.eval (.tmp 9)) (a.eval (.tmp 10)) (a.eval (.tmp 11)) (a.eval (.tmp 12)) (a.eval (.tmp 13)) (a.eval (.tmp 14)) (a.eval (.tmp 15)) (a.eval (.tmp 16)) (a.eval (.tmp 17)) (a.eval (.tmp 18)) (a.eval (.tmp 19)) (a.eval (.tmp 20)) W' b h1 h2 h3 h4
  rw [← e2] at h
  exact h
end Go.Proofs
end

section
/- Walks: Made. -/
namespace Go.Proofs
open Go.RowKit


/-- Between two ways. -/
def MW1 (w0 : World) (d : Nat) (A : Option Addr) (l : List Int) (c m : Nat) (wE : World) (B p k : Nat) (W : World) : Prop :=
  ∃ (ws : List Way) (v1 : Value), ws.length = k ∧ (∀ x ∈ ws, WayOk p x) ∧ DeckAt w0 d A l c (m + 2 + 3 * k) W ∧ wE.grownBy W (some d) ∧ B + 1 ≤ W.heap.size ∧ Blk W B 27 #[.int .i64 p, v1, .slice none 0 0, .slice none 0 0, .slice none 0 0] ∧ W.ownsRow (B + 1) 65 3 v1 ws.length (ws.flatMap encWay)

theorem wpList_app1 {ops : Array Oper} {rest : List Oper} {o : Oper} {a : Act} {w : World} {Q : Exit → Act → World → Prop} {t e : TypeId} {size bytes : Nat} (hT : SliceTy Tryz.prog t e size bytes) (hgd : o.guard = none) (s x : Operand) (ho : o.op = .call { callee := .builtin .append, args := #[s, x], argTypes := #[t, t] })
    {base n : Nat} {v : Value} {xs : List Value} (hbase : base ≤ w.heap.size) (hs : a.eval s = v) (hown : w.ownsRow base e size v n xs) {b c : Nat} {t' : TypeId} {news : List Value} (hx : a.eval x = .slice (some ⟨b, 0, none⟩) 1 c) (hb : Blk w b t' news.toArray) (hl : news.length = size)
    (h1 : ∀ u ∈ news, u.oneCell' = true) (hlen : n ≤ 1000000) (hbytes : bytes ≤ 1000)
    (hn : ∀ v' w', w'.ownsRow base e size v' (n + 1) (xs ++ news) → w.grownBy w' v.ownBlock → (v'.ownBlock = v.ownBlock ∨ v'.ownBlock = some w.heap.size) → wpList Tryz.prog ops Q rest (a.put o.dst v') w') : wpList Tryz.prog ops Q (o :: rest) a w :=
  wpList_plain hgd fun _ hK => op_app hT s x ho hbase hs hown hx hb hl h1 hlen hbytes fun v' w' g1 g2 g3 => hK _ _ (hn v' w' g1 g2 g3)
theorem ty23 : SliceTy Tryz.prog 23 68 1 24 := .mk' (z := .slice none 0 0) Tryz.underlying23 (by kernel_rfl) rfl (by decide)
def WordsOk (p : Nat) (ls : List (List Mean)) : Prop := ∀ l ∈ ls, (1 ≤ l.length ∧ l.length ≤ 3) ∧ ∀ m ∈ l, MeanOk p m
/-- Between two words. -/
def MW2 (w0 : World) (d : Nat) (A : Option Addr) (l : List Int) (c m : Nat) (wE : World) (B p : Nat) (ws : List Way) (v1 : Value) (k : Nat) (W : World) : Prop :=
  ∃ (ls : List (List Mean)) (v2 : Value) (S : Nat → Prop) (xs : List Value), ls.length = k ∧ WordsOk p ls ∧ DeckAt w0 d A l c (m + 60 + 50 * k) W ∧ wE.grownBy W (some d) ∧ B + 1 ≤ W.heap.size ∧
    Blk W B 27 #[.int .i64 p, v1, v2, .slice none 0 0, .slice none 0 0] ∧ W.ownsRow (B + 1) 65 3 v1 ws.length (ws.flatMap encWay) ∧ OwnK WordR 68 1 (B + 1) v2 S ls xs W ∧ (∀ g, v1.ownBlock = some g → v2.ownBlock ≠ some g ∧ ¬ S g)
/-- Between two meanings. -/
def MW3 (w0 : World) (d : Nat) (A : Option Addr) (l : List Int) (c m : Nat) (wR : World) (b p k : Nat) (vS : Value) (W : World) : Prop :=
  ∃ (ms : List Mean) (S : Nat → Prop) (xs : List Value), ms.length = k ∧ (∀ m ∈ ms, MeanOk p m) ∧ DeckAt w0 d A l c (m + 12 * k) W ∧ wR.grownBy W (some d) ∧ OwnK MeanR 67 2 b vS S ms xs W

/-- Where the starts stand in a list of their own. -/
def MS (w0 : World) (d : Nat) (A : Option Addr) (l : List Int) (c m : Nat) (wE : World) (B p : Nat) (ws : List Way) (v1 : Value) (ls : List (List Mean)) (v2 : Value) (S : Nat → Prop) (xs : List Value) (W : World) : Prop :=
  ∃ (ns : List Int) (v3 : Value), 1 ≤ ns.length ∧ ns.length ≤ p ∧ (∀ x ∈ ns, 0 ≤ x ∧ x < p) ∧ risesB ns = true ∧ DeckAt w0 d A l c m W ∧ wE.grownBy W (some d) ∧ B + 1 ≤ W.heap.size ∧
    Blk W B 27 #[.int .i64 p, v1, v2, v3, .slice none 0 0] ∧ W.ownsRow (B + 1) 65 3 v1 ws.length (ws.flatMap encWay) ∧ OwnK WordR 68 1 (B + 1) v2 S ls xs W ∧ W.ownsRow (B + 1) 3 1 v3 ns.length (ns.map (Value.int .i64))
/-- Between two legs. -/
def MW4 (w0 : World) (d : Nat) (A : Option Addr) (l : List Int) (c m : Nat) (wE W0 : World) (B p nW : Nat) (v1 v2 v3 : Value) (k : Nat) (W : World) : Prop :=
  ∃ (lg : List Leg) (v4 : Value), lg.length = k ∧ (∀ x ∈ lg, LegOk nW x) ∧ DeckAt w0 d A l c (m + 2 * k) W ∧ wE.grownBy W (some d) ∧ W0.heap.size ≤ W.heap.size ∧ (∀ k, k < W0.heap.size → k ≠ d → k ≠ B → W.heap[k]? = W0.heap[k]?) ∧
    Blk W B 27 #[.int .i64 p, v1, v2, v3, v4] ∧ W.ownsRow W0.heap.size 70 2 v4 lg.length (lg.flatMap encLeg)
/-- What Made answers: a treaty of its own, that stands whatever the deck deals. -/
def MadeR (w0 : World) (d : Nat) (A : Option Addr) (l : List Int) (c m : Nat) (w : World) (e : Ending) (w' : World) : Prop :=
  ∃ (T : Treaty) (a1 a2 a3 a4 : Option Addr) (c1 c2 c3 c4 : Nat), e = .returned (.agg #[.int .i64 T.places, .slice a1 T.ways.length c1, .slice a2 T.words.length c2, .slice a3 T.starts.length c3, .slice a4 T.legs.length c4]) ∧ MOk T ∧ DeckAt w0 d A l c (m + 1000) w' ∧ w.grownBy w' (some d) ∧ TRepF d w' T a1 a2 a3 a4

set_option maxRecDepth 100000 in
set_option maxHeartbeats 4000000 in
theorem made_any (w0 : World) (d : Nat) (A : Option Addr) (l : List Int) (c m : Nat) (w : World) (hd : DeckAt w0 d A l c m w) (hm : m ≤ 700000) (q : Nat) (hq : q ≤ 10) : Calls Tryz.prog 20 #[.pointer (some ⟨d, 0, none⟩), .int .i64 q] w (MadeR w0 d A l c m w) := by
  have HD := Lib.hid hd
  have hdl := hd.lt
  clear hd
  go_enter Tryz.func20, Tryz.ntmps20
  (repeat (first | go_big_skip | go_big_want | go_big_move | go_big_op | go_step | go_upon | go_back))
  go_at_call 66
  refine (between_any w0 d A l c m 2 8 _ (HD.out.aft (Aft.alloc _ _)) (by omega) (by omega) (by omega) (by omega)).mono ?_
  rintro e x ⟨P, rfl, hp1, hp2, hdk, hgr⟩
  dsimp only
  obtain ⟨p, rfl⟩ := Int.eq_ofNat_of_zero_le (show 0 ≤ P by omega)
  have HDK := Lib.hid hdk
  have HG := Lib.hid hgr
  clear hdk hgr
  (repeat (first | go_big_skip | go_big_want | go_big_move | go_big_op | go_step | go_upon | go_back))
  go_at_call 66
  refine (between_any w0 d A l c (m + 1) 2 16 _ (HDK.out.aft (Aft.alloc _ _)) (by omega) (by omega) (by omega) (by omega)).mono ?_
  rintro e y ⟨n0, rfl, hn1, hn2, hdk, hgr⟩
  dsimp only
  obtain ⟨n0, rfl⟩ := Int.eq_ofNat_of_zero_le (show 0 ≤ n0 by omega)
  (repeat (first | go_big_skip | go_big_want | go_big_move | go_big_op | go_step | go_upon | go_back))
  have hA := Aft.alloc w (.cells #[.int .i64 0, .slice none 0 0, .slice none 0 0, .slice none 0 0, .slice none 0 0] 27)
  have hB : Blk y x.heap.size 27 #[.int .i64 p, .slice none 0 0, .slice none 0 0, .slice none 0 0, .slice none 0 0] := (Blk.new x 27 _).grown hgr (fun e => by injection e with e; have := HDK.out.lt; omega)
  have hdx := HDK.out.lt
  have hxs := HG.out.size
  have hgE := HG.out.trans (only_of_aft (Aft.alloc x (.cells #[.int .i64 p, .slice none 0 0, .slice none 0 0, .slice none 0 0, .slice none 0 0] 27)) (some d))
  have HGE := Lib.hid (hgE.trans hgr)
  have HM0 : Hid (MW1 w0 d A l c m (w.alloc (.cells #[.int .i64 0, .slice none 0 0, .slice none 0 0, .slice none 0 0, .slice none 0 0] 27)) x.heap.size p 0 y) := Lib.hid ⟨[], .slice none 0 0, rfl, by simp, hdk, HGE.out, by have := hgr.size; rw [World.size_alloc] at this; exact this, hB, World.ownsRow_nil _ _ 65 3⟩
  have HdB := Lib.hid hdx
  have HEB := Lib.hid hxs
  clear hB hgE hdk hgr HDK HG hdx hxs
  generalize x.heap.size = B at *
  obtain ⟨wE, hwE⟩ : ∃ wE, wE = w.alloc (.cells #[.int .i64 0, .slice none 0 0, .slice none 0 0, .slice none 0 0, .slice none 0 0] 27) := ⟨_, rfl⟩
  rw [← hwE] at HM0 HGE HEB
  have HWE := Lib.hid hwE
  clear hwE hA
  go_loopw [13] (fun i wr => ∃ k : Nat, i = .int .i64 k ∧ k ≤ n0 ∧ MW1 w0 d A l c m wE B p k wr) (fun i _ => n0 - (intOf i).toNat)
  case atStart => exact ⟨0, rfl, by omega, HM0.out⟩
  case round =>
    obtain ⟨k, rfl, hk, hM⟩ := hrel
    have HM := Lib.hid hM
    clear hM
    by_cases hkn : k < n0
    · have hdec : decide ((k : Int) < (n0 : Int)) = true := by simp; omega
      obtain ⟨ws, v1, hwl, hws, hdk, hgr, hsz, hbx, hown⟩ := HM.out
      have c0 : wr.cell? ⟨B, 0, none⟩ = some (.int .i64 p) := hbx.cell 0
      have hlt := hbx.lt
      have HBX := Lib.hid hbx
      have HOW := Lib.hid hown
      have HDK := Lib.hid hdk
      have HGR := Lib.hid hgr
      have HSZ := Lib.hid hsz
      have HWS := Lib.hid hws
      have HWL := Lib.hid hwl
      clear hbx hown hdk hgr hsz hws hwl HM HM0 HGE
      (repeat (first | go_big_skip | go_big_want | go_big_move | go_big_op | go_step | go_upon | go_back))
      go_at_call 39
      refine (draw_any w0 d A l c _ p wr HDK.out (by omega) (by omega) (by omega)).mono ?_
      rintro e x5 ⟨F, rfl, hf1, hf2, hdk, hgr⟩
      dsimp only
      have hF2 : F < (p : Int) := by omega
      have HDB := HdB.out
      have HDK := Lib.hid hdk
      have HBX := Lib.hid (HBX.out.grown hgr (fun e => by injection e with e; omega))
      have HOW := Lib.hid (own_kept' HOW.out hgr (fun k e => by cases e; omega))
      have HGR := Lib.hid (HGR.out.trans hgr)
      have HSZ := Lib.hid (Nat.le_trans HSZ.out hgr.size)
      clear hdk hgr c0 hlt hf2
      (repeat (first | go_big_skip | go_big_want | go_big_move | go_big_op | go_step | go_upon | go_back))
      refine region5_lit w0 d A l c _ wE B (B + 1) ws.length p F v1 _ _ _ (ws.flatMap encWay) _ _ _ _ _ _ _ _ _ _ _ _ _ _ _ _ _ _ _ _ _ _ _ _ _ _ _ _ _ _ _ _ _ _ _ _ _ _ _ _ _ _ _ _ _ _ _ _ _ _ _ _ _ _ _ _ _ _ _ _ _ _ _ _ _ _ _ _ _ _ _ _ _ _ _ _ _ _ _ _ _ _ _ _ _ _ _ _ _ _ _ _ _ _ _ _ _ _ _ _ _ _ _ _ hf1 hF2 hp1 hp2 HDK.out (by omega) HGR.out HBX.out HOW.out (by have := HWL.out; omega) (by omega) HdB.out HEB.out HSZ.out ?_
      intro u19 u20 u21 u22 u23 u24 u25 u26 u27 u28 u29 u30 u31 u32 u33 u34 u35 u36 u37 W' wy v' h1 h2 h3 h4 h5 h6
      have HM' : Hid (MW1 w0 d A l c m wE B p (k + 1) W') := Lib.hid ⟨ws ++ [wy], v', by simp [HWL.out], fun x hx => (List.mem_append.1 hx).elim (HWS.out x) (fun h => by rw [List.mem_singleton] at h; subst h; exact h5), h1.more (by omega), h2, h3, h4, by simpa using h6⟩
      clear h1 h2 h3 h4 h5 h6
      (repeat (first | go_big_skip | go_big_want | go_big_move | go_big_op | go_step | go_upon | go_back))
      exact ⟨⟨k + 1, by go_num, by omega, HM'.out⟩, by simp [intOf]; omega⟩
    · have hdec : decide ((k : Int) < (n0 : Int)) = false := by simp; omega
      obtain ⟨ws, v1, hwl, hws, hdk, hgr, hsz, hbx, hown⟩ := HM.out
      have HBX := Lib.hid hbx
      have HOW := Lib.hid hown
      have HDK := Lib.hid hdk
      have HGR := Lib.hid hgr
      have HSZ := Lib.hid hsz
      have HWS := Lib.hid hws
      have HWL := Lib.hid hwl
      clear hbx hown hdk hgr hsz hws hwl HM HM0 HGE
      (repeat (first | go_big_skip | go_big_want | go_big_move | go_big_op | go_step | go_upon | go_back))
      go_at_call 66
      refine (between_any w0 d A l c _ 1 3 wr HDK.out (by omega) (by omega) (by omega) (by omega)).mono ?_
      rintro e x5 ⟨nw, rfl, hw1, hw2, hdk, hgr⟩
      dsimp only
      obtain ⟨nw, rfl⟩ := Int.eq_ofNat_of_zero_le (show 0 ≤ nw by omega)
      (repeat (first | go_big_skip | go_big_want | go_big_move | go_big_op | go_step | go_upon | go_back))
      have HDB := HdB.out
      have HM2 : Hid (MW2 w0 d A l c m wE B p ws v1 0 x5) := Lib.hid ⟨[], .slice none 0 0, _, [], rfl, (fun l h => by simp at h), hdk.more (by have := HWL.out; omega), HGR.out.trans hgr, Nat.le_trans HSZ.out hgr.size, HBX.out.grown hgr (fun e => by injection e with e; omega), own_kept' HOW.out hgr (fun k e => by cases e; omega), OwnK.nil _ _ _ _, fun g _ => ⟨fun e => by (cases e), fun h => h⟩⟩
      clear hdk hgr HBX HOW HDK HGR HSZ
      go_loopw [41] (fun i wr => ∃ k2 : Nat, i = .int .i64 k2 ∧ k2 ≤ nw ∧ MW2 w0 d A l c m wE B p ws v1 k2 wr) (fun i _ => nw - (intOf i).toNat)
      case atStart => exact ⟨0, rfl, by omega, HM2.out⟩
      case round =>
        obtain ⟨k2, rfl, hk2, hM⟩ := hrel
        have HM := Lib.hid hM
        clear hM HM2
        by_cases hkn2 : k2 < nw
        · have hdec2 : decide ((k2 : Int) < (nw : Int)) = true := by simp; omega
          obtain ⟨ls, v2, S, xs, hll, hlo, hdk, hgr, hsz, hbx, hown, hok, hap⟩ := HM.out
          have HD2 := Lib.hid hdk
          have HLL := Lib.hid hll
          have HLO := Lib.hid hlo
          have HGR := Lib.hid hgr
          have HSZ := Lib.hid hsz
          have HBX := Lib.hid hbx
          have HOW := Lib.hid hown
          have HOK := Lib.hid hok
          have HAP := Lib.hid hap
          clear hll hlo hdk hgr hsz hbx hown hok hap
          (repeat (first | go_big_skip | go_big_want | go_big_move | go_big_op | go_step | go_upon | go_back))
          go_at_call 66
          refine (between_any w0 d A l c _ 1 3 _ HD2.out (by omega) (by omega) (by omega) (by omega)).mono ?_
          rintro e x6 ⟨nm, rfl, hm1, hm2, hdk, hgr⟩
          dsimp only
          obtain ⟨nm, rfl⟩ := Int.eq_ofNat_of_zero_le (show 0 ≤ nm by omega)
          (repeat (first | go_big_skip | go_big_want | go_big_move | go_big_op | go_step | go_upon | go_back))
          have HM3 : Hid (MW3 w0 d A l c (m + 60 + 50 * k2 + 1) x6 x6.heap.size p 0 (.slice none 0 0) x6) := Lib.hid ⟨[], _, [], rfl, (fun m h => by simp at h), hdk, only_refl _ _, OwnK.nil _ _ _ _⟩
          have HBX := Lib.hid (HBX.out.grown hgr (fun e => by injection e with e; omega))
          have HOW := Lib.hid (own_kept' HOW.out hgr (fun k e => by cases e; omega))
          have HOK := Lib.hid (HOK.out.kept hgr (fun k e => by cases e; omega))
          have HGR := Lib.hid (HGR.out.trans hgr)
          have HSZ := Lib.hid (Nat.le_trans HSZ.out hgr.size)
          clear hdk hgr HD2
          go_loopw [7, 45] (fun v i wr => ∃ k3 : Nat, i = .int .i64 k3 ∧ k3 ≤ nm ∧ MW3 w0 d A l c (m + 60 + 50 * k2 + 1) x6 x6.heap.size p k3 v wr) (fun _ i _ => nm - (intOf i).toNat)
          case atStart => exact ⟨0, rfl, by omega, HM3.out⟩
          case round =>
            obtain ⟨k3, rfl, hk3, hM⟩ := hrel
            have HM := Lib.hid hM
            clear hM HM3
            by_cases hkn3 : k3 < nm
            · have hdec3 : decide ((k3 : Int) < (nm : Int)) = true := by simp; omega
              obtain ⟨ms, S3, xs3, hml, hmo, hdk, hgr, hok⟩ := HM.out
              have HML := Lib.hid hml
              have HMO := Lib.hid hmo
              have HDK := Lib.hid hdk
              have HGR3 := Lib.hid hgr
              have HOK3 := Lib.hid hok
              clear hml hmo hdk hgr hok HM
              (repeat (first | go_big_skip | go_big_want | go_big_move | go_big_op | go_step | go_upon | go_back))
              refine region12_lit w0 d A l c _ x6 B x6.heap.size p _ S3 ms xs3 _ _ _ _ _ _ _ _ _ _ _ _ _ _ _ _ _ _ _ _ _ _ _ _ _ _ _ _ _ _ _ _ _ _ _ _ _ _ _ _ _ _ _ _ _ _ _ _ _ _ _ _ _ _ _ _ _ _ _ _ _ _ _ _ _ _ _ _ _ _ _ _ _ _ _ _ _ _ _ _ _ _ _ _ _ _ _ _ _ _ _ _ _ _ _ _ _ _ _ _ _ _ _ _ _ _ _ _ (by omega) HDK.out (by omega) HGR3.out (HBX.out.grown HGR3.out (fun e => by injection e with e; omega)) HOK3.out (by have := HML.out; omega) HSZ.out HdB.out (Nat.le_refl _) HGR3.out.size ?_
              intro u7' u47 u48 u49 u50 u51 u52 u53 u54 u55 u56 W' h1 h2 h3 h4
              obtain ⟨S4, mm, xs4, hmm, hk4⟩ := h4
              have HM' : Hid (MW3 w0 d A l c (m + 60 + 50 * k2 + 1) x6 x6.heap.size p (k3 + 1) u7' W') := Lib.hid ⟨ms ++ [mm], S4, xs4, by simp [HML.out], fun x hx => (List.mem_append.1 hx).elim (HMO.out x) (fun h => by rw [List.mem_singleton] at h; subst h; exact hmm), h1.more (by omega), h2, hk4⟩
              clear h1 h2 h3 hk4 hmm
              (repeat (first | go_big_skip | go_big_want | go_big_move | go_big_op | go_step | go_upon | go_back))
              exact ⟨⟨k3 + 1, by go_num, by omega, HM'.out⟩, by simp [intOf]; omega⟩
            · have hdec3 : decide ((k3 : Int) < (nm : Int)) = false := by simp; omega
              obtain ⟨ms, S3, xs3, hml, hmo, hdk, hgr, hok⟩ := HM.out
              obtain ⟨sA, sn, sc, rfl⟩ := own_slice' hok.own
              have HML := Lib.hid hml
              have HMO := Lib.hid hmo
              have HDK := Lib.hid hdk
              have HGR3 := Lib.hid hgr
              have HOK3 := Lib.hid hok
              have hBX := HBX.out.grown hgr (fun e => by injection e with e; have := HdB.out; omega)
              have hxd : ∀ k, some d = some k → k < B + 1 := fun k e => by cases e; have := HdB.out; omega
              have HOKw := Lib.hid (HOK.out.kept hgr hxd)
              have HOWw := Lib.hid (own_kept' HOW.out hgr hxd)
              have c2 : wr.cell? ⟨B, 2, none⟩ = some v2 := hBX.cell 2
              have f2 := hBX.frozen 2
              have hlt := hBX.lt
              have HBXw := Lib.hid hBX
              clear hml hmo hdk hgr hok HM hBX
              go_upto_region 15 with (at_builtin; refine wpList_app1 ty23 rfl _ _ rfl (Nat.le_trans (Nat.le_trans HSZ.out HGR3.out.size) (Aft.alloc _ _).size) rfl (HOKw.out.aft (Aft.alloc _ _)).own rfl (Blk.new _ _ _) rfl (fun u hu => by rw [List.mem_singleton] at hu; subst hu; rfl) (by have := HLL.out; omega) (by decide) ?_; intro v' w6 hown6 hg6 hat6; obtain ⟨tA, tn, tc, rfl⟩ := own_slice' hown6; have HO6 := Lib.hid hown6; have HG6 : Hid ((wr.alloc (.cells #[.slice sA sn sc] 68)).grownBy w6 v2.ownBlock) := Lib.hid hg6; have HA6 : Hid ((Value.slice tA tn tc).ownBlock = v2.ownBlock ∨ (Value.slice tA tn tc).ownBlock = some (wr.alloc (.cells #[.slice sA sn sc] 68)).heap.size) := Lib.hid hat6; have HB6 := Lib.hid ((HBXw.out.alloc _).grown hg6 (fun e => by have := (HOKw.out.own.lt B e.symm).1; omega)); have f26 := HB6.out.frozen 2; have hlt6 := HB6.out.lt; have c26 : w6.cell? ⟨B, 2, none⟩ = some v2 := HB6.out.cell 2; clear hown6 hg6 hat6)
              have ha := Aft.alloc wr (.cells #[.slice sA sn sc] 68)
              have hgs : w6.grownBy (w6.setCell ⟨B, 2, none⟩ (.slice tA tn tc)) (some B) := only_setCell (only_refl w6 (some B)) (p := ⟨B, 2, none⟩) (.inl rfl) _
              have hsB : ∀ k, some B = some k → k < B + 1 := fun k e => by cases e; omega
              have hxl := HGR3.out.size
              have hv2 : ∀ k, v2.ownBlock = some k → B + 1 ≤ k ∧ k < x6.heap.size := fun k e => HOK.out.own.lt k e
              have hv1 : ∀ k, v1.ownBlock = some k → B + 1 ≤ k ∧ k < x6.heap.size := fun k e => HOW.out.lt k e
              have hS3 : ∀ k, S3 k ∨ (Value.slice sA sn sc).ownBlock = some k → x6.heap.size ≤ k := fun k hk => hk.elim (fun h => (HOK3.out.far k h).1) (fun e => (HOK3.out.own.lt k e).1)
              have hpush := (HOKw.out.aft ha).push ((HOK3.out.aft ha).word (by have := HML.out; omega)) rfl (fun k hk => ⟨Nat.le_trans HSZ.out (hS3 k hk), fun e => by have := (hv2 k e).2; have := hS3 k hk; omega⟩) HO6.out HG6.out HA6.out
              have hps := hpush.kept hgs hsB
              have how := own_kept' ((own_aft HOWw.out ha).kept HG6.out (by
                cases hb : v1.ownBlock with
                | none => exact .inl rfl
                | some g => exact .inr fun e => (HAP.out g hb).1 e.symm)) hgs hsB
              have hD' := (((HDK.out.aft ha).grown HG6.out (fun k e => by have := (hv2 k e).1; have := HdB.out; omega)).grown hgs (fun k e => by cases e; exact HdB.out)).more (show m + 60 + 50 * k2 + 1 + 12 * k3 ≤ m + 60 + 50 * (k2 + 1) by omega)
              have hG' := only_grown (only_grown (only_aft (HGR.out.trans HGR3.out) ha) HG6.out (fun k e => by have := (hv2 k e).1; have := HEB.out; omega)) hgs (fun k e => by cases e; exact HEB.out)
              have hap : ∀ g, v1.ownBlock = some g → (Value.slice tA tn tc).ownBlock ≠ some g ∧ ¬ (S g ∨ (S3 g ∨ (Value.slice sA sn sc).ownBlock = some g)) := fun g hg => by
                have hlt := (hv1 g hg).2
                refine ⟨fun e => ?_, fun h => ?_⟩
                · rcases HA6.out with h | h
                  · rw [h] at e; exact (HAP.out g hg).1 e
                  · rw [h] at e; cases e; simp at hlt; omega
                · rcases h with h | h
                  · exact (HAP.out g hg).2 h
                  · have := hS3 g h; omega
              have HM' : Hid (MW2 w0 d A l c m wE B p ws v1 (k2 + 1) (w6.setCell ⟨B, 2, none⟩ (.slice tA tn tc))) := Lib.hid ⟨ls ++ [ms], .slice tA tn tc, _, _, by simp [HLL.out], fun x hx => (List.mem_append.1 hx).elim (HLO.out x) (fun h => by rw [List.mem_singleton] at h; subst h; exact ⟨by have := HML.out; omega, HMO.out⟩), hD', hG', by have := ha.size; have := HG6.out.size; have := hgs.size; have := HSZ.out; omega, HB6.out.store 2 _, how, hps, hap⟩
              clear ha hgs hsB hxl hv2 hv1 hS3 hpush hps how hD' hG' hap hlt hlt6 f2 f26 c2 c26
              (repeat (first | go_big_skip | go_big_want | go_big_move | go_big_op | go_step | go_upon | go_back))
              exact ⟨⟨k2 + 1, by go_num, by omega, HM'.out⟩, by simp [intOf]; omega⟩
        · have hdec2 : decide ((k2 : Int) < (nw : Int)) = false := by simp; omega
          obtain ⟨ls, v2, S, xs, hll, hlo, hdk, hgr, hsz, hbx, hown, hok, hap⟩ := HM.out
          have HLL := Lib.hid hll
          have HLO := Lib.hid hlo
          have HDK := Lib.hid hdk
          have HGR := Lib.hid hgr
          have HSZ := Lib.hid hsz
          have HBX := Lib.hid hbx
          have HOW := Lib.hid hown
          have HOK := Lib.hid hok
          have HAP := Lib.hid hap
          have hlt := hbx.lt
          have c0 : wr.cell? ⟨B, 0, none⟩ = some (.int .i64 p) := hbx.cell 0
          have hp8 : p ≤ 8 := by omega
          clear hll hlo hdk hgr hsz hbx hown hok hap HM
          (repeat (first | go_big_skip | go_big_want | go_big_move | go_big_op | go_step | go_upon | go_back))
          go_at_call 40
          refine (some_any w0 d A l c _ p 3 wr HDK.out (by omega) (by omega) (by omega) (by omega)).mono ?_
          rintro e x6 ⟨v3, ns, rfl, hs1, hs2, hs3, hs4, hdk, hgr⟩
          dsimp only
          have hpl : ns.length ≤ 17592186043904 := by omega
          obtain ⟨sA, sc, rfl, _, _⟩ := own_ints hs1 hpl
          clear hpl
          have HSZw := HSZ
          have hxd : ∀ k, some d = some k → k < B + 1 := fun k e => by cases e; have := HdB.out; omega
          have hbx := HBX.out.grown hgr (fun e => by injection e with e; have := HdB.out; omega)
          have HBX := Lib.hid hbx
          have HOW := Lib.hid (own_kept' HOW.out hgr hxd)
          have HOK := Lib.hid (HOK.out.kept hgr hxd)
          have HGR := Lib.hid (HGR.out.trans hgr)
          have HSZ := Lib.hid (Nat.le_trans HSZ.out hgr.size)
          have HDK := Lib.hid hdk
          have HS1 := Lib.hid hs1
          have HS2 := Lib.hid hs2
          have HS3 := Lib.hid hs3
          have HS4 := Lib.hid hs4
          have f3 := hbx.frozen 3
          have hlt6 := hbx.lt
          have c3 : x6.cell? ⟨B, 3, none⟩ = some (.slice none 0 0) := hbx.cell 3
          clear hs1 hs2 hs3 hs4 hdk hgr hxd hbx c0 hlt
          have hb3 := HBX.out.store 3 (.slice sA ns.length sc)
          have hgs : x6.grownBy (x6.setCell ⟨B, 3, none⟩ (.slice sA ns.length sc)) (some B) := only_setCell (only_refl x6 (some B)) (p := ⟨B, 3, none⟩) (.inl rfl) _
          have hsB : ∀ k, some B = some k → k < B + 1 := fun k e => by cases e; omega
          have HO3 := Lib.hid (own_kept' (World.ownsRow.mono HS1.out (show B + 1 ≤ wr.heap.size from by have := HSZw.out; omega)) hgs hsB)
          have HOW := Lib.hid (own_kept' HOW.out hgs hsB)
          have HOK := Lib.hid (HOK.out.kept hgs hsB)
          have HDK := Lib.hid (HDK.out.grown hgs (fun k e => by cases e; exact HdB.out))
          have HGR := Lib.hid (only_grown HGR.out hgs (fun k e => by cases e; exact HEB.out))
          have HSZ := Lib.hid (Nat.le_trans HSZ.out hgs.size)
          have HB3 := Lib.hid hb3
          clear hgs hsB HS1 HBX
          go_upto_region 17 with fail
          have hbz : Blk (x6.setCell ⟨B, 3, none⟩ (.slice sA ns.length sc)) B 27 #[.int .i64 p, v1, v2, .slice sA ns.length sc, .slice none 0 0] := HB3.out
          have HBZ := Lib.hid hbz
          clear HB3 hb3 f3 hlt6 c3
          generalize x6.setCell ⟨B, 3, none⟩ (.slice sA ns.length sc) = W6 at *
          have c3 : W6.cell? ⟨B, 3, none⟩ = some (.slice sA ns.length sc) := hbz.cell 3
          have c0 : W6.cell? ⟨B, 0, none⟩ = some (.int .i64 p) := hbz.cell 0
          have f3 := hbz.frozen 3
          have hlt6 := hbz.lt
          clear hbz
          go_upto_if 73 with (fail)
          go_cut [] from 74 to 79 (fun wx => MS w0 d A l c (m + 240) wE B p ws v1 ls v2 S xs wx)
          case first =>
            by_cases hn0 : ns.length = 0
            · have hb0 : ((ns.length : Int) == 0) = true := by rw [hn0]; rfl
              (repeat (first | go_big_skip | go_big_want | go_big_move | go_big_op | go_step | go_upon | go_back))
              go_at_call 39
              refine (draw_any w0 d A l c _ p W6 HDK.out (by omega) (by omega) (by omega)).mono ?_
              rintro e y ⟨x, rfl, g1, g2, hdk, hgr⟩
              dsimp only
              have ha := Aft.alloc y (.cells #[.int .i64 x] 3)
              have hxd : ∀ k, some d = some k → k < B + 1 := fun k e => by cases e; have := HdB.out; omega
              have hby := (HBZ.out.grown hgr (fun e => by injection e with e; have := HdB.out; omega)).alloc (.cells #[.int .i64 x] 3)
              have hszy := Nat.le_trans HSZ.out hgr.size
              have HO1 := Lib.hid (own_lone (w := y) (base := B + 1) hszy x)
              have HOW := Lib.hid (own_aft (own_kept' HOW.out hgr hxd) ha)
              have HOK := Lib.hid ((HOK.out.kept hgr hxd).aft ha)
              have HDK := Lib.hid (hdk.aft ha)
              have HGR := Lib.hid (only_aft (HGR.out.trans hgr) ha)
              have HSZ := Lib.hid (Nat.le_trans hszy ha.size)
              have HBY := Lib.hid hby
              have f3y := hby.frozen 3
              have hlty := hby.lt
              have c3y : (y.alloc (.cells #[.int .i64 x] 3)).cell? ⟨B, 3, none⟩ = some (.slice sA ns.length sc) := hby.cell 3
              clear hgr hdk ha hby c0 c3 f3 hlt6 hxd
              (repeat (first | go_big_skip | go_big_want | go_big_move | go_big_op | go_step | go_upon | go_back))
              go_meet
              have hgs : (y.alloc (.cells #[.int .i64 x] 3)).grownBy ((y.alloc (.cells #[.int .i64 x] 3)).setCell ⟨B, 3, none⟩ (.slice (some ⟨y.heap.size, 0, none⟩) 1 1)) (some B) := only_setCell (only_refl _ (some B)) (p := ⟨B, 3, none⟩) (.inl rfl) _
              have hsB : ∀ k, some B = some k → k < B + 1 := fun k e => by cases e; omega
              exact ⟨[x], _, by simp, by simp; omega, fun z hz => by rw [List.mem_singleton] at hz; subst hz; omega, rfl, (HDK.out.grown hgs (fun k e => by cases e; exact HdB.out)).more (by omega), only_grown HGR.out hgs (fun k e => by cases e; exact HEB.out), Nat.le_trans HSZ.out hgs.size, HBY.out.store 3 _, own_kept' HOW.out hgs hsB, HOK.out.kept hgs hsB, own_kept' HO1.out hgs hsB⟩
            · have hb0 : ((ns.length : Int) == 0) = false := by simpa using hn0
              (repeat (first | go_big_skip | go_big_want | go_big_move | go_big_op | go_step | go_upon | go_back))
              go_meet
              exact ⟨ns, _, by omega, HS2.out, HS3.out, HS4.out, HDK.out.more (by omega), HGR.out, HSZ.out, HBZ.out, HOW.out, HOK.out, HO3.out⟩
          clear HS2 HS3 HS4 HDK HGR HSZ HBZ HOW HOK HO3 c3 c0 f3 hlt6 HAP HSZw
          obtain ⟨ns', v3, hs1, hs2, hs3, hs4, hdk, hgr, hsz, hbx, how, hok, ho3⟩ := hcut
          have HDK := Lib.hid hdk
          have HGR := Lib.hid hgr
          have HSZ := Lib.hid hsz
          have HBX := Lib.hid hbx
          have HOW := Lib.hid how
          have HOK := Lib.hid hok
          have HO3 := Lib.hid ho3
          have HS2 := Lib.hid hs2
          have HS2' : Hid (1 ≤ ns'.length ∧ ns'.length ≤ p) := Lib.hid ⟨hs1, hs2⟩
          have HS3 := Lib.hid hs3
          have HS4 := Lib.hid hs4
          clear hdk hgr hsz hbx how hok ho3 hs2 hs3 hs4
          (repeat (first | go_big_skip | go_big_want | go_big_move | go_big_op | go_step | go_upon | go_back))
          go_at_call 39
          refine (draw_any w0 d A l c _ (q + 1) wc HDK.out (by omega) (by omega) (by omega)).mono ?_
          rintro e y ⟨F, rfl, g1, g2, hdk, hgr⟩
          dsimp only
          obtain ⟨nl, rfl⟩ := Int.eq_ofNat_of_zero_le g1
          have hnl : nl ≤ q := by omega
          have hxd : ∀ k, some d = some k → k < B + 1 := fun k e => by cases e; have := HdB.out; omega
          have HM4 : Hid (MW4 w0 d A l c (m + 241) wE y B p ls.length v1 v2 v3 0 y) := Lib.hid ⟨[], .slice none 0 0, rfl, by simp, hdk, HGR.out.trans hgr, Nat.le_refl _, fun _ _ _ _ => rfl, HBX.out.grown hgr (fun e => by injection e with e; have := HdB.out; omega), World.ownsRow_nil _ _ 70 2⟩
          have HOW := Lib.hid (own_kept' HOW.out hgr hxd)
          have HOK := Lib.hid (HOK.out.kept hgr hxd)
          have HO3 := Lib.hid (own_kept' HO3.out hgr hxd)
          have HSZ := Lib.hid (Nat.le_trans HSZ.out hgr.size)
          clear HDK HGR HBX hdk hgr hxd
          obtain ⟨A2, c2, rfl, _, _⟩ := HOK.out.rowsP (by have := HLL.out; omega)
          have hw1' : 1 ≤ ls.length := by have := HLL.out; omega
          have hw3' : ls.length ≤ 3 := by have := HLL.out; omega
          (repeat (first | go_big_skip | go_big_want | go_big_move | go_big_op | go_step | go_upon | go_back))
          go_loopw [84] (fun i wr => ∃ k4 : Nat, i = .int .i64 k4 ∧ k4 ≤ nl ∧ MW4 w0 d A l c (m + 241) wE y B p ls.length v1 (.slice A2 ls.length c2) v3 k4 wr) (fun i _ => nl - (intOf i).toNat)
          case atStart => exact ⟨0, rfl, by omega, HM4.out⟩
          case round =>
            obtain ⟨k4, rfl, hk4, hM⟩ := hrel
            obtain ⟨lg, v4, hll, hlo, hdk, hgr, hsz, hkp, hbx, hown⟩ := hM
            have HLL4 := Lib.hid hll
            have HLO4 := Lib.hid hlo
            have HD4 := Lib.hid hdk
            have HGR4 := Lib.hid hgr
            have HSZ4 := Lib.hid hsz
            have HKP4 := Lib.hid hkp
            have HBX4 := Lib.hid hbx
            have HOW4 := Lib.hid hown
            clear hll hlo hdk hgr hsz hkp hown HM4
            by_cases hkn4 : k4 < nl
            · have hdec4 : decide ((k4 : Int) < (nl : Int)) = true := by simp; omega
              clear hbx
              (repeat (first | go_big_skip | go_big_want | go_big_move | go_big_op | go_step | go_upon | go_back))
              refine region21_lit w0 d A l c _ wE B y.heap.size lg.length p v1 v3 v4 A2 ls.length c2 (lg.flatMap encLeg) _ _ _ _ _ _ _ _ _ _ _ _ _ _ _ _ _ _ _ _ _ _ _ _ _ _ _ _ _ _ _ _ _ _ _ _ _ _ _ _ _ _ _ _ _ _ _ _ _ _ _ _ _ _ _ _ _ _ _ _ _ _ _ _ _ _ _ _ _ _ _ _ _ _ _ _ _ _ _ _ _ _ _ _ _ _ _ _ _ _ _ _ _ _ _ _ _ _ _ _ _ _ _ _ _ hw1' hw3' HD4.out (by omega) HGR4.out HBX4.out HOW4.out (by have := HLL4.out; omega) (by have := HSZ.out; omega) HdB.out HEB.out HSZ4.out ?_
              intro u86 u87 u88 u89 u90 u91 u92 u93 u94 u95 u96 u97 u98 u99 u100 u101 u102 W' lg' v' h1 h2 h3 h4 h5 h6 h7
              have HM' : Hid (MW4 w0 d A l c (m + 241) wE y B p ls.length v1 (.slice A2 ls.length c2) v3 (k4 + 1) W') := Lib.hid ⟨lg ++ [lg'], v', by simp [HLL4.out], fun x hx => (List.mem_append.1 hx).elim (HLO4.out x) (fun h => by rw [List.mem_singleton] at h; subst h; exact h6), h1.more (by omega), h2, h3, fun k hk hd1 hb1 => (h4.2 k (Nat.lt_of_lt_of_le hk HSZ4.out) hd1 hb1 (fun e => by have := (HOW4.out.lt k e).1; omega)).trans (HKP4.out k hk hd1 hb1), h5, by simpa using h7⟩
              clear h1 h2 h3 h4 h5 h6 h7
              (repeat (first | go_big_skip | go_big_want | go_big_move | go_big_op | go_step | go_upon | go_back))
              exact ⟨⟨k4 + 1, by go_num, by omega, HM'.out⟩, by simp [intOf]; omega⟩
            · have hdec4 : decide ((k4 : Int) < (nl : Int)) = false := by simp; omega
              have k0 : wr.cell? ⟨B, 0, none⟩ = some (.int .i64 p) := hbx.cell 0
              have k1 : wr.cell? ⟨B, 1, none⟩ = some v1 := hbx.cell 1
              have k2' : wr.cell? ⟨B, 2, none⟩ = some (.slice A2 ls.length c2) := hbx.cell 2
              have k3' : wr.cell? ⟨B, 3, none⟩ = some v3 := hbx.cell 3
              have k4' : wr.cell? ⟨B, 4, none⟩ = some v4 := hbx.cell 4
              have hC : Blk wr w.heap.size 27 #[.int .i64 0, .slice none 0 0, .slice none 0 0, .slice none 0 0, .slice none 0 0] := by
                have h0 := Blk.new w 27 #[.int .i64 0, .slice none 0 0, .slice none 0 0, .slice none 0 0, .slice none 0 0]
                rw [← HWE.out] at h0
                exact h0.grown HGR4.out (fun e => by injection e with e; omega)
              have hlc := hC.lt
              have hfc : ∀ i, wr.frozen? ⟨w.heap.size, i, none⟩ = false := fun i => hC.frozen i
              have j0 : wr.cell? ⟨w.heap.size, 0, none⟩ = some (.int .i64 0) := hC.cell 0
              have j1 : wr.cell? ⟨w.heap.size, 1, none⟩ = some (.slice none 0 0) := hC.cell 1
              have j2 : wr.cell? ⟨w.heap.size, 2, none⟩ = some (.slice none 0 0) := hC.cell 2
              have j3 : wr.cell? ⟨w.heap.size, 3, none⟩ = some (.slice none 0 0) := hC.cell 3
              have j4 : wr.cell? ⟨w.heap.size, 4, none⟩ = some (.slice none 0 0) := hC.cell 4
              have hk0 : ∀ k, B + 1 ≤ k → k < y.heap.size → wr.heap[k]? = y.heap[k]? := fun k g3 g4 => HKP4.out k g4 (by have := HdB.out; omega) (by omega)
              obtain ⟨a1, x2, a3, a4, c1, y2, c3, c4, e1, e2, e3, e4, e5⟩ := trepF_keep (p := p) (d := d) (base := B + 1) (by have := HdB.out; omega) HOW.out HOK.out HO3.out HOW4.out hk0 HSZ4.out HSZ.out (by have := HWL.out; omega) (by omega) (by have := HS2.out; omega) (by have := HLL4.out; omega)
              clear e2 e5 hk0
              subst e1 e3 e4
              (repeat (first | go_big_skip | go_big_want | go_big_move | go_big_op | go_step | go_upon | go_back))
              obtain ⟨hCz, hgC⟩ := blk_five hC (.int .i64 p) (.slice a1 ws.length c1) (.slice A2 ls.length c2) (.slice a3 ns'.length c3) (.slice a4 lg.length c4)
              generalize (((((wr.setCell ⟨w.heap.size, 0, none⟩ (.int .i64 p)).setCell ⟨w.heap.size, 1, none⟩ (.slice a1 ws.length c1)).setCell ⟨w.heap.size, 2, none⟩ (.slice A2 ls.length c2)).setCell ⟨w.heap.size, 3, none⟩ (.slice a3 ns'.length c3)).setCell ⟨w.heap.size, 4, none⟩ (.slice a4 lg.length c4)) = W' at *
              clear j0 j1 j2 j3 j4 k0 k1 k2' k3' k4' hbx hfc hC
              have z0 : W'.cell? ⟨w.heap.size, 0, none⟩ = some (.int .i64 p) := hCz.cell 0
              have z1 : W'.cell? ⟨w.heap.size, 1, none⟩ = some (.slice a1 ws.length c1) := hCz.cell 1
              have z2 : W'.cell? ⟨w.heap.size, 2, none⟩ = some (.slice A2 ls.length c2) := hCz.cell 2
              have z3 : W'.cell? ⟨w.heap.size, 3, none⟩ = some (.slice a3 ns'.length c3) := hCz.cell 3
              have z4 : W'.cell? ⟨w.heap.size, 4, none⟩ = some (.slice a4 lg.length c4) := hCz.cell 4
              refine bodyPost_ret (v := .agg #[.int .i64 p, .slice a1 ws.length c1, .slice A2 ls.length c2, .slice a3 ns'.length c3, .slice a4 lg.length c4]) (by simp [results, Tryz.results20, go_sem, z0, z1, z2, z3, z4]) rfl ?_
              have hgw : w.grownBy wE (some d) := by rw [HWE.out]; exact only_of_aft (Aft.alloc _ _) _
              have hk0 : ∀ k, B + 1 ≤ k → k < y.heap.size → wr.heap[k]? = y.heap[k]? := fun k g3 g4 => HKP4.out k g4 (by have := HdB.out; omega) (by omega)
              have hCl : w.heap.size < B + 1 := by have := HEB.out; rw [HWE.out, World.size_alloc] at this; omega
              have hk1 : ∀ k, B + 1 ≤ k → k < y.heap.size → W'.heap[k]? = y.heap[k]? := fun k g3 g4 => (hgC.block k (Nat.lt_of_lt_of_le g4 HSZ4.out) (fun e => by injection e with e; omega)).trans (hk0 k g3 g4)
              have ho4 := own_kept' HOW4.out hgC (fun k e => by cases e; have := HSZ.out; omega)
              obtain ⟨_, _, _, _, _, _, _, _, e1, e2, e3, e4, hF⟩ := trepF_keep (p := p) (d := d) (base := B + 1) (by have := HdB.out; omega) HOW.out HOK.out HO3.out ho4 hk1 (Nat.le_trans HSZ4.out hgC.size) HSZ.out (by have := HWL.out; omega) (by omega) (by have := HS2.out; omega) (by have := HLL4.out; omega)
              cases e1
              cases e2
              cases e3
              cases e4
              refine ⟨⟨p, ws, ls, ns', lg⟩, _, _, _, _, _, _, _, _, rfl, ?_, (HD4.out.grown hgC (fun k e => by cases e; omega)).more (by omega), only_grown (hgw.trans HGR4.out) hgC (fun k e => by cases e; exact Nat.le_refl _), hF⟩
              exact ⟨by simp only; omega, by simp only; omega, by have := HWL.out; simp only; omega, hw3', hw1', HS2'.out.1, by have := HS2'.out.2; simp only; omega, by have := HLL4.out; simp only; omega, fun x hx => (HLO.out x hx).1, HWS.out,
                fun x hx m hm => ((HLO.out x hx).2 m hm).1, fun x hx m hm => ((HLO.out x hx).2 m hm).2, HS3.out, HS4.out, HLO4.out⟩
end Go.Proofs
end

section
/- Walks: CloneTreaty. -/
namespace Go.Proofs
open Go.RowKit


theorem own_apart {W : World} {b b' sz sz' n n' : Nat} {e e' : TypeId} {v v' : Value} {xs xs' : List Value} (h : W.ownsRow b e sz v n xs) (h' : W.ownsRow b' e' sz' v' n' xs') (he : e ≠ e') : ∀ k, v'.ownBlock = some k → v.ownBlock ≠ some k := fun k h1 h2 => by
  obtain ⟨c1, q1⟩ := own_block h h2
  obtain ⟨c2, q2⟩ := own_block h' h1
  rw [q1] at q2
  cases q2
  exact he rfl

end Go.Proofs
end
