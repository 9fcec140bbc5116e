/- Merged by program out of the texts Ptr. -/
import Derived.Test.YtfliejmidnnggaaZ04
section
/- Walks: TreatyParted: its drawn regions. -/
namespace Go.Proofs
open Go.RowKit

noncomputable def opsPt (k : Nat) : List Oper := ((regAt k (Try.f4.body.getD .skip)).getD #[]).toList
theorem put_other {a : Act} {s t : Nat} {v : Value} (h : s ≠ t) : (a.put (some t) v).eval (.tmp s) = a.eval (.tmp s) := Act.eval_put (fun d hd e => by cases hd; cases e; exact h rfl)
theorem put_none {a : Act} {v : Value} : a.put none v = a := rfl

/-- A clone's value; a clone in a block. -/
def CG (T : Treaty) (v : Value) (w : World) : Prop := ∃ (a1 a2 a3 a4 : Option Addr) (c1 c2 c3 c4 : Nat), ∃ S : Nat → Prop, v = .agg #[.int .i64 T.places, .slice a1 T.ways.length c1, .slice a2 T.words.length c2, .slice a3 T.starts.length c3, .slice a4 T.legs.length c4] ∧ (T.legs.length ≤ c4 ∧ (a4 = none ∧ c4 = 0 ∨ ∃ g, a4 = some ⟨g, 0, none⟩)) ∧ Sup w S (fun W => TRep W T a1 a2 a3 a4) ∧ N27 w S
def Good5 (T : Treaty) (b : Nat) (w : World) : Prop := ∃ (a1 a2 a3 a4 : Option Addr) (c1 c2 c3 c4 : Nat), ∃ S : Nat → Prop, Blk w b 27 #[.int .i64 T.places, .slice a1 T.ways.length c1, .slice a2 T.words.length c2, .slice a3 T.starts.length c3, .slice a4 T.legs.length c4] ∧ (T.legs.length ≤ c4 ∧ (a4 = none ∧ c4 = 0 ∨ ∃ g, a4 = some ⟨g, 0, none⟩)) ∧ Sup w S (fun W => TRep W T a1 a2 a3 a4) ∧ N27 w S
section
variable {T : Treaty} {v : Value} {w w' : World} {b g : Nat} {cs : Array Value}
theorem CG.aft (h : CG T v w) (ha : Aft w w') : CG T v w' := let ⟨A1, A2, A3, A4, C1, C2, C3, C4, S, e, hc, hs, hn⟩ := h; ⟨A1, A2, A3, A4, C1, C2, C3, C4, S, e, hc, hs.aft ha, hn.keep fun k hk => aft_keep ha (hs.1 k hk)⟩
theorem CG.write (h : CG T v w) (hg : w.grownBy w' (some g)) (hb : Blk w g 27 cs) : CG T v w' := let ⟨A1, A2, A3, A4, C1, C2, C3, C4, S, e, hc, hs, hn⟩ := h; ⟨A1, A2, A3, A4, C1, C2, C3, C4, S, e, hc, hs.grown hg (fun k e => by cases e; exact hn.not hb), hn.kept3 hs.1 hg (fun k e => by cases e; exact hn.not hb)⟩
theorem Good5.aft (h : Good5 T b w) (ha : Aft w w') : Good5 T b w' := let ⟨A1, A2, A3, A4, C1, C2, C3, C4, S, e, hc, hs, hn⟩ := h; ⟨A1, A2, A3, A4, C1, C2, C3, C4, S, e.aft ha, hc, hs.aft ha, hn.keep fun k hk => aft_keep ha (hs.1 k hk)⟩
theorem Good5.write (h : Good5 T b w) (hg : w.grownBy w' (some g)) (hb : Blk w g 27 cs) (hne : b ≠ g) : Good5 T b w' := let ⟨A1, A2, A3, A4, C1, C2, C3, C4, S, e, hc, hs, hn⟩ := h; ⟨A1, A2, A3, A4, C1, C2, C3, C4, S, e.grown hg (fun e => hne (by injection e)), hc, hs.grown hg (fun k e => by cases e; exact hn.not hb), hn.kept3 hs.1 hg (fun k e => by cases e; exact hn.not hb)⟩
theorem Good5.lt (h : Good5 T b w) : b < w.heap.size := let ⟨_, _, _, _, _, _, _, _, _, e, _⟩ := h; e.lt
end
structure Wp5 (W8 : World) (done : Nat → Bool) (a : Act) (w : World) : Prop where
  aft : Aft W8 w
  ne : done 4 = true → done 5 = true → a.eval (.tmp 9) ≠ a.eval (.tmp 10)
def Factp5 (_ : Nat) (W8 : World) (T : Treaty) (a1 a2 a3 a4 : Option Addr) (c1 c2 c3 c4 : Nat) (done : Nat → Bool) : Nat → Value → World → Prop
  | 0, v, _ => v = .agg #[.int .i64 T.places, .slice a1 T.ways.length c1, .slice a2 T.words.length c2, .slice a3 T.starts.length c3, .slice a4 T.legs.length c4]
  | 1, v, w => CG T v w
  | 2, v, _ => v = .agg #[.int .i64 T.places, .slice a1 T.ways.length c1, .slice a2 T.words.length c2, .slice a3 T.starts.length c3, .slice a4 T.legs.length c4]
  | 3, v, w => CG T v w
  | 4, v, w => ∃ b, v = .pointer (some ⟨b, 0, none⟩) ∧ W8.heap.size ≤ b ∧ (done 6 = false → Blk w b 27 #[.int .i64 0, .slice none 0 0, .slice none 0 0, .slice none 0 0, .slice none 0 0]) ∧ (done 6 = true → Good5 T b w)
  | 5, v, w => ∃ b, v = .pointer (some ⟨b, 0, none⟩) ∧ W8.heap.size ≤ b ∧ (done 7 = false → Blk w b 27 #[.int .i64 0, .slice none 0 0, .slice none 0 0, .slice none 0 0, .slice none 0 0]) ∧ (done 7 = true → Good5 T b w)
  | _, _, _ => True
section
variable {D : Nat} {W8 : World} {T : Treaty} {a1 a2 a3 a4 : Option Addr} {c1 c2 c3 c4 : Nat} {done done' : Nat → Bool} {w w' : World} {i : Nat} {v : Value}
theorem Factp5.aft (ha : Aft w w') (h6 : done' 6 = done 6) (h7 : done' 7 = done 7) (h : Factp5 D W8 T a1 a2 a3 a4 c1 c2 c3 c4 done i v w) : Factp5 D W8 T a1 a2 a3 a4 c1 c2 c3 c4 done' i v w' := by
  unfold Factp5 at h ⊢
  split at h <;> first
    | exact h
    | exact CG.aft h ha
    | (obtain ⟨b, e, h1, h2, h3⟩ := h; exact ⟨b, e, h1, fun h => (h2 (by rw [← h6]; exact h)).aft ha, fun h => (h3 (by rw [← h6]; exact h)).aft ha⟩)
    | (obtain ⟨b, e, h1, h2, h3⟩ := h; exact ⟨b, e, h1, fun h => (h2 (by rw [← h7]; exact h)).aft ha, fun h => (h3 (by rw [← h7]; exact h)).aft ha⟩)
theorem Factp5.low {g : Nat} (hg : w.grownBy w' (some g)) {cs : Array Value} (hb : Blk w g 27 cs) (hi : i ≠ 4) (hi5 : i ≠ 5) (h : Factp5 D W8 T a1 a2 a3 a4 c1 c2 c3 c4 done i v w) : Factp5 D W8 T a1 a2 a3 a4 c1 c2 c3 c4 done' i v w' := by
  unfold Factp5 at h ⊢
  split at h <;> first
    | exact h
    | omega
    | exact CG.write h hg hb
end
def chp5 (s : Nat) : Bool := decide (s = 9) || decide (s = 10) || decide (s = 42) || decide (s = 43) || decide (s = 44) || decide (s = 45)

set_option maxRecDepth 100000 in
set_option maxHeartbeats 2000000 in
theorem region5_pt (T : Treaty) (a1 a2 a3 a4 : Option Addr) (c1 c2 c3 c4 : Nat) (D : Nat) (a0 : Act) (Q0 : Exit → Act → World → Prop) (W8 : World)
    (hz : a0.tmps.size = 240) (s6 : a0.eval (.tmp 6) = .pointer (some ⟨D, 0, none⟩))
    (hT : TRep W8 T a1 a2 a3 a4) (hbx : Blk W8 D 27 #[.int .i64 T.places, .slice a1 T.ways.length c1, .slice a2 T.words.length c2, .slice a3 T.starts.length c3, .slice a4 T.legs.length c4]) (hl1 : T.ways.length ≤ 100) (hl2 : T.words.length ≤ 100) (hl3 : T.starts.length ≤ 100) (hl4 : T.legs.length ≤ 100) (hwl : ∀ l ∈ T.words, l.length ≤ 100)
    (hexit : ∀ a W' b b2, a.tmps.size = 240 → a.defers = a0.defers → (∀ s : Nat, chp5 s = false → a.eval (.tmp s) = a0.eval (.tmp s)) → a.eval (.tmp 9) = .pointer (some ⟨b, 0, none⟩) → a.eval (.tmp 10) = .pointer (some ⟨b2, 0, none⟩) → b ≠ b2 → W8.heap.size ≤ b → W8.heap.size ≤ b2 → Good5 T b W' → Good5 T b2 W' → Aft W8 W' → Q0 .normal a W') :
    Code.wp Try.prog (Code.region 5 (opsPt 5).toArray true) Q0 a0 W8 := by
  have HEX := Lib.hid hexit
  clear hexit
  refine wp_region_factsF (by kernel_rfl) 240 hz (by kernel_rfl) (Factp5 D W8 T a1 a2 a3 a4 c1 c2 c3 c4) (Wp5 W8) ⟨Aft.drew _, fun h => by cases h⟩ ?step ?fin
  case step =>
    intro i o ho done a w hH hd hp K hK
    have hW := hH.wd
    have hold : ∀ s : Nat, chp5 s = false → a.eval (.tmp s) = a0.eval (.tmp s) := fun s h => hH.old s fun k ok hk hs => by
      match k, hk with
      | 0, hk => cases hk; cases hs; exact absurd h (by decide)
      | 1, hk => cases hk; cases hs; exact absurd h (by decide)
      | 2, hk => cases hk; cases hs; exact absurd h (by decide)
      | 3, hk => cases hk; cases hs; exact absurd h (by decide)
      | 4, hk => cases hk; cases hs; exact absurd h (by decide)
      | 5, hk => cases hk; cases hs; exact absurd h (by decide)
      | 6, hk => cases hk; cases hs
      | 7, hk => cases hk; cases hs
      | _ + 8, hk => cases hk
    have hK' : ∀ v, i ≠ 4 → i ≠ 5 → i ≠ 6 → i ≠ 7 → Factp5 D W8 T a1 a2 a3 a4 c1 c2 c3 c4 (Go.upd done i) i v w → K (a.put o.dst v) w := fun v h4 h5 h6 h7 hv => hK v w hv ⟨hW.aft, fun g4 g5 => by
      have e1 : (a.put o.dst v).eval (.tmp 9) = a.eval (.tmp 9) := Act.eval_put fun d hd' e => by
        cases e
        match i, ho with
        | 0, ho => cases ho; cases hd'
        | 1, ho => cases ho; cases hd'
        | 2, ho => cases ho; cases hd'
        | 3, ho => cases ho; cases hd'
        | 4, ho => exact h4 rfl
        | 5, ho => exact h5 rfl
        | 6, ho => exact h6 rfl
        | 7, ho => exact h7 rfl
        | _ + 8, ho => cases ho
      have e2 : (a.put o.dst v).eval (.tmp 10) = a.eval (.tmp 10) := Act.eval_put fun d hd' e => by
        cases e
        match i, ho with
        | 0, ho => cases ho; cases hd'
        | 1, ho => cases ho; cases hd'
        | 2, ho => cases ho; cases hd'
        | 3, ho => cases ho; cases hd'
        | 4, ho => exact h4 rfl
        | 5, ho => exact h5 rfl
        | 6, ho => exact h6 rfl
        | 7, ho => exact h7 rfl
        | _ + 8, ho => cases ho
      rw [e1, e2]
      unfold Go.upd at g4 g5
      rw [if_neg (Ne.symm h4)] at g4
      rw [if_neg (Ne.symm h5)] at g5
      exact hW.ne g4 g5⟩ fun j _ _ _ _ _ hu => Factp5.aft (Aft.refl w) (by unfold Go.upd; rw [if_neg (Ne.symm h6)]) (by unfold Go.upd; rw [if_neg (Ne.symm h7)]) hu
    match i, ho, hd, hp, hK, hK' with
    | 0, ho, hd, hp, hK, hK' =>
      cases ho
      have e : a.eval (.tmp 6) = .pointer (some ⟨D, 0, none⟩) := (hold 6 (by decide)).trans s6
      obtain ⟨k0, k1, k2, k3, k4⟩ := tc_cells' (hbx.aft hW.aft)
      exact op_value (by simp [go_sem, ev e, k0, k1, k2, k3, k4]) (hK' _ (by decide) (by decide) (by decide) (by decide) rfl)
    | 1, ho, hd, hp, hK, hK' =>
      cases ho
      have e : a.eval (.tmp 42) = .agg #[.int .i64 T.places, .slice a1 T.ways.length c1, .slice a2 T.words.length c2, .slice a3 T.starts.length c3, .slice a4 T.legs.length c4] := hH.fact 0 _ 42 rfl rfl (hp 0 (by decide))
      refine op_call1 Try.func10 (by kernel_rfl) (by kernel_rfl) _ rfl e (cloneTreaty_any w T a1 a2 a3 a4 c1 c2 c3 c4 (hT.aft hW.aft) (by omega) (by omega) (by omega) (by omega) hwl) ?_
      rintro e w' ⟨A1, A2, A3, A4, C1, C2, C3, C4, S, rfl, hc, ha, hs, hn, -⟩
      exact ⟨_, rfl, hK _ _ ⟨A1, A2, A3, A4, C1, C2, C3, C4, S, rfl, hc, hs, hn⟩ ⟨hW.aft.trans ha, fun h4 h5 => by rw [put_other (by decide), put_other (by decide)]; exact hW.ne h4 h5⟩ fun j _ _ _ _ _ hu => Factp5.aft ha rfl rfl hu⟩
    | 2, ho, hd, hp, hK, hK' =>
      cases ho
      have e : a.eval (.tmp 6) = .pointer (some ⟨D, 0, none⟩) := (hold 6 (by decide)).trans s6
      obtain ⟨k0, k1, k2, k3, k4⟩ := tc_cells' (hbx.aft hW.aft)
      exact op_value (by simp [go_sem, ev e, k0, k1, k2, k3, k4]) (hK' _ (by decide) (by decide) (by decide) (by decide) rfl)
    | 3, ho, hd, hp, hK, hK' =>
      cases ho
      have e : a.eval (.tmp 44) = .agg #[.int .i64 T.places, .slice a1 T.ways.length c1, .slice a2 T.words.length c2, .slice a3 T.starts.length c3, .slice a4 T.legs.length c4] := hH.fact 2 _ 44 rfl rfl (hp 2 (by decide))
      refine op_call1 Try.func10 (by kernel_rfl) (by kernel_rfl) _ rfl e (cloneTreaty_any w T a1 a2 a3 a4 c1 c2 c3 c4 (hT.aft hW.aft) (by omega) (by omega) (by omega) (by omega) hwl) ?_
      rintro e w' ⟨A1, A2, A3, A4, C1, C2, C3, C4, S, rfl, hc, ha, hs, hn, -⟩
      exact ⟨_, rfl, hK _ _ ⟨A1, A2, A3, A4, C1, C2, C3, C4, S, rfl, hc, hs, hn⟩ ⟨hW.aft.trans ha, fun h4 h5 => by rw [put_other (by decide), put_other (by decide)]; exact hW.ne h4 h5⟩ fun j _ _ _ _ _ hu => Factp5.aft ha rfl rfl hu⟩
    | 4, ho, hd, hp, hK, hK' =>
      cases ho
      have ha := Aft.alloc w (.cells #[.int .i64 0, .slice none 0 0, .slice none 0 0, .slice none 0 0, .slice none 0 0] 27)
      have h6 : done 6 = false := by
        cases hdk : done 6 with
        | false => rfl
        | true => have := hH.closed 6 _ rfl hdk 4 (by decide); rw [hd] at this; cases this
      have h1 : Factp5 D W8 T a1 a2 a3 a4 c1 c2 c3 c4 (Go.upd done 4) 4 (.pointer (some ⟨w.heap.size, 0, none⟩)) (w.alloc (.cells #[.int .i64 0, .slice none 0 0, .slice none 0 0, .slice none 0 0, .slice none 0 0] 27)) := ⟨_, rfl, hW.aft.size, fun _ => Blk.new _ _ _, fun h => by rw [show Go.upd done 4 6 = done 6 from rfl, h6] at h; cases h⟩
      have hne : done 5 = true → a.eval (.tmp 10) ≠ .pointer (some ⟨w.heap.size, 0, none⟩) := fun ho e => by
        obtain ⟨b, e2, hb1, hb2, hb3⟩ : Factp5 D W8 T a1 a2 a3 a4 c1 c2 c3 c4 done 5 (a.eval (.tmp 10)) w := hH.fact 5 _ 10 rfl rfl ho
        rw [e] at e2
        cases e2
        cases hq : done 7 with
        | false => have := (hb2 hq).lt; omega
        | true => have := (hb3 hq).lt; omega
      have := hK _ _ h1 ⟨hW.aft.trans ha, fun h4 h5 => by
        rw [show (a.put (some 9) (.pointer (some ⟨w.heap.size, 0, none⟩))).eval (.tmp 9) = .pointer (some ⟨w.heap.size, 0, none⟩) from Act.eval_put_same _ _ _ (by rw [hH.size, hz]; decide), put_other (by decide)]
        exact fun e => hne h5 e.symm⟩ fun j _ _ _ _ _ hu => Factp5.aft ha rfl rfl hu
      unfold Oper.wp
      simpa [go_sem] using this
    | 5, ho, hd, hp, hK, hK' =>
      cases ho
      have ha := Aft.alloc w (.cells #[.int .i64 0, .slice none 0 0, .slice none 0 0, .slice none 0 0, .slice none 0 0] 27)
      have h6 : done 7 = false := by
        cases hdk : done 7 with
        | false => rfl
        | true => have := hH.closed 7 _ rfl hdk 5 (by decide); rw [hd] at this; cases this
      have h1 : Factp5 D W8 T a1 a2 a3 a4 c1 c2 c3 c4 (Go.upd done 5) 5 (.pointer (some ⟨w.heap.size, 0, none⟩)) (w.alloc (.cells #[.int .i64 0, .slice none 0 0, .slice none 0 0, .slice none 0 0, .slice none 0 0] 27)) := ⟨_, rfl, hW.aft.size, fun _ => Blk.new _ _ _, fun h => by rw [show Go.upd done 5 7 = done 7 from rfl, h6] at h; cases h⟩
      have hne : done 4 = true → a.eval (.tmp 9) ≠ .pointer (some ⟨w.heap.size, 0, none⟩) := fun ho e => by
        obtain ⟨b, e2, hb1, hb2, hb3⟩ : Factp5 D W8 T a1 a2 a3 a4 c1 c2 c3 c4 done 4 (a.eval (.tmp 9)) w := hH.fact 4 _ 9 rfl rfl ho
        rw [e] at e2
        cases e2
        cases hq : done 6 with
        | false => have := (hb2 hq).lt; omega
        | true => have := (hb3 hq).lt; omega
      have := hK _ _ h1 ⟨hW.aft.trans ha, fun h4 h5 => by
        rw [show (a.put (some 10) (.pointer (some ⟨w.heap.size, 0, none⟩))).eval (.tmp 10) = .pointer (some ⟨w.heap.size, 0, none⟩) from Act.eval_put_same _ _ _ (by rw [hH.size, hz]; decide), put_other (by decide)]
        exact hne h4⟩ fun j _ _ _ _ _ hu => Factp5.aft ha rfl rfl hu
      unfold Oper.wp
      simpa [go_sem] using this
    | 6, ho, hd, hp, hK, hK' =>
      cases ho
      obtain ⟨A1, A2, A3, A4, C1, C2, C3, C4, S, e, hc, hs, hn⟩ : CG T (a.eval (.tmp 43)) w := hH.fact 1 _ 43 rfl rfl (hp 1 (by decide))
      obtain ⟨b, e2, hbb, hbl, -⟩ : Factp5 D W8 T a1 a2 a3 a4 c1 c2 c3 c4 done 4 (a.eval (.tmp 9)) w := hH.fact 4 _ 9 rfl rfl (hp 4 (by decide))
      have hb0 := hbl hd
      obtain ⟨h5, hg5⟩ := blk_five hb0 (.int .i64 T.places) (.slice A1 T.ways.length C1) (.slice A2 T.words.length C2) (.slice A3 T.starts.length C3) (.slice A4 T.legs.length C4)
      have hgood : Good5 T b _ := ⟨A1, A2, A3, A4, C1, C2, C3, C4, S, h5, hc, hs.grown hg5 (fun k e => by cases e; exact hn.not hb0), hn.kept3 hs.1 hg5 (fun k e => by cases e; exact hn.not hb0)⟩
      have hdo : done 5 = true := hp 5 (by decide)
      have hne := hW.ne (hp 4 (by decide)) (hp 5 (by decide))
      have := hK undef _ trivial ⟨hW.aft.grown hg5 (fun q e => by cases e; exact hbb), fun h4 h5 => by rw [put_none]; exact hW.ne (hp 4 (by decide)) (hp 5 (by decide))⟩ fun j oj s hoj hs' hj hu => by
        by_cases hjm : j = 4
        · subst hjm
          cases hoj
          cases hs'
          exact ⟨b, e2, hbb, fun h => (by (have h' : Go.upd done 6 6 = true := rfl); rw [h'] at h; cases h), fun _ => hgood⟩
        · by_cases hjo : j = 5
          · subst hjo
            cases hoj
            cases hs'
            obtain ⟨b', e3, q1, q2, q3⟩ := hu
            have hbne : b' ≠ b := fun e => by rw [e2, e3, e] at hne; exact hne rfl
            exact ⟨b', e3, q1, fun h => (q2 (by exact h)).grown hg5 (fun e => hbne (by injection e)), fun h => (q3 (by exact h)).write hg5 hb0 hbne⟩
          · exact Factp5.low hg5 hb0 hjm hjo hu
      have hlt := hb0.lt
      have hf : ∀ i, w.frozen? ⟨b, i, none⟩ = false := fun i => hb0.frozen i
      have j0 : w.cell? ⟨b, 0, none⟩ = some (.int .i64 0) := hb0.cell 0
      have j1 : w.cell? ⟨b, 1, none⟩ = some (.slice none 0 0) := hb0.cell 1
      have j2 : w.cell? ⟨b, 2, none⟩ = some (.slice none 0 0) := hb0.cell 2
      have j3 : w.cell? ⟨b, 3, none⟩ = some (.slice none 0 0) := hb0.cell 3
      have j4 : w.cell? ⟨b, 4, none⟩ = some (.slice none 0 0) := hb0.cell 4
      unfold Oper.wp
      simpa [go_sem, ev e, ev e2, hf, j0, j1, j2, j3, j4, hlt] using this
    | 7, ho, hd, hp, hK, hK' =>
      cases ho
      obtain ⟨A1, A2, A3, A4, C1, C2, C3, C4, S, e, hc, hs, hn⟩ : CG T (a.eval (.tmp 45)) w := hH.fact 3 _ 45 rfl rfl (hp 3 (by decide))
      obtain ⟨b, e2, hbb, hbl, -⟩ : Factp5 D W8 T a1 a2 a3 a4 c1 c2 c3 c4 done 5 (a.eval (.tmp 10)) w := hH.fact 5 _ 10 rfl rfl (hp 5 (by decide))
      have hb0 := hbl hd
      obtain ⟨h5, hg5⟩ := blk_five hb0 (.int .i64 T.places) (.slice A1 T.ways.length C1) (.slice A2 T.words.length C2) (.slice A3 T.starts.length C3) (.slice A4 T.legs.length C4)
      have hgood : Good5 T b _ := ⟨A1, A2, A3, A4, C1, C2, C3, C4, S, h5, hc, hs.grown hg5 (fun k e => by cases e; exact hn.not hb0), hn.kept3 hs.1 hg5 (fun k e => by cases e; exact hn.not hb0)⟩
      have hdo : done 4 = true := hp 4 (by decide)
      have hne := hW.ne (hp 4 (by decide)) (hp 5 (by decide))
      have := hK undef _ trivial ⟨hW.aft.grown hg5 (fun q e => by cases e; exact hbb), fun h4 h5 => by rw [put_none]; exact hW.ne (hp 4 (by decide)) (hp 5 (by decide))⟩ fun j oj s hoj hs' hj hu => by
        by_cases hjm : j = 5
        · subst hjm
          cases hoj
          cases hs'
          exact ⟨b, e2, hbb, fun h => (by (have h' : Go.upd done 7 7 = true := rfl); rw [h'] at h; cases h), fun _ => hgood⟩
        · by_cases hjo : j = 4
          · subst hjo
            cases hoj
            cases hs'
            obtain ⟨b', e3, q1, q2, q3⟩ := hu
            have hbne : b' ≠ b := fun e => by rw [e2, e3, e] at hne; exact hne rfl
            exact ⟨b', e3, q1, fun h => (q2 (by exact h)).grown hg5 (fun e => hbne (by injection e)), fun h => (q3 (by exact h)).write hg5 hb0 hbne⟩
          · exact Factp5.low hg5 hb0 hjo hjm hu
      have hlt := hb0.lt
      have hf : ∀ i, w.frozen? ⟨b, i, none⟩ = false := fun i => hb0.frozen i
      have j0 : w.cell? ⟨b, 0, none⟩ = some (.int .i64 0) := hb0.cell 0
      have j1 : w.cell? ⟨b, 1, none⟩ = some (.slice none 0 0) := hb0.cell 1
      have j2 : w.cell? ⟨b, 2, none⟩ = some (.slice none 0 0) := hb0.cell 2
      have j3 : w.cell? ⟨b, 3, none⟩ = some (.slice none 0 0) := hb0.cell 3
      have j4 : w.cell? ⟨b, 4, none⟩ = some (.slice none 0 0) := hb0.cell 4
      unfold Oper.wp
      simpa [go_sem, ev e, ev e2, hf, j0, j1, j2, j3, j4, hlt] using this
    | _ + 8, ho, _, _, _, _ => cases ho
  case fin =>
    intro done a w hall hH
    have hdone : ∀ i, i < 8 → done i = true := fun i hi => hall i (by exact hi)
    have hold : ∀ s : Nat, chp5 s = false → a.eval (.tmp s) = a0.eval (.tmp s) := fun s h => hH.old s fun k ok hk hs => by
      match k, hk with
      | 0, hk => cases hk; cases hs; exact absurd h (by decide)
      | 1, hk => cases hk; cases hs; exact absurd h (by decide)
      | 2, hk => cases hk; cases hs; exact absurd h (by decide)
      | 3, hk => cases hk; cases hs; exact absurd h (by decide)
      | 4, hk => cases hk; cases hs; exact absurd h (by decide)
      | 5, hk => cases hk; cases hs; exact absurd h (by decide)
      | 6, hk => cases hk; cases hs
      | 7, hk => cases hk; cases hs
      | _ + 8, hk => cases hk
    obtain ⟨b, e, h1, -, h2⟩ : Factp5 D W8 T a1 a2 a3 a4 c1 c2 c3 c4 done 4 (a.eval (.tmp 9)) w := hH.fact 4 _ 9 rfl rfl (hdone 4 (by decide))
    obtain ⟨b2, e2, h3, -, h4⟩ : Factp5 D W8 T a1 a2 a3 a4 c1 c2 c3 c4 done 5 (a.eval (.tmp 10)) w := hH.fact 5 _ 10 rfl rfl (hdone 5 (by decide))
    have hne := hH.wd.ne (hdone 4 (by decide)) (hdone 5 (by decide))
    exact HEX.out a w b b2 (hH.size.trans hz) hH.defers hold e e2 (fun h => hne (by rw [e, e2, h])) h1 h3 (h2 (hdone 6 (by decide))) (h4 (hdone 7 (by decide))) hH.wd.aft

set_option maxRecDepth 100000 in
set_option maxHeartbeats 2000000 in
theorem region5_ptlit (T : Treaty) (a1 a2 a3 a4 : Option Addr) (c1 c2 c3 c4 : Nat) (D : Nat) (W8 : World) (hT : TRep W8 T a1 a2 a3 a4) (hbx : Blk W8 D 27 #[.int .i64 T.places, .slice a1 T.ways.length c1, .slice a2 T.words.length c2, .slice a3 T.starts.length c3, .slice a4 T.legs.length c4]) (hl1 : T.ways.length ≤ 100) (hl2 : T.words.length ≤ 100) (hl3 : T.starts.length ≤ 100) (hl4 : T.legs.length ≤ 100) (hwl : ∀ l ∈ T.words, l.length ≤ 100)
    (q0 q1 q2 q3 q4 q5 q7 q8 q9 q10 q11 q12 q13 q14 q15 q16 q17 q18 q19 q20 q21 q22 q23 q24 q25 q26 q27 q28 q29 q30 q31 q32 q33 q34 q35 q36 q37 q38 q39 q40 q41 q42 q43 q44 q45 q46 q47 q48 q49 q50 q51 q52 q53 q54 q55 q56 q57 q58 q59 q60 q61 q62 q63 q64 q65 q66 q67 q68 q69 q70 q71 q72 q73 q74 q75 q76 q77 q78 q79 q80 q81 q82 q83 q84 q85 q86 q87 q88 q89 q90 q91 q92 q93 q94 q95 q96 q97 q98 q99 q100 q101 q102 q103 q104 q105 q106 q107 q108 q109 q110 q111 q112 q113 q114 q115 q116 q117 q118 q119 q120 q121 q122 q123 q124 q125 q126 q127 q128 q129 q130 q131 q132 q133 q134 q135 q136 q137 q138 q139 q140 q141 q142 q143 q144 q145 q146 q147 q148 q149 q150 q151 q152 q153 q154 q155 q156 q157 q158 q159 q160 q161 q162 q163 q164 q165 q166 q167 q168 q169 q170 q171 q172 q173 q174 q175 q176 q177 q178 q179 q180 q181 q182 q183 q184 q185 q186 q187 q188 q189 q190 q191 q192 q193 q194 q195 q196 q197 q198 q199 q200 q201 q202 q203 q204 q205 q206 q207 q208 q209 q210 q211 q212 q213 q214 q215 q216 q217 q218 q219 q220 q221 q222 q223 q224 q225 q226 q227 q228 q229 q230 q231 q232 q233 q234 q235 q236 q237 q238 q239 : Value) (Q0 : Exit → Act → World → Prop)
    (hexit : ∀ (u9 u10 u42 u43 u44 u45 : Value) W' b b2, u9 = .pointer (some ⟨b, 0, none⟩) → u10 = .pointer (some ⟨b2, 0, none⟩) → b ≠ b2 → W8.heap.size ≤ b → W8.heap.size ≤ b2 → Good5 T b W' → Good5 T b2 W' → Aft W8 W' → Q0 .normal ⟨(List.toArray (q0 :: q1 :: q2 :: q3 :: q4 :: q5 :: .pointer (some ⟨D, 0, none⟩) :: q7 :: q8 :: u9 :: u10 :: q11 :: q12 :: q13 :: q14 :: q15 :: q16 :: q17 :: q18 :: q19 :: q20 :: q21 :: q22 :: q23 :: q24 :: q25 :: q26 :: q27 :: q28 :: q29 :: q30 :: q31 :: q32 :: q33 :: q34 :: q35 :: q36 :: q37 :: q38 :: q39 :: q40 :: q41 :: u42 :: u43 :: u44 :: u45 :: q46 :: q47 :: q48 :: q49 :: q50 :: q51 :: q52 :: q53 :: q54 :: q55 :: q56 :: q57 :: q58 :: q59 :: q60 :: q61 :: q62 :: q63 :: q64 :: q65 :: q66 :: q67 :: q68 :: q69 :: q70 :: q71 :: q72 :: q73 :: q74 :: q75 :: q76 :: q77 :: q78 :: q79 :: q80 :: q81 :: q82 :: q83 :: q84 :: q85 :: q86 :: q87 :: q88 :: q89 :: q90 :: q91 :: q92 :: q93 :: q94 :: q95 :: q96 :: q97 :: q98 :: q99 :: q100 :: q101 :: q102 :: q103 :: q104 :: q105 :: q106 :: q107 :: q108 :: q109 :: q110 :: q111 :: q112 :: q113 :: q114 :: q115 :: q116 :: q117 :: q118 :: q119 :: q120 :: q121 :: q122 :: q123 :: q124 :: q125 :: q126 :: q127 :: q128 :: q129 :: q130 :: q131 :: q132 :: q133 :: q134 :: q135 :: q136 :: q137 :: q138 :: q139 :: q140 :: q141 :: q142 :: q143 :: q144 :: q145 :: q146 :: q147 :: q148 :: q149 :: q150 :: q151 :: q152 :: q153 :: q154 :: q155 :: q156 :: q157 :: q158 :: q159 :: q160 :: q161 :: q162 :: q163 :: q164 :: q165 :: q166 :: q167 :: q168 :: q169 :: q170 :: q171 :: q172 :: q173 :: q174 :: q175 :: q176 :: q177 :: q178 :: q179 :: q180 :: q181 :: q182 :: q183 :: q184 :: q185 :: q186 :: q187 :: q188 :: q189 :: q190 :: q191 :: q192 :: q193 :: q194 :: q195 :: q196 :: q197 :: q198 :: q199 :: q200 :: q201 :: q202 :: q203 :: q204 :: q205 :: q206 :: q207 :: q208 :: q209 :: q210 :: q211 :: q212 :: q213 :: q214 :: q215 :: q216 :: q217 :: q218 :: q219 :: q220 :: q221 :: q222 :: q223 :: q224 :: q225 :: q226 :: q227 :: q228 :: q229 :: q230 :: q231 :: q232 :: q233 :: q234 :: q235 :: q236 :: q237 :: q238 :: q239 :: [])), []⟩ W') :
    Code.wp Try.prog (Code.region 5 (opsPt 5).toArray true) Q0 ⟨(List.toArray (q0 :: q1 :: q2 :: q3 :: q4 :: q5 :: .pointer (some ⟨D, 0, none⟩) :: q7 :: q8 :: q9 :: q10 :: q11 :: q12 :: q13 :: q14 :: q15 :: q16 :: q17 :: q18 :: q19 :: q20 :: q21 :: q22 :: q23 :: q24 :: q25 :: q26 :: q27 :: q28 :: q29 :: q30 :: q31 :: q32 :: q33 :: q34 :: q35 :: q36 :: q37 :: q38 :: q39 :: q40 :: q41 :: q42 :: q43 :: q44 :: q45 :: q46 :: q47 :: q48 :: q49 :: q50 :: q51 :: q52 :: q53 :: q54 :: q55 :: q56 :: q57 :: q58 :: q59 :: q60 :: q61 :: q62 :: q63 :: q64 :: q65 :: q66 :: q67 :: q68 :: q69 :: q70 :: q71 :: q72 :: q73 :: q74 :: q75 :: q76 :: q77 :: q78 :: q79 :: q80 :: q81 :: q82 :: q83 :: q84 :: q85 :: q86 :: q87 :: q88 :: q89 :: q90 :: q91 :: q92 :: q93 :: q94 :: q95 :: q96 :: q97 :: q98 :: q99 :: q100 :: q101 :: q102 :: q103 :: q104 :: q105 :: q106 :: q107 :: q108 :: q109 :: q110 :: q111 :: q112 :: q113 :: q114 :: q115 :: q116 :: q117 :: q118 :: q119 :: q120 :: q121 :: q122 :: q123 :: q124 :: q125 :: q126 :: q127 :: q128 :: q129 :: q130 :: q131 :: q132 :: q133 :: q134 :: q135 :: q136 :: q137 :: q138 :: q139 :: q140 :: q141 :: q142 :: q143 :: q144 :: q145 :: q146 :: q147 :: q148 :: q149 :: q150 :: q151 :: q152 :: q153 :: q154 :: q155 :: q156 :: q157 :: q158 :: q159 :: q160 :: q161 :: q162 :: q163 :: q164 :: q165 :: q166 :: q167 :: q168 :: q169 :: q170 :: q171 :: q172 :: q173 :: q174 :: q175 :: q176 :: q177 :: q178 :: q179 :: q180 :: q181 :: q182 :: q183 :: q184 :: q185 :: q186 :: q187 :: q188 :: q189 :: q190 :: q191 :: q192 :: q193 :: q194 :: q195 :: q196 :: q197 :: q198 :: q199 :: q200 :: q201 :: q202 :: q203 :: q204 :: q205 :: q206 :: q207 :: q208 :: q209 :: q210 :: q211 :: q212 :: q213 :: q214 :: q215 :: q216 :: q217 :: q218 :: q219 :: q220 :: q221 :: q222 :: q223 :: q224 :: q225 :: q226 :: q227 :: q228 :: q229 :: q230 :: q231 :: q232 :: q233 :: q234 :: q235 :: q236 :: q237 :: q238 :: q239 :: [])), []⟩ W8 := by
  refine region5_pt T a1 a2 a3 a4 c1 c2 c3 c4 D _ Q0 W8 rfl rfl hT hbx hl1 hl2 hl3 hl4 hwl ?_
  intro a W' b b2 hz hd hs h1 h2 h3 h4 h5 h6 h7 h8
  have e := frame_act 240 a _ hz hd chp5 (fun s hp => hs s hp)
  have e2 : a = ⟨(List.toArray (q0 :: q1 :: q2 :: q3 :: q4 :: q5 :: .pointer (some ⟨D, 0, none⟩) :: q7 :: q8 :: a.eval (.tmp 9) :: a.eval (.tmp 10) :: q11 :: q12 :: q13 :: q14 :: q15 :: q16 :: q17 :: q18 :: q19 :: q20 :: q21 :: q22 :: q23 :: q24 :: q25 :: q26 :: q27 :: q28 :: q29 :: q30 :: q31 :: q32 :: q33 :: q34 :: q35 :: q36 :: q37 :: q38 :: q39 :: q40 :: q41 :: a.eval (.tmp 42) :: a.eval (.tmp 43) :: a.eval (.tmp 44) :: a.eval (.tmp 45) :: q46 :: q47 :: q48 :: q49 :: q50 :: q51 :: q52 :: q53 :: q54 :: q55 :: q56 :: q57 :: q58 :: q59 :: q60 :: q61 :: q62 :: q63 :: q64 :: q65 :: q66 :: q67 :: q68 :: q69 :: q70 :: q71 :: q72 :: q73 :: q74 :: q75 :: q76 :: q77 :: q78 :: q79 :: q80 :: q81 :: q82 :: q83 :: q84 :: q85 :: q86 :: q87 :: q88 :: q89 :: q90 :: q91 :: q92 :: q93 :: q94 :: q95 :: q96 :: q97 :: q98 :: q99 :: q100 :: q101 :: q102 :: q103 :: q104 :: q105 :: q106 :: q107 :: q108 :: q109 :: q110 :: q111 :: q112 :: q113 :: q114 :: q115 :: q116 :: q117 :: q118 :: q119 :: q120 :: q121 :: q122 :: q123 :: q124 :: q125 :: q126 :: q127 :: q128 :: q129 :: q130 :: q131 :: q132 :: q133 :: q134 :: q135 :: q136 :: q137 :: q138 :: q139 :: q140 :: q141 :: q142 :: q143 :: q144 :: q145 :: q146 :: q147 :: q148 :: q149 :: q150 :: q151 :: q152 :: q153 :: q154 :: q155 :: q156 :: q157 :: q158 :: q159 :: q160 :: q161 :: q162 :: q163 :: q164 :: q165 :: q166 :: q167 :: q168 :: q169 :: q170 :: q171 :: q172 :: q173 :: q174 :: q175 :: q176 :: q177 :: q178 :: q179 :: q180 :: q181 :: q182 :: q183 :: q184 :: q185 :: q186 :: q187 :: q188 :: q189 :: q190 :: q191 :: q192 :: q193 :: q194 :: q195 :: q196 :: q197 :: q198 :: q199 :: q200 :: q201 :: q202 :: q203 :: q204 :: q205 :: q206 :: q207 :: q208 :: q209 :: q210 :: q211 :: q212 :: q213 :: q214 :: q215 :: q216 :: q217 :: q218 :: q219 :: q220 :: q221 :: q222 :: q223 :: q224 :: q225 :: q226 :: q227 :: q228 :: q229 :: q230 :: q231 :: q232 :: q233 :: q234 :: q235 :: q236 :: q237 :: q238 :: q239 :: [])), []⟩ := e
  have h := hexit (a.eval (.tmp 9)) (a.eval (.tmp 10)) (a.eval (.tmp 42)) (a.eval (.tmp 43)) (a.eval (.tmp 44)) (a.eval (.tmp 45)) W' b b2 h1 h2 h3 h4 h5 h6 h7 h8
  rw [← e2] at h
  exact h

/-- where a list goes on behind its first k records of two cells -/
def dropA (L : Option Addr) (C k : Nat) : Option Addr := if C = k then L else L.map fun a => ⟨a.block, a.off + k * 2, none⟩
structure Wp6 (X : World) (b1 b2 n k C1 C2 : Nat) (L1 L2 : Option Addr) (y0 y1 y2 y3 z0 z1 z2 z3 : Value) (W8 : World) (done : Nat → Bool) (_ : Act) (w : World) : Prop where
  aft : Aft X w
  keep : W8.heap.size ≤ w.heap.size ∧ ∀ q, q < W8.heap.size → q ≠ b1 → q ≠ b2 → w.heap[q]? = W8.heap[q]?
  r1 : done 9 = false → Blk w b1 27 #[y0, y1, y2, y3, .slice L1 n C1]
  n1 : done 9 = true → Blk w b1 27 #[y0, y1, y2, y3, .slice L1 k C1]
  r2 : done 11 = false → Blk w b2 27 #[z0, z1, z2, z3, .slice L2 n C2]
  n2 : done 11 = true → Blk w b2 27 #[z0, z1, z2, z3, .slice (dropA L2 C2 k) (n - k) (C2 - k)]
def Factp6 (b1 b2 n k C1 C2 : Nat) (L1 L2 : Option Addr) (_ : Nat → Bool) : Nat → Value → World → Prop
  | 0, v, _ => v = .pointer (some ⟨b1, 4, none⟩)
  | 1, v, _ => v = .slice L1 n C1
  | 2, v, _ => v = .int .i64 k
  | 3, v, _ => v = .slice L1 k C1
  | 4, v, _ => v = .pointer (some ⟨b2, 4, none⟩)
  | 5, v, _ => v = .slice L2 n C2
  | 6, v, _ => v = .int .i64 k
  | 7, v, _ => v = .slice (dropA L2 C2 k) (n - k) (C2 - k)
  | 8, v, _ => v = .pointer (some ⟨b1, 4, none⟩)
  | 10, v, _ => v = .pointer (some ⟨b2, 4, none⟩)
  | _, _, _ => True
theorem Factp6.same {b1 b2 n k C1 C2 : Nat} {L1 L2 : Option Addr} {done done' : Nat → Bool} {i : Nat} {v : Value} {w w' : World} (h : Factp6 b1 b2 n k C1 C2 L1 L2 done i v w) : Factp6 b1 b2 n k C1 C2 L1 L2 done' i v w' := by
  unfold Factp6 at h ⊢
  split at h <;> exact h
def chp6 (s : Nat) : Bool := decide (s = 46) || decide (s = 47) || decide (s = 48) || decide (s = 49) || decide (s = 50) || decide (s = 51) || decide (s = 52) || decide (s = 53) || decide (s = 54) || decide (s = 55)

set_option maxRecDepth 100000 in
set_option maxHeartbeats 2000000 in
theorem region6_pt (X : World) (b1 b2 n k C1 C2 : Nat) (L1 L2 : Option Addr) (y0 y1 y2 y3 z0 z1 z2 z3 : Value) (a0 : Act) (Q0 : Exit → Act → World → Prop) (W8 : World)
    (hz : a0.tmps.size = 240) (s8 : a0.eval (.tmp 8) = .int .i64 k) (s9 : a0.eval (.tmp 9) = .pointer (some ⟨b1, 0, none⟩)) (s10 : a0.eval (.tmp 10) = .pointer (some ⟨b2, 0, none⟩))
    (ha : Aft X W8) (hx1 : X.heap.size ≤ b1) (hx2 : X.heap.size ≤ b2) (hne : b1 ≠ b2) (hr1 : Blk W8 b1 27 #[y0, y1, y2, y3, .slice L1 n C1]) (hr2 : Blk W8 b2 27 #[z0, z1, z2, z3, .slice L2 n C2]) (hL1 : L1 = none ∧ C1 = 0 ∨ ∃ g, L1 = some ⟨g, 0, none⟩) (hL2 : L2 = none ∧ C2 = 0 ∨ ∃ g, L2 = some ⟨g, 0, none⟩) (hn1 : n ≤ C1) (hn2 : n ≤ C2) (hkn : k ≤ n)
    (hexit : ∀ a W' , a.tmps.size = 240 → a.defers = a0.defers → (∀ s : Nat, chp6 s = false → a.eval (.tmp s) = a0.eval (.tmp s)) → Aft X W' → (W8.heap.size ≤ W'.heap.size ∧ ∀ q, q < W8.heap.size → q ≠ b1 → q ≠ b2 → W'.heap[q]? = W8.heap[q]?) → Blk W' b1 27 #[y0, y1, y2, y3, .slice L1 k C1] → Blk W' b2 27 #[z0, z1, z2, z3, .slice (dropA L2 C2 k) (n - k) (C2 - k)] → Q0 .normal a W') :
    Code.wp Try.prog (Code.region 6 (opsPt 6).toArray true) Q0 a0 W8 := by
  have HEX := Lib.hid hexit
  clear hexit
  refine wp_region_factsF (by kernel_rfl) 240 hz (by kernel_rfl) (Factp6 b1 b2 n k C1 C2 L1 L2) (Wp6 X b1 b2 n k C1 C2 L1 L2 y0 y1 y2 y3 z0 z1 z2 z3 W8) ⟨ha.then_drew, ⟨Nat.le_refl _, fun _ _ _ _ => rfl⟩, fun _ => hr1.drew, fun h => (by cases h), fun _ => hr2.drew, fun h => (by cases h)⟩ ?step ?fin
  case step =>
    intro i o ho done a w hH hd hp K hK
    have hW := hH.wd
    have hold : ∀ s : Nat, chp6 s = false → a.eval (.tmp s) = a0.eval (.tmp s) := fun s h => hH.old s fun k ok hk hs => by
      match k, hk with
      | 0, hk => cases hk; cases hs; exact absurd h (by decide)
      | 1, hk => cases hk; cases hs; exact absurd h (by decide)
      | 2, hk => cases hk; cases hs; exact absurd h (by decide)
      | 3, hk => cases hk; cases hs; exact absurd h (by decide)
      | 4, hk => cases hk; cases hs; exact absurd h (by decide)
      | 5, hk => cases hk; cases hs; exact absurd h (by decide)
      | 6, hk => cases hk; cases hs; exact absurd h (by decide)
      | 7, hk => cases hk; cases hs; exact absurd h (by decide)
      | 8, hk => cases hk; cases hs; exact absurd h (by decide)
      | 9, hk => cases hk; cases hs
      | 10, hk => cases hk; cases hs; exact absurd h (by decide)
      | 11, hk => cases hk; cases hs
      | _ + 12, hk => cases hk
    have hK' : ∀ v, i ≠ 9 → i ≠ 11 → Factp6 b1 b2 n k C1 C2 L1 L2 (Go.upd done i) i v w → K (a.put o.dst v) w := fun v h9 h11 hv => hK v w hv ⟨hW.aft, hW.keep, fun h => hW.r1 (by unfold Go.upd at h; rw [if_neg (Ne.symm h9)] at h; exact h), fun h => hW.n1 (by unfold Go.upd at h; rw [if_neg (Ne.symm h9)] at h; exact h), fun h => hW.r2 (by unfold Go.upd at h; rw [if_neg (Ne.symm h11)] at h; exact h), fun h => hW.n2 (by unfold Go.upd at h; rw [if_neg (Ne.symm h11)] at h; exact h)⟩ fun j _ _ _ _ _ hu => Factp6.same hu
    match i, ho, hd, hp, hK, hK' with
    | 0, ho, hd, hp, hK, hK' =>
      cases ho
      have e : a.eval (.tmp 9) = .pointer (some ⟨b1, 0, none⟩) := (hold 9 (by decide)).trans s9
      exact op_value (by simp [go_sem, ev e]) (hK' _ (by decide) (by decide) rfl)
    | 1, ho, hd, hp, hK, hK' =>
      cases ho
      have e : a.eval (.tmp 46) = .pointer (some ⟨b1, 4, none⟩) := hH.fact 0 _ 46 rfl rfl (hp 0 (by decide))
      have h0 : done 9 = false := by
        cases hdk : done 9 with
        | false => rfl
        | true => have := hH.closed 9 _ rfl hdk 1 (by decide); rw [hd] at this; cases this
      have hc : w.cell? ⟨b1, 4, none⟩ = some (.slice L1 n C1) := (hW.r1 h0).cell 4
      exact op_value (by simp [go_sem, ev e, hc]) (hK' _ (by decide) (by decide) rfl)
    | 2, ho, hd, hp, hK, hK' =>
      cases ho
      have e : a.eval (.tmp 8) = .int .i64 k := (hold 8 (by decide)).trans s8
      exact op_value (by simp [go_sem, ev e]) (hK' _ (by decide) (by decide) rfl)
    | 3, ho, hd, hp, hK, hK' =>
      cases ho
      have e : a.eval (.tmp 47) = .slice L1 n C1 := hH.fact 1 _ 47 rfl rfl (hp 1 (by decide))
      have e2 : a.eval (.tmp 48) = .int .i64 k := hH.fact 2 _ 48 rfl rfl (hp 2 (by decide))
      rcases hL1 with ⟨rfl, rfl⟩ | ⟨g, rfl⟩
      · obtain rfl : n = 0 := by omega
        obtain rfl : k = 0 := by omega
        exact op_value (by simp [go_sem, ev e, ev e2]) (hK' _ (by decide) (by decide) rfl)
      · have i1 : k ≤ C1 := by omega
        exact op_value (by simp [go_sem, ev e, ev e2, i1]) (hK' _ (by decide) (by decide) rfl)
    | 4, ho, hd, hp, hK, hK' =>
      cases ho
      have e : a.eval (.tmp 10) = .pointer (some ⟨b2, 0, none⟩) := (hold 10 (by decide)).trans s10
      exact op_value (by simp [go_sem, ev e]) (hK' _ (by decide) (by decide) rfl)
    | 5, ho, hd, hp, hK, hK' =>
      cases ho
      have e : a.eval (.tmp 50) = .pointer (some ⟨b2, 4, none⟩) := hH.fact 4 _ 50 rfl rfl (hp 4 (by decide))
      have h0 : done 11 = false := by
        cases hdk : done 11 with
        | false => rfl
        | true => have := hH.closed 11 _ rfl hdk 5 (by decide); rw [hd] at this; cases this
      have hc : w.cell? ⟨b2, 4, none⟩ = some (.slice L2 n C2) := (hW.r2 h0).cell 4
      exact op_value (by simp [go_sem, ev e, hc]) (hK' _ (by decide) (by decide) rfl)
    | 6, ho, hd, hp, hK, hK' =>
      cases ho
      have e : a.eval (.tmp 8) = .int .i64 k := (hold 8 (by decide)).trans s8
      exact op_value (by simp [go_sem, ev e]) (hK' _ (by decide) (by decide) rfl)
    | 7, ho, hd, hp, hK, hK' =>
      cases ho
      have e : a.eval (.tmp 51) = .slice L2 n C2 := hH.fact 5 _ 51 rfl rfl (hp 5 (by decide))
      have e2 : a.eval (.tmp 52) = .int .i64 k := hH.fact 6 _ 52 rfl rfl (hp 6 (by decide))
      rcases hL2 with ⟨rfl, rfl⟩ | ⟨g, rfl⟩
      · obtain rfl : n = 0 := by omega
        obtain rfl : k = 0 := by omega
        have hd0 : (Value.slice (dropA none 0 0) (0 - 0) (0 - 0)) = .slice none 0 0 := by simp [dropA]
        exact op_value (v := .slice (dropA none 0 0) (0 - 0) (0 - 0)) (by rw [hd0]; simp [go_sem, ev e, ev e2]) (hK' _ (by decide) (by decide) rfl)
      · have i2 : k ≤ C2 := by omega
        by_cases hCk : C2 = k
        · have hd0 : dropA (some ⟨g, 0, none⟩) C2 k = some ⟨g, 0, none⟩ := by simp [dropA, hCk]
          exact op_value (v := .slice (dropA (some ⟨g, 0, none⟩) C2 k) (n - k) (C2 - k)) (by rw [hd0]; simp [go_sem, ev e, ev e2, hkn, i2, hCk]) (hK' _ (by decide) (by decide) rfl)
        · have hd0 : dropA (some ⟨g, 0, none⟩) C2 k = some ⟨g, 0 + k * 2, none⟩ := by simp [dropA, hCk]
          exact op_value (v := .slice (dropA (some ⟨g, 0, none⟩) C2 k) (n - k) (C2 - k)) (by rw [hd0]; simp [go_sem, ev e, ev e2, hkn, i2, hCk]) (hK' _ (by decide) (by decide) rfl)
    | 8, ho, hd, hp, hK, hK' =>
      cases ho
      have e : a.eval (.tmp 9) = .pointer (some ⟨b1, 0, none⟩) := (hold 9 (by decide)).trans s9
      exact op_value (by simp [go_sem, ev e]) (hK' _ (by decide) (by decide) rfl)
    | 9, ho, hd, hp, hK, hK' =>
      cases ho
      have e : a.eval (.tmp 49) = .slice L1 k C1 := hH.fact 3 _ 49 rfl rfl (hp 3 (by decide))
      have e2 : a.eval (.tmp 54) = .pointer (some ⟨b1, 4, none⟩) := hH.fact 8 _ 54 rfl rfl (hp 8 (by decide))
      have hb0 := hW.r1 hd
      have hgs := setc' w b1 4 (.slice L1 k C1)
      have := hK undef (w.setCell ⟨b1, 4, none⟩ (.slice L1 k C1)) trivial ⟨hW.aft.grown hgs (fun q e => by cases e; omega), ⟨Nat.le_trans hW.keep.1 hgs.size, fun q hq h1 h2 => (hgs.block q (Nat.lt_of_lt_of_le hq hW.keep.1) (fun e => by injection e with e; first | exact h1 e | exact h2 e)).trans (hW.keep.2 q hq h1 h2)⟩, fun h => (by (have h' : Go.upd done 9 9 = true := rfl); rw [h'] at h; cases h), fun _ => hb0.store 4 _, fun h => (hW.r2 (by exact h)).grown hgs (fun e => hne (by injection e with e; exact e.symm)), fun h => (hW.n2 (by exact h)).grown hgs (fun e => hne (by injection e with e; exact e.symm))⟩ fun j _ _ _ _ _ hu => Factp6.same hu
      have hlt := hb0.lt
      have hf := hb0.frozen 4
      have hc : w.cell? ⟨b1, 4, none⟩ = some _ := hb0.cell 4
      unfold Oper.wp
      simpa [go_sem, ev e, ev e2, hf, hc, hlt] using this
    | 10, ho, hd, hp, hK, hK' =>
      cases ho
      have e : a.eval (.tmp 10) = .pointer (some ⟨b2, 0, none⟩) := (hold 10 (by decide)).trans s10
      exact op_value (by simp [go_sem, ev e]) (hK' _ (by decide) (by decide) rfl)
    | 11, ho, hd, hp, hK, hK' =>
      cases ho
      have e : a.eval (.tmp 53) = .slice (dropA L2 C2 k) (n - k) (C2 - k) := hH.fact 7 _ 53 rfl rfl (hp 7 (by decide))
      have e2 : a.eval (.tmp 55) = .pointer (some ⟨b2, 4, none⟩) := hH.fact 10 _ 55 rfl rfl (hp 10 (by decide))
      have hb0 := hW.r2 hd
      have hgs := setc' w b2 4 (.slice (dropA L2 C2 k) (n - k) (C2 - k))
      have := hK undef (w.setCell ⟨b2, 4, none⟩ (.slice (dropA L2 C2 k) (n - k) (C2 - k))) trivial ⟨hW.aft.grown hgs (fun q e => by cases e; omega), ⟨Nat.le_trans hW.keep.1 hgs.size, fun q hq h1 h2 => (hgs.block q (Nat.lt_of_lt_of_le hq hW.keep.1) (fun e => by injection e with e; first | exact h1 e | exact h2 e)).trans (hW.keep.2 q hq h1 h2)⟩, fun h => (hW.r1 (by exact h)).grown hgs (fun e => hne (by injection e)), fun h => (hW.n1 (by exact h)).grown hgs (fun e => hne (by injection e)), fun h => (by (have h' : Go.upd done 11 11 = true := rfl); rw [h'] at h; cases h), fun _ => hb0.store 4 _⟩ fun j _ _ _ _ _ hu => Factp6.same hu
      have hlt := hb0.lt
      have hf := hb0.frozen 4
      have hc : w.cell? ⟨b2, 4, none⟩ = some _ := hb0.cell 4
      unfold Oper.wp
      simpa [go_sem, ev e, ev e2, hf, hc, hlt] using this
    | _ + 12, ho, _, _, _, _ => cases ho
  case fin =>
    intro done a w hall hH
    have hdone : ∀ i, i < 12 → done i = true := fun i hi => hall i (by exact hi)
    have hold : ∀ s : Nat, chp6 s = false → a.eval (.tmp s) = a0.eval (.tmp s) := fun s h => hH.old s fun k ok hk hs => by
      match k, hk with
      | 0, hk => cases hk; cases hs; exact absurd h (by decide)
      | 1, hk => cases hk; cases hs; exact absurd h (by decide)
      | 2, hk => cases hk; cases hs; exact absurd h (by decide)
      | 3, hk => cases hk; cases hs; exact absurd h (by decide)
      | 4, hk => cases hk; cases hs; exact absurd h (by decide)
      | 5, hk => cases hk; cases hs; exact absurd h (by decide)
      | 6, hk => cases hk; cases hs; exact absurd h (by decide)
      | 7, hk => cases hk; cases hs; exact absurd h (by decide)
      | 8, hk => cases hk; cases hs; exact absurd h (by decide)
      | 9, hk => cases hk; cases hs
      | 10, hk => cases hk; cases hs; exact absurd h (by decide)
      | 11, hk => cases hk; cases hs
      | _ + 12, hk => cases hk
    exact HEX.out a w (hH.size.trans hz) hH.defers hold hH.wd.aft hH.wd.keep (hH.wd.n1 (hdone 9 (by decide))) (hH.wd.n2 (hdone 11 (by decide)))

set_option maxRecDepth 100000 in
set_option maxHeartbeats 2000000 in
theorem region6_ptlit (X : World) (b1 b2 n k C1 C2 : Nat) (L1 L2 : Option Addr) (y0 y1 y2 y3 z0 z1 z2 z3 : Value) (W8 : World) (ha : Aft X W8) (hx1 : X.heap.size ≤ b1) (hx2 : X.heap.size ≤ b2) (hne : b1 ≠ b2) (hr1 : Blk W8 b1 27 #[y0, y1, y2, y3, .slice L1 n C1]) (hr2 : Blk W8 b2 27 #[z0, z1, z2, z3, .slice L2 n C2]) (hL1 : L1 = none ∧ C1 = 0 ∨ ∃ g, L1 = some ⟨g, 0, none⟩) (hL2 : L2 = none ∧ C2 = 0 ∨ ∃ g, L2 = some ⟨g, 0, none⟩) (hn1 : n ≤ C1) (hn2 : n ≤ C2) (hkn : k ≤ n)
    (q0 q1 q2 q3 q4 q5 q6 q7 q11 q12 q13 q14 q15 q16 q17 q18 q19 q20 q21 q22 q23 q24 q25 q26 q27 q28 q29 q30 q31 q32 q33 q34 q35 q36 q37 q38 q39 q40 q41 q42 q43 q44 q45 q46 q47 q48 q49 q50 q51 q52 q53 q54 q55 q56 q57 q58 q59 q60 q61 q62 q63 q64 q65 q66 q67 q68 q69 q70 q71 q72 q73 q74 q75 q76 q77 q78 q79 q80 q81 q82 q83 q84 q85 q86 q87 q88 q89 q90 q91 q92 q93 q94 q95 q96 q97 q98 q99 q100 q101 q102 q103 q104 q105 q106 q107 q108 q109 q110 q111 q112 q113 q114 q115 q116 q117 q118 q119 q120 q121 q122 q123 q124 q125 q126 q127 q128 q129 q130 q131 q132 q133 q134 q135 q136 q137 q138 q139 q140 q141 q142 q143 q144 q145 q146 q147 q148 q149 q150 q151 q152 q153 q154 q155 q156 q157 q158 q159 q160 q161 q162 q163 q164 q165 q166 q167 q168 q169 q170 q171 q172 q173 q174 q175 q176 q177 q178 q179 q180 q181 q182 q183 q184 q185 q186 q187 q188 q189 q190 q191 q192 q193 q194 q195 q196 q197 q198 q199 q200 q201 q202 q203 q204 q205 q206 q207 q208 q209 q210 q211 q212 q213 q214 q215 q216 q217 q218 q219 q220 q221 q222 q223 q224 q225 q226 q227 q228 q229 q230 q231 q232 q233 q234 q235 q236 q237 q238 q239 : Value) (Q0 : Exit → Act → World → Prop)
    (hexit : ∀ (u46 u47 u48 u49 u50 u51 u52 u53 u54 u55 : Value) W' , Aft X W' → (W8.heap.size ≤ W'.heap.size ∧ ∀ q, q < W8.heap.size → q ≠ b1 → q ≠ b2 → W'.heap[q]? = W8.heap[q]?) → Blk W' b1 27 #[y0, y1, y2, y3, .slice L1 k C1] → Blk W' b2 27 #[z0, z1, z2, z3, .slice (dropA L2 C2 k) (n - k) (C2 - k)] → Q0 .normal ⟨(List.toArray (q0 :: q1 :: q2 :: q3 :: q4 :: q5 :: q6 :: q7 :: .int .i64 k :: .pointer (some ⟨b1, 0, none⟩) :: .pointer (some ⟨b2, 0, none⟩) :: q11 :: q12 :: q13 :: q14 :: q15 :: q16 :: q17 :: q18 :: q19 :: q20 :: q21 :: q22 :: q23 :: q24 :: q25 :: q26 :: q27 :: q28 :: q29 :: q30 :: q31 :: q32 :: q33 :: q34 :: q35 :: q36 :: q37 :: q38 :: q39 :: q40 :: q41 :: q42 :: q43 :: q44 :: q45 :: u46 :: u47 :: u48 :: u49 :: u50 :: u51 :: u52 :: u53 :: u54 :: u55 :: q56 :: q57 :: q58 :: q59 :: q60 :: q61 :: q62 :: q63 :: q64 :: q65 :: q66 :: q67 :: q68 :: q69 :: q70 :: q71 :: q72 :: q73 :: q74 :: q75 :: q76 :: q77 :: q78 :: q79 :: q80 :: q81 :: q82 :: q83 :: q84 :: q85 :: q86 :: q87 :: q88 :: q89 :: q90 :: q91 :: q92 :: q93 :: q94 :: q95 :: q96 :: q97 :: q98 :: q99 :: q100 :: q101 :: q102 :: q103 :: q104 :: q105 :: q106 :: q107 :: q108 :: q109 :: q110 :: q111 :: q112 :: q113 :: q114 :: q115 :: q116 :: q117 :: q118 :: q119 :: q120 :: q121 :: q122 :: q123 :: q124 :: q125 :: q126 :: q127 :: q128 :: q129 :: q130 :: q131 :: q132 :: q133 :: q134 :: q135 :: q136 :: q137 :: q138 :: q139 :: q140 :: q141 :: q142 :: q143 :: q144 :: q145 :: q146 :: q147 :: q148 :: q149 :: q150 :: q151 :: q152 :: q153 :: q154 :: q155 :: q156 :: q157 :: q158 :: q159 :: q160 :: q161 :: q162 :: q163 :: q164 :: q165 :: q166 :: q167 :: q168 :: q169 :: q170 :: q171 :: q172 :: q173 :: q174 :: q175 :: q176 :: q177 :: q178 :: q179 :: q180 :: q181 :: q182 :: q183 :: q184 :: q185 :: q186 :: q187 :: q188 :: q189 :: q190 :: q191 :: q192 :: q193 :: q194 :: q195 :: q196 :: q197 :: q198 :: q199 :: q200 :: q201 :: q202 :: q203 :: q204 :: q205 :: q206 :: q207 :: q208 :: q209 :: q210 :: q211 :: q212 :: q213 :: q214 :: q215 :: q216 :: q217 :: q218 :: q219 :: q220 :: q221 :: q222 :: q223 :: q224 :: q225 :: q226 :: q227 :: q228 :: q229 :: q230 :: q231 :: q232 :: q233 :: q234 :: q235 :: q236 :: q237 :: q238 :: q239 :: [])), []⟩ W') :
    Code.wp Try.prog (Code.region 6 (opsPt 6).toArray true) Q0 ⟨(List.toArray (q0 :: q1 :: q2 :: q3 :: q4 :: q5 :: q6 :: q7 :: .int .i64 k :: .pointer (some ⟨b1, 0, none⟩) :: .pointer (some ⟨b2, 0, none⟩) :: q11 :: q12 :: q13 :: q14 :: q15 :: q16 :: q17 :: q18 :: q19 :: q20 :: q21 :: q22 :: q23 :: q24 :: q25 :: q26 :: q27 :: q28 :: q29 :: q30 :: q31 :: q32 :: q33 :: q34 :: q35 :: q36 :: q37 :: q38 :: q39 :: q40 :: q41 :: q42 :: q43 :: q44 :: q45 :: q46 :: q47 :: q48 :: q49 :: q50 :: q51 :: q52 :: q53 :: q54 :: q55 :: q56 :: q57 :: q58 :: q59 :: q60 :: q61 :: q62 :: q63 :: q64 :: q65 :: q66 :: q67 :: q68 :: q69 :: q70 :: q71 :: q72 :: q73 :: q74 :: q75 :: q76 :: q77 :: q78 :: q79 :: q80 :: q81 :: q82 :: q83 :: q84 :: q85 :: q86 :: q87 :: q88 :: q89 :: q90 :: q91 :: q92 :: q93 :: q94 :: q95 :: q96 :: q97 :: q98 :: q99 :: q100 :: q101 :: q102 :: q103 :: q104 :: q105 :: q106 :: q107 :: q108 :: q109 :: q110 :: q111 :: q112 :: q113 :: q114 :: q115 :: q116 :: q117 :: q118 :: q119 :: q120 :: q121 :: q122 :: q123 :: q124 :: q125 :: q126 :: q127 :: q128 :: q129 :: q130 :: q131 :: q132 :: q133 :: q134 :: q135 :: q136 :: q137 :: q138 :: q139 :: q140 :: q141 :: q142 :: q143 :: q144 :: q145 :: q146 :: q147 :: q148 :: q149 :: q150 :: q151 :: q152 :: q153 :: q154 :: q155 :: q156 :: q157 :: q158 :: q159 :: q160 :: q161 :: q162 :: q163 :: q164 :: q165 :: q166 :: q167 :: q168 :: q169 :: q170 :: q171 :: q172 :: q173 :: q174 :: q175 :: q176 :: q177 :: q178 :: q179 :: q180 :: q181 :: q182 :: q183 :: q184 :: q185 :: q186 :: q187 :: q188 :: q189 :: q190 :: q191 :: q192 :: q193 :: q194 :: q195 :: q196 :: q197 :: q198 :: q199 :: q200 :: q201 :: q202 :: q203 :: q204 :: q205 :: q206 :: q207 :: q208 :: q209 :: q210 :: q211 :: q212 :: q213 :: q214 :: q215 :: q216 :: q217 :: q218 :: q219 :: q220 :: q221 :: q222 :: q223 :: q224 :: q225 :: q226 :: q227 :: q228 :: q229 :: q230 :: q231 :: q232 :: q233 :: q234 :: q235 :: q236 :: q237 :: q238 :: q239 :: [])), []⟩ W8 := by
  refine region6_pt X b1 b2 n k C1 C2 L1 L2 y0 y1 y2 y3 z0 z1 z2 z3 _ Q0 W8 rfl rfl rfl rfl ha hx1 hx2 hne hr1 hr2 hL1 hL2 hn1 hn2 hkn ?_
  intro a W'  hz hd hs h1 h2 h3 h4
  have e := frame_act 240 a _ hz hd chp6 (fun s hp => hs s hp)
  have e2 : a = ⟨(List.toArray (q0 :: q1 :: q2 :: q3 :: q4 :: q5 :: q6 :: q7 :: .int .i64 k :: .pointer (some ⟨b1, 0, none⟩) :: .pointer (some ⟨b2, 0, none⟩) :: q11 :: q12 :: q13 :: q14 :: q15 :: q16 :: q17 :: q18 :: q19 :: q20 :: q21 :: q22 :: q23 :: q24 :: q25 :: q26 :: q27 :: q28 :: q29 :: q30 :: q31 :: q32 :: q33 :: q34 :: q35 :: q36 :: q37 :: q38 :: q39 :: q40 :: q41 :: q42 :: q43 :: q44 :: q45 :: a.eval (.tmp 46) :: a.eval (.tmp 47) :: a.eval (.tmp 48) :: a.eval (.tmp 49) :: a.eval (.tmp 50) :: a.eval (.tmp 51) :: a.eval (.tmp 52) :: a.eval (.tmp 53) :: a.eval (.tmp 54) :: a.eval (.tmp 55) :: q56 :: q57 :: q58 :: q59 :: q60 :: q61 :: q62 :: q63 :: q64 :: q65 :: q66 :: q67 :: q68 :: q69 :: q70 :: q71 :: q72 :: q73 :: q74 :: q75 :: q76 :: q77 :: q78 :: q79 :: q80 :: q81 :: q82 :: q83 :: q84 :: q85 :: q86 :: q87 :: q88 :: q89 :: q90 :: q91 :: q92 :: q93 :: q94 :: q95 :: q96 :: q97 :: q98 :: q99 :: q100 :: q101 :: q102 :: q103 :: q104 :: q105 :: q106 :: q107 :: q108 :: q109 :: q110 :: q111 :: q112 :: q113 :: q114 :: q115 :: q116 :: q117 :: q118 :: q119 :: q120 :: q121 :: q122 :: q123 :: q124 :: q125 :: q126 :: q127 :: q128 :: q129 :: q130 :: q131 :: q132 :: q133 :: q134 :: q135 :: q136 :: q137 :: q138 :: q139 :: q140 :: q141 :: q142 :: q143 :: q144 :: q145 :: q146 :: q147 :: q148 :: q149 :: q150 :: q151 :: q152 :: q153 :: q154 :: q155 :: q156 :: q157 :: q158 :: q159 :: q160 :: q161 :: q162 :: q163 :: q164 :: q165 :: q166 :: q167 :: q168 :: q169 :: q170 :: q171 :: q172 :: q173 :: q174 :: q175 :: q176 :: q177 :: q178 :: q179 :: q180 :: q181 :: q182 :: q183 :: q184 :: q185 :: q186 :: q187 :: q188 :: q189 :: q190 :: q191 :: q192 :: q193 :: q194 :: q195 :: q196 :: q197 :: q198 :: q199 :: q200 :: q201 :: q202 :: q203 :: q204 :: q205 :: q206 :: q207 :: q208 :: q209 :: q210 :: q211 :: q212 :: q213 :: q214 :: q215 :: q216 :: q217 :: q218 :: q219 :: q220 :: q221 :: q222 :: q223 :: q224 :: q225 :: q226 :: q227 :: q228 :: q229 :: q230 :: q231 :: q232 :: q233 :: q234 :: q235 :: q236 :: q237 :: q238 :: q239 :: [])), []⟩ := e
  have h := hexit (a.eval (.tmp 46)) (a.eval (.tmp 47)) (a.eval (.tmp 48)) (a.eval (.tmp 49)) (a.eval (.tmp 50)) (a.eval (.tmp 51)) (a.eval (.tmp 52)) (a.eval (.tmp 53)) (a.eval (.tmp 54)) (a.eval (.tmp 55)) W'  h1 h2 h3 h4
  rw [← e2] at h
  exact h

structure Wp32 (W8 : World) (_ : Nat → Bool) (_ : Act) (w : World) : Prop where
  same : w = W8.drew
def Factp32 (g1 o1 n1 C1 g2 o2 n2 C2 k : Nat) (x y : Int) (_ : Nat → Bool) : Nat → Value → World → Prop
  | 0, v, _ => v = .slice (some ⟨g1, o1, none⟩) n1 C1
  | 1, v, _ => v = .int .i64 k
  | 2, v, _ => v = .pointer (some ⟨g1, o1 + k, none⟩)
  | 3, v, _ => v = .int .i64 x
  | 4, v, _ => v = .slice (some ⟨g2, o2, none⟩) n2 C2
  | 5, v, _ => v = .pointer (some ⟨g2, o2, none⟩)
  | 6, v, _ => v = .int .i64 y
  | 7, v, _ => v = .bool (x == y)
  | _, _, _ => True
theorem Factp32.same {g1 o1 n1 C1 g2 o2 n2 C2 k : Nat} {x y : Int} {done done' : Nat → Bool} {i : Nat} {v : Value} {w w' : World} (h : Factp32 g1 o1 n1 C1 g2 o2 n2 C2 k x y done i v w) : Factp32 g1 o1 n1 C1 g2 o2 n2 C2 k x y done' i v w' := by
  unfold Factp32 at h ⊢
  split at h <;> exact h
def chp32 (s : Nat) : Bool := decide (s = 188) || decide (s = 189) || decide (s = 190) || decide (s = 191) || decide (s = 192) || decide (s = 193) || decide (s = 194) || decide (s = 195)

set_option maxRecDepth 100000 in
set_option maxHeartbeats 2000000 in
theorem region32_pt (g1 o1 n1 C1 g2 o2 n2 C2 k : Nat) (x y : Int) (a0 : Act) (Q0 : Exit → Act → World → Prop) (W8 : World)
    (hz : a0.tmps.size = 240) (s8 : a0.eval (.tmp 8) = .int .i64 k) (s23 : a0.eval (.tmp 23) = .slice (some ⟨g1, o1, none⟩) n1 C1) (s25 : a0.eval (.tmp 25) = .slice (some ⟨g2, o2, none⟩) n2 C2)
    (hk : k < n1) (hn2 : 0 < n2) (hx1 : W8.cell? ⟨g1, o1 + k, none⟩ = some (.int .i64 x)) (hx2 : W8.cell? ⟨g2, o2, none⟩ = some (.int .i64 y))
    (hexit : ∀ a W' , a.tmps.size = 240 → a.defers = a0.defers → (∀ s : Nat, chp32 s = false → a.eval (.tmp s) = a0.eval (.tmp s)) → a.eval (.tmp 195) = .bool (x == y) → W' = W8.drew → Q0 .normal a W') :
    Code.wp Try.prog (Code.region 32 (opsPt 32).toArray true) Q0 a0 W8 := by
  have HEX := Lib.hid hexit
  clear hexit
  refine wp_region_factsF (by kernel_rfl) 240 hz (by kernel_rfl) (Factp32 g1 o1 n1 C1 g2 o2 n2 C2 k x y) (Wp32 W8) ⟨rfl⟩ ?step ?fin
  case step =>
    intro i o ho done a w hH hd hp K hK
    have hW := hH.wd
    have hold : ∀ s : Nat, chp32 s = false → a.eval (.tmp s) = a0.eval (.tmp s) := fun s h => hH.old s fun k ok hk hs => by
      match k, hk with
      | 0, hk => cases hk; cases hs; exact absurd h (by decide)
      | 1, hk => cases hk; cases hs; exact absurd h (by decide)
      | 2, hk => cases hk; cases hs; exact absurd h (by decide)
      | 3, hk => cases hk; cases hs; exact absurd h (by decide)
      | 4, hk => cases hk; cases hs; exact absurd h (by decide)
      | 5, hk => cases hk; cases hs; exact absurd h (by decide)
      | 6, hk => cases hk; cases hs; exact absurd h (by decide)
      | 7, hk => cases hk; cases hs; exact absurd h (by decide)
      | _ + 8, hk => cases hk
    have hK' : ∀ v, Factp32 g1 o1 n1 C1 g2 o2 n2 C2 k x y (Go.upd done i) i v w → K (a.put o.dst v) w := fun v hv => hK v w hv ⟨hW.same⟩ fun j _ _ _ _ _ hu => Factp32.same hu
    match i, ho, hd, hp, hK, hK' with
    | 0, ho, hd, hp, hK, hK' =>
      cases ho
      have e : a.eval (.tmp 23) = .slice (some ⟨g1, o1, none⟩) n1 C1 := (hold 23 (by decide)).trans s23
      exact op_value (by simp [go_sem, ev e]) (hK' _ rfl)
    | 1, ho, hd, hp, hK, hK' =>
      cases ho
      have e : a.eval (.tmp 8) = .int .i64 k := (hold 8 (by decide)).trans s8
      exact op_value (by simp [go_sem, ev e]) (hK' _ rfl)
    | 2, ho, hd, hp, hK, hK' =>
      cases ho
      have e : a.eval (.tmp 188) = .slice (some ⟨g1, o1, none⟩) n1 C1 := hH.fact 0 _ 188 rfl rfl (hp 0 (by decide))
      have e2 : a.eval (.tmp 189) = .int .i64 k := hH.fact 1 _ 189 rfl rfl (hp 1 (by decide))
      exact op_value (by simp [go_sem, ev e, ev e2, hk]) (hK' _ rfl)
    | 3, ho, hd, hp, hK, hK' =>
      cases ho
      have e : a.eval (.tmp 190) = .pointer (some ⟨g1, o1 + k, none⟩) := hH.fact 2 _ 190 rfl rfl (hp 2 (by decide))
      have hc : w.cell? ⟨g1, o1 + k, none⟩ = some (.int .i64 x) := by rw [hW.same]; exact hx1
      exact op_value (by simp [go_sem, ev e, hc]) (hK' _ rfl)
    | 4, ho, hd, hp, hK, hK' =>
      cases ho
      have e : a.eval (.tmp 25) = .slice (some ⟨g2, o2, none⟩) n2 C2 := (hold 25 (by decide)).trans s25
      exact op_value (by simp [go_sem, ev e]) (hK' _ rfl)
    | 5, ho, hd, hp, hK, hK' =>
      cases ho
      have e : a.eval (.tmp 192) = .slice (some ⟨g2, o2, none⟩) n2 C2 := hH.fact 4 _ 192 rfl rfl (hp 4 (by decide))
      exact op_value (by simp [go_sem, ev e, hn2]) (hK' _ rfl)
    | 6, ho, hd, hp, hK, hK' =>
      cases ho
      have e : a.eval (.tmp 193) = .pointer (some ⟨g2, o2, none⟩) := hH.fact 5 _ 193 rfl rfl (hp 5 (by decide))
      have hc : w.cell? ⟨g2, o2, none⟩ = some (.int .i64 y) := by rw [hW.same]; exact hx2
      exact op_value (by simp [go_sem, ev e, hc]) (hK' _ rfl)
    | 7, ho, hd, hp, hK, hK' =>
      cases ho
      have e : a.eval (.tmp 191) = .int .i64 x := hH.fact 3 _ 191 rfl rfl (hp 3 (by decide))
      have e2 : a.eval (.tmp 194) = .int .i64 y := hH.fact 6 _ 194 rfl rfl (hp 6 (by decide))
      exact op_value (by simp [go_sem, ev e, ev e2]) (hK' _ rfl)
    | _ + 8, ho, _, _, _, _ => cases ho
  case fin =>
    intro done a w hall hH
    have hdone : ∀ i, i < 8 → done i = true := fun i hi => hall i (by exact hi)
    have hold : ∀ s : Nat, chp32 s = false → a.eval (.tmp s) = a0.eval (.tmp s) := fun s h => hH.old s fun k ok hk hs => by
      match k, hk with
      | 0, hk => cases hk; cases hs; exact absurd h (by decide)
      | 1, hk => cases hk; cases hs; exact absurd h (by decide)
      | 2, hk => cases hk; cases hs; exact absurd h (by decide)
      | 3, hk => cases hk; cases hs; exact absurd h (by decide)
      | 4, hk => cases hk; cases hs; exact absurd h (by decide)
      | 5, hk => cases hk; cases hs; exact absurd h (by decide)
      | 6, hk => cases hk; cases hs; exact absurd h (by decide)
      | 7, hk => cases hk; cases hs; exact absurd h (by decide)
      | _ + 8, hk => cases hk
    exact HEX.out a w (hH.size.trans hz) hH.defers hold (hH.fact 7 _ 195 rfl rfl (hdone 7 (by decide))) hH.wd.same

set_option maxRecDepth 100000 in
set_option maxHeartbeats 2000000 in
theorem region32_ptlit (g1 o1 n1 C1 g2 o2 n2 C2 k : Nat) (x y : Int) (W8 : World) (hk : k < n1) (hn2 : 0 < n2) (hx1 : W8.cell? ⟨g1, o1 + k, none⟩ = some (.int .i64 x)) (hx2 : W8.cell? ⟨g2, o2, none⟩ = some (.int .i64 y))
    (q0 q1 q2 q3 q4 q5 q6 q7 q9 q10 q11 q12 q13 q14 q15 q16 q17 q18 q19 q20 q21 q22 q24 q26 q27 q28 q29 q30 q31 q32 q33 q34 q35 q36 q37 q38 q39 q40 q41 q42 q43 q44 q45 q46 q47 q48 q49 q50 q51 q52 q53 q54 q55 q56 q57 q58 q59 q60 q61 q62 q63 q64 q65 q66 q67 q68 q69 q70 q71 q72 q73 q74 q75 q76 q77 q78 q79 q80 q81 q82 q83 q84 q85 q86 q87 q88 q89 q90 q91 q92 q93 q94 q95 q96 q97 q98 q99 q100 q101 q102 q103 q104 q105 q106 q107 q108 q109 q110 q111 q112 q113 q114 q115 q116 q117 q118 q119 q120 q121 q122 q123 q124 q125 q126 q127 q128 q129 q130 q131 q132 q133 q134 q135 q136 q137 q138 q139 q140 q141 q142 q143 q144 q145 q146 q147 q148 q149 q150 q151 q152 q153 q154 q155 q156 q157 q158 q159 q160 q161 q162 q163 q164 q165 q166 q167 q168 q169 q170 q171 q172 q173 q174 q175 q176 q177 q178 q179 q180 q181 q182 q183 q184 q185 q186 q187 q188 q189 q190 q191 q192 q193 q194 q195 q196 q197 q198 q199 q200 q201 q202 q203 q204 q205 q206 q207 q208 q209 q210 q211 q212 q213 q214 q215 q216 q217 q218 q219 q220 q221 q222 q223 q224 q225 q226 q227 q228 q229 q230 q231 q232 q233 q234 q235 q236 q237 q238 q239 : Value) (Q0 : Exit → Act → World → Prop)
    (hexit : ∀ (u188 u189 u190 u191 u192 u193 u194 u195 : Value) W' , u195 = .bool (x == y) → W' = W8.drew → Q0 .normal ⟨(List.toArray (q0 :: q1 :: q2 :: q3 :: q4 :: q5 :: q6 :: q7 :: .int .i64 k :: q9 :: q10 :: q11 :: q12 :: q13 :: q14 :: q15 :: q16 :: q17 :: q18 :: q19 :: q20 :: q21 :: q22 :: .slice (some ⟨g1, o1, none⟩) n1 C1 :: q24 :: .slice (some ⟨g2, o2, none⟩) n2 C2 :: q26 :: q27 :: q28 :: q29 :: q30 :: q31 :: q32 :: q33 :: q34 :: q35 :: q36 :: q37 :: q38 :: q39 :: q40 :: q41 :: q42 :: q43 :: q44 :: q45 :: q46 :: q47 :: q48 :: q49 :: q50 :: q51 :: q52 :: q53 :: q54 :: q55 :: q56 :: q57 :: q58 :: q59 :: q60 :: q61 :: q62 :: q63 :: q64 :: q65 :: q66 :: q67 :: q68 :: q69 :: q70 :: q71 :: q72 :: q73 :: q74 :: q75 :: q76 :: q77 :: q78 :: q79 :: q80 :: q81 :: q82 :: q83 :: q84 :: q85 :: q86 :: q87 :: q88 :: q89 :: q90 :: q91 :: q92 :: q93 :: q94 :: q95 :: q96 :: q97 :: q98 :: q99 :: q100 :: q101 :: q102 :: q103 :: q104 :: q105 :: q106 :: q107 :: q108 :: q109 :: q110 :: q111 :: q112 :: q113 :: q114 :: q115 :: q116 :: q117 :: q118 :: q119 :: q120 :: q121 :: q122 :: q123 :: q124 :: q125 :: q126 :: q127 :: q128 :: q129 :: q130 :: q131 :: q132 :: q133 :: q134 :: q135 :: q136 :: q137 :: q138 :: q139 :: q140 :: q141 :: q142 :: q143 :: q144 :: q145 :: q146 :: q147 :: q148 :: q149 :: q150 :: q151 :: q152 :: q153 :: q154 :: q155 :: q156 :: q157 :: q158 :: q159 :: q160 :: q161 :: q162 :: q163 :: q164 :: q165 :: q166 :: q167 :: q168 :: q169 :: q170 :: q171 :: q172 :: q173 :: q174 :: q175 :: q176 :: q177 :: q178 :: q179 :: q180 :: q181 :: q182 :: q183 :: q184 :: q185 :: q186 :: q187 :: u188 :: u189 :: u190 :: u191 :: u192 :: u193 :: u194 :: u195 :: q196 :: q197 :: q198 :: q199 :: q200 :: q201 :: q202 :: q203 :: q204 :: q205 :: q206 :: q207 :: q208 :: q209 :: q210 :: q211 :: q212 :: q213 :: q214 :: q215 :: q216 :: q217 :: q218 :: q219 :: q220 :: q221 :: q222 :: q223 :: q224 :: q225 :: q226 :: q227 :: q228 :: q229 :: q230 :: q231 :: q232 :: q233 :: q234 :: q235 :: q236 :: q237 :: q238 :: q239 :: [])), []⟩ W') :
    Code.wp Try.prog (Code.region 32 (opsPt 32).toArray true) Q0 ⟨(List.toArray (q0 :: q1 :: q2 :: q3 :: q4 :: q5 :: q6 :: q7 :: .int .i64 k :: q9 :: q10 :: q11 :: q12 :: q13 :: q14 :: q15 :: q16 :: q17 :: q18 :: q19 :: q20 :: q21 :: q22 :: .slice (some ⟨g1, o1, none⟩) n1 C1 :: q24 :: .slice (some ⟨g2, o2, none⟩) n2 C2 :: q26 :: q27 :: q28 :: q29 :: q30 :: q31 :: q32 :: q33 :: q34 :: q35 :: q36 :: q37 :: q38 :: q39 :: q40 :: q41 :: q42 :: q43 :: q44 :: q45 :: q46 :: q47 :: q48 :: q49 :: q50 :: q51 :: q52 :: q53 :: q54 :: q55 :: q56 :: q57 :: q58 :: q59 :: q60 :: q61 :: q62 :: q63 :: q64 :: q65 :: q66 :: q67 :: q68 :: q69 :: q70 :: q71 :: q72 :: q73 :: q74 :: q75 :: q76 :: q77 :: q78 :: q79 :: q80 :: q81 :: q82 :: q83 :: q84 :: q85 :: q86 :: q87 :: q88 :: q89 :: q90 :: q91 :: q92 :: q93 :: q94 :: q95 :: q96 :: q97 :: q98 :: q99 :: q100 :: q101 :: q102 :: q103 :: q104 :: q105 :: q106 :: q107 :: q108 :: q109 :: q110 :: q111 :: q112 :: q113 :: q114 :: q115 :: q116 :: q117 :: q118 :: q119 :: q120 :: q121 :: q122 :: q123 :: q124 :: q125 :: q126 :: q127 :: q128 :: q129 :: q130 :: q131 :: q132 :: q133 :: q134 :: q135 :: q136 :: q137 :: q138 :: q139 :: q140 :: q141 :: q142 :: q143 :: q144 :: q145 :: q146 :: q147 :: q148 :: q149 :: q150 :: q151 :: q152 :: q153 :: q154 :: q155 :: q156 :: q157 :: q158 :: q159 :: q160 :: q161 :: q162 :: q163 :: q164 :: q165 :: q166 :: q167 :: q168 :: q169 :: q170 :: q171 :: q172 :: q173 :: q174 :: q175 :: q176 :: q177 :: q178 :: q179 :: q180 :: q181 :: q182 :: q183 :: q184 :: q185 :: q186 :: q187 :: q188 :: q189 :: q190 :: q191 :: q192 :: q193 :: q194 :: q195 :: q196 :: q197 :: q198 :: q199 :: q200 :: q201 :: q202 :: q203 :: q204 :: q205 :: q206 :: q207 :: q208 :: q209 :: q210 :: q211 :: q212 :: q213 :: q214 :: q215 :: q216 :: q217 :: q218 :: q219 :: q220 :: q221 :: q222 :: q223 :: q224 :: q225 :: q226 :: q227 :: q228 :: q229 :: q230 :: q231 :: q232 :: q233 :: q234 :: q235 :: q236 :: q237 :: q238 :: q239 :: [])), []⟩ W8 := by
  refine region32_pt g1 o1 n1 C1 g2 o2 n2 C2 k x y _ Q0 W8 rfl rfl rfl rfl hk hn2 hx1 hx2 ?_
  intro a W'  hz hd hs h1 h2
  have e := frame_act 240 a _ hz hd chp32 (fun s hp => hs s hp)
  have e2 : a = ⟨(List.toArray (q0 :: q1 :: q2 :: q3 :: q4 :: q5 :: q6 :: q7 :: .int .i64 k :: q9 :: q10 :: q11 :: q12 :: q13 :: q14 :: q15 :: q16 :: q17 :: q18 :: q19 :: q20 :: q21 :: q22 :: .slice (some ⟨g1, o1, none⟩) n1 C1 :: q24 :: .slice (some ⟨g2, o2, none⟩) n2 C2 :: q26 :: q27 :: q28 :: q29 :: q30 :: q31 :: q32 :: q33 :: q34 :: q35 :: q36 :: q37 :: q38 :: q39 :: q40 :: q41 :: q42 :: q43 :: q44 :: q45 :: q46 :: q47 :: q48 :: q49 :: q50 :: q51 :: q52 :: q53 :: q54 :: q55 :: q56 :: q57 :: q58 :: q59 :: q60 :: q61 :: q62 :: q63 :: q64 :: q65 :: q66 :: q67 :: q68 :: q69 :: q70 :: q71 :: q72 :: q73 :: q74 :: q75 :: q76 :: q77 :: q78 :: q79 :: q80 :: q81 :: q82 :: q83 :: q84 :: q85 :: q86 :: q87 :: q88 :: q89 :: q90 :: q91 :: q92 :: q93 :: q94 :: q95 :: q96 :: q97 :: q98 :: q99 :: q100 :: q101 :: q102 :: q103 :: q104 :: q105 :: q106 :: q107 :: q108 :: q109 :: q110 :: q111 :: q112 :: q113 :: q114 :: q115 :: q116 :: q117 :: q118 :: q119 :: q120 :: q121 :: q122 :: q123 :: q124 :: q125 :: q126 :: q127 :: q128 :: q129 :: q130 :: q131 :: q132 :: q133 :: q134 :: q135 :: q136 :: q137 :: q138 :: q139 :: q140 :: q141 :: q142 :: q143 :: q144 :: q145 :: q146 :: q147 :: q148 :: q149 :: q150 :: q151 :: q152 :: q153 :: q154 :: q155 :: q156 :: q157 :: q158 :: q159 :: q160 :: q161 :: q162 :: q163 :: q164 :: q165 :: q166 :: q167 :: q168 :: q169 :: q170 :: q171 :: q172 :: q173 :: q174 :: q175 :: q176 :: q177 :: q178 :: q179 :: q180 :: q181 :: q182 :: q183 :: q184 :: q185 :: q186 :: q187 :: a.eval (.tmp 188) :: a.eval (.tmp 189) :: a.eval (.tmp 190) :: a.eval (.tmp 191) :: a.eval (.tmp 192) :: a.eval (.tmp 193) :: a.eval (.tmp 194) :: a.eval (.tmp 195) :: q196 :: q197 :: q198 :: q199 :: q200 :: q201 :: q202 :: q203 :: q204 :: q205 :: q206 :: q207 :: q208 :: q209 :: q210 :: q211 :: q212 :: q213 :: q214 :: q215 :: q216 :: q217 :: q218 :: q219 :: q220 :: q221 :: q222 :: q223 :: q224 :: q225 :: q226 :: q227 :: q228 :: q229 :: q230 :: q231 :: q232 :: q233 :: q234 :: q235 :: q236 :: q237 :: q238 :: q239 :: [])), []⟩ := e
  have h := hexit (a.eval (.tmp 188)) (a.eval (.tmp 189)) (a.eval (.tmp 190)) (a.eval (.tmp 191)) (a.eval (.tmp 192)) (a.eval (.tmp 193)) (a.eval (.tmp 194)) (a.eval (.tmp 195)) W'  h1 h2
  rw [← e2] at h
  exact h
end Go.Proofs
end
