/- Merged by program out of the texts Ydr. -/
import Derived.Test.YtfliejmidnnggaaZ01
section
/- Walks: TreatyYielded: its drawn regions. -/
namespace Go.Proofs
open Go.RowKit

noncomputable def opsYd (k : Nat) : List Oper := ((regAt k (Try.f7.body.getD .skip)).getD #[]).toList
/-- A list of numbers that stands whatever the deck in block d deals. -/
def IntsF (d : Nat) (w : World) (A : Option Addr) (l : List Int) : Prop := ∀ w', w.grownBy w' (some d) → Ints w' A l
theorem IntsF.grown {d : Nat} {w w' : World} {A : Option Addr} {l : List Int} (h : IntsF d w A l) (hg : w.grownBy w' (some d)) : IntsF d w' A l := fun w'' h2 => h w'' (hg.trans h2)
theorem IntsF.self {d : Nat} {w : World} {A : Option Addr} {l : List Int} (h : IntsF d w A l) : Ints w A l := h w (only_refl _ _)
theorem intsF_own {W : World} {b d : Nat} {v : Value} {l : List Int} (h : W.ownsRow b 3 1 v l.length (l.map (Value.int .i64))) (hl : l.length ≤ 17592186043904) (hd : d < b) : ∃ A c, v = .slice A l.length c ∧ IntsF d W A l := by
  obtain ⟨A, c, e, hs⟩ := own_sup h hl
  exact ⟨A, c, e, fun w' hg => hs.firm (fun e => by have := (h.lt d e).1; omega) w' hg⟩
set_option maxRecDepth 100000 in
theorem op_call1 {o : Oper} {a : Act} {w : World} {K : Act → World → Prop} {Q : Exit → Act → World → Prop} {f : Nat} {fn : Func} (hf : Try.prog.funcs[f]? = some fn) (hn : (fn.name == "runtime.NumGoroutine") = false) (hb : fn.body.isNone = false)
    (x : Operand) {t1 : TypeId} (ho : o.op = .call { callee := .value (.func f), args := #[x], argTypes := #[t1] })
    {vx : Value} (hx : a.eval x = vx) {R : Ending → World → Prop} (hc : Calls Try.prog f #[vx] w R)
    (h : ∀ e w', R e w' → ∃ v, e = .returned v ∧ K (a.put o.dst v) w') : Oper.wp Try.prog o a w K Q := by
  unfold Oper.wp
  have hrun : (execOp a.eval o).run Try.prog w = .ok (.enter f #[vx]) w := by
    unfold execOp
    simp only [ho, resolve, invoke, Sem.run_bind, List.map_toArray, List.map_cons, List.map_nil, hx]
    exact run_enters hf hn hb _ w
  rw [hrun]
  refine hc.mono ?_
  rintro e w' hr
  obtain ⟨v, rfl, hK⟩ := h e w' hr
  exact hK
theorem TRepF.of {X0 w : World} {d : Nat} {T : Treaty} {a1 a2 a3 a4 : Option Addr} (hT : TRep X0 T a1 a2 a3 a4) (ha : Aft X0 w) (hd : X0.heap.size ≤ d) : TRepF d w T a1 a2 a3 a4 := fun _ hg => hT.aft (ha.grown hg (fun k e => by cases e; exact hd))

structure W19 (X0 : World) (d : Nat) (B : Option Addr) (m : List Int) (c' q : Nat) (W8 : World) (done : Nat → Bool) (w : World) : Prop where
  deck : DeckAt X0 d B m c' q w
  grown : W8.grownBy w (some d)
def Fact19 (W8 : World) (T : Treaty) (a1 a2 a3 a4 : Option Addr) (c1 c2 c3 c4 : Nat) (R : List Int) (AR : Option Addr) (cR : Nat) (Y : List Int) (AY : Option Addr) (cY i' : Nat) (done : Nat → Bool) : Nat → Value → World → Prop
  | 0, v, _ => v = .agg #[.int .i64 T.places, .slice a1 T.ways.length c1, .slice a2 T.words.length c2, .slice a3 T.starts.length c3, .slice a4 T.legs.length c4]
  | 1, v, _ => v = .slice AR R.length cR
  | 2, v, _ => v = .slice AY Y.length cY
  | 3, v, w => ∃ g cap, v = .slice (some ⟨g, 0, none⟩) Y.length cap ∧ W8.heap.size ≤ g ∧ (done 7 = false → w.ownsRow W8.heap.size 3 1 (.slice (some ⟨g, 0, none⟩) Y.length cap) Y.length (Y.map (Value.int .i64)))
  | 4, v, _ => v = .int .i64 i'
  | 5, v, _ => v = .int .i64 i'
  | 6, v, _ => v = .int .i64 (i' + 1)
  | 7, v, w => ∃ g cap, v = .slice (some ⟨g, 0, none⟩) (Y.eraseIdx i').length cap ∧ Ints w (some ⟨g, 0, none⟩) (Y.eraseIdx i')
  | 8, v, _ => v = .tuple #[.bool false, .int .i64 0]
  | 9, v, _ => v = .tuple #[.bool false, .int .i64 0]
  | 10, v, _ => v = .bool false
  | 11, v, _ => v = .int .i64 0
  | 12, v, _ => v = .bool false
  | 13, v, _ => v = .int .i64 0
  | _, _, _ => True
section
variable {W8 : World} {T : Treaty} {a1 a2 a3 a4 : Option Addr} {c1 c2 c3 c4 : Nat} {R : List Int} {AR : Option Addr} {cR : Nat} {Y : List Int} {AY : Option Addr} {cY i' : Nat} {done : Nat → Bool} {w w' : World}
theorem Fact19.aft (ha : Aft w w') {i j : Nat} {v : Value} (hi : i ≠ 7) (h : Fact19 W8 T a1 a2 a3 a4 c1 c2 c3 c4 R AR cR Y AY cY i' done j v w) : Fact19 W8 T a1 a2 a3 a4 c1 c2 c3 c4 R AR cR Y AY cY i' (Go.upd done i) j v w' := by
  have e7 : Go.upd done i 7 = done 7 := by unfold Go.upd; rw [if_neg (Ne.symm hi)]
  unfold Fact19 at h ⊢
  split at h <;> first
    | exact h
    | (obtain ⟨g, cap, h1, h2, h3⟩ := h; exact ⟨g, cap, h1, h2, fun h7 => own_aft (h3 (by rw [e7] at h7; exact h7)) ha⟩)
    | (obtain ⟨g, cap, h1, h2⟩ := h; exact ⟨g, cap, h1, h2.aft ha⟩)
theorem Fact19.cut {j : Nat} {v : Value} (hj : done j = true) (hd : done 7 = false) (h : Fact19 W8 T a1 a2 a3 a4 c1 c2 c3 c4 R AR cR Y AY cY i' done j v w) : Fact19 W8 T a1 a2 a3 a4 c1 c2 c3 c4 R AR cR Y AY cY i' (Go.upd done 7) j v w' := by
  have e7 : Go.upd done 7 7 = true := by unfold Go.upd; rw [if_pos rfl]
  unfold Fact19 at h ⊢
  split at h <;> first
    | exact h
    | (obtain ⟨g, cap, h1, h2, h3⟩ := h; exact ⟨g, cap, h1, h2, fun h7 => by rw [e7] at h7; cases h7⟩)
    | (rw [hd] at hj; cases hj)
theorem tc_cells' {X : World} {D : Nat} (h : Blk X D 27 #[.int .i64 T.places, .slice a1 T.ways.length c1, .slice a2 T.words.length c2, .slice a3 T.starts.length c3, .slice a4 T.legs.length c4]) : X.cell? ⟨D, 0, none⟩ = some (.int .i64 T.places) ∧ X.cell? ⟨D, 1, none⟩ = some (.slice a1 T.ways.length c1) ∧ X.cell? ⟨D, 2, none⟩ = some (.slice a2 T.words.length c2) ∧ X.cell? ⟨D, 3, none⟩ = some (.slice a3 T.starts.length c3) ∧ X.cell? ⟨D, 4, none⟩ = some (.slice a4 T.legs.length c4) :=
  ⟨h.cell 0, h.cell 1, h.cell 2, h.cell 3, h.cell 4⟩
end
def ch19 (s : Nat) : Bool := decide (s = 17) || decide (s = 18) || decide (s = 99) || decide (s = 100) || decide (s = 101) || decide (s = 102) || decide (s = 103) || decide (s = 104) || decide (s = 105) || decide (s = 106) || decide (s = 107) || decide (s = 108) || decide (s = 109) || decide (s = 110)

set_option maxRecDepth 100000 in
set_option maxHeartbeats 2000000 in
theorem region19_yd (X0 : World) (d : Nat) (B : Option Addr) (m : List Int) (c' q : Nat) (T : Treaty) (a1 a2 a3 a4 : Option Addr) (c1 c2 c3 c4 : Nat) (D : Nat) (R : List Int) (AR : Option Addr) (cR : Nat) (Y : List Int) (AY : Option Addr) (cY i' : Nat) (a0 : Act) (Q0 : Exit → Act → World → Prop) (W8 : World)
    (hz : a0.tmps.size = 180) (s5 : a0.eval (.tmp 5) = .pointer (some ⟨D, 0, none⟩)) (s11 : a0.eval (.tmp 11) = .slice AR R.length cR) (s12 : a0.eval (.tmp 12) = .slice AY Y.length cY) (s16 : a0.eval (.tmp 16) = .int .i64 i')
    (hT : TRep X0 T a1 a2 a3 a4) (hbx : Blk X0 D 27 #[.int .i64 T.places, .slice a1 T.ways.length c1, .slice a2 T.words.length c2, .slice a3 T.starts.length c3, .slice a4 T.legs.length c4]) (hD : DeckAt X0 d B m c' q W8) (hR : IntsF d W8 AR R) (hY : IntsF d W8 AY Y) (hi : i' < Y.length) (hyl : Y.length ≤ 1000) (hE1 : enoughE T R (Y.eraseIdx i') = 0) (hE2 : enoughB T R (Y.eraseIdx i') = false)
    (hexit : ∀ a W' , a.tmps.size = 180 → a.defers = a0.defers → (∀ s : Nat, ch19 s = false → a.eval (.tmp s) = a0.eval (.tmp s)) → a.eval (.tmp 17) = .bool false → a.eval (.tmp 18) = .int .i64 0 → DeckAt X0 d B m c' q W' → W8.grownBy W' (some d) → Q0 .normal a W') :
    Code.wp Try.prog (Code.region 19 (opsYd 19).toArray true) Q0 a0 W8 := by
  have HEX := Lib.hid hexit
  clear hexit
  refine wp_region_factsD (by kernel_rfl) 180 hz (by kernel_rfl) (Fact19 W8 T a1 a2 a3 a4 c1 c2 c3 c4 R AR cR Y AY cY i') (W19 X0 d B m c' q W8) ⟨hD.aft (Aft.drew _), only_drew (only_refl _ _)⟩ ?step ?fin
  case step =>
    intro i o ho done a w hH hd hp K hK
    have hW := hH.wd
    have hold : ∀ s : Nat, ch19 s = false → a.eval (.tmp s) = a0.eval (.tmp s) := fun s h => hH.old s fun k ok hk hs => by
      match k, hk with
      | 0, hk => cases hk; cases hs; exact absurd h (by decide)
      | 1, hk => cases hk; cases hs; exact absurd h (by decide)
      | 2, hk => cases hk; cases hs; exact absurd h (by decide)
      | 3, hk => cases hk; cases hs; exact absurd h (by decide)
      | 4, hk => cases hk; cases hs; exact absurd h (by decide)
      | 5, hk => cases hk; cases hs; exact absurd h (by decide)
      | 6, hk => cases hk; cases hs; exact absurd h (by decide)
      | 7, hk => cases hk; cases hs; exact absurd h (by decide)
      | 8, hk => cases hk; cases hs; exact absurd h (by decide)
      | 9, hk => cases hk; cases hs; exact absurd h (by decide)
      | 10, hk => cases hk; cases hs; exact absurd h (by decide)
      | 11, hk => cases hk; cases hs; exact absurd h (by decide)
      | 12, hk => cases hk; cases hs; exact absurd h (by decide)
      | 13, hk => cases hk; cases hs; exact absurd h (by decide)
      | _ + 14, hk => cases hk
    have hK' : ∀ v, i ≠ 3 → i ≠ 7 → i ≠ 8 → Fact19 W8 T a1 a2 a3 a4 c1 c2 c3 c4 R AR cR Y AY cY i' (Go.upd done i) i v w → K (a.put o.dst v) w := fun v _ h7 _ hv => hK v w hv ⟨hW.deck, hW.grown⟩ fun j _ u hu => Fact19.aft (Aft.refl w) h7 hu
    match i, ho, hd, hp, hK, hK' with
    | 0, ho, hd, hp, hK, hK' =>
      cases ho
      have e : a.eval (.tmp 5) = .pointer (some ⟨D, 0, none⟩) := (hold 5 (by decide)).trans s5
      obtain ⟨k0, k1, k2, k3, k4⟩ := tc_cells' (hbx.aft hW.deck.dealt)
      exact op_value (by simp [go_sem, ev e, k0, k1, k2, k3, k4]) (hK' _ (by decide) (by decide) (by decide) rfl)
    | 1, ho, hd, hp, hK, hK' =>
      cases ho
      have e : a.eval (.tmp 11) = .slice AR R.length cR := (hold 11 (by decide)).trans s11
      exact op_value (by simp [go_sem, ev e]) (hK' _ (by decide) (by decide) (by decide) rfl)
    | 2, ho, hd, hp, hK, hK' =>
      cases ho
      have e : a.eval (.tmp 12) = .slice AY Y.length cY := (hold 12 (by decide)).trans s12
      exact op_value (by simp [go_sem, ev e]) (hK' _ (by decide) (by decide) (by decide) rfl)
    | 3, ho, hd, hp, hK, hK' =>
      cases ho
      have e : a.eval (.tmp 102) = .slice AY Y.length cY := hH.fact 2 _ 102 rfl rfl (hp 2 (by decide))
      refine op_call1 Try.func11 (by kernel_rfl) (by kernel_rfl) _ rfl e (kitClone_int AY Y cY w (hY w hW.grown)) ?_
      rintro e w' ⟨v, rfl, hown, ha⟩
      obtain ⟨g, cap, rfl⟩ := own_form hown (by omega)
      have hown' := World.ownsRow.mono hown hW.grown.size
      exact ⟨_, rfl, hK _ _ ⟨g, cap, rfl, (hown'.lt g rfl).1, fun _ => hown'⟩ ⟨hW.deck.aft ha, only_aft hW.grown ha⟩ fun j hj u hu => Fact19.aft ha (by decide) hu⟩
    | 4, ho, hd, hp, hK, hK' =>
      cases ho
      have e : a.eval (.tmp 16) = .int .i64 i' := (hold 16 (by decide)).trans s16
      exact op_value (by simp [go_sem, ev e]) (hK' _ (by decide) (by decide) (by decide) rfl)
    | 5, ho, hd, hp, hK, hK' =>
      cases ho
      have e : a.eval (.tmp 16) = .int .i64 i' := (hold 16 (by decide)).trans s16
      exact op_value (by simp [go_sem, ev e]) (hK' _ (by decide) (by decide) (by decide) rfl)
    | 6, ho, hd, hp, hK, hK' =>
      cases ho
      have e : a.eval (.tmp 105) = .int .i64 i' := hH.fact 5 _ 105 rfl rfl (hp 5 (by decide))
      have hwr : IntKind.i64.wrap ((i' : Int) + 1) = (i' : Int) + 1 := by rw [IntKind.wrap_i64]; omega
      exact op_value (by simp [go_sem, ev e, hwr]) (hK' _ (by decide) (by decide) (by decide) rfl)
    | 7, ho, hd, hp, hK, hK' =>
      cases ho
      obtain ⟨g, cap, e, hg0, hown⟩ : ∃ g cap, a.eval (.tmp 103) = .slice (some ⟨g, 0, none⟩) Y.length cap ∧ W8.heap.size ≤ g ∧ (done 7 = false → w.ownsRow W8.heap.size 3 1 (.slice (some ⟨g, 0, none⟩) Y.length cap) Y.length (Y.map (Value.int .i64))) := hH.fact 3 _ 103 rfl rfl (hp 3 (by decide))
      have e2 : a.eval (.tmp 104) = .int .i64 i' := hH.fact 4 _ 104 rfl rfl (hp 4 (by decide))
      have e3 : a.eval (.tmp 106) = .int .i64 (i' + 1) := hH.fact 6 _ 106 rfl rfl (hp 6 (by decide))
      have hdW : d < W8.heap.size := hD.lt
      refine op_call3 Try.func40 (by kernel_rfl) (by kernel_rfl) _ _ _ rfl e e2 e3 (delete_own w _ g cap Y i' (hown hd) hi (by omega)) ?_
      rintro e w' ⟨rfl, hg, hints⟩
      refine ⟨_, rfl, hK _ _ ⟨g, cap, rfl, hints⟩ ⟨hW.deck.grown hg (fun k e => by cases e; omega), only_grown hW.grown hg (fun k e => by cases e; exact hg0)⟩ fun j hj u hu => Fact19.cut hj hd hu⟩
    | 8, ho, hd, hp, hK, hK' =>
      cases ho
      have e : a.eval (.tmp 100) = .agg #[.int .i64 T.places, .slice a1 T.ways.length c1, .slice a2 T.words.length c2, .slice a3 T.starts.length c3, .slice a4 T.legs.length c4] := hH.fact 0 _ 100 rfl rfl (hp 0 (by decide))
      have e2 : a.eval (.tmp 101) = .slice AR R.length cR := hH.fact 1 _ 101 rfl rfl (hp 1 (by decide))
      obtain ⟨g, cap, e3, hints⟩ : ∃ g cap, a.eval (.tmp 107) = .slice (some ⟨g, 0, none⟩) (Y.eraseIdx i').length cap ∧ Ints w (some ⟨g, 0, none⟩) (Y.eraseIdx i') := hH.fact 7 _ 107 rfl rfl (hp 7 (by decide))
      refine op_call3 Try.func37 (by kernel_rfl) (by kernel_rfl) _ _ _ rfl e e2 e3 (enough_any w T a1 a2 a3 a4 c1 c2 c3 c4 R AR cR (Y.eraseIdx i') _ cap (hT.aft hW.deck.dealt) (hR w hW.grown) hints) ?_
      rintro e w' ⟨ha, rfl⟩
      rw [hE1, hE2]
      exact ⟨_, rfl, hK _ _ rfl ⟨hW.deck.aft ha, only_aft hW.grown ha⟩ fun j hj u hu => Fact19.aft ha (by decide) hu⟩
    | 9, ho, hd, hp, hK, hK' =>
      cases ho
      have e : a.eval (.tmp 108) = .tuple #[.bool false, .int .i64 0] := hH.fact 8 _ 108 rfl rfl (hp 8 (by decide))
      exact op_value (by simp [go_sem, ev e]) (hK' _ (by decide) (by decide) (by decide) rfl)
    | 10, ho, hd, hp, hK, hK' =>
      cases ho
      have e : a.eval (.tmp 99) = .tuple #[.bool false, .int .i64 0] := hH.fact 9 _ 99 rfl rfl (hp 9 (by decide))
      exact op_value (by simp [go_sem, ev e]) (hK' _ (by decide) (by decide) (by decide) rfl)
    | 11, ho, hd, hp, hK, hK' =>
      cases ho
      have e : a.eval (.tmp 99) = .tuple #[.bool false, .int .i64 0] := hH.fact 9 _ 99 rfl rfl (hp 9 (by decide))
      exact op_value (by simp [go_sem, ev e]) (hK' _ (by decide) (by decide) (by decide) rfl)
    | 12, ho, hd, hp, hK, hK' =>
      cases ho
      have e : a.eval (.tmp 109) = .bool false := hH.fact 10 _ 109 rfl rfl (hp 10 (by decide))
      exact op_value (by simp [go_sem, ev e]) (hK' _ (by decide) (by decide) (by decide) rfl)
    | 13, ho, hd, hp, hK, hK' =>
      cases ho
      have e : a.eval (.tmp 110) = .int .i64 0 := hH.fact 11 _ 110 rfl rfl (hp 11 (by decide))
      exact op_value (by simp [go_sem, ev e]) (hK' _ (by decide) (by decide) (by decide) rfl)
    | _ + 14, ho, _, _, _, _ => cases ho
  case fin =>
    intro done a w hall hH
    have hdone : ∀ i, i < 14 → done i = true := fun i hi => hall i (by exact hi)
    have hold : ∀ s : Nat, ch19 s = false → a.eval (.tmp s) = a0.eval (.tmp s) := fun s h => hH.old s fun k ok hk hs => by
      match k, hk with
      | 0, hk => cases hk; cases hs; exact absurd h (by decide)
      | 1, hk => cases hk; cases hs; exact absurd h (by decide)
      | 2, hk => cases hk; cases hs; exact absurd h (by decide)
      | 3, hk => cases hk; cases hs; exact absurd h (by decide)
      | 4, hk => cases hk; cases hs; exact absurd h (by decide)
      | 5, hk => cases hk; cases hs; exact absurd h (by decide)
      | 6, hk => cases hk; cases hs; exact absurd h (by decide)
      | 7, hk => cases hk; cases hs; exact absurd h (by decide)
      | 8, hk => cases hk; cases hs; exact absurd h (by decide)
      | 9, hk => cases hk; cases hs; exact absurd h (by decide)
      | 10, hk => cases hk; cases hs; exact absurd h (by decide)
      | 11, hk => cases hk; cases hs; exact absurd h (by decide)
      | 12, hk => cases hk; cases hs; exact absurd h (by decide)
      | 13, hk => cases hk; cases hs; exact absurd h (by decide)
      | _ + 14, hk => cases hk
    exact HEX.out a w (hH.size.trans hz) hH.defers hold (hH.fact 12 _ 17 rfl rfl (hdone 12 (by decide))) (hH.fact 13 _ 18 rfl rfl (hdone 13 (by decide))) hH.wd.deck hH.wd.grown

set_option maxRecDepth 100000 in
set_option maxHeartbeats 2000000 in
theorem region19_ylit (X0 : World) (d : Nat) (B : Option Addr) (m : List Int) (c' q : Nat) (T : Treaty) (a1 a2 a3 a4 : Option Addr) (c1 c2 c3 c4 : Nat) (D : Nat) (R : List Int) (AR : Option Addr) (cR : Nat) (Y : List Int) (AY : Option Addr) (cY i' : Nat) (W8 : World) (hT : TRep X0 T a1 a2 a3 a4) (hbx : Blk X0 D 27 #[.int .i64 T.places, .slice a1 T.ways.length c1, .slice a2 T.words.length c2, .slice a3 T.starts.length c3, .slice a4 T.legs.length c4]) (hD : DeckAt X0 d B m c' q W8) (hR : IntsF d W8 AR R) (hY : IntsF d W8 AY Y) (hi : i' < Y.length) (hyl : Y.length ≤ 1000) (hE1 : enoughE T R (Y.eraseIdx i') = 0) (hE2 : enoughB T R (Y.eraseIdx i') = false)
    (q0 q1 q2 q3 q4 q6 q7 q8 q9 q10 q13 q14 q15 q17 q18 q19 q20 q21 q22 q23 q24 q25 q26 q27 q28 q29 q30 q31 q32 q33 q34 q35 q36 q37 q38 q39 q40 q41 q42 q43 q44 q45 q46 q47 q48 q49 q50 q51 q52 q53 q54 q55 q56 q57 q58 q59 q60 q61 q62 q63 q64 q65 q66 q67 q68 q69 q70 q71 q72 q73 q74 q75 q76 q77 q78 q79 q80 q81 q82 q83 q84 q85 q86 q87 q88 q89 q90 q91 q92 q93 q94 q95 q96 q97 q98 q99 q100 q101 q102 q103 q104 q105 q106 q107 q108 q109 q110 q111 q112 q113 q114 q115 q116 q117 q118 q119 q120 q121 q122 q123 q124 q125 q126 q127 q128 q129 q130 q131 q132 q133 q134 q135 q136 q137 q138 q139 q140 q141 q142 q143 q144 q145 q146 q147 q148 q149 q150 q151 q152 q153 q154 q155 q156 q157 q158 q159 q160 q161 q162 q163 q164 q165 q166 q167 q168 q169 q170 q171 q172 q173 q174 q175 q176 q177 q178 q179 : Value) (Q0 : Exit → Act → World → Prop)
    (hexit : ∀ (u17 u18 u99 u100 u101 u102 u103 u104 u105 u106 u107 u108 u109 u110 : Value) W' , u17 = .bool false → u18 = .int .i64 0 → DeckAt X0 d B m c' q W' → W8.grownBy W' (some d) → Q0 .normal ⟨(List.toArray (q0 :: q1 :: q2 :: q3 :: q4 :: .pointer (some ⟨D, 0, none⟩) :: q6 :: q7 :: q8 :: q9 :: q10 :: .slice AR R.length cR :: .slice AY Y.length cY :: q13 :: q14 :: q15 :: .int .i64 i' :: u17 :: u18 :: q19 :: q20 :: q21 :: q22 :: q23 :: q24 :: q25 :: q26 :: q27 :: q28 :: q29 :: q30 :: q31 :: q32 :: q33 :: q34 :: q35 :: q36 :: q37 :: q38 :: q39 :: q40 :: q41 :: q42 :: q43 :: q44 :: q45 :: q46 :: q47 :: q48 :: q49 :: q50 :: q51 :: q52 :: q53 :: q54 :: q55 :: q56 :: q57 :: q58 :: q59 :: q60 :: q61 :: q62 :: q63 :: q64 :: q65 :: q66 :: q67 :: q68 :: q69 :: q70 :: q71 :: q72 :: q73 :: q74 :: q75 :: q76 :: q77 :: q78 :: q79 :: q80 :: q81 :: q82 :: q83 :: q84 :: q85 :: q86 :: q87 :: q88 :: q89 :: q90 :: q91 :: q92 :: q93 :: q94 :: q95 :: q96 :: q97 :: q98 :: u99 :: u100 :: u101 :: u102 :: u103 :: u104 :: u105 :: u106 :: u107 :: u108 :: u109 :: u110 :: q111 :: q112 :: q113 :: q114 :: q115 :: q116 :: q117 :: q118 :: q119 :: q120 :: q121 :: q122 :: q123 :: q124 :: q125 :: q126 :: q127 :: q128 :: q129 :: q130 :: q131 :: q132 :: q133 :: q134 :: q135 :: q136 :: q137 :: q138 :: q139 :: q140 :: q141 :: q142 :: q143 :: q144 :: q145 :: q146 :: q147 :: q148 :: q149 :: q150 :: q151 :: q152 :: q153 :: q154 :: q155 :: q156 :: q157 :: q158 :: q159 :: q160 :: q161 :: q162 :: q163 :: q164 :: q165 :: q166 :: q167 :: q168 :: q169 :: q170 :: q171 :: q172 :: q173 :: q174 :: q175 :: q176 :: q177 :: q178 :: q179 :: [])), []⟩ W') :
    Code.wp Try.prog (Code.region 19 (opsYd 19).toArray true) Q0 ⟨(List.toArray (q0 :: q1 :: q2 :: q3 :: q4 :: .pointer (some ⟨D, 0, none⟩) :: q6 :: q7 :: q8 :: q9 :: q10 :: .slice AR R.length cR :: .slice AY Y.length cY :: q13 :: q14 :: q15 :: .int .i64 i' :: q17 :: q18 :: q19 :: q20 :: q21 :: q22 :: q23 :: q24 :: q25 :: q26 :: q27 :: q28 :: q29 :: q30 :: q31 :: q32 :: q33 :: q34 :: q35 :: q36 :: q37 :: q38 :: q39 :: q40 :: q41 :: q42 :: q43 :: q44 :: q45 :: q46 :: q47 :: q48 :: q49 :: q50 :: q51 :: q52 :: q53 :: q54 :: q55 :: q56 :: q57 :: q58 :: q59 :: q60 :: q61 :: q62 :: q63 :: q64 :: q65 :: q66 :: q67 :: q68 :: q69 :: q70 :: q71 :: q72 :: q73 :: q74 :: q75 :: q76 :: q77 :: q78 :: q79 :: q80 :: q81 :: q82 :: q83 :: q84 :: q85 :: q86 :: q87 :: q88 :: q89 :: q90 :: q91 :: q92 :: q93 :: q94 :: q95 :: q96 :: q97 :: q98 :: q99 :: q100 :: q101 :: q102 :: q103 :: q104 :: q105 :: q106 :: q107 :: q108 :: q109 :: q110 :: q111 :: q112 :: q113 :: q114 :: q115 :: q116 :: q117 :: q118 :: q119 :: q120 :: q121 :: q122 :: q123 :: q124 :: q125 :: q126 :: q127 :: q128 :: q129 :: q130 :: q131 :: q132 :: q133 :: q134 :: q135 :: q136 :: q137 :: q138 :: q139 :: q140 :: q141 :: q142 :: q143 :: q144 :: q145 :: q146 :: q147 :: q148 :: q149 :: q150 :: q151 :: q152 :: q153 :: q154 :: q155 :: q156 :: q157 :: q158 :: q159 :: q160 :: q161 :: q162 :: q163 :: q164 :: q165 :: q166 :: q167 :: q168 :: q169 :: q170 :: q171 :: q172 :: q173 :: q174 :: q175 :: q176 :: q177 :: q178 :: q179 :: [])), []⟩ W8 := by
  refine region19_yd X0 d B m c' q T a1 a2 a3 a4 c1 c2 c3 c4 D R AR cR Y AY cY i' _ Q0 W8 rfl rfl rfl rfl rfl hT hbx hD hR hY hi hyl hE1 hE2 ?_
  intro a W'  hz hd hs h1 h2 h3 h4
  have e := frame_act 180 a _ hz hd ch19 (fun s hp => hs s hp)
  have e2 : a = ⟨(List.toArray (q0 :: q1 :: q2 :: q3 :: q4 :: .pointer (some ⟨D, 0, none⟩) :: q6 :: q7 :: q8 :: q9 :: q10 :: .slice AR R.length cR :: .slice AY Y.length cY :: q13 :: q14 :: q15 :: .int .i64 i' :: a.eval (.tmp 17) :: a.eval (.tmp 18) :: q19 :: q20 :: q21 :: q22 :: q23 :: q24 :: q25 :: q26 :: q27 :: q28 :: q29 :: q30 :: q31 :: q32 :: q33 :: q34 :: q35 :: q36 :: q37 :: q38 :: q39 :: q40 :: q41 :: q42 :: q43 :: q44 :: q45 :: q46 :: q47 :: q48 :: q49 :: q50 :: q51 :: q52 :: q53 :: q54 :: q55 :: q56 :: q57 :: q58 :: q59 :: q60 :: q61 :: q62 :: q63 :: q64 :: q65 :: q66 :: q67 :: q68 :: q69 :: q70 :: q71 :: q72 :: q73 :: q74 :: q75 :: q76 :: q77 :: q78 :: q79 :: q80 :: q81 :: q82 :: q83 :: q84 :: q85 :: q86 :: q87 :: q88 :: q89 :: q90 :: q91 :: q92 :: q93 :: q94 :: q95 :: q96 :: q97 :: q98 :: a.eval (.tmp 99) :: a.eval (.tmp 100) :: a.eval (.tmp 101) :: a.eval (.tmp 102) :: a.eval (.tmp 103) :: a.eval (.tmp 104) :: a.eval (.tmp 105) :: a.eval (.tmp 106) :: a.eval (.tmp 107) :: a.eval (.tmp 108) :: a.eval (.tmp 109) :: a.eval (.tmp 110) :: q111 :: q112 :: q113 :: q114 :: q115 :: q116 :: q117 :: q118 :: q119 :: q120 :: q121 :: q122 :: q123 :: q124 :: q125 :: q126 :: q127 :: q128 :: q129 :: q130 :: q131 :: q132 :: q133 :: q134 :: q135 :: q136 :: q137 :: q138 :: q139 :: q140 :: q141 :: q142 :: q143 :: q144 :: q145 :: q146 :: q147 :: q148 :: q149 :: q150 :: q151 :: q152 :: q153 :: q154 :: q155 :: q156 :: q157 :: q158 :: q159 :: q160 :: q161 :: q162 :: q163 :: q164 :: q165 :: q166 :: q167 :: q168 :: q169 :: q170 :: q171 :: q172 :: q173 :: q174 :: q175 :: q176 :: q177 :: q178 :: q179 :: [])), []⟩ := e
  have h := hexit (a.eval (.tmp 17)) (a.eval (.tmp 18)) (a.eval (.tmp 99)) (a.eval (.tmp 100)) (a.eval (.tmp 101)) (a.eval (.tmp 102)) (a.eval (.tmp 103)) (a.eval (.tmp 104)) (a.eval (.tmp 105)) (a.eval (.tmp 106)) (a.eval (.tmp 107)) (a.eval (.tmp 108)) (a.eval (.tmp 109)) (a.eval (.tmp 110)) W'  h1 h2 h3 h4
  rw [← e2] at h
  exact h

structure W23 (X0 : World) (d : Nat) (B : Option Addr) (m : List Int) (c' q : Nat) (T : Treaty) (W8 : World) (done : Nat → Bool) (w : World) : Prop where
  deck : DeckAt X0 d B m c' (q + (1 + T.legs.length) * b1 (done 4)) w
  grown : W8.grownBy w (some d)
theorem breaks_gone {T : Treaty} {R : List Int} (hr : readE T R = 0) {ns : List Int} (h : GoneL T ns) (hl : ns.length = T.legs.length + 1) : breaksE T R ns = 0 ∧ (yieldL T (leadsF T R)).length ≤ (brkTo (leadsF T R) ns T.legs.length).length := by
  have ok := checkE_ok (readE_zero.1 hr).1
  obtain ⟨s, rest, rfl, hs, hx⟩ := h
  have hp := ok.p1
  refine breaks_good hr hl (fun x hx' => ?_) (by simpa using hs)
  rcases List.mem_cons.1 hx' with rfl | h
  · exact ok.starts x hs
  · have := hx x h; omega
def Fact23 (d : Nat) (T : Treaty) (a1 a2 a3 a4 : Option Addr) (c1 c2 c3 c4 : Nat) (R : List Int) (AR : Option Addr) (cR ny : Nat) (_ : Nat → Bool) : Nat → Value → World → Prop
  | 0, v, _ => v = .agg #[.int .i64 T.places, .slice a1 T.ways.length c1, .slice a2 T.words.length c2, .slice a3 T.starts.length c3, .slice a4 T.legs.length c4]
  | 1, v, _ => v = .slice AR R.length cR
  | 2, v, _ => v = .pointer (some ⟨d, 0, none⟩)
  | 3, v, _ => v = .agg #[.int .i64 T.places, .slice a1 T.ways.length c1, .slice a2 T.words.length c2, .slice a3 T.starts.length c3, .slice a4 T.legs.length c4]
  | 4, v, w => ∃ A' c'', ∃ ns : List Int, v = .slice A' ns.length c'' ∧ Ints w A' ns ∧ ns.length = T.legs.length + 1 ∧ GoneL T ns
  | 5, v, _ => ∃ A' n' c'', v = .tuple #[.slice A' n' c'', .int .i64 0] ∧ ny ≤ n'
  | 6, v, _ => ∃ A' n' c'', v = .tuple #[.slice A' n' c'', .int .i64 0] ∧ ny ≤ n'
  | 7, v, _ => ∃ A' n' c'', v = .slice A' n' c'' ∧ ny ≤ n'
  | 8, v, _ => v = .int .i64 0
  | 9, v, _ => ∃ A' n' c'', v = .slice A' n' c'' ∧ ny ≤ n'
  | 10, v, _ => v = .int .i64 0
  | _, _, _ => False
section
variable {d : Nat} {T : Treaty} {a1 a2 a3 a4 : Option Addr} {c1 c2 c3 c4 : Nat} {R : List Int} {AR : Option Addr} {cR ny : Nat} {done done' : Nat → Bool} {w w' : World}
theorem Fact23.aft (ha : Aft w w') {j : Nat} {v : Value} (h : Fact23 d T a1 a2 a3 a4 c1 c2 c3 c4 R AR cR ny done j v w) : Fact23 d T a1 a2 a3 a4 c1 c2 c3 c4 R AR cR ny done' j v w' := by
  unfold Fact23 at h ⊢
  split at h <;> first
    | exact h
    | (obtain ⟨A', c'', ns, h1, h2, h3⟩ := h; exact ⟨A', c'', ns, h1, h2.aft ha, h3⟩)
theorem Fact23.low {j : Nat} {v : Value} (hj : j < 4) (h : Fact23 d T a1 a2 a3 a4 c1 c2 c3 c4 R AR cR ny done j v w) : Fact23 d T a1 a2 a3 a4 c1 c2 c3 c4 R AR cR ny done' j v w' := by
  unfold Fact23 at h ⊢
  split at h <;> first | exact h | omega
theorem Fact23.far {j : Nat} {v : Value} (h : Fact23 d T a1 a2 a3 a4 c1 c2 c3 c4 R AR cR ny done (j + 11) v w) : False := h
end
def ch23 (s : Nat) : Bool := decide (s = 13) || decide (s = 19) || decide (s = 117) || decide (s = 118) || decide (s = 119) || decide (s = 120) || decide (s = 121) || decide (s = 122) || decide (s = 123) || decide (s = 124) || decide (s = 125)

set_option maxRecDepth 100000 in
set_option maxHeartbeats 2000000 in
theorem region23_yd (X0 : World) (d : Nat) (B : Option Addr) (m : List Int) (c' q : Nat) (T : Treaty) (a1 a2 a3 a4 : Option Addr) (c1 c2 c3 c4 : Nat) (D : Nat) (R : List Int) (AR : Option Addr) (cR : Nat) (ny : Nat) (a0 : Act) (Q0 : Exit → Act → World → Prop) (W8 : World)
    (hz : a0.tmps.size = 180) (s5 : a0.eval (.tmp 5) = .pointer (some ⟨D, 0, none⟩)) (s6 : a0.eval (.tmp 6) = .pointer (some ⟨d, 0, none⟩)) (s11 : a0.eval (.tmp 11) = .slice AR R.length cR)
    (hT : TRep X0 T a1 a2 a3 a4) (hbx : Blk X0 D 27 #[.int .i64 T.places, .slice a1 T.ways.length c1, .slice a2 T.words.length c2, .slice a3 T.starts.length c3, .slice a4 T.legs.length c4]) (hD : DeckAt X0 d B m c' q W8) (hm : q ≤ 800000) (hR : IntsF d W8 AR R) (hre : readE T R = 0) (hny : (yieldL T (leadsF T R)).length = ny) (hp1 : 1 ≤ T.places) (hp2 : T.places ≤ 12) (hst : 1 ≤ T.starts.length) (hsl : T.starts.length ≤ 1000) (hll : T.legs.length ≤ 10)
    (hexit : ∀ a W' A' n' c'', a.tmps.size = 180 → a.defers = a0.defers → (∀ s : Nat, ch23 s = false → a.eval (.tmp s) = a0.eval (.tmp s)) → a.eval (.tmp 19) = .slice A' n' c'' → ny ≤ n' → a.eval (.tmp 13) = .int .i64 0 → DeckAt X0 d B m c' (q + (1 + T.legs.length)) W' → W8.grownBy W' (some d) → Q0 .normal a W') :
    Code.wp Try.prog (Code.region 23 (opsYd 23).toArray true) Q0 a0 W8 := by
  have HEX := Lib.hid hexit
  clear hexit
  refine wp_region_factsD (by kernel_rfl) 180 hz (by kernel_rfl) (Fact23 d T a1 a2 a3 a4 c1 c2 c3 c4 R AR cR ny) (W23 X0 d B m c' q T W8) ⟨by rw [show b1 false = 0 from rfl, Nat.mul_zero, Nat.add_zero]; exact hD.aft (Aft.drew _), only_drew (only_refl _ _)⟩ ?step ?fin
  case step =>
    intro i o ho done a w hH hd hp K hK
    have hW := hH.wd
    have hold : ∀ s : Nat, ch23 s = false → a.eval (.tmp s) = a0.eval (.tmp s) := fun s h => hH.old s fun k ok hk hs => by
      match k, hk with
      | 0, hk => cases hk; cases hs; exact absurd h (by decide)
      | 1, hk => cases hk; cases hs; exact absurd h (by decide)
      | 2, hk => cases hk; cases hs; exact absurd h (by decide)
      | 3, hk => cases hk; cases hs; exact absurd h (by decide)
      | 4, hk => cases hk; cases hs; exact absurd h (by decide)
      | 5, hk => cases hk; cases hs; exact absurd h (by decide)
      | 6, hk => cases hk; cases hs; exact absurd h (by decide)
      | 7, hk => cases hk; cases hs; exact absurd h (by decide)
      | 8, hk => cases hk; cases hs; exact absurd h (by decide)
      | 9, hk => cases hk; cases hs; exact absurd h (by decide)
      | 10, hk => cases hk; cases hs; exact absurd h (by decide)
      | _ + 11, hk => cases hk
    have hK' : ∀ v, i ≠ 4 → i ≠ 5 → Fact23 d T a1 a2 a3 a4 c1 c2 c3 c4 R AR cR ny (Go.upd done i) i v w → K (a.put o.dst v) w := fun v h4 _ hv => hK v w hv ⟨by rw [show Go.upd done i 4 = done 4 by unfold Go.upd; rw [if_neg (Ne.symm h4)]]; exact hW.deck, hW.grown⟩ fun j _ u hu => Fact23.aft (Aft.refl w) hu
    match i, ho, hd, hp, hK, hK' with
    | 0, ho, hd, hp, hK, hK' =>
      cases ho
      have e : a.eval (.tmp 5) = .pointer (some ⟨D, 0, none⟩) := (hold 5 (by decide)).trans s5
      obtain ⟨k0, k1, k2, k3, k4⟩ := tc_cells' (hbx.aft hW.deck.dealt)
      exact op_value (by simp [go_sem, ev e, k0, k1, k2, k3, k4]) (hK' _ (by decide) (by decide) rfl)
    | 1, ho, hd, hp, hK, hK' =>
      cases ho
      have e : a.eval (.tmp 11) = .slice AR R.length cR := (hold 11 (by decide)).trans s11
      exact op_value (by simp [go_sem, ev e]) (hK' _ (by decide) (by decide) rfl)
    | 2, ho, hd, hp, hK, hK' =>
      cases ho
      have e : a.eval (.tmp 6) = .pointer (some ⟨d, 0, none⟩) := (hold 6 (by decide)).trans s6
      exact op_value (by simp [go_sem, ev e]) (hK' _ (by decide) (by decide) rfl)
    | 3, ho, hd, hp, hK, hK' =>
      cases ho
      have e : a.eval (.tmp 5) = .pointer (some ⟨D, 0, none⟩) := (hold 5 (by decide)).trans s5
      obtain ⟨k0, k1, k2, k3, k4⟩ := tc_cells' (hbx.aft hW.deck.dealt)
      exact op_value (by simp [go_sem, ev e, k0, k1, k2, k3, k4]) (hK' _ (by decide) (by decide) rfl)
    | 4, ho, hd, hp, hK, hK' =>
      cases ho
      have e : a.eval (.tmp 120) = .pointer (some ⟨d, 0, none⟩) := hH.fact 2 _ 120 rfl rfl (hp 2 (by decide))
      have e2 : a.eval (.tmp 121) = .agg #[.int .i64 T.places, .slice a1 T.ways.length c1, .slice a2 T.words.length c2, .slice a3 T.starts.length c3, .slice a4 T.legs.length c4] := hH.fact 3 _ 121 rfl rfl (hp 3 (by decide))
      have hdk := hW.deck
      rw [hd] at hdk
      refine op_call2 Try.func41 (by kernel_rfl) (by kernel_rfl) _ _ rfl e e2 (gone_any X0 d B m c' _ T a1 a2 a3 a4 c1 c2 c3 c4 w hdk (TRepF.of hT hdk.dealt hdk.2.1) (by have h2 : b1 false = 0 := rfl; rw [h2]; omega) (by omega) (by omega) hst hsl (by omega)) ?_
      rintro e w' ⟨v, ns, rfl, hown, hlen, hgl, g3, g4⟩
      have hdW : d < w.heap.size := hdk.lt
      obtain ⟨A', c'', rfl, hints⟩ := intsF_own hown (by omega) hdW
      refine ⟨_, rfl, hK _ _ ⟨A', c'', ns, rfl, hints.self, by omega, hgl⟩ ⟨g3.more ?_, hW.grown.trans g4⟩ fun j hj u hu => ?_⟩
      · show q + (1 + T.legs.length) * b1 false + 1 + T.legs.length ≤ q + (1 + T.legs.length) * b1 (Go.upd done 4 4)
        have e1 : Go.upd done 4 4 = true := rfl
        rw [e1]; unfold b1; simp; omega
      · have : j < 4 := by
          apply Classical.byContradiction
          intro hn
          have hcl := hH.closed
          match j, hj with
          | 0, _ => omega
          | 1, _ => omega
          | 2, _ => omega
          | 3, _ => omega
          | 4, hj => rw [hd] at hj; cases hj
          | 5, hj => have := hcl 5 _ rfl hj 4 (by decide); rw [hd] at this; cases this
          | 6, hj => have := hcl 5 _ rfl (hcl 6 _ rfl hj 5 (by decide)) 4 (by decide); rw [hd] at this; cases this
          | 7, hj => have := hcl 5 _ rfl (hcl 6 _ rfl (hcl 7 _ rfl hj 6 (by decide)) 5 (by decide)) 4 (by decide); rw [hd] at this; cases this
          | 8, hj => have := hcl 5 _ rfl (hcl 6 _ rfl (hcl 8 _ rfl hj 6 (by decide)) 5 (by decide)) 4 (by decide); rw [hd] at this; cases this
          | 9, hj => have := hcl 9 _ rfl hj 4 (by decide); rw [hd] at this; cases this
          | 10, hj => have := hcl 10 _ rfl hj 4 (by decide); rw [hd] at this; cases this
          | j + 11, hj => exact hu.far.elim
        exact Fact23.low this hu
    | 5, ho, hd, hp, hK, hK' =>
      cases ho
      have e : a.eval (.tmp 118) = .agg #[.int .i64 T.places, .slice a1 T.ways.length c1, .slice a2 T.words.length c2, .slice a3 T.starts.length c3, .slice a4 T.legs.length c4] := hH.fact 0 _ 118 rfl rfl (hp 0 (by decide))
      have e2 : a.eval (.tmp 119) = .slice AR R.length cR := hH.fact 1 _ 119 rfl rfl (hp 1 (by decide))
      obtain ⟨A', c'', ns, e3, hints, hlen, hgl⟩ : ∃ A' c'', ∃ ns : List Int, a.eval (.tmp 122) = .slice A' ns.length c'' ∧ Ints w A' ns ∧ ns.length = T.legs.length + 1 ∧ GoneL T ns := hH.fact 4 _ 122 rfl rfl (hp 4 (by decide))
      refine op_call3 Try.func18 (by kernel_rfl) (by kernel_rfl) _ _ _ rfl e e2 e3 (breaks_any w T a1 a2 a3 a4 c1 c2 c3 c4 R AR cR ns A' c'' (hT.aft hW.deck.dealt) (hR w hW.grown) hints) ?_
      obtain ⟨b0, bn⟩ := breaks_gone hre hgl hlen
      rintro e w' ⟨ha, ⟨h, -⟩ | ⟨-, v, rfl, hown⟩⟩
      · exact absurd b0 h
      obtain ⟨A'', c3', rfl, -, -⟩ := own_ints hown (by have := brkTo_le (leadsF T R) ns T.legs.length; omega)
      exact ⟨_, rfl, hK _ _ ⟨_, _, _, rfl, by rw [← hny]; exact bn⟩ ⟨hW.deck.aft ha, only_aft hW.grown ha⟩ fun j hj u hu => Fact23.aft ha hu⟩
    | 6, ho, hd, hp, hK, hK' =>
      cases ho
      obtain ⟨A', n', c'', e, hn⟩ : ∃ A' n' c'', a.eval (.tmp 123) = .tuple #[.slice A' n' c'', .int .i64 0] ∧ ny ≤ n' := hH.fact 5 _ 123 rfl rfl (hp 5 (by decide))
      exact op_value (by simp [go_sem, ev e]) (hK' _ (by decide) (by decide) ⟨A', n', c'', rfl, hn⟩)
    | 7, ho, hd, hp, hK, hK' =>
      cases ho
      obtain ⟨A', n', c'', e, hn⟩ : ∃ A' n' c'', a.eval (.tmp 117) = .tuple #[.slice A' n' c'', .int .i64 0] ∧ ny ≤ n' := hH.fact 6 _ 117 rfl rfl (hp 6 (by decide))
      exact op_value (by simp [go_sem, ev e]) (hK' _ (by decide) (by decide) ⟨A', n', c'', rfl, hn⟩)
    | 8, ho, hd, hp, hK, hK' =>
      cases ho
      obtain ⟨A', n', c'', e, hn⟩ : ∃ A' n' c'', a.eval (.tmp 117) = .tuple #[.slice A' n' c'', .int .i64 0] ∧ ny ≤ n' := hH.fact 6 _ 117 rfl rfl (hp 6 (by decide))
      exact op_value (by simp [go_sem, ev e]) (hK' _ (by decide) (by decide) rfl)
    | 9, ho, hd, hp, hK, hK' =>
      cases ho
      obtain ⟨A', n', c'', e, hn⟩ : ∃ A' n' c'', a.eval (.tmp 124) = .slice A' n' c'' ∧ ny ≤ n' := hH.fact 7 _ 124 rfl rfl (hp 7 (by decide))
      exact op_value (by simp [go_sem, ev e]) (hK' _ (by decide) (by decide) ⟨A', n', c'', rfl, hn⟩)
    | 10, ho, hd, hp, hK, hK' =>
      cases ho
      have e : a.eval (.tmp 125) = .int .i64 0 := hH.fact 8 _ 125 rfl rfl (hp 8 (by decide))
      exact op_value (by simp [go_sem, ev e]) (hK' _ (by decide) (by decide) rfl)
    | _ + 11, ho, _, _, _, _ => cases ho
  case fin =>
    intro done a w hall hH
    have hdone : ∀ i, i < 11 → done i = true := fun i hi => hall i (by exact hi)
    have hold : ∀ s : Nat, ch23 s = false → a.eval (.tmp s) = a0.eval (.tmp s) := fun s h => hH.old s fun k ok hk hs => by
      match k, hk with
      | 0, hk => cases hk; cases hs; exact absurd h (by decide)
      | 1, hk => cases hk; cases hs; exact absurd h (by decide)
      | 2, hk => cases hk; cases hs; exact absurd h (by decide)
      | 3, hk => cases hk; cases hs; exact absurd h (by decide)
      | 4, hk => cases hk; cases hs; exact absurd h (by decide)
      | 5, hk => cases hk; cases hs; exact absurd h (by decide)
      | 6, hk => cases hk; cases hs; exact absurd h (by decide)
      | 7, hk => cases hk; cases hs; exact absurd h (by decide)
      | 8, hk => cases hk; cases hs; exact absurd h (by decide)
      | 9, hk => cases hk; cases hs; exact absurd h (by decide)
      | 10, hk => cases hk; cases hs; exact absurd h (by decide)
      | _ + 11, hk => cases hk
    obtain ⟨A', n', c'', e, hn⟩ : ∃ A' n' c'', a.eval (.tmp 19) = .slice A' n' c'' ∧ ny ≤ n' := hH.fact 9 _ 19 rfl rfl (hdone 9 (by decide))
    have hdk := hH.wd.deck
    rw [hdone 4 (by decide), show b1 true = 1 from rfl, Nat.mul_one] at hdk
    exact HEX.out a w A' n' c'' (hH.size.trans hz) hH.defers hold e hn (hH.fact 10 _ 13 rfl rfl (hdone 10 (by decide))) hdk hH.wd.grown

set_option maxRecDepth 100000 in
set_option maxHeartbeats 2000000 in
theorem region23_ylit (X0 : World) (d : Nat) (B : Option Addr) (m : List Int) (c' q : Nat) (T : Treaty) (a1 a2 a3 a4 : Option Addr) (c1 c2 c3 c4 : Nat) (D : Nat) (R : List Int) (AR : Option Addr) (cR : Nat) (ny : Nat) (W8 : World) (hT : TRep X0 T a1 a2 a3 a4) (hbx : Blk X0 D 27 #[.int .i64 T.places, .slice a1 T.ways.length c1, .slice a2 T.words.length c2, .slice a3 T.starts.length c3, .slice a4 T.legs.length c4]) (hD : DeckAt X0 d B m c' q W8) (hm : q ≤ 800000) (hR : IntsF d W8 AR R) (hre : readE T R = 0) (hny : (yieldL T (leadsF T R)).length = ny) (hp1 : 1 ≤ T.places) (hp2 : T.places ≤ 12) (hst : 1 ≤ T.starts.length) (hsl : T.starts.length ≤ 1000) (hll : T.legs.length ≤ 10)
    (q0 q1 q2 q3 q4 q7 q8 q9 q10 q12 q13 q14 q15 q16 q17 q18 q19 q20 q21 q22 q23 q24 q25 q26 q27 q28 q29 q30 q31 q32 q33 q34 q35 q36 q37 q38 q39 q40 q41 q42 q43 q44 q45 q46 q47 q48 q49 q50 q51 q52 q53 q54 q55 q56 q57 q58 q59 q60 q61 q62 q63 q64 q65 q66 q67 q68 q69 q70 q71 q72 q73 q74 q75 q76 q77 q78 q79 q80 q81 q82 q83 q84 q85 q86 q87 q88 q89 q90 q91 q92 q93 q94 q95 q96 q97 q98 q99 q100 q101 q102 q103 q104 q105 q106 q107 q108 q109 q110 q111 q112 q113 q114 q115 q116 q117 q118 q119 q120 q121 q122 q123 q124 q125 q126 q127 q128 q129 q130 q131 q132 q133 q134 q135 q136 q137 q138 q139 q140 q141 q142 q143 q144 q145 q146 q147 q148 q149 q150 q151 q152 q153 q154 q155 q156 q157 q158 q159 q160 q161 q162 q163 q164 q165 q166 q167 q168 q169 q170 q171 q172 q173 q174 q175 q176 q177 q178 q179 : Value) (Q0 : Exit → Act → World → Prop)
    (hexit : ∀ (u13 u19 u117 u118 u119 u120 u121 u122 u123 u124 u125 : Value) W' A' n' c'', u19 = .slice A' n' c'' → ny ≤ n' → u13 = .int .i64 0 → DeckAt X0 d B m c' (q + (1 + T.legs.length)) W' → W8.grownBy W' (some d) → Q0 .normal ⟨(List.toArray (q0 :: q1 :: q2 :: q3 :: q4 :: .pointer (some ⟨D, 0, none⟩) :: .pointer (some ⟨d, 0, none⟩) :: q7 :: q8 :: q9 :: q10 :: .slice AR R.length cR :: q12 :: u13 :: q14 :: q15 :: q16 :: q17 :: q18 :: u19 :: q20 :: q21 :: q22 :: q23 :: q24 :: q25 :: q26 :: q27 :: q28 :: q29 :: q30 :: q31 :: q32 :: q33 :: q34 :: q35 :: q36 :: q37 :: q38 :: q39 :: q40 :: q41 :: q42 :: q43 :: q44 :: q45 :: q46 :: q47 :: q48 :: q49 :: q50 :: q51 :: q52 :: q53 :: q54 :: q55 :: q56 :: q57 :: q58 :: q59 :: q60 :: q61 :: q62 :: q63 :: q64 :: q65 :: q66 :: q67 :: q68 :: q69 :: q70 :: q71 :: q72 :: q73 :: q74 :: q75 :: q76 :: q77 :: q78 :: q79 :: q80 :: q81 :: q82 :: q83 :: q84 :: q85 :: q86 :: q87 :: q88 :: q89 :: q90 :: q91 :: q92 :: q93 :: q94 :: q95 :: q96 :: q97 :: q98 :: q99 :: q100 :: q101 :: q102 :: q103 :: q104 :: q105 :: q106 :: q107 :: q108 :: q109 :: q110 :: q111 :: q112 :: q113 :: q114 :: q115 :: q116 :: u117 :: u118 :: u119 :: u120 :: u121 :: u122 :: u123 :: u124 :: u125 :: q126 :: q127 :: q128 :: q129 :: q130 :: q131 :: q132 :: q133 :: q134 :: q135 :: q136 :: q137 :: q138 :: q139 :: q140 :: q141 :: q142 :: q143 :: q144 :: q145 :: q146 :: q147 :: q148 :: q149 :: q150 :: q151 :: q152 :: q153 :: q154 :: q155 :: q156 :: q157 :: q158 :: q159 :: q160 :: q161 :: q162 :: q163 :: q164 :: q165 :: q166 :: q167 :: q168 :: q169 :: q170 :: q171 :: q172 :: q173 :: q174 :: q175 :: q176 :: q177 :: q178 :: q179 :: [])), []⟩ W') :
    Code.wp Try.prog (Code.region 23 (opsYd 23).toArray true) Q0 ⟨(List.toArray (q0 :: q1 :: q2 :: q3 :: q4 :: .pointer (some ⟨D, 0, none⟩) :: .pointer (some ⟨d, 0, none⟩) :: q7 :: q8 :: q9 :: q10 :: .slice AR R.length cR :: q12 :: q13 :: q14 :: q15 :: q16 :: q17 :: q18 :: q19 :: q20 :: q21 :: q22 :: q23 :: q24 :: q25 :: q26 :: q27 :: q28 :: q29 :: q30 :: q31 :: q32 :: q33 :: q34 :: q35 :: q36 :: q37 :: q38 :: q39 :: q40 :: q41 :: q42 :: q43 :: q44 :: q45 :: q46 :: q47 :: q48 :: q49 :: q50 :: q51 :: q52 :: q53 :: q54 :: q55 :: q56 :: q57 :: q58 :: q59 :: q60 :: q61 :: q62 :: q63 :: q64 :: q65 :: q66 :: q67 :: q68 :: q69 :: q70 :: q71 :: q72 :: q73 :: q74 :: q75 :: q76 :: q77 :: q78 :: q79 :: q80 :: q81 :: q82 :: q83 :: q84 :: q85 :: q86 :: q87 :: q88 :: q89 :: q90 :: q91 :: q92 :: q93 :: q94 :: q95 :: q96 :: q97 :: q98 :: q99 :: q100 :: q101 :: q102 :: q103 :: q104 :: q105 :: q106 :: q107 :: q108 :: q109 :: q110 :: q111 :: q112 :: q113 :: q114 :: q115 :: q116 :: q117 :: q118 :: q119 :: q120 :: q121 :: q122 :: q123 :: q124 :: q125 :: q126 :: q127 :: q128 :: q129 :: q130 :: q131 :: q132 :: q133 :: q134 :: q135 :: q136 :: q137 :: q138 :: q139 :: q140 :: q141 :: q142 :: q143 :: q144 :: q145 :: q146 :: q147 :: q148 :: q149 :: q150 :: q151 :: q152 :: q153 :: q154 :: q155 :: q156 :: q157 :: q158 :: q159 :: q160 :: q161 :: q162 :: q163 :: q164 :: q165 :: q166 :: q167 :: q168 :: q169 :: q170 :: q171 :: q172 :: q173 :: q174 :: q175 :: q176 :: q177 :: q178 :: q179 :: [])), []⟩ W8 := by
  refine region23_yd X0 d B m c' q T a1 a2 a3 a4 c1 c2 c3 c4 D R AR cR ny _ Q0 W8 rfl rfl rfl rfl hT hbx hD hm hR hre hny hp1 hp2 hst hsl hll ?_
  intro a W' A' n' c'' hz hd hs h1 h2 h3 h4 h5
  have e := frame_act 180 a _ hz hd ch23 (fun s hp => hs s hp)
  have e2 : a = ⟨(List.toArray (q0 :: q1 :: q2 :: q3 :: q4 :: .pointer (some ⟨D, 0, none⟩) :: .pointer (some ⟨d, 0, none⟩) :: q7 :: q8 :: q9 :: q10 :: .slice AR R.length cR :: q12 :: a.eval (.tmp 13) :: q14 :: q15 :: q16 :: q17 :: q18 :: a.eval (.tmp 19) :: q20 :: q21 :: q22 :: q23 :: q24 :: q25 :: q26 :: q27 :: q28 :: q29 :: q30 :: q31 :: q32 :: q33 :: q34 :: q35 :: q36 :: q37 :: q38 :: q39 :: q40 :: q41 :: q42 :: q43 :: q44 :: q45 :: q46 :: q47 :: q48 :: q49 :: q50 :: q51 :: q52 :: q53 :: q54 :: q55 :: q56 :: q57 :: q58 :: q59 :: q60 :: q61 :: q62 :: q63 :: q64 :: q65 :: q66 :: q67 :: q68 :: q69 :: q70 :: q71 :: q72 :: q73 :: q74 :: q75 :: q76 :: q77 :: q78 :: q79 :: q80 :: q81 :: q82 :: q83 :: q84 :: q85 :: q86 :: q87 :: q88 :: q89 :: q90 :: q91 :: q92 :: q93 :: q94 :: q95 :: q96 :: q97 :: q98 :: q99 :: q100 :: q101 :: q102 :: q103 :: q104 :: q105 :: q106 :: q107 :: q108 :: q109 :: q110 :: q111 :: q112 :: q113 :: q114 :: q115 :: q116 :: a.eval (.tmp 117) :: a.eval (.tmp 118) :: a.eval (.tmp 119) :: a.eval (.tmp 120) :: a.eval (.tmp 121) :: a.eval (.tmp 122) :: a.eval (.tmp 123) :: a.eval (.tmp 124) :: a.eval (.tmp 125) :: q126 :: q127 :: q128 :: q129 :: q130 :: q131 :: q132 :: q133 :: q134 :: q135 :: q136 :: q137 :: q138 :: q139 :: q140 :: q141 :: q142 :: q143 :: q144 :: q145 :: q146 :: q147 :: q148 :: q149 :: q150 :: q151 :: q152 :: q153 :: q154 :: q155 :: q156 :: q157 :: q158 :: q159 :: q160 :: q161 :: q162 :: q163 :: q164 :: q165 :: q166 :: q167 :: q168 :: q169 :: q170 :: q171 :: q172 :: q173 :: q174 :: q175 :: q176 :: q177 :: q178 :: q179 :: [])), []⟩ := e
  have h := hexit (a.eval (.tmp 13)) (a.eval (.tmp 19)) (a.eval (.tmp 117)) (a.eval (.tmp 118)) (a.eval (.tmp 119)) (a.eval (.tmp 120)) (a.eval (.tmp 121)) (a.eval (.tmp 122)) (a.eval (.tmp 123)) (a.eval (.tmp 124)) (a.eval (.tmp 125)) W' A' n' c'' h1 h2 h3 h4 h5
  rw [← e2] at h
  exact h
end Go.Proofs
end
