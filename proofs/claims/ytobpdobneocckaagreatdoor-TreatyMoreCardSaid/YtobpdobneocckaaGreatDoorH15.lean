/- Own texts, merged: Cto Rl3. -/
import Derived.Test.YtobpdobneocckaaGreatDoorH14
import Derived.BigGuard
import Derived.Deep.OwnRows
set_option linter.unusedSimpArgs false
set_option linter.unusedVariables false
section
/- Walks: CloneTreaty: what may be written of the copy. -/
namespace Go.Proofs
open Go.RowKit

/-- The list with one more meaning. -/
def Mor9o (base : Nat) (ms : List Mean) (mm : Mean) (v : Value) (w : World) : Prop := ORow (fun k => base ≤ k) v (ms ++ [mm]) w
theorem Mor9o.aft {base : Nat} {ms : List Mean} {mm : Mean} {v : Value} {w w' : World} (h : Mor9o base ms mm v w) (ha : Aft w w') : Mor9o base ms mm v w' := ORow.aft h ha
structure Wo9 (X W8 : World) (base : Nat) (vS : Value) (ms : List Mean) (done : Nat → Bool) (w : World) : Prop where
  aft : Aft X w
  keep : W8.heap.size ≤ w.heap.size ∧ ∀ k, k < W8.heap.size → vS.ownBlock ≠ some k → w.heap[k]? = W8.heap[k]?
  own : done 9 = false → ORow (fun k => base ≤ k) vS ms w
theorem Wo9.go {X W8 : World} {base : Nat} {vS : Value} {ms : List Mean} {done done' : Nat → Bool} {w w' : World} (h : Wo9 X W8 base vS ms done w) (ha : Aft w w') (hd : done' 9 = false → done 9 = false) : Wo9 X W8 base vS ms done' w' :=
  ⟨h.aft.trans ha, ⟨Nat.le_trans h.keep.1 ha.size, fun k hk hne => (aft_keep ha (Nat.lt_of_lt_of_le hk h.keep.1)).trans (h.keep.2 k hk hne)⟩, fun h9 => (h.own (hd h9)).aft ha⟩
def Fato9 (E : Nat) (W8 : World) (Ak Ae : Option Addr) (ck ce base : Nat) (vS : Value) (ms : List Mean) (mm : Mean) (_ : Nat → Bool) : Nat → Value → World → Prop
  | 0, v, _ => v = vS
  | 1, v, _ => v = .pointer (some ⟨E, 0, none⟩)
  | 2, v, _ => v = .slice Ak mm.kinds.length ck
  | 3, v, w => w.ownsRow W8.heap.size 3 1 v mm.kinds.length (mm.kinds.map (Value.int .i64))
  | 4, v, _ => v = .pointer (some ⟨E, 1, none⟩)
  | 5, v, _ => v = .slice Ae mm.ends.length ce
  | 6, v, w => w.ownsRow W8.heap.size 3 1 v mm.ends.length (mm.ends.map (Value.int .i64))
  | 7, v, w => ∃ v1 v2, v = .agg #[v1, v2] ∧ w.ownsRow W8.heap.size 3 1 v1 mm.kinds.length (mm.kinds.map (Value.int .i64)) ∧ w.ownsRow W8.heap.size 3 1 v2 mm.ends.length (mm.ends.map (Value.int .i64))
  | 8, v, w => ∃ v1 v2 b, v = .slice (some ⟨b, 0, none⟩) 1 1 ∧ w.ownsRow W8.heap.size 3 1 v1 mm.kinds.length (mm.kinds.map (Value.int .i64)) ∧ w.ownsRow W8.heap.size 3 1 v2 mm.ends.length (mm.ends.map (Value.int .i64)) ∧ Blk w b 67 #[v1, v2] ∧ W8.heap.size ≤ b
  | 9, v, w => Mor9o base ms mm v w
  | 10, v, w => Mor9o base ms mm v w
  | _, _, _ => True
section
variable {E : Nat} {W8 : World} {Ak Ae : Option Addr} {ck ce base : Nat} {vS : Value} {ms : List Mean} {mm : Mean} {done done' : Nat → Bool} {w w' : World} {i : Nat} {v : Value}
theorem Fato9.aft (ha : Aft w w') (h : Fato9 E W8 Ak Ae ck ce base vS ms mm done i v w) : Fato9 E W8 Ak Ae ck ce base vS ms mm done' i v w' := by
  unfold Fato9 at h ⊢
  split at h <;> first
    | exact h
    | exact own_aft h ha
    | exact Mor9o.aft h ha
    | (obtain ⟨v1, v2, e, h1, h2⟩ := h; exact ⟨v1, v2, e, own_aft h1 ha, own_aft h2 ha⟩)
    | (obtain ⟨v1, v2, b, e, h1, h2, h3, h4⟩ := h; exact ⟨v1, v2, b, e, own_aft h1 ha, own_aft h2 ha, h3.aft ha, h4⟩)
theorem Fato9.low {row : Option Nat} (hg : w.grownBy w' row) (hr : ∀ k, row = some k → k < W8.heap.size) (hi : i < 9) (h : Fato9 E W8 Ak Ae ck ce base vS ms mm done i v w) : Fato9 E W8 Ak Ae ck ce base vS ms mm done' i v w' := by
  unfold Fato9 at h ⊢
  split at h <;> first
    | exact h
    | omega
    | exact own_kept' h hg hr
    | (obtain ⟨v1, v2, e, h1, h2⟩ := h; exact ⟨v1, v2, e, own_kept' h1 hg hr, own_kept' h2 hg hr⟩)
    | (obtain ⟨v1, v2, b, e, h1, h2, h3, h4⟩ := h; exact ⟨v1, v2, b, e, own_kept' h1 hg hr, own_kept' h2 hg hr, h3.grown hg (fun e => by have := hr b e.symm; omega), h4⟩)
end

set_option maxRecDepth 100000 in
set_option maxHeartbeats 2000000 in
theorem region9_co (X : World) (E base : Nat) (Ak Ae : Option Addr) (ck ce : Nat) (vS : Value) (ms : List Mean) (mm : Mean) (a0 : Act) (Q0 : Exit → Act → World → Prop) (W8 : World)
    (hz : a0.tmps.size = 53) (s8 : a0.eval (.tmp 8) = .pointer (some ⟨E, 0, none⟩)) (s6 : a0.eval (.tmp 6) = vS)
    (ha : Aft X W8) (hbx : Blk W8 E 67 #[.slice Ak mm.kinds.length ck, .slice Ae mm.ends.length ce]) (hvE : vS.ownBlock ≠ some E) (hk1 : Ints X Ak mm.kinds) (hk2 : Ints X Ae mm.ends) (hown : ORow (fun k => base ≤ k) vS ms W8) (hn : ms.length ≤ 100) (hXb : X.heap.size ≤ base) (hsz : base ≤ W8.heap.size)
    (hexit : ∀ a W' , a.tmps.size = 53 → a.defers = a0.defers → (∀ s : Nat, chc9 s = false → a.eval (.tmp s) = a0.eval (.tmp s)) → Mor9o base ms mm (a.eval (.tmp 6)) W' → Aft X W' → (W8.heap.size ≤ W'.heap.size ∧ ∀ k, k < W8.heap.size → vS.ownBlock ≠ some k → W'.heap[k]? = W8.heap[k]?) → Q0 .normal a W') :
    Code.wp Tryz.prog (Code.region 9 (opsCt 9).toArray true) Q0 a0 W8 := by
  have HEX := Lib.hid hexit
  clear hexit
  refine wp_region_factsE (by kernel_rfl) 53 hz (by kernel_rfl) (Fato9 E W8 Ak Ae ck ce base vS ms mm) (Wo9 X W8 base vS ms) ⟨ha.then_drew, ⟨Nat.le_refl _, fun _ _ _ => rfl⟩, fun _ => hown.aft (Aft.drew _)⟩ ?step ?fin
  case step =>
    intro i o ho done a w hH hd hp K hK
    have hW := hH.wd
    have hold : ∀ s : Nat, chc9 s = false → a.eval (.tmp s) = a0.eval (.tmp s) := fun s h => hH.old s fun k ok hk hs => by
      match k, hk with
      | 0, hk => cases hk; cases hs; exact absurd h (by decide)
      | 1, hk => cases hk; cases hs; exact absurd h (by decide)
      | 2, hk => cases hk; cases hs; exact absurd h (by decide)
      | 3, hk => cases hk; cases hs; exact absurd h (by decide)
      | 4, hk => cases hk; cases hs; exact absurd h (by decide)
      | 5, hk => cases hk; cases hs; exact absurd h (by decide)
      | 6, hk => cases hk; cases hs; exact absurd h (by decide)
      | 7, hk => cases hk; cases hs; exact absurd h (by decide)
      | 8, hk => cases hk; cases hs; exact absurd h (by decide)
      | 9, hk => cases hk; cases hs; exact absurd h (by decide)
      | 10, hk => cases hk; cases hs; exact absurd h (by decide)
      | _ + 11, hk => cases hk
    have hvS : ∀ k, vS.ownBlock = some k → base ≤ k ∧ k < W8.heap.size := fun k e => by obtain ⟨ys, ho⟩ := hown; exact ⟨ho.own.2 k e, (ho.own.1.lt k e).2⟩
    have hbox : Blk w E 67 #[.slice Ak mm.kinds.length ck, .slice Ae mm.ends.length ce] := (hW.keep.2 E hbx.lt hvE).trans hbx
    have hK' : ∀ v, i ≠ 9 → Fato9 E W8 Ak Ae ck ce base vS ms mm (Go.upd done i) i v w → K (a.put o.dst v) w := fun v h9 hv => hK v w hv ⟨hW.aft, hW.keep, fun h => hW.own (by unfold Go.upd at h; rw [if_neg (Ne.symm h9)] at h; exact h)⟩ fun j _ _ _ _ _ hu => Fato9.aft (Aft.refl w) hu
    match i, ho, hd, hp, hK, hK' with
    | 0, ho, hd, hp, hK, hK' =>
      cases ho
      have e7 : a.eval (.tmp 6) = vS := (hH.old 6 fun k ok hk hs => by
        match k, hk with
        | 0, hk => cases hk; cases hs
        | 1, hk => cases hk; cases hs
        | 2, hk => cases hk; cases hs
        | 3, hk => cases hk; cases hs
        | 4, hk => cases hk; cases hs
        | 5, hk => cases hk; cases hs
        | 6, hk => cases hk; cases hs
        | 7, hk => cases hk; cases hs
        | 8, hk => cases hk; cases hs
        | 9, hk => cases hk; cases hs
        | 10, hk =>
          cases hdk : done 10 with
          | false => rfl
          | true => have := hH.closed 10 _ hk hdk 0 (by cases hk; decide); rw [hd] at this; cases this
        | _ + 11, hk => cases hk).trans s6
      exact op_value (by simp [go_sem, ev e7]) (hK' _ (by decide) rfl)
    | 1, ho, hd, hp, hK, hK' =>
      cases ho
      have e : a.eval (.tmp 8) = .pointer (some ⟨E, 0, none⟩) := (hold 8 (by decide)).trans s8
      exact op_value (by simp [go_sem, ev e]) (hK' _ (by decide) rfl)
    | 2, ho, hd, hp, hK, hK' =>
      cases ho
      have e : a.eval (.tmp 35) = .pointer (some ⟨E, 0, none⟩) := hH.fact 1 _ 35 rfl rfl (hp 1 (by decide))
      have hc : w.cell? ⟨E, 0, none⟩ = some (.slice Ak mm.kinds.length ck) := hbox.cell 0
      exact op_value (by simp [go_sem, ev e, hc]) (hK' _ (by decide) rfl)
    | 3, ho, hd, hp, hK, hK' =>
      cases ho
      have e : a.eval (.tmp 36) = .slice Ak mm.kinds.length ck := hH.fact 2 _ 36 rfl rfl (hp 2 (by decide))
      refine op_call1 Tryz.func46 (by kernel_rfl) (by kernel_rfl) _ rfl e (kitClone_int Ak mm.kinds ck w (hk1.aft hW.aft)) ?_
      rintro e w' ⟨v, rfl, hown, ha⟩
      exact ⟨_, rfl, hK _ _ (World.ownsRow.mono hown hW.keep.1) (hW.go ha (fun h => h)) fun j _ _ _ _ _ hu => Fato9.aft ha hu⟩
    | 4, ho, hd, hp, hK, hK' =>
      cases ho
      have e : a.eval (.tmp 8) = .pointer (some ⟨E, 0, none⟩) := (hold 8 (by decide)).trans s8
      exact op_value (by simp [go_sem, ev e]) (hK' _ (by decide) rfl)
    | 5, ho, hd, hp, hK, hK' =>
      cases ho
      have e : a.eval (.tmp 38) = .pointer (some ⟨E, 1, none⟩) := hH.fact 4 _ 38 rfl rfl (hp 4 (by decide))
      have hc : w.cell? ⟨E, 1, none⟩ = some (.slice Ae mm.ends.length ce) := hbox.cell 1
      exact op_value (by simp [go_sem, ev e, hc]) (hK' _ (by decide) rfl)
    | 6, ho, hd, hp, hK, hK' =>
      cases ho
      have e : a.eval (.tmp 39) = .slice Ae mm.ends.length ce := hH.fact 5 _ 39 rfl rfl (hp 5 (by decide))
      refine op_call1 Tryz.func46 (by kernel_rfl) (by kernel_rfl) _ rfl e (kitClone_int Ae mm.ends ce w (hk2.aft hW.aft)) ?_
      rintro e w' ⟨v, rfl, hown, ha⟩
      exact ⟨_, rfl, hK _ _ (World.ownsRow.mono hown hW.keep.1) (hW.go ha (fun h => h)) fun j _ _ _ _ _ hu => Fato9.aft ha hu⟩
    | 7, ho, hd, hp, hK, hK' =>
      cases ho
      obtain ⟨v1, e1⟩ : ∃ v, a.eval (.tmp 37) = v := ⟨_, rfl⟩
      obtain ⟨v2, e2⟩ : ∃ v, a.eval (.tmp 40) = v := ⟨_, rfl⟩
      have g1 : w.ownsRow W8.heap.size 3 1 v1 mm.kinds.length (mm.kinds.map (Value.int .i64)) := by rw [← e1]; exact hH.fact 3 _ 37 rfl rfl (hp 3 (by decide))
      have g2 : w.ownsRow W8.heap.size 3 1 v2 mm.ends.length (mm.ends.map (Value.int .i64)) := by rw [← e2]; exact hH.fact 6 _ 40 rfl rfl (hp 6 (by decide))
      have hf : Fato9 E W8 Ak Ae ck ce base vS ms mm (Go.upd done 7) 7 (.agg #[v1, v2]) w := ⟨v1, v2, rfl, g1, g2⟩
      obtain ⟨sA, sn, sc, rfl⟩ := own_slice' g1
      obtain ⟨tA, tn, tc, rfl⟩ := own_slice' g2
      exact op_value (by simp [go_sem, ev e1, ev e2]) (hK' _ (by decide) hf)
    | 8, ho, hd, hp, hK, hK' =>
      cases ho
      obtain ⟨v1, v2, e, g1, g2⟩ : ∃ v1 v2, a.eval (.tmp 41) = .agg #[v1, v2] ∧ w.ownsRow W8.heap.size 3 1 v1 mm.kinds.length (mm.kinds.map (Value.int .i64)) ∧ w.ownsRow W8.heap.size 3 1 v2 mm.ends.length (mm.ends.map (Value.int .i64)) := hH.fact 7 _ 41 rfl rfl (hp 7 (by decide))
      have ha := Aft.alloc w (.cells #[v1, v2] 67)
      have h1 : Fato9 E W8 Ak Ae ck ce base vS ms mm (Go.upd done 8) 8 (.slice (some ⟨w.heap.size, 0, none⟩) 1 1) (w.alloc (.cells #[v1, v2] 67)) := ⟨v1, v2, _, rfl, own_aft g1 ha, own_aft g2 ha, Blk.new _ _ _, hW.keep.1⟩
      have := hK _ _ h1 (hW.go ha (fun h => h)) fun j _ _ _ _ _ hu => Fato9.aft ha hu
      obtain ⟨sA, sn, sc, rfl⟩ := own_slice' g1
      obtain ⟨tA, tn, tc, rfl⟩ := own_slice' g2
      unfold Oper.wp
      simpa [go_sem, ev e] using this
    | 9, ho, hd, hp, hK, hK' =>
      cases ho
      obtain ⟨v1, v2, b, e, g1, g2, hb, hb3⟩ : ∃ v1 v2 b, a.eval (.tmp 42) = .slice (some ⟨b, 0, none⟩) 1 1 ∧ w.ownsRow W8.heap.size 3 1 v1 mm.kinds.length (mm.kinds.map (Value.int .i64)) ∧ w.ownsRow W8.heap.size 3 1 v2 mm.ends.length (mm.ends.map (Value.int .i64)) ∧ Blk w b 67 #[v1, v2] ∧ W8.heap.size ≤ b := hH.fact 8 _ 42 rfl rfl (hp 8 (by decide))
      have e2 : a.eval (.tmp 34) = vS := hH.fact 0 _ 34 rfl rfl (hp 0 (by decide))
      obtain ⟨ys, ho1⟩ := hW.own hd
      have hone : ∀ u ∈ [v1, v2], u.oneCell' = true := fun u hu => by
        rcases List.mem_cons.1 hu with rfl | hu
        · exact own_cell1 g1
        · rw [List.mem_singleton] at hu; subst hu; exact own_cell1 g2
      refine op_app ty78 _ _ rfl (Nat.zero_le _) e2 ho1.own.1 e hb rfl hone (by omega) (by decide) fun v' w' h1 h2 h3 => ?_
      have hpush : ORowX (fun k => base ≤ k) v' (ms ++ [mm]) (ys ++ [v1, v2]) w' := ho1.push (OwnD.of g1 fun k hk _ => Nat.le_trans hsz hk) (OwnD.of g2 fun k hk _ => Nat.le_trans hsz hk) h1 h2 fun k e => by
        rcases h3 with h | h
        · rw [h] at e; exact (hvS k e).1
        · rw [h] at e; cases e; exact Nat.le_trans hsz hW.keep.1
      refine hK _ _ ⟨_, hpush⟩ ⟨hW.aft.grown h2 (fun k e => by have := (hvS k e).1; omega), ⟨Nat.le_trans hW.keep.1 h2.size, fun k hk hne => (h2.block k (Nat.lt_of_lt_of_le hk hW.keep.1) (fun e => hne e.symm)).trans (hW.keep.2 k hk hne)⟩, fun h => (by (have h' : Go.upd done 9 9 = true := rfl); rw [h'] at h; cases h)⟩ fun j _ _ _ _ hj hu => ?_
      have : j ≠ 9 := fun e => by rw [e, hd] at hj; cases hj
      have : j ≠ 10 := fun e => by
        subst e
        have := hH.closed 10 _ rfl hj 9 (by decide)
        rw [hd] at this; cases this
      by_cases h9 : j < 9
      · exact Fato9.low h2 (fun k e => (hvS k e).2) h9 hu
      · unfold Fato9 at hu ⊢; split at hu <;> first | exact hu | omega
    | 10, ho, hd, hp, hK, hK' =>
      cases ho
      obtain ⟨v', e2⟩ : ∃ v', a.eval (.tmp 43) = v' := ⟨_, rfl⟩
      have h1 : Mor9o base ms mm v' w := by rw [← e2]; exact hH.fact 9 _ 43 rfl rfl (hp 9 (by decide))
      exact op_value (by simp [go_sem, ev e2]) (hK' _ (by decide) h1)
    | _ + 11, ho, _, _, _, _ => cases ho
  case fin =>
    intro done a w hall hH
    have hdone : ∀ i, i < 11 → done i = true := fun i hi => hall i (by exact hi)
    have hold : ∀ s : Nat, chc9 s = false → a.eval (.tmp s) = a0.eval (.tmp s) := fun s h => hH.old s fun k ok hk hs => by
      match k, hk with
      | 0, hk => cases hk; cases hs; exact absurd h (by decide)
      | 1, hk => cases hk; cases hs; exact absurd h (by decide)
      | 2, hk => cases hk; cases hs; exact absurd h (by decide)
      | 3, hk => cases hk; cases hs; exact absurd h (by decide)
      | 4, hk => cases hk; cases hs; exact absurd h (by decide)
      | 5, hk => cases hk; cases hs; exact absurd h (by decide)
      | 6, hk => cases hk; cases hs; exact absurd h (by decide)
      | 7, hk => cases hk; cases hs; exact absurd h (by decide)
      | 8, hk => cases hk; cases hs; exact absurd h (by decide)
      | 9, hk => cases hk; cases hs; exact absurd h (by decide)
      | 10, hk => cases hk; cases hs; exact absurd h (by decide)
      | _ + 11, hk => cases hk
    exact HEX.out a w (hH.size.trans hz) hH.defers hold (hH.fact 10 _ 6 rfl rfl (hdone 10 (by decide))) hH.wd.aft hH.wd.keep

set_option maxRecDepth 100000 in
set_option maxHeartbeats 2000000 in
theorem region9_colit (X : World) (E base : Nat) (Ak Ae : Option Addr) (ck ce : Nat) (vS : Value) (ms : List Mean) (mm : Mean) (W8 : World) (ha : Aft X W8) (hbx : Blk W8 E 67 #[.slice Ak mm.kinds.length ck, .slice Ae mm.ends.length ce]) (hvE : vS.ownBlock ≠ some E) (hk1 : Ints X Ak mm.kinds) (hk2 : Ints X Ae mm.ends) (hown : ORow (fun k => base ≤ k) vS ms W8) (hn : ms.length ≤ 100) (hXb : X.heap.size ≤ base) (hsz : base ≤ W8.heap.size)
    (q0 q1 q2 q3 q4 q5 q7 q9 q10 q11 q12 q13 q14 q15 q16 q17 q18 q19 q20 q21 q22 q23 q24 q25 q26 q27 q28 q29 q30 q31 q32 q33 q34 q35 q36 q37 q38 q39 q40 q41 q42 q43 q44 q45 q46 q47 q48 q49 q50 q51 q52 : Value) (Q0 : Exit → Act → World → Prop)
    (hexit : ∀ (u6 u34 u35 u36 u37 u38 u39 u40 u41 u42 u43 : Value) W' , Mor9o base ms mm (u6) W' → Aft X W' → (W8.heap.size ≤ W'.heap.size ∧ ∀ k, k < W8.heap.size → vS.ownBlock ≠ some k → W'.heap[k]? = W8.heap[k]?) → Q0 .normal ⟨(List.toArray (q0 :: q1 :: q2 :: q3 :: q4 :: q5 :: u6 :: q7 :: .pointer (some ⟨E, 0, none⟩) :: q9 :: q10 :: q11 :: q12 :: q13 :: q14 :: q15 :: q16 :: q17 :: q18 :: q19 :: q20 :: q21 :: q22 :: q23 :: q24 :: q25 :: q26 :: q27 :: q28 :: q29 :: q30 :: q31 :: q32 :: q33 :: u34 :: u35 :: u36 :: u37 :: u38 :: u39 :: u40 :: u41 :: u42 :: u43 :: q44 :: q45 :: q46 :: q47 :: q48 :: q49 :: q50 :: q51 :: q52 :: [])), []⟩ W') :
    Code.wp Tryz.prog (Code.region 9 (opsCt 9).toArray true) Q0 ⟨(List.toArray (q0 :: q1 :: q2 :: q3 :: q4 :: q5 :: vS :: q7 :: .pointer (some ⟨E, 0, none⟩) :: q9 :: q10 :: q11 :: q12 :: q13 :: q14 :: q15 :: q16 :: q17 :: q18 :: q19 :: q20 :: q21 :: q22 :: q23 :: q24 :: q25 :: q26 :: q27 :: q28 :: q29 :: q30 :: q31 :: q32 :: q33 :: q34 :: q35 :: q36 :: q37 :: q38 :: q39 :: q40 :: q41 :: q42 :: q43 :: q44 :: q45 :: q46 :: q47 :: q48 :: q49 :: q50 :: q51 :: q52 :: [])), []⟩ W8 := by
  refine region9_co X E base Ak Ae ck ce vS ms mm _ Q0 W8 rfl rfl rfl ha hbx hvE hk1 hk2 hown hn hXb hsz ?_
  intro a W'  hz hd hs h1 h2 h3
  have e := frame_act 53 a _ hz hd chc9 (fun s hp => hs s hp)
  have e2 : a = ⟨(List.toArray (q0 :: q1 :: q2 :: q3 :: q4 :: q5 :: a.eval (.tmp 6) :: q7 :: .pointer (some ⟨E, 0, none⟩) :: q9 :: q10 :: q11 :: q12 :: q13 :: q14 :: q15 :: q16 :: q17 :: q18 :: q19 :: q20 :: q21 :: q22 :: q23 :: q24 :: q25 :: q26 :: q27 :: q28 :: q29 :: q30 :: q31 :: q32 :: q33 :: a.eval (.tmp 34) :: a.eval (.tmp 35) :: a.eval (.tmp 36) :: a.eval (.tmp 37) :: a.eval (.tmp 38) :: a.eval (.tmp 39) :: a.eval (.tmp 40) :: a.eval (.tmp 41) :: a.eval (.tmp 42) :: a.eval (.tmp 43) :: q44 :: q45 :: q46 :: q47 :: q48 :: q49 :: q50 :: q51 :: q52 :: [])), []⟩ := e
  have h := hexit (a.eval (.tmp 6)) (a.eval (.tmp 34)) (a.eval (.tmp 35)) (a.eval (.tmp 36)) (a.eval (.tmp 37)) (a.eval (.tmp 38)) (a.eval (.tmp 39)) (a.eval (.tmp 40)) (a.eval (.tmp 41)) (a.eval (.tmp 42)) (a.eval (.tmp 43)) W'  h1 h2 h3
  rw [← e2] at h
  exact h

/-- What CloneTreaty answers: the same treaty in blocks of its own, and what may be written of it. -/
def CloneO (w : World) (T : Treaty) (e : Ending) (w' : World) : Prop :=
  ∃ (v1 v2 v3 v4 : Value), e = .returned (.agg #[.int .i64 T.places, v1, v2, v3, v4]) ∧ Aft w w' ∧ OT (fun k => w.heap.size ≤ k) T v1 v2 v3 v4 w'
/-- Between two words. -/
def MC1o (X : World) (b : Nat) (T : Treaty) (v1 v3 v4 : Value) (k : Nat) (W : World) : Prop :=
  ∃ (v2 : Value) (xs : List Value), Aft X W ∧ Blk W b 27 #[.int .i64 T.places, v1, v2, v3, v4] ∧ W.ownsRow X.heap.size 65 3 v1 T.ways.length (T.ways.flatMap encWay) ∧ W.ownsRow X.heap.size 3 1 v3 T.starts.length (T.starts.map (Value.int .i64)) ∧ W.ownsRow X.heap.size 70 2 v4 T.legs.length (T.legs.flatMap encLeg) ∧
    OWordsX (fun k => X.heap.size ≤ k) v2 (T.words.take k) xs W
/-- Between two meanings. -/
def MC2o (y : World) (l : List Mean) (k : Nat) (vS : Value) (W : World) : Prop := Aft y W ∧ ORow (fun k => y.heap.size ≤ k) vS (l.take k) W

set_option maxRecDepth 100000 in
set_option maxHeartbeats 4000000 in
theorem cloneO_any (w : World) (T : Treaty) (a1 a2 a3 a4 : Option Addr) (c1 c2 c3 c4 : Nat) (hT : TRep w T a1 a2 a3 a4) (hl1 : T.ways.length ≤ 1000) (hl2 : T.words.length ≤ 100) (hl3 : T.starts.length ≤ 1000) (hl4 : T.legs.length ≤ 1000) (hwl : ∀ l ∈ T.words, l.length ≤ 100) :
    Calls Tryz.prog 10 #[.agg #[.int .i64 T.places, .slice a1 T.ways.length c1, .slice a2 T.words.length c2, .slice a3 T.starts.length c3, .slice a4 T.legs.length c4]] w (CloneO w T) := by
  have HT0 := Lib.hid hT
  have HWL := Lib.hid hwl
  clear hT hwl
  go_enter Tryz.func10, Tryz.ntmps10
  go_upto_region 1 with fail
  have ha0 : Aft w ((w.alloc (.cells #[.int .i64 T.places, .slice a1 T.ways.length c1, .slice a2 T.words.length c2, .slice a3 T.starts.length c3, .slice a4 T.legs.length c4] 27)).alloc (.cells #[.int .i64 0, .slice none 0 0, .slice none 0 0, .slice none 0 0, .slice none 0 0] 27)) := (Aft.alloc _ _).then_alloc _
  have hB1 : Blk ((w.alloc (.cells #[.int .i64 T.places, .slice a1 T.ways.length c1, .slice a2 T.words.length c2, .slice a3 T.starts.length c3, .slice a4 T.legs.length c4] 27)).alloc (.cells #[.int .i64 0, .slice none 0 0, .slice none 0 0, .slice none 0 0, .slice none 0 0] 27)) w.heap.size 27 #[.int .i64 T.places, .slice a1 T.ways.length c1, .slice a2 T.words.length c2, .slice a3 T.starts.length c3, .slice a4 T.legs.length c4] := (Blk.new _ _ _).alloc _
  have hC := Blk.new (w.alloc (.cells #[.int .i64 T.places, .slice a1 T.ways.length c1, .slice a2 T.words.length c2, .slice a3 T.starts.length c3, .slice a4 T.legs.length c4] 27)) 27 #[.int .i64 0, .slice none 0 0, .slice none 0 0, .slice none 0 0, .slice none 0 0]
  rw [World.size_alloc] at hC
  generalize ((w.alloc (.cells #[.int .i64 T.places, .slice a1 T.ways.length c1, .slice a2 T.words.length c2, .slice a3 T.starts.length c3, .slice a4 T.legs.length c4] 27)).alloc (.cells #[.int .i64 0, .slice none 0 0, .slice none 0 0, .slice none 0 0, .slice none 0 0] 27)) = X at *
  have HA0 := Lib.hid ha0
  have HB1 := Lib.hid hB1
  have HC := Lib.hid hC
  clear ha0 hB1 hC
  refine region1_ctlit T a1 a2 a3 a4 c1 c2 c3 c4 w.heap.size X (HT0.out.aft HA0.out) HB1.out hl1 hl4 _ _ _ _ _ _ _ _ _ _ _ _ _ _ _ _ _ _ _ _ _ _ _ _ _ _ _ _ _ _ _ _ _ _ _ _ _ _ _ _ _ _ _ _ _ _ _ _ _ _ _ _ _ ?_
  intro u3 u9 u10 u11 u12 u13 u14 u15 u16 u17 u18 u19 u20 W0 b e3 hbX hgood haX
  subst e3
  obtain ⟨v1, v3, v4, hb, o1, o3, o4⟩ := hgood
  have HM1 : Hid (MC1o X b T v1 v3 v4 0 W0) := Lib.hid ⟨.slice none 0 0, [], haX, hb, o1, o3, o4, OWordsX.nil _ _⟩
  have HBX := Lib.hid hbX
  have k2 : W0.cell? ⟨w.heap.size, 2, none⟩ = some (.slice a2 T.words.length c2) := (HB1.out.aft haX).cell 2
  clear hb o1 o3 o4 haX hbX
  (repeat (first | go_big_skip | go_big_want | go_big_move | go_big_op | go_step | go_upon | go_back))
  go_loopw [24] (fun i wr => ∃ k : Nat, i = .int .i64 k ∧ k ≤ T.words.length ∧ MC1o X b T v1 v3 v4 k wr) (fun i _ => T.words.length - (intOf i).toNat)
  case atStart => exact ⟨0, rfl, by omega, HM1.out⟩
  case round =>
    obtain ⟨k, rfl, hk, hM⟩ := hrel
    obtain ⟨v2, xs, haX, hb, o1, o3, o4, o2⟩ := hM
    have HAX := Lib.hid haX
    have HBB := Lib.hid hb
    have HO1 := Lib.hid o1
    have HO3 := Lib.hid o3
    have HO4 := Lib.hid o4
    have HO2 := Lib.hid o2
    clear haX hb o1 o3 o4 o2 HM1 k2
    by_cases hkn : k < T.words.length
    · have hdec : decide ((k : Int) < (T.words.length : Int)) = true := by simp; omega
      obtain ⟨bw, ow, ew, hbw, hcw⟩ := (HT0.out.aft (HA0.out.trans HAX.out)).words.at hkn
      obtain ⟨vs, hv1, ⟨Am, cm, rfl, hms⟩, hv3⟩ := hcw k hkn
      have cM : wr.cell? ⟨bw, ow + k, none⟩ = some (.slice Am T.words[k].length cm) := by have := hv3 0 (by simp); simpa using this
      have hml := HWL.out _ (List.getElem_mem hkn)
      have HTK : Hid (T.words.take (k + 1) = T.words.take k ++ [T.words[k]]) := Lib.hid (List.take_succ_eq_append_getElem hkn)
      have HMS := Lib.hid hms
      have i1 : (0 : Int) ≤ (k : Int) ∧ (k : Int) < (T.words.length : Int) := by omega
      have i1n : k < T.words.length := hkn
      clear hv1 hv3 hcw hms
      generalize T.words[k] = l at *
      subst ew
      (repeat (first | go_big_skip | go_big_want | go_big_move | go_big_op | go_step | go_upon | go_back))
      generalize wr = y at *
      have HM2 : Hid (MC2o y l 0 (.slice none 0 0) y) := Lib.hid ⟨Aft.refl _, [], ORowX.nil _ _⟩
      clear cM
      go_loopw [6, 30] (fun v i wq => ∃ k3 : Nat, i = .int .i64 k3 ∧ k3 ≤ l.length ∧ MC2o y l k3 v wq) (fun _ i _ => l.length - (intOf i).toNat)
      case atStart => exact ⟨0, rfl, by omega, HM2.out⟩
      case round =>
        obtain ⟨k3, rfl, hk3, haY, o3'⟩ := hrel
        have HAY := Lib.hid haY
        have HK3 := Lib.hid o3'
        clear haY o3' HM2
        by_cases hkn3 : k3 < l.length
        · have hdec3 : decide ((k3 : Int) < (l.length : Int)) = true := by simp; omega
          obtain ⟨bm, om, em, hbm, hcm⟩ := (HMS.out.aft MeanR.mono HAY.out).at hkn3
          obtain ⟨vs, hv4, ⟨Ak, ck, Ae, ce, rfl, hik, hie⟩, hv6⟩ := hcm k3 hkn3
          obtain ⟨vs', hv4', ⟨Ak', ck', Ae', ce', evs, hik', hie'⟩, hv6'⟩ : ∃ vs : List Value, vs.length = 2 ∧ MeanR y l[k3] vs ∧ ∀ j, (hj : j < vs.length) → wr.cell? ⟨bm, om + k3 * 2 + j, none⟩ = some vs[j] := by
            obtain ⟨bm', om', em', hbm', hcm'⟩ := HMS.out.at hkn3
            rw [em] at em'
            cases em'
            obtain ⟨vs, h1, h2, h3⟩ := hcm' k3 hkn3
            exact ⟨vs, h1, h2, fun j hj => by obtain ⟨u, rfl⟩ := HAY.out; exact (World.lat_cell _ _ _ _ hbm').trans (h3 j hj)⟩
          have cK : wr.cell? ⟨bm, om + k3 * 2, none⟩ = some (.slice Ak' l[k3].kinds.length ck') := by subst evs; exact hv6' 0 (by simp)
          have cE : wr.cell? ⟨bm, om + k3 * 2 + 1, none⟩ = some (.slice Ae' l[k3].ends.length ce') := by subst evs; exact hv6' 1 (by simp)
          have HTK3 : Hid (l.take (k3 + 1) = l.take k3 ++ [l[k3]]) := Lib.hid (List.take_succ_eq_append_getElem hkn3)
          have HK1 := Lib.hid hik'
          have HE1 := Lib.hid hie'
          have j1 : (0 : Int) ≤ (k3 : Int) ∧ (k3 : Int) < (l.length : Int) := by omega
          clear hv4 hv6 hcm hik hie hv4' evs hik' hie' hv6'
          generalize l[k3] = mm at *
          subst em
          go_upto_region 9 with fail
          refine region9_colit y wr.heap.size y.heap.size Ak' Ae' ck' ce' u6 (l.take k3) mm (wr.alloc (.cells #[.slice Ak' mm.kinds.length ck', .slice Ae' mm.ends.length ce'] 67)) (HAY.out.then_alloc _) (Blk.new _ _ _) (fun e => by obtain ⟨ys, ho⟩ := HK3.out; have := (ho.own.1.lt _ e).2; omega) HK1.out HE1.out (HK3.out.aft (Aft.alloc _ _)) (by rw [List.length_take]; omega) (Nat.le_refl _) (HAY.out.then_alloc _).size _ _ _ _ _ _ _ _ _ _ _ _ _ _ _ _ _ _ _ _ _ _ _ _ _ _ _ _ _ _ _ _ _ _ _ _ _ _ _ _ _ _ _ _ _ _ _ _ _ _ _ _ ?_
          intro u6 u34 u35 u36 u37 u38 u39 u40 u41 u42 u43 W' h1 h2 h3
          have hk4 : ORow (fun k => y.heap.size ≤ k) u6 (l.take k3 ++ [mm]) W' := h1
          rw [← HTK3.out] at hk4
          have HM' : Hid (MC2o y l (k3 + 1) u6 W') := Lib.hid ⟨h2, hk4⟩
          clear h1 h2 h3 hk4 cK cE
          (repeat (first | go_big_skip | go_big_want | go_big_move | go_big_op | go_step | go_upon | go_back))
          exact ⟨⟨k3 + 1, by go_num, by omega, HM'.out⟩, by simp [intOf]; omega⟩
        · have hdec3 : decide ((k3 : Int) < (l.length : Int)) = false := by simp; omega
          have HKL : Hid (ORow (fun k => y.heap.size ≤ k) u6 l wr) := Lib.hid (by have := HK3.out; rw [List.take_of_length_le (by omega)] at this; exact this)
          obtain ⟨ys, hkl⟩ := HKL.out
          obtain ⟨sA, sn, sc, rfl⟩ := own_slice' hkl.own.1
          have HKX := Lib.hid hkl
          clear hkl
          have hBW := HBB.out.aft HAY.out
          have HAXw := Lib.hid (HAX.out.trans HAY.out)
          have HO1w := Lib.hid (own_aft HO1.out HAY.out)
          have HO3w := Lib.hid (own_aft HO3.out HAY.out)
          have HO4w := Lib.hid (own_aft HO4.out HAY.out)
          have HO2w := Lib.hid (HO2.out.aft HAY.out)
          have c2' : wr.cell? ⟨b, 2, none⟩ = some v2 := hBW.cell 2
          have f2 := hBW.frozen 2
          have hlt := hBW.lt
          have HBW := Lib.hid hBW
          have htl : (T.words.take k).length = k := by rw [List.length_take]; omega
          clear hBW HK3
          go_upto_region 12 with (at_builtin; go_loud (refine wpList_app1 ty23 rfl _ _ rfl (Nat.zero_le _) rfl (HO2w.out.aft (Aft.alloc _ _)).own.1 rfl (Blk.new _ _ _) rfl (fun u hu => by rw [List.mem_singleton] at hu; subst hu; rfl) (by omega) (by decide) ?_; intro v' w6 hown6 hg6 hat6; obtain ⟨tA, tn, tc, rfl⟩ := own_slice' hown6; have HO6 := Lib.hid hown6; have HG6 : Hid ((wr.alloc (.cells #[.slice sA sn sc] 68)).grownBy w6 v2.ownBlock) := Lib.hid hg6; have HA6 : Hid ((Value.slice tA tn tc).ownBlock = v2.ownBlock ∨ (Value.slice tA tn tc).ownBlock = some (wr.alloc (.cells #[.slice sA sn sc] 68)).heap.size) := Lib.hid hat6; have HBA : Hid (Blk (wr.alloc (.cells #[.slice sA sn sc] 68)) b 27 #[.int .i64 T.places, v1, v2, v3, v4]) := Lib.hid (HBW.out.alloc _); have HOA : Hid ((wr.alloc (.cells #[.slice sA sn sc] 68)).ownsRow 0 68 1 v2 (T.words.take k).length xs) := Lib.hid (HO2w.out.aft (Aft.alloc _ _)).own.1; have HB6 := Lib.hid (HBA.out.grown HG6.out (fun e => own_ne27 HOA.out (by decide) HBA.out e.symm)); have f26 := HB6.out.frozen 2; have hlt6 := HB6.out.lt; have c26 : w6.cell? ⟨b, 2, none⟩ = some v2 := HB6.out.cell 2; clear hown6 hg6 hat6))
          have ha := Aft.alloc wr (.cells #[.slice sA sn sc] 68)
          have hgs := setc' w6 b 2 (.slice tA tn tc)
          have hv2 : ∀ q, v2.ownBlock = some q → X.heap.size ≤ q ∧ q < y.heap.size := fun q e => ⟨HO2.out.own.2 q e, (HO2.out.own.1.lt q e).2⟩
          have hfar : ∀ (i : Nat) (b : Value) (g : Nat), xs[i]? = some b → b.ownBlock = some g → (Value.slice sA sn sc).ownBlock ≠ some g := fun i b g hi hb e => by
            have hlt : i < (T.words.take k).length := by rw [← HO2.out.len]; exact (List.getElem?_eq_some_iff.1 hi).1
            obtain ⟨p, e1, zs, e2⟩ := HO2.out.at_ i hlt
            rw [hi] at e1
            cases e1
            have h1 := (e2.own.1.lt g hb).2
            have h2 := HKX.out.own.2 g e
            omega
          have hword : ORow (fun k => X.heap.size ≤ k) (.slice sA sn sc) l (wr.alloc (.cells #[.slice sA sn sc] 68)) := ⟨_, (HKX.out.aft ha).mono fun q hq _ => Nat.le_trans HAX.out.size hq⟩
          have hpush := (HO2w.out.aft ha).push hword hfar HO6.out HG6.out (fun q e => by
            rcases HA6.out with h | h
            · rw [h] at e; exact (hv2 q e).1
            · rw [h] at e; cases e; exact (HAXw.out.then_alloc _).size)
          have hps := hpush.off hgs (blk_off HB6.out (by decide)) (blk_off HB6.out (by decide)) (blk_off HB6.out (by decide))
          have hk1 : ∀ {e sz n : Nat} {v : Value} {zs : List Value}, wr.ownsRow X.heap.size e sz v n zs → e ≠ 27 → e ≠ 68 → (w6.setCell ⟨b, 2, none⟩ (.slice tA tn tc)).ownsRow X.heap.size e sz v n zs := fun h h27 h78 => by
            have h1 := own_aft h ha
            have h2 := own_kept3 h1 HG6.out (own_apart h1 HOA.out h78)
            exact own_kept3 h2 hgs (fun q e => by cases e; exact own_ne27 h2 h27 HB6.out)
          have hAX : Aft X (w6.setCell ⟨b, 2, none⟩ (.slice tA tn tc)) := ((HAXw.out.trans ha).grown HG6.out (fun q e => (hv2 q e).1)).grown hgs (fun q e => by cases e; exact HBX.out)
          have hm1 : MC1o X b T v1 v3 v4 (k + 1) (w6.setCell ⟨b, 2, none⟩ (.slice tA tn tc)) := ⟨.slice tA tn tc, _, hAX, HB6.out.store 2 _, hk1 HO1w.out (by decide) (by decide), hk1 HO3w.out (by decide) (by decide), hk1 HO4w.out (by decide) (by decide), by rw [HTK.out]; exact hps⟩
          have HM' := Lib.hid hm1
          clear ha hgs hv2 hfar hword hpush hps hk1 hAX hm1 f2 f26 c2' c26 hlt hlt6
          (repeat (first | go_big_skip | go_big_want | go_big_move | go_big_op | go_step | go_upon | go_back))
          exact ⟨⟨k + 1, by go_num, by omega, HM'.out⟩, by simp [intOf]; omega⟩
    · have hdec : decide ((k : Int) < (T.words.length : Int)) = false := by simp; omega
      have hkT : T.words.take k = T.words := List.take_of_length_le (by omega)
      have HOK : Hid (OWordsX (fun k => X.heap.size ≤ k) v2 T.words xs wr) := Lib.hid (by have := HO2.out; rw [hkT] at this; exact this)
      obtain ⟨A1, C1, rfl, s1⟩ := ways_sup HO1.out hl1
      obtain ⟨A2, C2, rfl⟩ := own_slice2 HOK.out.own.1
      obtain ⟨A3, C3, rfl, s3⟩ := own_sup HO3.out (by omega)
      obtain ⟨A4, C4, rfl, s4⟩ := legs_sup HO4.out hl4
      have hb := HBB.out
      have HTO : Hid (OT (fun k => X.heap.size ≤ k) T (.slice A1 T.ways.length C1) (.slice A2 T.words.length C2) (.slice A3 T.starts.length C3) (.slice A4 T.legs.length C4) wr) := Lib.hid ⟨OwnD.of HO1.out fun k hk _ => hk, ⟨_, HOK.out⟩, OwnD.of HO3.out fun k hk _ => hk, OwnD.of HO4.out fun k hk _ => hk⟩
      have k0 : wr.cell? ⟨b, 0, none⟩ = some (.int .i64 T.places) := hb.cell 0
      have k1 : wr.cell? ⟨b, 1, none⟩ = some (.slice A1 T.ways.length C1) := hb.cell 1
      have k2' : wr.cell? ⟨b, 2, none⟩ = some (.slice A2 T.words.length C2) := hb.cell 2
      have k3' : wr.cell? ⟨b, 3, none⟩ = some (.slice A3 T.starts.length C3) := hb.cell 3
      have k4' : wr.cell? ⟨b, 4, none⟩ = some (.slice A4 T.legs.length C4) := hb.cell 4
      have hC := HC.out.aft HAX.out
      have hlc := hC.lt
      have hfc : ∀ i, wr.frozen? ⟨w.heap.size + 1, i, none⟩ = false := fun i => hC.frozen i
      have j0 : wr.cell? ⟨w.heap.size + 1, 0, none⟩ = some (.int .i64 0) := hC.cell 0
      have j1 : wr.cell? ⟨w.heap.size + 1, 1, none⟩ = some (.slice none 0 0) := hC.cell 1
      have j2 : wr.cell? ⟨w.heap.size + 1, 2, none⟩ = some (.slice none 0 0) := hC.cell 2
      have j3 : wr.cell? ⟨w.heap.size + 1, 3, none⟩ = some (.slice none 0 0) := hC.cell 3
      have j4 : wr.cell? ⟨w.heap.size + 1, 4, none⟩ = some (.slice none 0 0) := hC.cell 4
      clear s1 s3 s4 hkT hb
      (repeat (first | go_big_skip | go_big_want | go_big_move | go_big_op | go_step | go_upon | go_back))
      obtain ⟨hCz, hgC⟩ := blk_five hC (.int .i64 T.places) (.slice A1 T.ways.length C1) (.slice A2 T.words.length C2) (.slice A3 T.starts.length C3) (.slice A4 T.legs.length C4)
      generalize (((((wr.setCell ⟨w.heap.size + 1, 0, none⟩ (.int .i64 T.places)).setCell ⟨w.heap.size + 1, 1, none⟩ (.slice A1 T.ways.length C1)).setCell ⟨w.heap.size + 1, 2, none⟩ (.slice A2 T.words.length C2)).setCell ⟨w.heap.size + 1, 3, none⟩ (.slice A3 T.starts.length C3)).setCell ⟨w.heap.size + 1, 4, none⟩ (.slice A4 T.legs.length C4)) = W' at *
      clear j0 j1 j2 j3 j4 k0 k1 k2' k3' k4' hfc
      have z0 : W'.cell? ⟨w.heap.size + 1, 0, none⟩ = some (.int .i64 T.places) := hCz.cell 0
      have z1 : W'.cell? ⟨w.heap.size + 1, 1, none⟩ = some (.slice A1 T.ways.length C1) := hCz.cell 1
      have z2 : W'.cell? ⟨w.heap.size + 1, 2, none⟩ = some (.slice A2 T.words.length C2) := hCz.cell 2
      have z3 : W'.cell? ⟨w.heap.size + 1, 3, none⟩ = some (.slice A3 T.starts.length C3) := hCz.cell 3
      have z4 : W'.cell? ⟨w.heap.size + 1, 4, none⟩ = some (.slice A4 T.legs.length C4) := hCz.cell 4
      refine bodyPost_ret (v := .agg #[.int .i64 T.places, .slice A1 T.ways.length C1, .slice A2 T.words.length C2, .slice A3 T.starts.length C3, .slice A4 T.legs.length C4]) (by simp [results, Tryz.results10, go_sem, z0, z1, z2, z3, z4]) rfl ?_
      have hsz := HA0.out.size
      exact ⟨_, _, _, _, rfl, (HA0.out.trans HAX.out).grown hgC (fun k e => by cases e; omega), (HTO.out.box hC (by decide) hgC).mono fun k hk _ => Nat.le_trans hsz hk⟩
end Go.Proofs
end

section
/- Walks: the drawn region of the law TreatyReadings. -/
namespace Go.Proofs
open Go.RowKit

theorem put_otherR {a : Act} {s t : Nat} {v : Value} (h : s ≠ t) : (a.put (some t) v).eval (.tmp s) = a.eval (.tmp s) := Act.eval_put (fun d hd e => by cases hd; cases e; exact h rfl)
theorem put_noneR {a : Act} {v : Value} : a.put none v = a := rfl

section
variable {T : Treaty} {v u : Value} {S : Nat → Prop} {w w' X : World} {t : TypeId} {e e1 e3 e4 e5 e6 e7 : Bool} {v3 v4 v14 v16 : Value}
end
theorem boxR5 {X : World} {g : Nat} {t : TypeId} {p v1 v2 v3 v4 : Value} (h : Blk X g t #[p, v1, v2, v3, v4]) : X.cell? ⟨g, 0, none⟩ = some p ∧ X.cell? ⟨g, 1, none⟩ = some v1 ∧ X.cell? ⟨g, 2, none⟩ = some v2 ∧ X.cell? ⟨g, 3, none⟩ = some v3 ∧ X.cell? ⟨g, 4, none⟩ = some v4 :=
  ⟨h.cell 0, h.cell 1, h.cell 2, h.cell 3, h.cell 4⟩
theorem blk_fiveR {w : World} {b : Nat} {t : TypeId} (h : Blk w b t #[.int .i64 0, .slice none 0 0, .slice none 0 0, .slice none 0 0, .slice none 0 0]) (p v1 v2 v3 v4 : Value) :
    Blk (((((w.setCell ⟨b, 0, none⟩ p).setCell ⟨b, 1, none⟩ v1).setCell ⟨b, 2, none⟩ v2).setCell ⟨b, 3, none⟩ v3).setCell ⟨b, 4, none⟩ v4) b t #[p, v1, v2, v3, v4] ∧ w.grownBy (((((w.setCell ⟨b, 0, none⟩ p).setCell ⟨b, 1, none⟩ v1).setCell ⟨b, 2, none⟩ v2).setCell ⟨b, 3, none⟩ v3).setCell ⟨b, 4, none⟩ v4) (some b) :=
  ⟨((((h.store 0 p).store 1 v1).store 2 v2).store 3 v3).store 4 v4, only_setCell (only_setCell (only_setCell (only_setCell (only_setCell (only_refl w (some b)) (.inl rfl) p) (.inl rfl) v1) (.inl rfl) v2) (.inl rfl) v3) (.inl rfl) v4⟩


end Go.Proofs
end
