/- Own texts, merged: WkY WkZ Xa Xc Xd Awk Rlg. -/
import Derived.Test.YtobpdobneocckaaGreatDoorH13
import Derived.Deep.Cut
import Derived.Deep.OwnRows
import Derived.BigGuard
set_option linter.unusedSimpArgs false
set_option linter.unusedVariables false
section
/- Walks: lines, where a line ends. -/
attribute [local go_sem ↓] Go.wp_at_zero Go.wp_at_succ
namespace Go.Proofs
open Go.RowKit

section
variable {w : World} {T : Treaty} {f : Nat → Nat → Nat → Bool} {D Bt br most : Nat} {M : List (List Int)} {vo : Value} {vs : List Value} {W W' : World}
/-- A line too many. -/
theorem LB.flag (h : LB w T f D Bt br most M vo vs W) (hbr : w.heap.size + 2 < br) (hBt : Bt < br) (l : List Int) (hm : M.length = most) : LB w T f D Bt br most (M ++ [l]) vo vs (W.setCell ⟨br + 1, 0, none⟩ (.bool true)) := by
  have hs := h.size
  obtain ⟨cs, g', h1, h2, h3⟩ := h.tb
  have c : ∀ b i, b ≠ br + 1 → (W.setCell ⟨br + 1, 0, none⟩ (.bool true)).cell? ⟨b, i, none⟩ = W.cell? ⟨b, i, none⟩ := fun b i hb => World.cell?_setCell_other _ _ _ _ (by simp <;> omega)
  refine ⟨h.aft.then_setCell (by simp <;> omega) _, by simpa [World.setCell] using hs, (c _ _ (by omega)).trans h.kd, (c _ _ (by omega)).trans h.km, (c _ _ (by omega)).trans h.kr, ?_, ?_, (c _ _ (by omega)).trans h.kw, (c _ _ (by omega)).trans h.ko, ?_, ?_, cs, g', h1.far (by simp <;> omega) _, h2, h3⟩
  · rw [World.cell?_setCell_same _ _ _ h.kf]; simp [hm]
  · rw [World.frozen?_setCell]; exact h.zf
  · rw [World.frozen?_setCell]; exact h.zo
  · have e : (M ++ [l]).take most = M.take most := by rw [List.take_append_of_le_length (by omega)]
    rw [e]
    exact ⟨ownsRow_setCell_below h.own.own (by simp) _, fun i hi hi' => ownsRow_setCell_below (h.own.rows i hi hi') (by simp) _, h.own.apart⟩
theorem LB.noflag (h : LB w T f D Bt br most M vo vs W) (hbr : w.heap.size + 2 < br) (hBt : Bt < br) (hm : M.length < most) : LB w T f D Bt br most M vo vs (W.setCell ⟨br + 1, 0, none⟩ (.bool false)) := by
  have hs := h.size
  obtain ⟨cs, g', h1, h2, h3⟩ := h.tb
  have c : ∀ b i, b ≠ br + 1 → (W.setCell ⟨br + 1, 0, none⟩ (.bool false)).cell? ⟨b, i, none⟩ = W.cell? ⟨b, i, none⟩ := fun b i hb => World.cell?_setCell_other _ _ _ _ (by simp <;> omega)
  refine ⟨h.aft.then_setCell (by simp <;> omega) _, by simpa [World.setCell] using hs, (c _ _ (by omega)).trans h.kd, (c _ _ (by omega)).trans h.km, (c _ _ (by omega)).trans h.kr, ?_, ?_, (c _ _ (by omega)).trans h.kw, (c _ _ (by omega)).trans h.ko, ?_, ?_, cs, g', h1.far (by simp <;> omega) _, h2, h3⟩
  · rw [World.cell?_setCell_same _ _ _ h.kf]; simp; omega
  · rw [World.frozen?_setCell]; exact h.zf
  · rw [World.frozen?_setCell]; exact h.zo
  · exact ⟨ownsRow_setCell_below h.own.own (by simp) _, fun i hi hi' => ownsRow_setCell_below (h.own.rows i hi hi') (by simp) _, h.own.apart⟩
/-- What append leaves, and the store of its slice. -/
theorem LB.pushed (h : LB w T f D Bt br most M vo vs W) (hbr : w.heap.size + 2 < br) (hBt : Bt < br) {l : List Int} (hm : M.length < most) {Y W2 : World} {vo' r : Value} (ha : Aft W Y) (hg : Y.grownBy W2 vo.ownBlock) (hown : OwnLs W2 (br + 3) vo' (vs ++ [r]) (M ++ [l]))
    (hat : vo'.ownBlock = vo.ownBlock ∨ vo'.ownBlock = some Y.heap.size) (hr : ∀ x, r.ownBlock = some x → W.heap.size ≤ x) :
    LB w T f D Bt br most (M ++ [l]) vo' (vs ++ [r]) (W2.setCell ⟨w.heap.size + 2, 0, none⟩ vo') ∧ Fresh W vo vs vo' (vs ++ [r]) ∧ Ext (fun k => k = w.heap.size + 2 ∨ vo.ownBlock = some k) W (W2.setCell ⟨w.heap.size + 2, 0, none⟩ vo') := by
  have hs := h.size
  have hvo : ∀ x, vo.ownBlock = some x → br + 3 ≤ x ∧ x < W.heap.size := fun x hx => h.own.own.lt x hx
  obtain ⟨cs, g', h1, h2, h3⟩ := h.tb
  have hne : ∀ b, b < br + 3 → some b ≠ vo.ownBlock := fun b hb e => by have := (hvo b e.symm).1; omega
  have c1 : ∀ b i v, b < br + 3 → b ≠ w.heap.size + 2 → W.cell? ⟨b, i, none⟩ = some v → (W2.setCell ⟨w.heap.size + 2, 0, none⟩ vo').cell? ⟨b, i, none⟩ = some v := fun b i v hb hb2 hv => by
    rw [World.cell?_setCell_other _ _ _ _ (by simp <;> omega)]; exact keep_grown ha hg (by omega) (hne b hb) hv
  have z1 : ∀ b i, b < br + 3 → W.frozen? ⟨b, i, none⟩ = false → (W2.setCell ⟨w.heap.size + 2, 0, none⟩ vo').frozen? ⟨b, i, none⟩ = false := fun b i hb hv => by
    rw [World.frozen?_setCell]; exact keep_grown_z ha hg (by omega) (hne b hb) hv
  have haf : Aft w W2 := (h.aft.trans ha).grown hg (fun k hk => by have := (hvo k hk).1; omega)
  have hsz : W.heap.size ≤ W2.heap.size := Nat.le_trans ha.size hg.size
  have e1 : M.take most = M := List.take_of_length_le (by omega)
  have e2 : (M ++ [l]).take most = M ++ [l] := List.take_of_length_le (by simp <;> omega)
  have kf := h.kf
  rw [decide_eq_false (by omega)] at kf
  refine ⟨⟨haf.then_setCell (by simp) _, by simp [World.setCell]; omega, c1 _ _ _ (by omega) (by omega) h.kd, c1 _ _ _ (by omega) (by omega) h.km, c1 _ _ _ (by omega) (by omega) h.kr, ?_, z1 _ _ (by omega) h.zf, c1 _ _ _ (by omega) (by omega) h.kw, ?_, z1 _ _ (by omega) h.zo, ?_, cs, g', ?_, h2, h3⟩, ⟨fun x hx => ?_, fun y hy x hx => ?_⟩, ?_⟩
  · rw [decide_eq_false (by simp <;> omega)]; exact c1 _ _ _ (by omega) (by omega) kf
  · exact World.cell?_setCell_same _ _ _ (keep_grown ha hg (by omega) (hne _ (by omega)) h.ko)
  · rw [e2]
    exact ⟨ownsRow_setCell_below hown.own (by simp <;> omega) _, fun i hi hi' => ownsRow_setCell_below (hown.rows i hi hi') (by simp <;> omega) _, hown.apart⟩
  · have hb1 := h1.aft ha
    have hb2 := hb1.grown hg (hne _ (by omega))
    by_cases e : Bt = w.heap.size + 2
    · exfalso
      have k1 := h1.cell 0
      have k2 := h.ko
      rw [e, h.ko] at k1
      have := h2.size
      have h5 := h2.at_ 0 0 (by decide) (by decide)
      rw [Nat.zero_mul, Nat.zero_add] at h5
      rw [h5] at k1
      cases k1
      rcases h.own.own.2 with ⟨e6, _⟩ | ⟨_, _, _, e6, _⟩ <;> cases e6
    · exact hb2.far (by simpa using e) _
  · rcases hat with h5 | h5
    · left; rw [← h5]; exact hx
    · rw [h5] at hx; cases hx; exact .inr ha.size
  · rw [List.mem_append, List.mem_singleton] at hy
    rcases hy with hy | rfl
    · exact .inl ⟨y, hy, hx⟩
    · exact .inr (hr x hx)
  · exact (Ext.trans (Ext.of_aft ha) (Ext.of_grown (E := fun k => k = w.heap.size + 2 ∨ vo.ownBlock = some k) hg (fun k hk => .inr hk)) (fun _ _ h => h)).trans (Ext.of_grown (row := some (w.heap.size + 2)) (only_setCell (only_refl _ _) (.inl rfl) _) (fun k hk => by cases hk; exact .inl rfl)) (fun _ _ h => h)
end

set_option maxRecDepth 100000 in
set_option maxHeartbeats 2000000 in
theorem follow_leaf (w : World) (T : Treaty) (a1 a2 a3 a4 : Option Addr) (c1 c2 c3 c4 : Nat) (f : Nat → Nat → Nat → Bool) (D Bt br most : Nat) (hd : Desk w D T a1 a2 a3 a4 c1 c2 c3 c4 f) (hl : T.legs.length ≤ 10) (hbr : w.heap.size + 2 < br) (hBt : Bt < br) (hmost : most ≤ 1000)
    (M : List (List Int)) (vo : Value) (vs : List Value) (g c : Nat) (line : List Int) (W : World) (hll : line.length = T.legs.length + 1) (hL : LB w T f D Bt br most M vo vs W) (hm : M.length ≤ most) (hML : ∀ l ∈ M, l.length ≤ 1000)
    (hown : W.ownsRow (br + 3) 3 1 (.slice (some ⟨g, 0, none⟩) line.length c) line.length (line.map (Value.int .i64))) (hclr : Clear vo vs g) :
    Calls Tryz.prog 116 #[.slice (some ⟨g, 0, none⟩) line.length c, .pointer (some ⟨w.heap.size, 0, none⟩), .pointer (some ⟨w.heap.size + 2, 0, none⟩), .pointer (some ⟨w.heap.size + 1, 0, none⟩), .pointer (some ⟨br + 1, 0, none⟩), .pointer (some ⟨br, 0, none⟩), .pointer (some ⟨br + 2, 0, none⟩)] W
      (FolR w T f D Bt br most M [line] vo vs g c line W) := by
  have HL := Lib.hid hL
  have HO := Lib.hid hown
  have HC := Lib.hid hclr
  have hgb := (hown.lt g rfl).1
  have hgw := (hown.lt g rfl).2
  have hLd := hL.desk hd
  have k4 := hLd.k4
  have kd := hL.kd
  have km := hL.km
  have kf := hL.kf
  have zf := hL.zf
  have hs := hL.size
  have e1 : M.take most = M := List.take_of_length_le hm
  have hOW := hL.own
  rw [e1] at hOW
  obtain ⟨A, co, rfl, _, hlists⟩ := hOW.lists (by omega) (fun l hl => by have := hML l hl; omega)
  have ko := hL.ko
  have HOW := Lib.hid hOW
  have HLL := Lib.hid hll
  have hll2 : ((line.length : Int) - 1 == (T.legs.length : Int)) = true := by simp; omega
  clear hL hown hclr hLd e1 hOW hlists
  have hline : line.length ≤ 11 := by omega
  clear hll
  by_cases hmm : M.length = most
  · have hb : ((M.length : Int) == (most : Int)) = true := by simp [hmm]
    have HM := Lib.hid hmm
    clear hmm
    go_enter Tryz.func116, Tryz.ntmps116
    go_wp2_with fail
    go_end0
    refine ⟨rfl, _, vs, HL.out.flag hbr hBt line HM.out, ownsRow_setCell_below HO.out (by simp) _, Fresh.refl _ _ _, ?_, HC.out⟩
    exact Ext.of_grown (row := some (br + 1)) (only_setCell (only_refl _ _) (.inl rfl) _) (fun k hk => by cases hk; exact .inr (.inl rfl))
  · have hb : ((M.length : Int) == (most : Int)) = false := by simp; omega
    have HM := Lib.hid (show M.length < most by omega)
    clear hmm
    go_enter Tryz.func116, Tryz.ntmps116
    have HL1 := Lib.hid (HL.out.noflag hbr hBt HM.out)
    have HG1 := Lib.hid (only_setCell (u := .bool false) (only_refl W (some (br + 1))) (p := ⟨br + 1, 0, none⟩) (.inl rfl))
    have HO1 := Lib.hid (ownsRow_setCell_below HO.out (a := ⟨br + 1, 0, none⟩) (by simp) (.bool false))
    go_wp2_with fail
    clear kf zf k4 kd km ko
    have hs1 := HL1.out.size
    generalize W.setCell ⟨br + 1, 0, none⟩ (.bool false) = W1 at *
    have ko1 : W1.drew.cell? ⟨w.heap.size + 2, 0, none⟩ = some (.slice A M.length co) := HL1.out.ko
    have zo1 : W1.drew.frozen? ⟨w.heap.size + 2, 0, none⟩ = false := HL1.out.zo
    have hx0 : w.heap.size + 2 < W1.drew.heap.size := by show w.heap.size + 2 < W1.heap.size; omega
    have HLD := Lib.hid (HL1.out.later hbr (Aft.drew W1))
    have HOD := Lib.hid (own_aft HO1.out (Aft.drew W1))
    have HG1D := Lib.hid (only_drew HG1.out)
    clear HL1 HO1 HG1
    have hs1d : br + 3 ≤ W1.drew.heap.size := hs1
    clear hs1
    obtain ⟨A1, d1, e, _, hi⟩ := own_ints HOD.out (by omega)
    cases e
    have HI := Lib.hid hi
    clear hi
    have hOW := HLD.out.own
    rw [List.take_of_length_le hm] at hOW
    have HOW1 := Lib.hid hOW
    clear hOW
    have hll1 : M.length ≤ 1000000 := by omega
    have hne : some (w.heap.size + 2) ≠ (Value.slice A M.length co).ownBlock := fun e => by have := (HOW1.out.own.lt _ e.symm).1; omega
    have HB1 := Lib.hid (show (M ++ [line]).length ≤ 17592186043904 by simp; omega)
    have HB2 := Lib.hid (show ∀ l ∈ M ++ [line], l.length ≤ 17592186043904 from fun l hl => by
      rw [List.mem_append, List.mem_singleton] at hl
      rcases hl with hl | rfl
      · have := hML l hl; omega
      · omega)
    go_region_law (first
      | (refine step_clone84 rfl _ rfl (A := some ⟨g, 0, none⟩) (l := line) (c := c) rfl rfl HI.out ?_; intro A' c' u hrow; have HROW := Lib.hid hrow; clear hrow; have ku := lat_keep W1.drew u hx0 ko1; have hu := Nat.lt_of_lt_of_le hx0 (W1.drew.lat_size u))
      | (refine step_app_list2 rfl _ _ rfl (W := W1.drew) HOW1.out hs1d rfl rfl (cell_new1 _ _ _) rfl ((Aft.lat _ _).then_alloc _) (own_aft HROW.out (Aft.alloc _ _)) hll1 ?_; intro v' w' hown' hgrow hat; obtain ⟨A2, d2, rfl, _, _⟩ := hown'.lists HB1.out HB2.out; have k9 := keep_grown ((Aft.lat _ _).then_alloc _) hgrow hx0 hne ko1; have z9 := keep_grown_z ((Aft.lat _ _).then_alloc _) hgrow hx0 hne zo1; have HOWN := Lib.hid hown'; have HGROW := Lib.hid hgrow; have HAT := Lib.hid hat; clear hown' hgrow hat))
    all_goals
      go_wp2_with fail
      go_end0
      obtain ⟨p1, p2, p3⟩ := HLD.out.pushed hbr hBt HM.out ((Aft.lat _ _).then_alloc _) HGROW.out HOWN.out HAT.out (fun x hx => (HROW.out.lt x hx).1)
      have hfin : (Value.slice A2 (M ++ [line]).length d2) = .slice A2 (M.length + 1) d2 := by simp
      rw [hfin] at p1 p2 p3
      have hE : Ext (FolE w br (Value.slice A M.length co) g) W W1.drew := Ext.of_grown HG1D.out (fun k hk => by cases hk; exact .inr (.inl rfl))
      have hE2 := hE.trans p3 (fun i _ h => h.elim .inl (fun h => .inr (.inr (.inl h))))
      have hfr : Fresh W (Value.slice A M.length co) vs (Value.slice A2 (M.length + 1) d2) (vs ++ [Value.slice A' line.length c']) := Fresh.trans (Fresh.refl _ _ _) p2 HG1D.out.size
      refine ⟨rfl, _, _, p1, ?_, hfr, hE2, hfr.clear hgw HC.out⟩
      refine Ext.own p3 HOD.out ?_
      rintro (h | h)
      · omega
      · exact HC.out.1 h
end Go.Proofs
end

section
/- Walks: lines, how the search goes on. -/
attribute [local go_sem ↓] Go.wp_at_zero Go.wp_at_succ
namespace Go.Proofs
open Go.RowKit

section
variable {w : World} {T : Treaty} {f : Nat → Nat → Nat → Bool} {D Bt br most : Nat} {M : List (List Int)} {vo : Value} {vs : List Value} {W W' : World}
theorem OwnLs.below {base : Nat} {v : Value} {vs : List Value} {ls : List (List Int)} (h : OwnLs W base v vs ls) {g : Nat} (hg : W.heap.size ≤ g) : Clear v vs g := by
  refine ⟨fun e => by have := (h.own.lt g e).2; omega, fun x hx e => ?_⟩
  obtain ⟨i, hi, rfl⟩ := List.mem_iff_getElem.1 hx
  have := ((h.rows i (by rw [← h.len]; exact hi) hi).lt g e).2
  omega
theorem LB.full (h : LB w T f D Bt br most M vo vs W) (hm : most < M.length) (L : List (List Int)) : LB w T f D Bt br most (M ++ L) vo vs W :=
  ⟨h.aft, h.size, h.kd, h.km, h.kr, by rw [h.kf, decide_eq_true hm, decide_eq_true (by simp; omega)], h.zf, h.kw, h.ko, h.zo, by rw [take_app hm]; exact h.own, h.tb⟩
theorem LB.of_eq (h : LB w T f D Bt br most M vo vs W) {M' : List (List Int)} (e : M = M') : LB w T f D Bt br most M' vo vs W := e ▸ h
end

/-- The state of the search, since a call of the closure began. -/
def FS (w : World) (T : Treaty) (f : Nat → Nat → Nat → Bool) (D Bt br most : Nat) (vo : Value) (vs : List Value) (g c : Nat) (line : List Int) (W : World) (M : List (List Int)) (vo' : Value) (vs' : List Value) (W' : World) : Prop :=
  LB w T f D Bt br most M vo' vs' W' ∧ W'.ownsRow (br + 3) 3 1 (.slice (some ⟨g, 0, none⟩) line.length c) line.length (line.map (Value.int .i64)) ∧ Fresh W vo vs vo' vs' ∧ Ext (FolE w br vo g) W W' ∧ Clear vo' vs' g

section
variable {w : World} {T : Treaty} {f : Nat → Nat → Nat → Bool} {D Bt br most : Nat} {M L : List (List Int)} {vo vo' vo2 : Value} {vs vs' vs2 : List Value} {g c : Nat} {line : List Int} {W X Y W1 W2 : World}
theorem FS.later (h : FS w T f D Bt br most vo vs g c line W M vo' vs' X) (hbr : w.heap.size + 2 < br) (ha : Aft X Y) : FS w T f D Bt br most vo vs g c line W M vo' vs' Y :=
  ⟨h.1.later hbr ha, own_aft h.2.1 ha, h.2.2.1, h.2.2.2.1.trans (Ext.of_aft (E := FolE w br vo g) ha) (fun _ _ h => h), h.2.2.2.2⟩
theorem FS.call (h : FS w T f D Bt br most vo vs g c line W M vo' vs' X) (hbr : w.heap.size + 2 < br) (hBt : Bt < br) {g' c' : Nat} (hgrow : X.grownBy W1 (some g))
    (hcase : (g' = g ∧ c' = c) ∨ (g' = X.heap.size ∧ X.grownBy W1 none)) : LB w T f D Bt br most M vo' vs' W1 ∧ Clear vo' vs' g' := by
  refine ⟨h.1.grown hbr hBt hgrow (h.2.1.lt g rfl).1 h.2.2.2.2, ?_⟩
  rcases hcase with ⟨rfl, _⟩ | ⟨rfl, _⟩
  · exact h.2.2.2.2
  · exact h.1.own.below (Nat.le_refl _)
theorem FS.next (h : FS w T f D Bt br most vo vs g c line W M vo' vs' X) (hbr : w.heap.size + 2 < br) {g' c' : Nat} {y : Int} (hgrow : X.grownBy W1 (some g))
    (hcase : (g' = g ∧ c' = c) ∨ (g' = X.heap.size ∧ X.grownBy W1 none)) {M' : List (List Int)} (k : FS w T f D Bt br most vo' vs' g' c' (line ++ [y]) W1 M' vo2 vs2 W2) : FS w T f D Bt br most vo vs g c line W M' vo2 vs2 W2 := by
  obtain ⟨h1, h2, h3, h4, h5⟩ := h
  obtain ⟨k1, k2, k3, k4, k5⟩ := k
  have hgb := (h2.lt g rfl)
  have hX : W.heap.size ≤ X.heap.size := h4.size
  have hX1 : X.heap.size ≤ W1.heap.size := hgrow.size
  have hfr : Fresh W vo vs vo2 vs2 := h3.trans k3 (by omega)
  have hext : Ext (FolE w br vo g) W W2 := by
    refine (h4.trans (Ext.of_grown (E := FolE w br vo g) hgrow (fun i hi => by cases hi; exact .inr (.inr (.inr rfl)))) (fun _ _ h => h)).trans k4 (fun i hi he => ?_)
    rcases he with he | he | he | he
    · exact .inl he
    · exact .inr (.inl he)
    · rcases h3.1 i he with h6 | h6
      · exact .inr (.inr (.inl h6))
      · omega
    · rcases hcase with ⟨e, _⟩ | ⟨e, _⟩
      · exact .inr (.inr (.inr (by omega)))
      · omega
  rcases hcase with ⟨rfl, rfl⟩ | ⟨rfl, hnone⟩
  · refine ⟨k1, own_less rfl (by simpa using k2), hfr, hext, k5⟩
  · have h6 : W1.ownsRow (br + 3) 3 1 (.slice (some ⟨g, 0, none⟩) line.length c) line.length (line.map (Value.int .i64)) := h2.kept hnone (by right; exact fun e => by cases e)
    refine ⟨k1, k4.own h6 ?_, hfr, hext, k3.clear (by omega) h5⟩
    rintro (e | e | e | e)
    · omega
    · omega
    · exact h5.1 e
    · omega
end
end Go.Proofs
end

section
/- Walks: lines, the closure whole. -/
attribute [local go_sem ↓] Go.wp_at_zero Go.wp_at_succ
namespace Go.Proofs
open Go.RowKit

def FolSpec (w : World) (T : Treaty) (f : Nat → Nat → Nat → Bool) (D Bt br most k : Nat) : Prop :=
  ∀ (line pre : List Int) (leg a : Nat) (g c : Nat) (M : List (List Int)) (vo : Value) (vs : List Value) (W : World), line = pre ++ [(a : Int)] → line.length = leg + 1 → leg + k = T.legs.length → a < T.places.toNat → LB w T f D Bt br most M vo vs W → M.length ≤ most → (∀ l ∈ M, l.length ≤ 1000) →
    W.ownsRow (br + 3) 3 1 (.slice (some ⟨g, 0, none⟩) line.length c) line.length (line.map (Value.int .i64)) → Clear vo vs g →
    Calls Tryz.prog 116 #[.slice (some ⟨g, 0, none⟩) (leg + 1) c, .pointer (some ⟨w.heap.size, 0, none⟩), .pointer (some ⟨w.heap.size + 2, 0, none⟩), .pointer (some ⟨w.heap.size + 1, 0, none⟩), .pointer (some ⟨br + 1, 0, none⟩), .pointer (some ⟨br, 0, none⟩), .pointer (some ⟨br + 2, 0, none⟩)] W
      (fun e W' => e = .returned (.tuple #[]) ∧ ∃ vo' vs', FS w T f D Bt br most vo vs g c line W (M ++ (linesFrom T f k leg a).map (pre ++ ·)) vo' vs' W')

theorem linesTo_split (T : Treaty) (f : Nat → Nat → Nat → Bool) (k leg a : Nat) (line : List Int) {j p : Nat} (h : j ≤ p) : ∃ L, linesTo T f k leg a line p = linesTo T f k leg a line j ++ L := by
  obtain ⟨d, rfl⟩ : ∃ d, p = j + d := ⟨p - j, by omega⟩
  induction d with
  | zero => exact ⟨[], by simp⟩
  | succ d ih =>
    obtain ⟨L, hL⟩ := ih (by omega)
    exact ⟨_, by rw [← Nat.add_assoc, linesTo_succ, hL, List.append_assoc]⟩

theorem linesTo_len {T : Treaty} {f : Nat → Nat → Nat → Bool} (k leg a : Nat) (line : List Int) (n : Nat) : ∀ l ∈ linesTo T f k leg a line n, l.length = line.length + (k + 1) := by
  intro l hl
  unfold linesTo at hl
  rw [List.mem_flatMap] at hl
  obtain ⟨b, _, h⟩ := hl
  by_cases hf : f leg a b = true
  · rw [if_pos hf, List.mem_map] at h
    obtain ⟨l', h1, rfl⟩ := h
    have := linesFrom_len k (leg + 1) b l' h1
    simp [this]
  · rw [if_neg hf] at h; cases h
theorem own_cast {w : World} {base : Nat} {A : Option Addr} {n m c : Nat} {xs : List Value} (e : n = m) (h : w.ownsRow base 3 1 (.slice A n c) n xs) : w.ownsRow base 3 1 (.slice A m c) m xs := e ▸ h

theorem fol_leaf (w : World) (T : Treaty) (a1 a2 a3 a4 : Option Addr) (c1 c2 c3 c4 : Nat) (f : Nat → Nat → Nat → Bool) (D Bt br most : Nat) (hd : Desk w D T a1 a2 a3 a4 c1 c2 c3 c4 f) (hl : T.legs.length ≤ 10) (hbr : w.heap.size + 2 < br) (hBt : Bt < br) (hmost : most ≤ 1000) : FolSpec w T f D Bt br most 0 := by
  intro line pre leg a g c M vo vs W hline hll hleg ha hL hm hML hown hclr
  have := follow_leaf w T a1 a2 a3 a4 c1 c2 c3 c4 f D Bt br most hd hl hbr hBt hmost M vo vs g c line W (by omega) hL hm hML hown hclr
  rw [hll] at this
  refine this.mono ?_
  rintro e W' ⟨rfl, vo', vs', h1, h2, h3, h4, h5⟩
  refine ⟨rfl, vo', vs', ?_, h2, h3, h4, h5⟩
  have e : (linesFrom T f 0 leg a).map (pre ++ ·) = [line] := by rw [hline]; rfl
  rw [e]; exact h1

set_option maxRecDepth 100000 in
set_option maxHeartbeats 2000000 in
theorem fol_step (w : World) (T : Treaty) (a1 a2 a3 a4 : Option Addr) (c1 c2 c3 c4 : Nat) (f : Nat → Nat → Nat → Bool) (D Bt br most : Nat) (hd : Desk w D T a1 a2 a3 a4 c1 c2 c3 c4 f) (hl : T.legs.length ≤ 10) (hp : T.places ≤ 12) (hp1 : 1 ≤ T.places) (hbr : w.heap.size + 2 < br) (hBt : Bt < br) (_hmost : most ≤ 1000) (k : Nat) (ih : FolSpec w T f D Bt br most k) : FolSpec w T f D Bt br most (k + 1) := by
  intro line pre leg a g c M vo vs W hline hll hleg ha hL hm hML hown hclr
  have IH := Lib.hid ih
  obtain ⟨p, hpp⟩ := Int.eq_ofNat_of_zero_le (show 0 ≤ T.places by omega)
  have hp12 : p ≤ 12 := by omega
  have hap : a < p := by rw [hpp] at ha; simpa using ha
  have HPP := Lib.hid hpp
  have HLL := Lib.hid hll
  have HLN := Lib.hid hline
  have hleg10 : leg < 10 := by omega
  have hln : leg < T.legs.length := by omega
  have HLG := Lib.hid hleg
  have HM := Lib.hid hm
  have HML := Lib.hid hML
  have hLd := hL.desk hd
  have k4 := hLd.k4
  have kd := hL.kd
  have hne : ((leg : Int) == (T.legs.length : Int)) = false := by simp; omega
  have HFS : Hid (FS w T f D Bt br most vo vs g c line W (M ++ linesTo T f k leg a line 0) vo vs W) := Lib.hid ⟨hL.of_eq (by simp [linesTo]), hown, Fresh.refl _ _ _, Ext.refl _ _, hclr⟩
  clear ih hpp hline hll hleg hm hML hL hown hclr hLd ha hp hp1
  go_enter Tryz.func116, Tryz.ntmps116
  go_wp2_with fail
  go_loopw [9] (fun b wr => ∃ j : Nat, b = .int .i64 j ∧ j ≤ p ∧ ∃ vo' vs', FS w T f D Bt br most vo vs g c line W (M ++ linesTo T f k leg a line j) vo' vs' wr) (fun b _ => p - (intOf b).toNat)
  case atStart => exact ⟨0, rfl, by omega, vo, vs, HFS.out⟩
  case round =>
    clear k4 kd HFS
    obtain ⟨j, rfl, hj, vo', vs', hfs⟩ := hrel
    have HFS := Lib.hid hfs
    have kd := hfs.1.kd
    have kf := hfs.1.kf
    have hD := hd.lt
    have hdk := hfs.1.desk hd
    have k0 := hdk.k0
    rw [HPP.out] at k0
    clear hfs hdk
    by_cases hjp : j < p
    · by_cases hfull : most < (M ++ linesTo T f k leg a line j).length
      · rw [decide_eq_true hfull] at kf
        have HF := Lib.hid hfull
        clear hfull
        go_wp2_with fail
        go_end0
        obtain ⟨L, hLs⟩ := linesTo_split T f k leg a line (show j ≤ p by omega)
        have hall := linesTo_all T f k leg a pre
        rw [← HLN.out, HPP.out, Int.toNat_natCast, hLs] at hall
        obtain ⟨h1, h2, h3, h4, h5⟩ := HFS.out
        refine ⟨rfl, vo', vs', ?_, h2, h3, h4, h5⟩
        rw [← hall, ← List.append_assoc]
        exact h1.full HF.out L
      · rw [decide_eq_false hfull] at kf
        have HF := Lib.hid hfull
        clear hfull
        go_wp2_with fail
        have hX := HFS.out.later hbr (Aft.drew wr)
        have HX := Lib.hid hX
        have kd1 : wr.drew.cell? ⟨w.heap.size, 0, none⟩ = some (.pointer (some ⟨D, 0, none⟩)) := kd
        have kr1 := hX.1.kr
        have hca := can_any D T a1 a2 a3 a4 c1 c2 c3 c4 f leg a j wr.drew (hX.1.desk hd) (by omega) (by omega) (by omega) (by omega) (by omega) (by omega)
        simp only [Int.toNat_natCast] at hca
        obtain ⟨tcs, tg, htb, htg, htv⟩ := hX.1.tb
        have hah := ahead1_any Bt tcs tg ((leg + 1 : Nat) : Int) j wr.drew htb htg (by omega) (by omega) (by omega) (by omega)
        simp only [Int.toNat_natCast] at hah
        rw [htv (leg + 1) j (by omega) (by rw [HPP.out]; simp; omega), show T.legs.length - (leg + 1) = k by have := HLG.out; omega] at hah
        obtain ⟨A1, d1, e, _, hi⟩ := own_ints hX.2.1 (by have := HLL.out; omega)
        cases e
        have hlt : leg < line.length := by have := HLL.out; omega
        obtain ⟨b', o', e, _, hcl⟩ := hi.at hlt
        cases e
        have cx : wr.drew.cell? ⟨g, leg, none⟩ = some (.int .i64 a) := by
          have h1 := hcl leg hlt
          have h2 : line[leg] = (a : Int) := by
            have h3 := HLN.out
            have h4 : leg = pre.length := by have := congrArg List.length h3; simp at this; have := HLL.out; omega
            subst h4
            simp [h3]
          rw [h2, Nat.zero_add] at h1
          exact h1
        have i1 : (0 : Int) ≤ (leg : Int) ∧ (leg : Int) < ((leg + 1 : Nat) : Int) := by omega
        have w1' : IntKind.i64.wrap ((leg : Int) + 1) = ((leg + 1 : Nat) : Int) := by rw [IntWalk.i64_in _ (by omega)]; omega
        have HSU := Lib.hid (linesTo_succ T f k leg a line j)
        have HNI := Lib.hid (linesFrom_nil (T := T) (f := f) k (leg + 1) j)
        clear hX htb htg htv hi hcl kd kf k0
        cases hf : f leg a j
        · rw [hf] at hca HSU
          have HCA := Lib.hid (hca.mono (R' := fun e w'' => e = .returned (.bool false) ∧ w'' = wr.drew) fun _ _ ⟨h1, h2⟩ => ⟨h1, h2.symm⟩)
          clear hf hca hah
          refine wp_region_tail 15 (by kernel_rfl) (by kernel_rfl) ?_
          simp only [List.take_succ_cons, List.take_zero, List.drop_succ_cons, List.drop_zero]
          repeat (first | go_big_quiet_skip | (go_big_quiet_want; go_big_quiet_op; go_big_quiet_on))
          (go_big_quiet_want; go_big_quiet_op; refine ⟨_, HCA.out, ?_⟩; go_big_quiet_on)
          repeat (first | go_big_quiet_skip | (go_big_quiet_want; go_big_quiet_op; go_big_quiet_on))
          refine wpQuiet_nil ?_
          clear w1'
          go_wp2_with fail
          refine ⟨⟨j + 1, by go_num, by omega, vo', vs', ?_⟩, by simp [intOf]; omega⟩
          rw [HSU.out]
          simpa using HX.out
        · rw [hf] at hca HSU
          have HCA := Lib.hid (hca.mono (R' := fun e w'' => e = .returned (.bool true) ∧ w'' = wr.drew) fun _ _ ⟨h1, h2⟩ => ⟨h1, h2.symm⟩)
          clear hf hca
          cases ha : ahd T f k (leg + 1) j
          all_goals
            rw [ha] at hah HNI
            have HCB := Lib.hid (hah.mono (R' := fun e w'' => e = .returned (.bool _) ∧ w'' = wr.drew) fun _ _ ⟨h1, h2⟩ => ⟨h1, h2.symm⟩)
            clear ha hah
            refine wp_region_tail 15 (by kernel_rfl) (by kernel_rfl) ?_
            simp only [List.take_succ_cons, List.take_zero, List.drop_succ_cons, List.drop_zero]
            repeat (first | go_big_quiet_skip | (go_big_quiet_want; go_big_quiet_op; go_big_quiet_on))
            (go_big_quiet_want; go_big_quiet_op; refine ⟨_, HCA.out, ?_⟩; go_big_quiet_on)
            repeat (first | go_big_quiet_skip | (go_big_quiet_want; go_big_quiet_op; go_big_quiet_on))
            (go_big_quiet_want; go_big_quiet_op; refine ⟨_, HCB.out, ?_⟩; go_big_quiet_on)
            repeat (first | go_big_quiet_skip | (go_big_quiet_want; go_big_quiet_op; go_big_quiet_on))
            refine wpQuiet_nil ?_
            clear w1' cx kd1 kr1
          · go_wp2_with fail
            refine ⟨⟨j + 1, by go_num, by omega, vo', vs', ?_⟩, by simp [intOf]; omega⟩
            rw [HSU.out, HNI.out.1 rfl]
            simpa using HX.out
          · go_wp2_with fail
            have hX2 := HX.out.later hbr (Aft.drew _)
            have HY := Lib.hid (HFS.out.later hbr (((Aft.alloc _ (.cells #[.int .i64 j] 3)).then_drew).then_drew))
            have kw2 := hX2.1.kw
            have k8 := HY.out.1.kw
            have kn : ((wr.alloc (.cells #[.int .i64 j] 3)).drew.drew).cell? ⟨wr.heap.size, 0, none⟩ = some (.int .i64 j) := by simp
            have KN := Lib.hid kn
            clear kn
            have HOY := Lib.hid (own_cast HLL.out HY.out.2.1)
            have hsy : br + 3 ≤ ((wr.alloc (.cells #[.int .i64 j] 3)).drew.drew).heap.size := HY.out.1.size
            have A1 := Lib.hid (show (line ++ [(j : Int)]).length = leg + 1 + 1 by have := HLL.out; simp; omega)
            have A2 := Lib.hid (show leg + 1 + k = T.legs.length by have := HLG.out; omega)
            have A3 := Lib.hid (show j < T.places.toNat by rw [HPP.out]; simpa using hjp)
            have A4 := Lib.hid (show (M ++ linesTo T f k leg a line j).length ≤ most by have := HF.out; omega)
            have A5 := Lib.hid (show ∀ l ∈ M ++ linesTo T f k leg a line j, l.length ≤ 1000 from fun l hl => by
              rw [List.mem_append] at hl
              rcases hl with hl | hl
              · exact HML.out l hl
              · have := linesTo_len k leg a line j l hl; have := HLL.out; have := HLG.out; omega)
            have hleg1 : leg + 1 ≤ 1000000 := by omega
            have HIH := Lib.hid (fun (g' c' : Nat) (w' : World) (h : LB w T f D Bt br most (M ++ linesTo T f k leg a line j) vo' vs' w') (ho : w'.ownsRow (br + 3) 3 1 (.slice (some ⟨g', 0, none⟩) (line ++ [(j : Int)]).length c') (line ++ [(j : Int)]).length ((line ++ [(j : Int)]).map (Value.int .i64))) (hc : Clear vo' vs' g') => IH.out (line ++ [(j : Int)]) line (leg + 1) j g' c' _ vo' vs' w' rfl A1.out A2.out A3.out h A4.out A5.out ho hc)
            clear hX2
            have hz2 : br + 2 < wr.drew.drew.heap.size := by have := HX.out.1.size; show br + 2 < wr.drew.heap.size; omega
            go_region_held3 (fun w' => w'.cell? ⟨br + 2, 0, none⟩ = some (.func (.func 116) #[] #[.pointer (some ⟨w.heap.size, 0, none⟩), .pointer (some ⟨w.heap.size + 2, 0, none⟩), .pointer (some ⟨w.heap.size + 1, 0, none⟩), .pointer (some ⟨br + 1, 0, none⟩), .pointer (some ⟨br, 0, none⟩), .pointer (some ⟨br + 2, 0, none⟩)])) (first | exact k10 | exact k9 | exact k8 | go_keep)
              (first
                | (refine step_push2 rfl _ _ rfl HOY.out hsy rfl rfl KN.out hleg1 ?_; intro g' c' w' hown' hgrow hcase; have hcall := HY.out.call hbr hBt hgrow hcase; have k9 := hcall.1.kw; have HG := Lib.hid hgrow; have HCS := Lib.hid hcase; have HCALL := Lib.hid hcall; have HOWN := Lib.hid (own_cast A1.out.symm hown'); clear hown' hgrow hcase hcall)
                | (go_at_call 116; have hq := HIH.out g' c' w' HCALL.out.1 HOWN.out HCALL.out.2; refine Calls.mono hq ?_; clear hq; rintro e w2 ⟨rfl, vo2, vs2, hfs2⟩; have hn := HY.out.next hbr HG.out HCS.out hfs2; have k10 := hn.1.kw; have HN := Lib.hid hn; clear hn hfs2))
            go_wp2_with fail
            refine ⟨⟨j + 1, by go_num, by omega, vo2, vs2, ?_⟩, by simp [intOf]; omega⟩
            rw [HSU.out, if_pos trivial, ← List.append_assoc]
            exact HN.out
    · obtain rfl : j = p := by omega
      go_wp2_with fail
      go_end0
      have hall := linesTo_all T f k leg a pre
      rw [← HLN.out, HPP.out, Int.toNat_natCast] at hall
      rw [← hall]
      exact ⟨rfl, vo', vs', HFS.out⟩
end Go.Proofs
end

section
/- Walks: lines. -/
attribute [local go_sem ↓] Go.wp_at_zero Go.wp_at_succ
namespace Go.Proofs
open Go.RowKit

theorem fol_all (w : World) (T : Treaty) (a1 a2 a3 a4 : Option Addr) (c1 c2 c3 c4 : Nat) (f : Nat → Nat → Nat → Bool) (D Bt br most : Nat) (hd : Desk w D T a1 a2 a3 a4 c1 c2 c3 c4 f) (hl : T.legs.length ≤ 10) (hp : T.places ≤ 12) (hp1 : 1 ≤ T.places) (hbr : w.heap.size + 2 < br) (hBt : Bt < br) (hmost : most ≤ 1000) (k : Nat) : FolSpec w T f D Bt br most k := by
  induction k with
  | zero => exact fol_leaf w T a1 a2 a3 a4 c1 c2 c3 c4 f D Bt br most hd hl hbr hBt hmost
  | succ k ih => exact fol_step w T a1 a2 a3 a4 c1 c2 c3 c4 f D Bt br most hd hl hp hp1 hbr hBt hmost k ih

/-- lines that begin at the first of the starts -/
def linesS (T : Treaty) (f : Nat → Nat → Nat → Bool) (k : Nat) : List (List Int) := (T.starts.take k).flatMap fun s => linesFrom T f T.legs.length 0 s.toNat
theorem linesS_succ (T : Treaty) (f : Nat → Nat → Nat → Bool) (k : Nat) (h : k < T.starts.length) : linesS T f (k + 1) = linesS T f k ++ linesFrom T f T.legs.length 0 T.starts[k].toNat := by
  unfold linesS; rw [List.take_succ_eq_append_getElem h, List.flatMap_append]; simp
theorem linesS_len {T : Treaty} {f : Nat → Nat → Nat → Bool} (k : Nat) : ∀ l ∈ linesS T f k, l.length = T.legs.length + 1 := by
  intro l hl
  unfold linesS at hl
  rw [List.mem_flatMap] at hl
  obtain ⟨s, _, h⟩ := hl
  exact linesFrom_len _ _ _ _ h

theorem aft_cell' {W W' : World} (h : Aft W W') {b i : Nat} (hb : b < W.heap.size) : W'.cell? ⟨b, i, none⟩ = W.cell? ⟨b, i, none⟩ := by obtain ⟨u, rfl⟩ := h; exact World.lat_cell _ _ _ _ hb
theorem aft_frozen' {W W' : World} (h : Aft W W') {b i : Nat} (hb : b < W.heap.size) : W'.frozen? ⟨b, i, none⟩ = W.frozen? ⟨b, i, none⟩ := by obtain ⟨u, rfl⟩ := h; exact World.lat_frozen _ _ _ _ hb

theorem own_one (W : World) (x : Int) {base : Nat} (h : base ≤ W.heap.size) : (W.alloc (.cells #[.int .i64 x] 3)).ownsRow base 3 1 (.slice (some ⟨W.heap.size, 0, none⟩) [x].length 1) [x].length ([x].map (Value.int .i64)) :=
  ⟨rfl, .inr ⟨W.heap.size, 1, #[.int .i64 x], rfl, h, heap_alloc_new W _, Nat.le_refl _, by unfold maxLen; omega, rfl, rfl⟩⟩

/-- What lines answers. -/
def LinesD (w : World) (T : Treaty) (f : Nat → Nat → Nat → Bool) (most : Nat) (e : Ending) (w' : World) : Prop :=
  Aft w w' ∧ ∃ v, e = .returned (.tuple #[v, .bool (decide ((linesL T f).length ≤ most))]) ∧ OwnLists w' w.heap.size v ((linesL T f).take most)

set_option maxRecDepth 100000 in
set_option maxHeartbeats 2000000 in
theorem linesD_any (w : World) (T : Treaty) (a1 a2 a3 a4 : Option Addr) (c1 c2 c3 c4 : Nat) (f : Nat → Nat → Nat → Bool) (D most : Nat) (hd : Desk w D T a1 a2 a3 a4 c1 c2 c3 c4 f) (hs : Ints w a3 T.starts) (hst : ∀ s ∈ T.starts, 0 ≤ s ∧ s < T.places) (hl : T.legs.length ≤ 10) (hp : T.places ≤ 12) (hp1 : 1 ≤ T.places) (hmost : most ≤ 1000) :
    Calls Tryz.prog 56 #[.pointer (some ⟨D, 0, none⟩), .int .i64 most] w (LinesD w T f most) := by
  have hD := hd.lt
  have HAH := Lib.hid (fun (W : World) (h : Aft w W) => ahead_any D T a1 a2 a3 a4 c1 c2 c3 c4 f W (hd.aft h) hp1 hp hl)
  have HFO := Lib.hid (fun (Bt br : Nat) (h1 : w.heap.size + 2 < br) (h2 : Bt < br) => fol_all w T a1 a2 a3 a4 c1 c2 c3 c4 f D Bt br most hd hl hp hp1 h1 h2 hmost T.legs.length)
  have HST := Lib.hid hst
  have hsl := hs.len
  clear hst
  go_enter Tryz.func56, Tryz.ntmps56
  go_wp2_with fail
  refine (HAH.out _ (((Aft.alloc _ _).then_alloc _).then_alloc _)).mono ?_
  rintro e w1 ⟨B, cs, g, rfl, hb, hg, hgf, hB, ha⟩
  have HB := Lib.hid hb
  have HG := Lib.hid hg
  have HGF := Lib.hid hgf
  have HA := Lib.hid ha
  have x0 : w1.cell? ⟨w.heap.size, 0, none⟩ = some (.pointer (some ⟨D, 0, none⟩)) := (aft_cell' (b := w.heap.size) (i := 0) ha (by simp; omega)).trans (by simp [go_sem])
  have l0 : w.heap.size < w1.heap.size := Nat.lt_of_lt_of_le (by simp <;> omega) ha.size
  have x3 : w1.cell? ⟨D, 3, none⟩ = some (.slice a3 T.starts.length c3) := (aft_cell' ((((Aft.alloc w _).then_alloc _).then_alloc _).trans ha) hD).trans hd.k3
  have l3 : D < w1.heap.size := by omega
  clear hb hg hgf ha
  have hw1 : Aft w w1 := (((Aft.alloc w _).then_alloc _).then_alloc _).trans HA.out
  have hB3 : w.heap.size + 3 ≤ B := by simpa using hB
  have hBl := HB.out.lt
  have hbr : w.heap.size + 2 < w1.heap.size := by omega
  have y1 : w1.cell? ⟨w.heap.size + 1, 0, none⟩ = some (.int .i64 most) := (aft_cell' (b := w.heap.size + 1) (i := 0) HA.out (by simp)).trans (by simp [go_sem])
  have y2 : w1.cell? ⟨w.heap.size + 2, 0, none⟩ = some (.slice none 0 0) := (aft_cell' (b := w.heap.size + 2) (i := 0) HA.out (by simp)).trans (by simp [go_sem])
  have z2 : w1.frozen? ⟨w.heap.size + 2, 0, none⟩ = false := (aft_frozen' (b := w.heap.size + 2) (i := 0) HA.out (by simp)).trans (by simp [go_sem])
  have hLB : LB w T f D B w1.heap.size most (linesS T f 0) (.slice none 0 0) [] (((w1.alloc (.cells #[.func (.func 110) #[] #[.pointer (some ⟨B, 0, none⟩)]] 95)).alloc (.cells #[.bool false] 4)).alloc (.cells #[.func (.func 116) #[] #[.pointer (some ⟨w.heap.size, 0, none⟩), .pointer (some ⟨w.heap.size + 1 + 1, 0, none⟩), .pointer (some ⟨w.heap.size + 1, 0, none⟩), .pointer (some ⟨w1.heap.size + 1, 0, none⟩), .pointer (some ⟨w1.heap.size, 0, none⟩), .pointer (some ⟨w1.heap.size + 1 + 1, 0, none⟩)]] 149)) := by
    have h1 := ((Aft.alloc w1 (.cells #[.func (.func 110) #[] #[.pointer (some ⟨B, 0, none⟩)]] 95)).then_alloc (.cells #[.bool false] 4)).then_alloc (.cells #[.func (.func 116) #[] #[.pointer (some ⟨w.heap.size, 0, none⟩), .pointer (some ⟨w.heap.size + 1 + 1, 0, none⟩), .pointer (some ⟨w.heap.size + 1, 0, none⟩), .pointer (some ⟨w1.heap.size + 1, 0, none⟩), .pointer (some ⟨w1.heap.size, 0, none⟩), .pointer (some ⟨w1.heap.size + 1 + 1, 0, none⟩)]] 149)
    refine ⟨hw1.trans h1, by simp, (aft_cell' h1 l0).trans x0, (aft_cell' h1 (by omega)).trans y1, by simp [go_sem], by simp [go_sem, linesS], by simp [go_sem], by simp [go_sem], (aft_cell' h1 (by omega)).trans y2, (aft_frozen' h1 (by omega)).trans z2, ?_, cs, g, HB.out.aft h1, HG.out, HGF.out⟩
    have e : (linesS T f 0).take most = [] := by simp [linesS]
    rw [e]
    exact OwnLs.nil
  go_upto_region 6 with (fail)
  have HLB := Lib.hid hLB
  have kd := hLB.kd
  have hA2 := hLB.aft
  clear hLB y1 y2 z2 x0 x3
  generalize (((w1.alloc (.cells #[.func (.func 110) #[] #[.pointer (some ⟨B, 0, none⟩)]] 95)).alloc (.cells #[.bool false] 4)).alloc (.cells #[.func (.func 116) #[] #[.pointer (some ⟨w.heap.size, 0, none⟩), .pointer (some ⟨w.heap.size + 1 + 1, 0, none⟩), .pointer (some ⟨w.heap.size + 1, 0, none⟩), .pointer (some ⟨w1.heap.size + 1, 0, none⟩), .pointer (some ⟨w1.heap.size, 0, none⟩), .pointer (some ⟨w1.heap.size + 1 + 1, 0, none⟩)]] 149)) = W2 at *
  have x3 : W2.cell? ⟨D, 3, none⟩ = some (.slice a3 T.starts.length c3) := (aft_cell' hA2 hD).trans hd.k3
  generalize w1.heap.size = br at *
  go_wp2_with fail
  clear x3 kd
  go_loopw [21] (fun i wr => ∃ k : Nat, i = .int .i64 k ∧ k ≤ T.starts.length ∧ ∃ vo vs, LB w T f D B br most (linesS T f k) vo vs wr) (fun i _ => T.starts.length - (intOf i).toNat)
  case atStart => exact ⟨0, rfl, by omega, _, _, HLB.out⟩
  case round =>
    clear HLB hA2
    obtain ⟨k, rfl, hk, vo, vs, hlb⟩ := hrel
    have HLB := Lib.hid hlb
    have kf := hlb.kf
    have kr := hlb.kr
    have kw : wr.cell? ⟨br + 1 + 1, 0, none⟩ = some (.func (.func 116) #[] #[.pointer (some ⟨w.heap.size, 0, none⟩), .pointer (some ⟨w.heap.size + 2, 0, none⟩), .pointer (some ⟨w.heap.size + 1, 0, none⟩), .pointer (some ⟨br + 1, 0, none⟩), .pointer (some ⟨br, 0, none⟩), .pointer (some ⟨br + 2, 0, none⟩)]) := hlb.kw
    have hsz := hlb.size
    clear hlb
    by_cases hkl : k < T.starts.length
    · obtain ⟨bs, os, rfl, hbs, hcs⟩ := (hs.aft HLB.out.aft).at hkl
      have cS := hcs k hkl
      obtain ⟨q1, q2⟩ := HST.out _ (List.getElem_mem hkl)
      obtain ⟨x, hx⟩ := Int.eq_ofNat_of_zero_le q1
      have HSU := Lib.hid (linesS_succ T f k hkl)
      have HX := Lib.hid hx
      rw [hx] at cS
      have hxp : x < T.places.toNat := by omega
      have hx12 : x < 12 := by omega
      clear hcs q1 q2 hx
      by_cases hfull : most < (linesS T f k).length
      · rw [decide_eq_true hfull] at kf
        have HF := Lib.hid hfull
        clear hfull
        go_wp2_with fail
        refine ⟨⟨k + 1, by go_num, by omega, vo, vs, ?_⟩, by simp [intOf]; omega⟩
        rw [HSU.out]
        exact HLB.out.full HF.out _
      · rw [decide_eq_false hfull] at kf
        have HF := Lib.hid hfull
        clear hfull
        obtain ⟨tcs, tg, htb, htg, htv⟩ := HLB.out.tb
        have hah := ahead1_any B tcs tg 0 x wr htb htg (by omega) (by omega) (by omega) (by omega)
        simp only [Int.toNat_natCast, Int.toNat_zero] at hah
        rw [htv 0 x (by omega) hxp, Nat.sub_zero] at hah
        have HNI := Lib.hid (linesFrom_nil (T := T) (f := f) T.legs.length 0 x)
        clear htb htg htv
        cases ha : ahd T f T.legs.length 0 x
        · rw [ha] at hah HNI
          have HCB := Lib.hid hah
          clear ha hah
          go_wp2_with (go_at_call 110; refine HCB.out.mono ?_; rintro e w' ⟨rfl, rfl⟩)
          refine ⟨⟨k + 1, by go_num, by omega, vo, vs, ?_⟩, by simp [intOf]; omega⟩
          rw [HSU.out, HX.out, Int.toNat_natCast, HNI.out.1 trivial, List.append_nil]
          exact HLB.out
        · rw [ha] at hah HNI
          have HCB := Lib.hid hah
          clear ha hah
          have HLB2 := Lib.hid (HLB.out.later hbr (Aft.alloc _ (.cells #[.int .i64 x] 3)))
          have HOW := Lib.hid (own_one wr (x : Int) (show br + 3 ≤ wr.heap.size from hsz))
          have HIH := Lib.hid (HFO.out B br hbr hBl [(x : Int)] [] 0 x wr.heap.size 1 (linesS T f k) vo vs (wr.alloc (.cells #[.int .i64 x] 3)) rfl rfl (by omega) hxp HLB2.out (by have := HF.out; omega) (fun l hl => by have := linesS_len k l hl; omega) HOW.out (HLB.out.own.below (Nat.le_refl _)))
          go_wp2_with (first
            | (go_at_call 110; refine HCB.out.mono ?_; rintro e w' ⟨rfl, rfl⟩)
            | (go_at_call 116; have hq := HIH.out; refine Calls.mono hq ?_; clear hq; rintro e w' ⟨rfl, vo2, vs2, hfs⟩; have HN := Lib.hid hfs.1; clear hfs))
          refine ⟨⟨k + 1, by go_num, by omega, vo2, vs2, ?_⟩, by simp [intOf]; omega⟩
          rw [HSU.out, HX.out, Int.toNat_natCast]
          simpa using HN.out
    · obtain rfl : k = T.starts.length := by omega
      have hall : linesS T f T.starts.length = linesL T f := by unfold linesS linesL; rw [List.take_of_length_le (Nat.le_refl _)]
      rw [hall] at HLB kf
      have ko : wr.drew.cell? ⟨w.heap.size + 1 + 1, 0, none⟩ = some vo := HLB.out.ko
      have kf1 : wr.drew.cell? ⟨br + 1, 0, none⟩ = some (.bool (decide (most < (linesL T f).length))) := kf
      have HDE := Lib.hid (show (!decide (most < (linesL T f).length)) = decide ((linesL T f).length ≤ most) by rw [Bool.eq_iff_iff]; simp)
      clear hall kf kr kw
      generalize decide (most < (linesL T f).length) = fl at *
      go_wp2_with fail
      go_region
      all_goals
        go_wp2_with fail
        go_ret2
        refine ⟨HLB.out.aft.then_drew, vo, by rw [← HDE.out]; rfl, OwnLists.mono ⟨vs, HLB.out.own.aft (Aft.drew _)⟩ (by omega)⟩
end Go.Proofs
end

section
/- Walks: Lines. -/
attribute [local go_sem ↓] Go.wp_at_zero Go.wp_at_succ
namespace Go.Proofs
open Go.RowKit

noncomputable def linesE (T : Treaty) (R : List Int) : Int := if readE T R = 0 then (if (linesL T (leadsF T R)).length ≤ 200 then 0 else 11) else readE T R
/-- What Lines answers. -/
def LinesR (w : World) (T : Treaty) (R : List Int) (e : Ending) (w' : World) : Prop :=
  Aft w w' ∧ ((linesE T R ≠ 0 ∧ e = .returned (.tuple #[.slice none 0 0, .int .i64 (linesE T R)])) ∨ (linesE T R = 0 ∧ ∃ v, e = .returned (.tuple #[v, .int .i64 0]) ∧ OwnLists w' w.heap.size v (linesL T (leadsF T R))))

set_option maxHeartbeats 1000000 in
theorem lines_any (w : World) (T : Treaty) (a1 a2 a3 a4 : Option Addr) (c1 c2 c3 c4 : Nat) (R : List Int) (AR : Option Addr) (cR : Nat) (hT : TRep w T a1 a2 a3 a4) (hR : Ints w AR R) :
    Calls Tryz.prog 31 #[.agg #[.int .i64 T.places, .slice a1 T.ways.length c1, .slice a2 T.words.length c2, .slice a3 T.starts.length c3, .slice a4 T.legs.length c4], .slice AR R.length cR] w (LinesR w T R) := by
  by_cases hre : readE T R = 0
  · have HC := Lib.hid (read_good (c1 := c1) (c2 := c2) (c3 := c3) (c4 := c4) (cR := cR) hT hR hre)
    have ok := checkE_ok (readE_zero.1 hre).1
    have HLD := Lib.hid (fun (W : World) (D : Nat) (cs : Array Value) (h : Rd w T a1 a2 a3 a4 c1 c2 c3 c4 R D cs W) => linesD_any W T a1 a2 a3 a4 c1 c2 c3 c4 (leadsF T R) D 200 h.desk (hT.starts.aft h.aft) ok.starts ok.nlegs ok.p2 ok.p1 (by decide))
    have HRE := Lib.hid hre
    clear hre ok
    by_cases hl : (linesL T (leadsF T R)).length ≤ 200
    · have HL := Lib.hid hl
      have HDE := Lib.hid (decide_eq_true hl)
      clear hl
      go_enter Tryz.func31, Tryz.ntmps31
      go_wp2_with (first
        | (go_at_call 69; refine HC.out.mono ?_; rintro e w1 ⟨D, cs, rfl, hrd⟩; have HRD := Lib.hid hrd; clear hrd)
        | (go_at_call 56; have hq := HLD.out _ _ _ HRD.out; refine Calls.mono hq ?_; clear hq; rintro e w2 ⟨ha, v, rfl, hown⟩; have HOWN := Lib.hid hown; clear hown; rw [HDE.out]))
      go_ret2
      have hE : linesE T R = 0 := by unfold linesE; rw [if_pos HRE.out, if_pos HL.out]
      have ho := HOWN.out
      rw [List.take_of_length_le HL.out] at ho
      exact ⟨HRD.out.aft.trans ha, .inr ⟨hE, v, rfl, ho.mono HRD.out.aft.size⟩⟩
    · have HL := Lib.hid hl
      have HDE := Lib.hid (decide_eq_false hl)
      clear hl
      go_enter Tryz.func31, Tryz.ntmps31
      go_wp2_with (first
        | (go_at_call 69; refine HC.out.mono ?_; rintro e w1 ⟨D, cs, rfl, hrd⟩; have HRD := Lib.hid hrd; clear hrd)
        | (go_at_call 56; have hq := HLD.out _ _ _ HRD.out; refine Calls.mono hq ?_; clear hq; rintro e w2 ⟨ha, v, rfl, hown⟩; clear hown; rw [HDE.out]))
      go_ret2
      have hE : linesE T R = 11 := by unfold linesE; rw [if_pos HRE.out, if_neg HL.out]
      exact ⟨HRD.out.aft.trans ha, .inl ⟨by rw [hE]; decide, by rw [hE]; rfl⟩⟩
  · have hb : (readE T R != 0) = true := by simpa using hre
    have HC := Lib.hid (read_bad (c1 := c1) (c2 := c2) (c3 := c3) (c4 := c4) (cR := cR) hT hR hre)
    have HRE := Lib.hid hre
    clear hre
    go_enter Tryz.func31, Tryz.ntmps31
    go_wp2_with (go_at_call 69; refine HC.out.mono ?_; rintro e w' ⟨rfl, ha⟩)
    go_ret2
    have hE : linesE T R = readE T R := if_neg HRE.out
    exact ⟨ha, .inl ⟨by rw [hE]; exact HRE.out, by rw [hE]; rfl⟩⟩
end Go.Proofs
end

section
/- Plain: where the legs of a small treaty lead, reckoned; the treaty of example 1. -/
namespace Go.Proofs

/-- one can go along so many ways and one more -/
def reachN (E : Int → Int → Bool) (p : Nat) : Nat → Nat → Nat → Bool
  | 0, a, b => E a b
  | n + 1, a, b => E a b || (List.range p).any fun c => E a c && reachN E p n c b
def closedB (E : Int → Int → Bool) (p n : Nat) : Bool := (List.range p).all fun a => (List.range p).all fun b => (!E a b || reachN E p n a b) && (List.range p).all fun c => !(E a b && reachN E p n b c) || reachN E p n a c
theorem reachN_sound {E : Int → Int → Bool} {p : Nat} : ∀ (n a b : Nat), reachN E p n a b = true → ReachP E a b
  | 0, _, _, h => .one h
  | n + 1, a, b, h => by
    unfold reachN at h
    rw [Bool.or_eq_true, List.any_eq_true] at h
    rcases h with h | ⟨c, _, h⟩
    · exact .one h
    · rw [Bool.and_eq_true] at h
      exact .step h.1 (reachN_sound n c b h.2)
theorem reachN_all {E : Int → Int → Bool} {p n : Nat} (hE : ∀ a b, E a b = true → 0 ≤ a ∧ a < p ∧ 0 ≤ b ∧ b < p) (hc : closedB E p n = true) {a b : Int} (h : ReachP E a b) : ∃ x y : Nat, a = x ∧ b = y ∧ x < p ∧ y < p ∧ reachN E p n x y = true := by
  unfold closedB at hc
  simp only [List.all_eq_true, List.mem_range, Bool.and_eq_true, Bool.or_eq_true, Bool.not_eq_true'] at hc
  induction h with
  | @one a b he =>
    obtain ⟨h1, h2, h3, h4⟩ := hE _ _ he
    obtain ⟨x, rfl⟩ := Int.eq_ofNat_of_zero_le h1
    obtain ⟨y, rfl⟩ := Int.eq_ofNat_of_zero_le h3
    refine ⟨x, y, rfl, rfl, by omega, by omega, ?_⟩
    rcases (hc x (by omega) y (by omega)).1 with h | h
    · rw [he] at h; cases h
    · exact h
  | @step a b c he _ ih =>
    obtain ⟨y, z, hy, hz, hy', hz', ih⟩ := ih
    subst hy hz
    obtain ⟨h1, h2, h3, h4⟩ := hE _ _ he
    obtain ⟨x, rfl⟩ := Int.eq_ofNat_of_zero_le h1
    refine ⟨x, z, rfl, rfl, by omega, hz', ?_⟩
    rcases (hc x (by omega) y hy').2 z hz' with h | h
    · rw [he, ih] at h; cases h
    · exact h

/-- whether a leg leads from a place to another one, reckoned -/
def leadsC (T : Treaty) (R : List Int) (n i a b : Nat) : Bool := match T.legs[i]? with
  | some l => decide (a < T.places.toNat) && reachN (edgeB T.ways (kindsAt T R l)) T.places.toNat n a b && hasB (endsAt T R l) b
  | none => false
def legsClosed (T : Treaty) (R : List Int) (n : Nat) : Bool := T.legs.all fun l => closedB (edgeB T.ways (kindsAt T R l)) T.places.toNat n
theorem edge_range {T : Treaty} (hw : ∀ x ∈ T.ways, 0 ≤ x.a ∧ x.a < T.places ∧ 0 ≤ x.b ∧ x.b < T.places) {ks : List Int} (a b : Int) (h : edgeB T.ways ks a b = true) : 0 ≤ a ∧ a < (T.places.toNat : Int) ∧ 0 ≤ b ∧ b < (T.places.toNat : Int) := by
  unfold edgeB at h
  obtain ⟨x, hx, h⟩ := List.any_eq_true.1 h
  obtain ⟨h1, h2, h3, h4⟩ := hw x hx
  unfold joins at h
  simp only [Bool.and_eq_true, Bool.or_eq_true, decide_eq_true_eq] at h
  omega
theorem leadsF_eq {T : Treaty} {R : List Int} (n : Nat) (hw : ∀ x ∈ T.ways, 0 ≤ x.a ∧ x.a < T.places ∧ 0 ≤ x.b ∧ x.b < T.places) (hc : legsClosed T R n = true) : leadsF T R = leadsC T R n := by
  funext i a b
  rw [Bool.eq_iff_iff, leadsF_iff]
  unfold LeadsP leadsC
  constructor
  · rintro ⟨h, h1, h2, h3⟩
    rw [List.getElem?_eq_getElem h]
    obtain ⟨x, y, hx, hy, _, _, h4⟩ := reachN_all (edge_range hw) (List.all_eq_true.1 hc _ (List.getElem_mem h)) h2
    have hx' : a = x := by omega
    have hy' : b = y := by omega
    subst hx' hy'
    simp [h1, h4, h3]
  · intro h
    cases hl : T.legs[i]? with
    | none => rw [hl] at h; cases h
    | some l =>
      rw [hl] at h
      obtain ⟨hi, e⟩ := List.getElem?_eq_some_iff.1 hl
      simp only [Bool.and_eq_true, decide_eq_true_eq] at h
      exact ⟨hi, h.1.1, by rw [e]; exact reachN_sound n a b h.1.2, by rw [e]; exact h.2⟩

/-- the treaty of example 1, and with a leg that is told in the other language, too -/
def T4 : Treaty := ⟨4, [⟨0, 1, 0⟩, ⟨1, 2, 0⟩, ⟨1, 3, 1⟩, ⟨2, 3, 2⟩], [[⟨[0], [1, 2]⟩, ⟨[1], [3]⟩], [⟨[1, 2], [3]⟩]], [0], [⟨0, -1⟩, ⟨1, -1⟩]⟩
def T5 : Treaty := ⟨4, [⟨0, 1, 0⟩, ⟨1, 2, 0⟩, ⟨1, 3, 1⟩, ⟨2, 3, 2⟩], [[⟨[0], [1, 2]⟩, ⟨[1], [3]⟩], [⟨[1, 2], [3]⟩]], [0], [⟨0, 1⟩, ⟨1, -1⟩]⟩
theorem ways4 : ∀ x ∈ T4.ways, 0 ≤ x.a ∧ x.a < T4.places ∧ 0 ≤ x.b ∧ x.b < T4.places := by decide
theorem ways5 : ∀ x ∈ T5.ways, 0 ≤ x.a ∧ x.a < T5.places ∧ 0 ≤ x.b ∧ x.b < T5.places := by decide
theorem f400 : leadsF T4 [0, 0] = leadsC T4 [0, 0] 4 := leadsF_eq 4 ways4 (by decide)
theorem f410 : leadsF T4 [1, 0] = leadsC T4 [1, 0] 4 := leadsF_eq 4 ways4 (by decide)
theorem f500 : leadsF T5 [0, 0] = leadsC T5 [0, 0] 4 := leadsF_eq 4 ways5 (by decide)
theorem f510 : leadsF T5 [1, 0] = leadsC T5 [1, 0] 4 := leadsF_eq 4 ways5 (by decide)
theorem chk4 : checkE T4 = 0 := by decide
theorem chk5 : checkE T5 = 0 := by decide
theorem rd4 : readingsL T4 = [[0, 0], [1, 0]] := by decide
theorem rd5 : readingsL T5 = [[0, 0], [1, 0]] := by decide
theorem n4 : prodN (lensOf T4) = 2 := by decide
theorem n5 : prodN (lensOf T5) = 2 := by decide
theorem rE400 : readE T4 [0, 0] = 0 := by decide
theorem rE410 : readE T4 [1, 0] = 0 := by decide
theorem lines400 : linesL T4 (leadsF T4 [0, 0]) = [[0, 1, 3], [0, 2, 3]] := by rw [f400]; decide
theorem lines410 : linesL T4 (leadsF T4 [1, 0]) = [] := by rw [f410]; decide
theorem linesE400 : linesE T4 [0, 0] = 0 := by unfold linesE; rw [if_pos rE400, lines400]; rfl
theorem linesE410 : linesE T4 [1, 0] = 0 := by unfold linesE; rw [if_pos rE410, lines410]; rfl
theorem read4 : readK T4 (prodN (lensOf T4)) = [[0, 0]] := by
  unfold readK
  rw [n4, rd4]
  show List.filter _ [[0, 0], [1, 0]] = _
  rw [List.filter_cons, List.filter_cons, List.filter_nil, f400, f410]
  decide
theorem there4 (leg b : Nat) : thereK T4 (prodN (lensOf T4)) leg b = (comeF T4 (leadsC T4 [0, 0] 4) leg b && ahd T4 (leadsC T4 [0, 0] 4) (T4.legs.length - leg) leg b || (comeF T4 (leadsC T4 [1, 0] 4) leg b && ahd T4 (leadsC T4 [1, 0] 4) (T4.legs.length - leg) leg b || false)) := by
  unfold thereK thereR
  rw [n4, rd4]
  show List.any [[0, 0], [1, 0]] _ = _
  rw [List.any_cons, List.any_cons, List.any_nil, f400, f410]
theorem end40 : endRow T4 0 = [0] := by unfold endRow; simp only [there4]; decide
theorem end41 : endRow T4 1 = [1, 2] := by unfold endRow; simp only [there4]; decide
theorem end42 : endRow T4 2 = [3] := by unfold endRow; simp only [there4]; decide
theorem ends4 : endRows T4 (T4.legs.length + 1) = [[0], [1, 2], [3]] := by
  show [endRow T4 0, endRow T4 1, endRow T4 2] = _
  rw [end40, end41, end42]
theorem endsOk4 : ∀ leg, leg ≤ T4.legs.length → endRow T4 leg ≠ [] := by
  intro leg h
  have h' : leg ≤ 2 := h
  match leg, h' with
  | 0, _ => rw [end40]; simp
  | 1, _ => rw [end41]; simp
  | 2, _ => rw [end42]; simp
theorem agr4 : agreesF T4 [0, 1, 3] = some [0, 0] := by
  unfold agreesF keepsR
  rw [rd4, List.find?_cons_of_pos]
  rw [f400]; decide
theorem lin4 : linedB T4 [0, 1, 3] = true := by decide
theorem st4 : hasB T4.starts (([0, 1, 3] : List Int).getD 0 0) = true := by decide
theorem brkE4 : breaksE T4 [1, 0] [0, 1, 3] = 0 := by unfold breaksE; rw [if_pos rE410]; decide
theorem brk4 : brkTo (leadsF T4 [1, 0]) [0, 1, 3] T4.legs.length = [0] := by rw [f410]; decide
set_option maxRecDepth 1000000 in
theorem yl4 : yieldL T4 (leadsF T4 [1, 0]) = [0] := by rw [f410]; decide
def F4 : List (List Int) := [[0, 3, 3, 3], [1, 1, 1, 1], [2, 2, 2, 1]]
theorem prE4 : provesE T4 [1, 0] F4 = 0 := by unfold provesE; rw [if_pos rE410, f410]; decide
theorem prN4 : provesN T4 [1, 0] F4 = 1 := by unfold provesN; rw [if_pos prE4]; decide
set_option maxRecDepth 1000000 in
theorem few5 : fewK T5 (prodN (lensOf T5)) = ([0, 0], 1) := by
  unfold fewK
  rw [n5, rd5]
  show List.foldl (fewStep T5) ([], 11) [[0, 0], [1, 0]] = _
  rw [List.foldl_cons, List.foldl_cons, List.foldl_nil]
  unfold fewStep costL
  rw [f500, f510]
  decide
end Go.Proofs
end

section
/- Walks: the reference's legs. -/
namespace Go.Proofs
open Go.RowKit
attribute [local go_sem] Oper.semAt_some

theorem own_slice2 {w : World} {base e sz n : Nat} {v : Value} {xs : List Value} (h : w.ownsRow base e sz v n xs) : ∃ A c, v = .slice A n c := by
  rcases h.2 with ⟨rfl, h0⟩ | ⟨g, cap, cur, rfl, _⟩
  · exact ⟨none, 0, by rw [h0]⟩
  · exact ⟨_, _, rfl⟩


end Go.Proofs
end
