/- Merged by program out of the texts Pvr Rdg Xf It EInv. -/
import Derived.Test.YtfliejmidnnggaaP11
import Derived.Deep.LoopGhost
import Derived.Deep.Cut
section
/- Walks: TreatyProved: the region that writes a floor of a start. -/
namespace Go.Proofs
open Go.RowKit

theorem own_form {w : World} {base : Nat} {e : TypeId} {size : Nat} {v : Value} {n : Nat} {xs : List Value} (h : w.ownsRow base e size v n xs) (hn : 0 < n) : ∃ g cap, v = .slice (some ⟨g, 0, none⟩) n cap := by
  rcases h.2 with ⟨_, h0⟩ | ⟨g, cap, _, e, _⟩
  · omega
  · exact ⟨g, cap, e⟩
theorem OwnLs.cellAt {W : World} {base g n c : Nat} {vs : List Value} {ls : List (List Int)} (h : OwnLs W base (.slice (some ⟨g, 0, none⟩) n c) vs ls) {r : Nat} (hr : r < vs.length) : W.cell? ⟨g, r, none⟩ = some vs[r] := by
  have := h.own.cells (g := g) rfl r vs[r] (by rw [List.getElem?_eq_getElem hr])
  rwa [Addr.add_lit, Nat.zero_add] at this
theorem OwnLs.rowAt {W : World} {base : Nat} {v : Value} {vs : List Value} {ls : List (List Int)} (h : OwnLs W base v vs ls) {r : Nat} (hr : r < ls.length) (hv : r < vs.length) (h0 : 0 < ls[r].length) : ∃ g cap, vs[r] = .slice (some ⟨g, 0, none⟩) ls[r].length cap ∧ (∀ j, W.frozen? ⟨g, j, none⟩ = false) ∧ base ≤ g ∧ g < W.heap.size ∧ ∀ j, (hj : j < ls[r].length) → W.cell? ⟨g, j, none⟩ = some (.int .i64 ls[r][j]) := by
  have h1 := h.rows r hr hv
  obtain ⟨g, cap, e⟩ := own_form h1 h0
  rw [e] at h1
  refine ⟨g, cap, e, fun j => h1.frozenAt j, (h1.lt g rfl).1, (h1.lt g rfl).2, fun j hj => ?_⟩
  have := h1.cells (g := g) rfl j (.int .i64 ls[r][j]) (by simp [hj])
  rwa [Addr.add_lit, Nat.zero_add] at this
theorem OwnLs.keptb {W W' : World} {base : Nat} {v : Value} {vs : List Value} {ls : List (List Int)} (h : OwnLs W base v vs ls) {row : Option Nat} (hg : W.grownBy W' row) (hr : ∀ k, row = some k → k < base) : OwnLs W' base v vs ls :=
  ⟨own_kept' h.own hg hr, fun i hi hi' => own_kept' (h.rows i hi hi') hg hr, h.apart⟩
theorem setc' (X : World) (L i : Nat) (v : Value) : X.grownBy (X.setCell ⟨L, i, none⟩ v) (some L) := only_setCell (only_refl X (some L)) (p := ⟨L, i, none⟩) (.inl rfl) v

noncomputable def opsPvd (k : Nat) : List Oper := ((regAt k (Try.f5.body.getD .skip)).getD #[]).toList

structure W24 (X0 : World) (d : Nat) (B : Option Addr) (m : List Int) (c' q base : Nat) (T : Treaty) (v9 : Value) (vs : List Value) (FL : List (List Int)) (h0 : 0 < FL.length) (done : Nat → Bool) (w : World) : Prop where
  deck : DeckAt X0 d B m c' (q + b1 (done 9)) w
  own : done 13 = false → OwnLs w base v9 vs FL
  fin : done 13 = true → ∃ st : Nat, (st : Int) ∈ T.starts ∧ OwnLs w base v9 vs (FL.set 0 (FL[0].set st 1))

def Fact24 (d D gF n cF g pl cg : Nat) (T : Treaty) (a3 : Option Addr) (c3 : Nat) : Nat → Value → World → Prop
  | 0, v, _ => v = .slice (some ⟨gF, 0, none⟩) n cF
  | 1, v, _ => v = .pointer (some ⟨gF, 0, none⟩)
  | 2, v, _ => v = .slice (some ⟨g, 0, none⟩) pl cg
  | 3, v, _ => v = .pointer (some ⟨D, 3, none⟩)
  | 4, v, _ => v = .slice a3 T.starts.length c3
  | 5, v, _ => v = .pointer (some ⟨d, 0, none⟩)
  | 6, v, _ => v = .pointer (some ⟨D, 3, none⟩)
  | 7, v, _ => v = .slice a3 T.starts.length c3
  | 8, v, _ => v = .int .i64 T.starts.length
  | 9, v, _ => ∃ r : Nat, v = .int .i64 r ∧ r < T.starts.length
  | 10, v, _ => ∃ r b o : Nat, r < T.starts.length ∧ a3 = some ⟨b, o, none⟩ ∧ v = .pointer (some ⟨b, o + r, none⟩)
  | 11, v, _ => ∃ st : Nat, v = .int .i64 st ∧ (st : Int) ∈ T.starts
  | 12, v, _ => ∃ st : Nat, v = .pointer (some ⟨g, st, none⟩) ∧ (st : Int) ∈ T.starts
  | _, _, _ => True
theorem Fact24.kept {d D gF n cF g pl cg : Nat} {T : Treaty} {a3 : Option Addr} {c3 : Nat} {w w' : World} {i : Nat} {v : Value} (h : Fact24 d D gF n cF g pl cg T a3 c3 i v w) : Fact24 d D gF n cF g pl cg T a3 c3 i v w' := by
  unfold Fact24 at h ⊢
  split at h <;> exact h
theorem W24.same {X0 : World} {d : Nat} {B : Option Addr} {m : List Int} {c' q base : Nat} {T : Treaty} {v9 : Value} {vs : List Value} {FL : List (List Int)} {h0 : 0 < FL.length} {done : Nat → Bool} {w : World} (h : W24 X0 d B m c' q base T v9 vs FL h0 done w) {i : Nat} (h8 : i ≠ 9) (h14 : i ≠ 13) : W24 X0 d B m c' q base T v9 vs FL h0 (Go.upd done i) w := by
  have e : ∀ j, j ≠ i → Go.upd done i j = done j := fun j hj => by unfold Go.upd; rw [if_neg hj]
  refine ⟨?_, ?_, ?_⟩
  · rw [e 9 (Ne.symm h8)]; exact h.deck
  · rw [e 13 (Ne.symm h14)]; exact h.own
  · rw [e 13 (Ne.symm h14)]; exact h.fin

set_option maxRecDepth 100000 in
set_option maxHeartbeats 2000000 in
theorem region24_pvd (X0 : World) (d : Nat) (B : Option Addr) (m : List Int) (c' q base : Nat) (T : Treaty) (a1 a2 a3 a4 : Option Addr) (c1 c2 c3 c4 : Nat) (D gF n cF g cg : Nat) (vs : List Value) (FL : List (List Int)) (h0 : 0 < FL.length) (hv : 0 < vs.length) (a0 : Act) (Q0 : Exit → Act → World → Prop) (W8 : World)
    (hz : a0.tmps.size = 149) (s6 : a0.eval (.tmp 6) = .pointer (some ⟨D, 0, none⟩)) (s8 : a0.eval (.tmp 8) = .pointer (some ⟨d, 0, none⟩)) (s9 : a0.eval (.tmp 9) = .slice (some ⟨gF, 0, none⟩) n cF)
    (hT : TRep X0 T a1 a2 a3 a4) (hbx : Blk X0 D 27 #[.int .i64 T.places, .slice a1 T.ways.length c1, .slice a2 T.words.length c2, .slice a3 T.starts.length c3, .slice a4 T.legs.length c4]) (hD : DeckAt X0 d B m c' q W8) (hm : q ≤ 900000) (hs1 : 1 ≤ T.starts.length) (hs2 : T.starts.length ≤ 1000) (hst : ∀ x ∈ T.starts, 0 ≤ x ∧ x < FL[0].length) (hn : 0 < n)
    (hown : OwnLs W8 base (.slice (some ⟨gF, 0, none⟩) n cF) vs FL) (hg0 : vs[0] = .slice (some ⟨g, 0, none⟩) FL[0].length cg) (hbd : d < base)
    (hexit : ∀ a W' st, a.tmps.size = 149 → a.defers = a0.defers → (∀ s : Nat, (s < 124 ∨ 136 < s) → a.eval (.tmp s) = a0.eval (.tmp s)) → DeckAt X0 d B m c' (q + 1) W' → ((st : Nat) : Int) ∈ T.starts → OwnLs W' base (.slice (some ⟨gF, 0, none⟩) n cF) vs (FL.set 0 (FL[0].set st 1)) → Q0 .normal a W') :
    Code.wp Try.prog (Code.region 24 (opsPvd 24).toArray true) Q0 a0 W8 := by
  have HEX := Lib.hid hexit
  clear hexit
  refine wp_region_facts (by kernel_rfl) 149 hz (by kernel_rfl) (Fact24 d D gF n cF g FL[0].length cg T a3 c3) (W24 X0 d B m c' q base T (.slice (some ⟨gF, 0, none⟩) n cF) vs FL h0) ⟨hD.aft (Aft.drew _), fun _ => hown.aft (Aft.drew _), fun h => by cases h⟩ ?step ?fin
  case step =>
    intro i o ho done a w hH hd hp K hK
    have hW := hH.wd
    have hold : ∀ s : Nat, (s < 124 ∨ 136 < s) → a.eval (.tmp s) = a0.eval (.tmp s) := fun s h => hH.old s fun k ok hk hs => by
      match k, hk with
      | 0, hk => cases hk; cases hs; exact absurd h (by decide)
      | 1, hk => cases hk; cases hs; exact absurd h (by decide)
      | 2, hk => cases hk; cases hs; exact absurd h (by decide)
      | 3, hk => cases hk; cases hs; exact absurd h (by decide)
      | 4, hk => cases hk; cases hs; exact absurd h (by decide)
      | 5, hk => cases hk; cases hs; exact absurd h (by decide)
      | 6, hk => cases hk; cases hs; exact absurd h (by decide)
      | 7, hk => cases hk; cases hs; exact absurd h (by decide)
      | 8, hk => cases hk; cases hs; exact absurd h (by decide)
      | 9, hk => cases hk; cases hs; exact absurd h (by decide)
      | 10, hk => cases hk; cases hs; exact absurd h (by decide)
      | 11, hk => cases hk; cases hs; exact absurd h (by decide)
      | 12, hk => cases hk; cases hs; exact absurd h (by decide)
      | 13, hk => cases hk; cases hs
      | _ + 14, hk => cases hk
    have hK' : ∀ v, i ≠ 9 → i ≠ 13 → Fact24 d D gF n cF g FL[0].length cg T a3 c3 i v w → K (a.put o.dst v) w := fun v h8 h14 hv => hK v w hv (hW.same h8 h14) fun j _ u hu => hu
    have h13 : i ≠ 13 → done 13 = false := fun hi => by
      cases hdk : done 13 with
      | false => rfl
      | true => have := hH.closed 13 _ rfl hdk i (by revert hd; match i, ho with
        | 0, _ => intro _; decide
        | 1, _ => intro _; decide
        | 2, _ => intro _; decide
        | 3, _ => intro _; decide
        | 4, _ => intro _; decide
        | 5, _ => intro _; decide
        | 6, _ => intro _; decide
        | 7, _ => intro _; decide
        | 8, _ => intro _; decide
        | 9, _ => intro _; decide
        | 10, _ => intro _; decide
        | 11, _ => intro _; decide
        | 12, _ => intro _; decide
        | 13, _ => exact absurd rfl hi
        | _ + 14, ho => cases ho); rw [hd] at this; cases this
    match i, ho, hd, hp, hK, hK', h13 with
    | 0, ho, hd, hp, hK, hK', h13 =>
      cases ho
      have e : a.eval (.tmp 9) = .slice (some ⟨gF, 0, none⟩) n cF := (hold 9 (by decide)).trans s9
      exact op_value (by simp [go_sem, ev e]) (hK' _ (by decide) (by decide) rfl)
    | 1, ho, hd, hp, hK, hK', h13 =>
      cases ho
      have e : a.eval (.tmp 124) = .slice (some ⟨gF, 0, none⟩) n cF := hH.fact 0 _ 124 rfl rfl (hp 0 (by decide))
      exact op_value (by simp [go_sem, ev e, hn]) (hK' _ (by decide) (by decide) rfl)
    | 2, ho, hd, hp, hK, hK', h13 =>
      cases ho
      have e : a.eval (.tmp 125) = .pointer (some ⟨gF, 0, none⟩) := hH.fact 1 _ 125 rfl rfl (hp 1 (by decide))
      have hc : w.cell? ⟨gF, 0, none⟩ = some (.slice (some ⟨g, 0, none⟩) FL[0].length cg) := by rw [← hg0]; exact (hW.own (h13 (by decide))).cellAt hv
      exact op_value (by simp [go_sem, ev e, hc]) (hK' _ (by decide) (by decide) rfl)
    | 3, ho, hd, hp, hK, hK', h13 =>
      cases ho
      have e : a.eval (.tmp 6) = .pointer (some ⟨D, 0, none⟩) := (hold 6 (by decide)).trans s6
      exact op_value (by simp [go_sem, ev e]) (hK' _ (by decide) (by decide) rfl)
    | 4, ho, hd, hp, hK, hK', h13 =>
      cases ho
      have e : a.eval (.tmp 127) = .pointer (some ⟨D, 3, none⟩) := hH.fact 3 _ 127 rfl rfl (hp 3 (by decide))
      have hc : w.cell? ⟨D, 3, none⟩ = some (.slice a3 T.starts.length c3) := (hbx.aft hW.deck.dealt).cell 3
      exact op_value (by simp [go_sem, ev e, hc]) (hK' _ (by decide) (by decide) rfl)
    | 5, ho, hd, hp, hK, hK', h13 =>
      cases ho
      have e : a.eval (.tmp 8) = .pointer (some ⟨d, 0, none⟩) := (hold 8 (by decide)).trans s8
      exact op_value (by simp [go_sem, ev e]) (hK' _ (by decide) (by decide) rfl)
    | 6, ho, hd, hp, hK, hK', h13 =>
      cases ho
      have e : a.eval (.tmp 6) = .pointer (some ⟨D, 0, none⟩) := (hold 6 (by decide)).trans s6
      exact op_value (by simp [go_sem, ev e]) (hK' _ (by decide) (by decide) rfl)
    | 7, ho, hd, hp, hK, hK', h13 =>
      cases ho
      have e : a.eval (.tmp 130) = .pointer (some ⟨D, 3, none⟩) := hH.fact 6 _ 130 rfl rfl (hp 6 (by decide))
      have hc : w.cell? ⟨D, 3, none⟩ = some (.slice a3 T.starts.length c3) := (hbx.aft hW.deck.dealt).cell 3
      exact op_value (by simp [go_sem, ev e, hc]) (hK' _ (by decide) (by decide) rfl)
    | 8, ho, hd, hp, hK, hK', h13 =>
      cases ho
      have e : a.eval (.tmp 131) = .slice a3 T.starts.length c3 := hH.fact 7 _ 131 rfl rfl (hp 7 (by decide))
      exact op_value (by simp [go_sem, ev e]) (hK' _ (by decide) (by decide) rfl)
    | 9, ho, hd, hp, hK, hK', h13 =>
      cases ho
      have e : a.eval (.tmp 129) = .pointer (some ⟨d, 0, none⟩) := hH.fact 5 _ 129 rfl rfl (hp 5 (by decide))
      have e2 : a.eval (.tmp 132) = .int .i64 T.starts.length := hH.fact 8 _ 132 rfl rfl (hp 8 (by decide))
      have hdk := hW.deck
      rw [hd] at hdk
      refine op_call2 Try.func33 (by kernel_rfl) (by kernel_rfl) _ _ rfl e e2 (draw_any X0 d B m c' _ T.starts.length w hdk (by have h2 : b1 false = 0 := rfl; omega) (by omega) (by omega)) ?_
      rintro e w' ⟨x, rfl, g1, g2, g3, g4⟩
      obtain ⟨x, rfl⟩ := Int.eq_ofNat_of_zero_le g1
      refine ⟨_, rfl, hK _ _ ⟨x, rfl, by omega⟩ ⟨g3.more ?_, fun h => (hW.own h).keptb g4 (fun k e => by cases e; exact hbd), fun h => ?_⟩ fun j _ u hu => Fact24.kept hu⟩
      · show q + b1 false + 1 ≤ q + b1 (Go.upd done 9 9)
        have e1 : Go.upd done 9 9 = true := rfl
        rw [e1]; unfold b1; simp
      · have := h13 (by decide); rw [show Go.upd done 9 13 = done 13 from rfl, this] at h; cases h
    | 10, ho, hd, hp, hK, hK', h13 =>
      cases ho
      have e : a.eval (.tmp 128) = .slice a3 T.starts.length c3 := hH.fact 4 _ 128 rfl rfl (hp 4 (by decide))
      obtain ⟨r, e2, hr⟩ : ∃ r : Nat, a.eval (.tmp 133) = .int .i64 r ∧ r < T.starts.length := hH.fact 9 _ 133 rfl rfl (hp 9 (by decide))
      obtain ⟨b, o', ea, hbl, hcs⟩ := (hT.aft hW.deck.dealt).starts.at hr
      rw [ea] at e
      have i1 : (0 : Int) ≤ (r : Int) ∧ (r : Int) < (T.starts.length : Int) := by omega
      exact op_value (by simp [go_sem, ev e, ev e2, hr]) (hK' _ (by decide) (by decide) ⟨r, b, o', hr, ea, rfl⟩)
    | 11, ho, hd, hp, hK, hK', h13 =>
      cases ho
      obtain ⟨r, b, o', hr, ea, e⟩ : ∃ r b o : Nat, r < T.starts.length ∧ a3 = some ⟨b, o, none⟩ ∧ a.eval (.tmp 134) = .pointer (some ⟨b, o + r, none⟩) := hH.fact 10 _ 134 rfl rfl (hp 10 (by decide))
      obtain ⟨b', o2, ea', hbl, hcs⟩ := (hT.aft hW.deck.dealt).starts.at hr
      rw [ea] at ea'
      cases ea'
      have hc := hcs r hr
      have hmem := List.getElem_mem hr
      obtain ⟨st, hst'⟩ := Int.eq_ofNat_of_zero_le (hst _ hmem).1
      rw [hst'] at hc hmem
      exact op_value (by simp [go_sem, ev e, hc]) (hK' _ (by decide) (by decide) ⟨st, rfl, hmem⟩)
    | 12, ho, hd, hp, hK, hK', h13 =>
      cases ho
      have e : a.eval (.tmp 126) = .slice (some ⟨g, 0, none⟩) FL[0].length cg := hH.fact 2 _ 126 rfl rfl (hp 2 (by decide))
      obtain ⟨st, e2, hmem⟩ : ∃ st : Nat, a.eval (.tmp 135) = .int .i64 st ∧ (st : Int) ∈ T.starts := hH.fact 11 _ 135 rfl rfl (hp 11 (by decide))
      have hr := (hst _ hmem).2
      have hr' : st < FL[0].length := by omega
      exact op_value (by simp [go_sem, ev e, ev e2, hr']) (hK' _ (by decide) (by decide) ⟨st, rfl, hmem⟩)
    | 13, ho, hd, hp, hK, hK', h13 =>
      cases ho
      obtain ⟨st, e, hmem⟩ : ∃ st : Nat, a.eval (.tmp 136) = .pointer (some ⟨g, st, none⟩) ∧ (st : Int) ∈ T.starts := hH.fact 12 _ 136 rfl rfl (hp 12 (by decide))
      have how := hW.own hd
      have hr := (hst _ hmem).2
      have hr' : st < FL[0].length := by omega
      obtain ⟨g', cg', eg', hfz, hgb, hgl, hcl⟩ := how.rowAt h0 hv (by omega)
      rw [hg0] at eg'
      cases eg'
      have hf := hfz st
      have hc := hcl st hr'
      have := hK undef (w.setCell ⟨g, st, none⟩ (.int .i64 1)) trivial ⟨(hW.same (i := 12) (by decide) (by decide)).deck.grown (setc' w g st _) (fun k e => by cases e; omega), fun h => (by (have h' : Go.upd done 13 13 = true := rfl); rw [h'] at h; cases h), fun _ => ⟨st, hmem, how.set h0 hv hg0 st 1⟩⟩ fun j _ u hu => Fact24.kept hu
      unfold Oper.wp
      simpa [go_sem, ev e, hf, hc, hgl] using this
    | _ + 14, ho, _, _, _, _, _ => cases ho
  case fin =>
    intro done a w hall hH
    have hdone : ∀ i, i < 14 → done i = true := fun i hi => hall i (by exact hi)
    obtain ⟨st, h1, h2⟩ := hH.wd.fin (hdone 13 (by decide))
    refine HEX.out a w st (hH.size.trans hz) hH.defers (fun s h => hH.old s fun k ok hk hs => ?_) ?_ h1 h2
    · match k, hk with
      | 0, hk => cases hk; cases hs; exact absurd h (by decide)
      | 1, hk => cases hk; cases hs; exact absurd h (by decide)
      | 2, hk => cases hk; cases hs; exact absurd h (by decide)
      | 3, hk => cases hk; cases hs; exact absurd h (by decide)
      | 4, hk => cases hk; cases hs; exact absurd h (by decide)
      | 5, hk => cases hk; cases hs; exact absurd h (by decide)
      | 6, hk => cases hk; cases hs; exact absurd h (by decide)
      | 7, hk => cases hk; cases hs; exact absurd h (by decide)
      | 8, hk => cases hk; cases hs; exact absurd h (by decide)
      | 9, hk => cases hk; cases hs; exact absurd h (by decide)
      | 10, hk => cases hk; cases hs; exact absurd h (by decide)
      | 11, hk => cases hk; cases hs; exact absurd h (by decide)
      | 12, hk => cases hk; cases hs; exact absurd h (by decide)
      | 13, hk => cases hk; cases hs
      | _ + 14, hk => cases hk
    · have := hH.wd.deck
      rw [hdone 9 (by decide)] at this
      exact this

set_option maxRecDepth 100000 in
set_option maxHeartbeats 2000000 in
theorem region24_lit (X0 : World) (d : Nat) (B : Option Addr) (m : List Int) (c' q base : Nat) (T : Treaty) (a1 a2 a3 a4 : Option Addr) (c1 c2 c3 c4 : Nat) (D gF n cF g cg : Nat) (vs : List Value) (FL : List (List Int)) (h0 : 0 < FL.length) (hv : 0 < vs.length)
    (hT : TRep X0 T a1 a2 a3 a4) (hbx : Blk X0 D 27 #[.int .i64 T.places, .slice a1 T.ways.length c1, .slice a2 T.words.length c2, .slice a3 T.starts.length c3, .slice a4 T.legs.length c4]) (hm : q ≤ 900000) (hs1 : 1 ≤ T.starts.length) (hs2 : T.starts.length ≤ 1000) (hst : ∀ x ∈ T.starts, 0 ≤ x ∧ x < FL[0].length) (hn : 0 < n)
    (hg0 : vs[0] = .slice (some ⟨g, 0, none⟩) FL[0].length cg) (hbd : d < base) (W8 : World) (hD : DeckAt X0 d B m c' q W8) (hown : OwnLs W8 base (.slice (some ⟨gF, 0, none⟩) n cF) vs FL)
    (q0 q1 q2 q3 q4 q5 q7 q10 q11 q12 q13 q14 q15 q16 q17 q18 q19 q20 q21 q22 q23 q24 q25 q26 q27 q28 q29 q30 q31 q32 q33 q34 q35 q36 q37 q38 q39 q40 q41 q42 q43 q44 q45 q46 q47 q48 q49 q50 q51 q52 q53 q54 q55 q56 q57 q58 q59 q60 q61 q62 q63 q64 q65 q66 q67 q68 q69 q70 q71 q72 q73 q74 q75 q76 q77 q78 q79 q80 q81 q82 q83 q84 q85 q86 q87 q88 q89 q90 q91 q92 q93 q94 q95 q96 q97 q98 q99 q100 q101 q102 q103 q104 q105 q106 q107 q108 q109 q110 q111 q112 q113 q114 q115 q116 q117 q118 q119 q120 q121 q122 q123 q124 q125 q126 q127 q128 q129 q130 q131 q132 q133 q134 q135 q136 q137 q138 q139 q140 q141 q142 q143 q144 q145 q146 q147 q148 : Value) (Q0 : Exit → Act → World → Prop)
    (hexit : ∀ (u124 u125 u126 u127 u128 u129 u130 u131 u132 u133 u134 u135 u136 : Value) W' st, DeckAt X0 d B m c' (q + 1) W' → ((st : Nat) : Int) ∈ T.starts → OwnLs W' base (.slice (some ⟨gF, 0, none⟩) n cF) vs (FL.set 0 (FL[0].set st 1)) → Q0 .normal ⟨(List.toArray (q0 :: q1 :: q2 :: q3 :: q4 :: q5 :: .pointer (some ⟨D, 0, none⟩) :: q7 :: .pointer (some ⟨d, 0, none⟩) :: .slice (some ⟨gF, 0, none⟩) n cF :: q10 :: q11 :: q12 :: q13 :: q14 :: q15 :: q16 :: q17 :: q18 :: q19 :: q20 :: q21 :: q22 :: q23 :: q24 :: q25 :: q26 :: q27 :: q28 :: q29 :: q30 :: q31 :: q32 :: q33 :: q34 :: q35 :: q36 :: q37 :: q38 :: q39 :: q40 :: q41 :: q42 :: q43 :: q44 :: q45 :: q46 :: q47 :: q48 :: q49 :: q50 :: q51 :: q52 :: q53 :: q54 :: q55 :: q56 :: q57 :: q58 :: q59 :: q60 :: q61 :: q62 :: q63 :: q64 :: q65 :: q66 :: q67 :: q68 :: q69 :: q70 :: q71 :: q72 :: q73 :: q74 :: q75 :: q76 :: q77 :: q78 :: q79 :: q80 :: q81 :: q82 :: q83 :: q84 :: q85 :: q86 :: q87 :: q88 :: q89 :: q90 :: q91 :: q92 :: q93 :: q94 :: q95 :: q96 :: q97 :: q98 :: q99 :: q100 :: q101 :: q102 :: q103 :: q104 :: q105 :: q106 :: q107 :: q108 :: q109 :: q110 :: q111 :: q112 :: q113 :: q114 :: q115 :: q116 :: q117 :: q118 :: q119 :: q120 :: q121 :: q122 :: q123 :: u124 :: u125 :: u126 :: u127 :: u128 :: u129 :: u130 :: u131 :: u132 :: u133 :: u134 :: u135 :: u136 :: q137 :: q138 :: q139 :: q140 :: q141 :: q142 :: q143 :: q144 :: q145 :: q146 :: q147 :: q148 :: [])), []⟩ W') :
    Code.wp Try.prog (Code.region 24 (opsPvd 24).toArray true) Q0 ⟨(List.toArray (q0 :: q1 :: q2 :: q3 :: q4 :: q5 :: .pointer (some ⟨D, 0, none⟩) :: q7 :: .pointer (some ⟨d, 0, none⟩) :: .slice (some ⟨gF, 0, none⟩) n cF :: q10 :: q11 :: q12 :: q13 :: q14 :: q15 :: q16 :: q17 :: q18 :: q19 :: q20 :: q21 :: q22 :: q23 :: q24 :: q25 :: q26 :: q27 :: q28 :: q29 :: q30 :: q31 :: q32 :: q33 :: q34 :: q35 :: q36 :: q37 :: q38 :: q39 :: q40 :: q41 :: q42 :: q43 :: q44 :: q45 :: q46 :: q47 :: q48 :: q49 :: q50 :: q51 :: q52 :: q53 :: q54 :: q55 :: q56 :: q57 :: q58 :: q59 :: q60 :: q61 :: q62 :: q63 :: q64 :: q65 :: q66 :: q67 :: q68 :: q69 :: q70 :: q71 :: q72 :: q73 :: q74 :: q75 :: q76 :: q77 :: q78 :: q79 :: q80 :: q81 :: q82 :: q83 :: q84 :: q85 :: q86 :: q87 :: q88 :: q89 :: q90 :: q91 :: q92 :: q93 :: q94 :: q95 :: q96 :: q97 :: q98 :: q99 :: q100 :: q101 :: q102 :: q103 :: q104 :: q105 :: q106 :: q107 :: q108 :: q109 :: q110 :: q111 :: q112 :: q113 :: q114 :: q115 :: q116 :: q117 :: q118 :: q119 :: q120 :: q121 :: q122 :: q123 :: q124 :: q125 :: q126 :: q127 :: q128 :: q129 :: q130 :: q131 :: q132 :: q133 :: q134 :: q135 :: q136 :: q137 :: q138 :: q139 :: q140 :: q141 :: q142 :: q143 :: q144 :: q145 :: q146 :: q147 :: q148 :: [])), []⟩ W8 := by
  refine region24_pvd X0 d B m c' q base T a1 a2 a3 a4 c1 c2 c3 c4 D gF n cF g cg vs FL h0 hv _ Q0 W8 rfl rfl rfl rfl hT hbx hD hm hs1 hs2 hst hn hown hg0 hbd ?_
  intro a W' st hz hd hs h1 h2 h3
  have e := frame_act 149 a _ hz hd (fun j => decide (124 ≤ j ∧ j ≤ 136)) (fun s hp => by
    have hp' := of_decide_eq_false hp
    exact hs s (by omega))
  have e2 : a = ⟨(List.toArray (q0 :: q1 :: q2 :: q3 :: q4 :: q5 :: .pointer (some ⟨D, 0, none⟩) :: q7 :: .pointer (some ⟨d, 0, none⟩) :: .slice (some ⟨gF, 0, none⟩) n cF :: q10 :: q11 :: q12 :: q13 :: q14 :: q15 :: q16 :: q17 :: q18 :: q19 :: q20 :: q21 :: q22 :: q23 :: q24 :: q25 :: q26 :: q27 :: q28 :: q29 :: q30 :: q31 :: q32 :: q33 :: q34 :: q35 :: q36 :: q37 :: q38 :: q39 :: q40 :: q41 :: q42 :: q43 :: q44 :: q45 :: q46 :: q47 :: q48 :: q49 :: q50 :: q51 :: q52 :: q53 :: q54 :: q55 :: q56 :: q57 :: q58 :: q59 :: q60 :: q61 :: q62 :: q63 :: q64 :: q65 :: q66 :: q67 :: q68 :: q69 :: q70 :: q71 :: q72 :: q73 :: q74 :: q75 :: q76 :: q77 :: q78 :: q79 :: q80 :: q81 :: q82 :: q83 :: q84 :: q85 :: q86 :: q87 :: q88 :: q89 :: q90 :: q91 :: q92 :: q93 :: q94 :: q95 :: q96 :: q97 :: q98 :: q99 :: q100 :: q101 :: q102 :: q103 :: q104 :: q105 :: q106 :: q107 :: q108 :: q109 :: q110 :: q111 :: q112 :: q113 :: q114 :: q115 :: q116 :: q117 :: q118 :: q119 :: q120 :: q121 :: q122 :: q123 :: a.eval (.tmp 124) :: a.eval (.tmp 125) :: a.eval (.tmp 126) :: a.eval (.tmp 127) :: a.eval (.tmp 128) :: a.eval (.tmp 129) :: a.eval (.tmp 130) :: a.eval (.tmp 131) :: a.eval (.tmp 132) :: a.eval (.tmp 133) :: a.eval (.tmp 134) :: a.eval (.tmp 135) :: a.eval (.tmp 136) :: q137 :: q138 :: q139 :: q140 :: q141 :: q142 :: q143 :: q144 :: q145 :: q146 :: q147 :: q148 :: [])), []⟩ := e
  have h := hexit (a.eval (.tmp 124)) (a.eval (.tmp 125)) (a.eval (.tmp 126)) (a.eval (.tmp 127)) (a.eval (.tmp 128)) (a.eval (.tmp 129)) (a.eval (.tmp 130)) (a.eval (.tmp 131)) (a.eval (.tmp 132)) (a.eval (.tmp 133)) (a.eval (.tmp 134)) (a.eval (.tmp 135)) (a.eval (.tmp 136)) W' st h1 h2 h3
  rw [← e2] at h
  exact h
end Go.Proofs
end

section
/- Plain: the readings of a treaty, in their order. -/
namespace Go.Proofs

def prodN : List Nat → Nat
  | [] => 1
  | n :: ns => n * prodN ns
/-- the digits of a number, the last one turning first -/
def dig : List Nat → Nat → List Int
  | [], _ => []
  | _ :: ns, k => ((k / prodN ns : Nat) : Int) :: dig ns (k % prodN ns)
/-- the next digits -/
def inc : List Nat → List Int → Option (List Int)
  | n :: ns, d :: ds => match inc ns ds with
    | some ds' => some (d :: ds')
    | none => if d = (n : Int) - 1 then none else some ((d + 1) :: ds.map fun _ => 0)
  | _, _ => none

theorem prodN_pos : ∀ {ns : List Nat}, (∀ n ∈ ns, 1 ≤ n) → 1 ≤ prodN ns
  | [], _ => Nat.le_refl _
  | n :: ns, h => Nat.mul_pos (h n (by simp)) (prodN_pos fun m hm => h m (by simp [hm]))
theorem dig_len : ∀ (ns : List Nat) (k : Nat), (dig ns k).length = ns.length
  | [], _ => rfl
  | _ :: ns, k => by simp [dig, dig_len ns]
theorem dig_zero : ∀ (ns : List Nat), dig ns 0 = ns.map fun _ => 0
  | [] => rfl
  | _ :: ns => by simp [dig, dig_zero ns]
theorem map_zero_len {α β : Type} : ∀ (l : List α) (l' : List β), l.length = l'.length → (l.map fun _ => (0 : Int)) = l'.map fun _ => 0
  | [], [], _ => rfl
  | _ :: l, _ :: l', h => by simp at h ⊢; have := map_zero_len l l' h; simpa using this
theorem inc_dig : ∀ (ns : List Nat) (k : Nat), (∀ n ∈ ns, 1 ≤ n) → k < prodN ns → inc ns (dig ns k) = if k + 1 < prodN ns then some (dig ns (k + 1)) else none
  | [], k, _, hk => by
    have : k = 0 := by unfold prodN at hk; omega
    subst this; rfl
  | n :: ns, k, h, hk => by
    have hp := prodN_pos (ns := ns) fun m hm => h m (by simp [hm])
    have ih := inc_dig ns (k % prodN ns) (fun m hm => h m (by simp [hm])) (Nat.mod_lt _ hp)
    have hk' : k < n * prodN ns := hk
    have hq : k / prodN ns < n := Nat.div_lt_of_lt_mul (by rwa [Nat.mul_comm] at hk')
    have hdm := Nat.div_add_mod k (prodN ns)
    have hml := Nat.mod_lt k hp
    show (match inc ns (dig ns (k % prodN ns)) with
      | some ds' => some (((k / prodN ns : Nat) : Int) :: ds')
      | none => if ((k / prodN ns : Nat) : Int) = (n : Int) - 1 then none else some ((((k / prodN ns : Nat) : Int) + 1) :: (dig ns (k % prodN ns)).map fun _ => 0)) = if k + 1 < n * prodN ns then some (((((k + 1) / prodN ns : Nat) : Int)) :: dig ns ((k + 1) % prodN ns)) else none
    rw [ih]
    generalize hQ : k / prodN ns = q at *
    generalize hR : k % prodN ns = r at *
    generalize hP : prodN ns = P at *
    have hmul : (q + 1) * P ≤ n * P := Nat.mul_le_mul_right _ hq
    have hqp : (q + 1) * P = P * q + P := by rw [Nat.add_mul, Nat.mul_comm]; omega
    by_cases e : r + 1 < P
    · rw [if_pos e]
      have e1 : (k + 1) / P = q := by
        rw [← hdm, Nat.add_assoc, Nat.mul_add_div hp, Nat.div_eq_of_lt e]; rfl
      have e2 : (k + 1) % P = r + 1 := by
        rw [← hdm, Nat.add_assoc, Nat.mul_add_mod, Nat.mod_eq_of_lt e]
      have h1 : k + 1 < n * P := by omega
      rw [if_pos h1, e1, e2]
    · rw [if_neg e]
      have er : r + 1 = P := by omega
      have ek : k + 1 = P * (q + 1) := by rw [Nat.mul_add]; omega
      by_cases eq : q + 1 = n
      · have h1 : ¬ k + 1 < n * P := by rw [ek, ← eq, Nat.mul_comm]; omega
        rw [if_neg h1]
        show (if (q : Int) = (n : Int) - 1 then none else _) = none
        rw [if_pos (by omega)]
      · have h2 : (q + 1 + 1) * P ≤ n * P := Nat.mul_le_mul_right _ (by omega)
        have h3 : (q + 1 + 1) * P = P * (q + 1) + P := by rw [Nat.add_mul, Nat.mul_comm]; omega
        have h4 : k + 1 < n * P := by omega
        rw [if_pos h4]
        show (if (q : Int) = (n : Int) - 1 then none else _) = _
        rw [if_neg (by omega), ek, Nat.mul_div_cancel_left _ hp, Nat.mul_mod_right, dig_zero, map_zero_len (dig ns r) ns (dig_len _ _)]
        rfl

theorem inc_none_step {ns : List Nat} {ds : List Int} {i : Nat} (hn : i < ns.length) (hd : i < ds.length) (h : inc (ns.drop (i + 1)) (ds.drop (i + 1)) = none) (e : ds[i] = (ns[i] : Int) - 1) : inc (ns.drop i) (ds.drop i) = none := by
  rw [List.drop_eq_getElem_cons hn, List.drop_eq_getElem_cons hd]
  unfold inc
  rw [h]
  simp [e]
theorem inc_some_step {ns : List Nat} {ds : List Int} {i : Nat} (hn : i < ns.length) (hd : i < ds.length) (h : inc (ns.drop (i + 1)) (ds.drop (i + 1)) = none) (e : ds[i] ≠ (ns[i] : Int) - 1) : inc (ns.drop i) (ds.drop i) = some ((ds[i] + 1) :: (ds.drop (i + 1)).map fun _ => 0) := by
  rw [List.drop_eq_getElem_cons hn, List.drop_eq_getElem_cons hd]
  unfold inc
  rw [h]
  simp [e]
theorem inc_front {x : List Int} : ∀ {ns : List Nat} {ds : List Int} {i : Nat}, i ≤ ns.length → i ≤ ds.length → inc (ns.drop i) (ds.drop i) = some x → inc ns ds = some (ds.take i ++ x)
  | ns, ds, 0, _, _, h => by simpa using h
  | [], _, i + 1, h, _, _ => by simp at h
  | _ :: _, [], i + 1, _, h, _ => by simp at h
  | n :: ns, d :: ds, i + 1, h1, h2, h => by
    have := inc_front (ns := ns) (ds := ds) (i := i) (by simpa using h1) (by simpa using h2) (by simpa using h)
    unfold inc
    rw [this]
    simp

def lensOf (T : Treaty) : List Nat := T.words.map List.length
/-- all readings, in their order -/
def readingsL (T : Treaty) : List (List Int) := (List.range (prodN (lensOf T))).map (dig (lensOf T))
theorem readingsL_len (T : Treaty) : (readingsL T).length = prodN (lensOf T) := by simp [readingsL]
theorem readingsL_get (T : Treaty) {k : Nat} (h : k < (readingsL T).length) : (readingsL T)[k] = dig (lensOf T) k := by simp [readingsL]
theorem foldl_prod (l : List (List Mean)) (n : Nat) : l.foldl (fun n w => n * w.length) n = n * prodN (l.map List.length) := by
  induction l generalizing n with
  | nil => simp [prodN]
  | cons w l ih => rw [List.foldl_cons, ih, List.map_cons, prodN, Nat.mul_assoc]
theorem prodLen_eq (T : Treaty) : prodLen T.words = prodN (lensOf T) := by unfold prodLen lensOf; rw [foldl_prod, Nat.one_mul]

/-- right digits -/
def DigOk : List Nat → List Int → Prop
  | [], [] => True
  | n :: ns, d :: ds => 0 ≤ d ∧ d < n ∧ DigOk ns ds
  | _, _ => False
theorem dig_ok : ∀ (ns : List Nat) (k : Nat), (∀ n ∈ ns, 1 ≤ n) → k < prodN ns → DigOk ns (dig ns k)
  | [], _, _, _ => trivial
  | n :: ns, k, h, hk => by
    have hp := prodN_pos (ns := ns) fun m hm => h m (by simp [hm])
    have hk' : k < n * prodN ns := hk
    refine ⟨Int.natCast_nonneg _, Int.ofNat_lt.2 (Nat.div_lt_of_lt_mul (by rwa [Nat.mul_comm] at hk')), dig_ok ns _ (fun m hm => h m (by simp [hm])) (Nat.mod_lt _ hp)⟩
theorem dig_onto : ∀ (ns : List Nat) (ds : List Int), DigOk ns ds → ∃ k, k < prodN ns ∧ dig ns k = ds
  | [], [], _ => ⟨0, Nat.zero_lt_one, rfl⟩
  | [], _ :: _, h => h.elim
  | _ :: _, [], h => h.elim
  | n :: ns, d :: ds, ⟨h0, h1, h2⟩ => by
    obtain ⟨k, hk, e⟩ := dig_onto ns ds h2
    obtain ⟨q, rfl⟩ := Int.eq_ofNat_of_zero_le h0
    have hq : q < n := by omega
    have hm : (q + 1) * prodN ns ≤ n * prodN ns := Nat.mul_le_mul_right _ hq
    have h3 : (q + 1) * prodN ns = prodN ns * q + prodN ns := by rw [Nat.add_mul, Nat.mul_comm]; omega
    refine ⟨prodN ns * q + k, by show _ < n * prodN ns; omega, ?_⟩
    show (((prodN ns * q + k) / prodN ns : Nat) : Int) :: dig ns ((prodN ns * q + k) % prodN ns) = _
    rw [Nat.mul_add_div (by omega), Nat.div_eq_of_lt hk, Nat.mul_add_mod, Nat.mod_eq_of_lt hk, e]
    rfl
theorem digOk_iff : ∀ (ws : List (List Mean)) (ds : List Int), DigOk (ws.map List.length) ds ↔ ds.length = ws.length ∧ ∀ k, (h : k < ds.length) → (h' : k < ws.length) → 0 ≤ ds[k] ∧ ds[k] < ws[k].length
  | [], [] => by simp [DigOk]
  | [], _ :: _ => by simp [DigOk]
  | _ :: _, [] => by simp [DigOk]
  | w :: ws, d :: ds => by
    have ih := digOk_iff ws ds
    show (0 ≤ d ∧ d < (w.length : Nat) ∧ DigOk (ws.map List.length) ds) ↔ _
    rw [ih]
    constructor
    · rintro ⟨h0, h1, h2, h3⟩
      refine ⟨by simp [h2], fun k h h' => ?_⟩
      cases k with
      | zero => exact ⟨h0, h1⟩
      | succ k => exact h3 k (by simpa using h) (by simpa using h')
    · rintro ⟨h2, h3⟩
      have := h3 0 (by simp) (by simp)
      exact ⟨this.1, this.2, by simpa using h2, fun k h h' => h3 (k + 1) (by simpa using h) (by simpa using h')⟩
theorem readOk_iff {T : Treaty} {R : List Int} : ReadOk T R ↔ DigOk (lensOf T) R := (digOk_iff T.words R).symm
theorem TOk.lens {T : Treaty} (ok : TOk T) : ∀ n ∈ lensOf T, 1 ≤ n := fun n hn => by
  obtain ⟨l, hl, rfl⟩ := List.mem_map.1 hn
  exact (ok.wlen l hl).1
theorem mem_readings {T : Treaty} (ok : TOk T) {R : List Int} : R ∈ readingsL T ↔ ReadOk T R := by
  rw [readOk_iff]
  unfold readingsL
  rw [List.mem_map]
  constructor
  · rintro ⟨k, hk, rfl⟩
    exact dig_ok _ _ ok.lens (List.mem_range.1 hk)
  · intro h
    obtain ⟨k, hk, e⟩ := dig_onto _ _ h
    exact ⟨k, List.mem_range.2 hk, e⟩
theorem readings_many {T : Treaty} (ok : TOk T) : (readingsL T).length ≤ 256 ∧ 1 ≤ (readingsL T).length := by
  rw [readingsL_len, ← prodLen_eq]
  exact ⟨ok.prod, by rw [prodLen_eq]; exact prodN_pos ok.lens⟩
end Go.Proofs
end

section
/- Walks: lists of lists cloned, and compared. -/
namespace Go.Proofs
open Go.RowKit

set_option maxHeartbeats 1000000 in
theorem cloneAll_any (w : World) (A : Option Addr) (ls : List (List Int)) (c : Nat) (hA : Lists w A ls) (hl : ls.length ≤ 1000) :
    Calls Try.prog 31 #[.slice A ls.length c] w fun e w' => ∃ v, e = .returned v ∧ OwnLists w' w.heap.size v ls ∧ Aft w w' := by
  go_enter Try.func31, Try.ntmps31
  go_wp2_with fail
  go_loopw [3, 8] (fun v i wr => ∃ k : Nat, i = .int .i64 k ∧ k ≤ ls.length ∧ Aft w wr ∧ ∃ vs, OwnLs wr w.heap.size v vs (ls.take k)) (fun _ i _ => ls.length - (intOf i).toNat)
  case atStart => exact ⟨0, rfl, by omega, Aft.refl _, [], OwnLs.nil⟩
  case round =>
    obtain ⟨k, rfl, hk, hw, vs, hown⟩ := hrel
    have HO := Lib.hid hown
    clear hown
    by_cases hkl : k < ls.length
    · obtain ⟨b, o, rfl, hb, hc⟩ := (hA.aft hw).at hkl
      obtain ⟨Ai, ci, h1, h2⟩ := hc k hkl
      have hlr := h2.len
      have HCL := Lib.hid (kitClone_int Ai ls[k] ci wr h2)
      have HT := Lib.hid (show ls.take (k + 1) = ls.take k ++ [ls[k]] from List.take_succ_eq_append_getElem hkl)
      have hll : (ls.take k).length ≤ 1000000 := by rw [List.length_take]; omega
      have hws : w.heap.size ≤ wr.heap.size := hw.size
      clear hc h2
      generalize ls[k] = r at *
      go_wp2_with (first
        | (go_at_call 11; refine HCL.out.mono ?_; rintro e w1 ⟨v1, rfl, hrow, u, rfl⟩; obtain ⟨A1, c1, rfl, _, _⟩ := own_ints hrow hlr; have HROW := Lib.hid hrow; clear hrow)
        | (at_builtin; refine wpList_app_list rfl _ _ rfl (W := wr) HO.out hws rfl rfl (cell_new1 _ _ _) rfl ((Aft.lat _ _).then_alloc _) (own_aft HROW.out (Aft.alloc _ _)) hll ?_; intro v' vs' w5 hown5 hg5))
      have hlt : ∀ g, u3.ownBlock = some g → w.heap.size ≤ g := fun g hg => (HO.out.own.lt g hg).1
      refine ⟨⟨k + 1, by go_num, by omega, (((hw.then_lat u).then_alloc _).grown hg5 hlt), vs', ?_⟩, by simp [intOf]; omega⟩
      rw [HT.out]
      exact hown5
    · obtain rfl : k = ls.length := by omega
      have ho := HO.out
      rw [List.take_of_length_le (Nat.le_refl _)] at ho
      go_wp2_with fail
      go_ret
      exact ⟨_, rfl, ⟨vs, ho⟩, hw⟩

set_option maxRecDepth 100000 in
set_option maxHeartbeats 1000000 in
theorem equalAll_any (w : World) (A A' : Option Addr) (l l' : List (List Int)) (c c' : Nat) (hA : Lists w A l) (hA' : Lists w A' l') :
    Calls Try.prog 17 #[.slice A l.length c, .slice A' l'.length c'] w fun e w' => e = .returned (.bool (eqB l l')) ∧ Aft w w' := by
  have hl := hA.len
  have hl' := hA'.len
  go_enter Try.func17, Try.ntmps17
  go_wp2_with fail
  go_loopw [8] (fun i wr => ∃ k : Nat, i = .int .i64 k ∧ k ≤ l.length ∧ k ≤ l'.length ∧ (∀ j, (h : j < l.length) → (h' : j < l'.length) → j < k → l[j] = l'[j]) ∧ Aft w wr) (fun i _ => l.length - (intOf i).toNat)
  case atStart => exact ⟨0, rfl, by omega, by omega, fun j _ _ h => by omega, Aft.refl _⟩
  case round =>
    obtain ⟨k, rfl, hk, hk', hh, hw⟩ := hrel
    have HH := Lib.hid hh
    clear hh
    by_cases hkl : k < l.length
    · by_cases hkl' : k < l'.length
      · obtain ⟨b, o, rfl, hb, hc⟩ := (hA.aft hw.then_drew).at hkl
        obtain ⟨A1, c1, h1, h2⟩ := hc k hkl
        obtain ⟨b', o', rfl, hb', hc'⟩ := (hA'.aft hw.then_drew).at hkl'
        obtain ⟨A2, c2, h1', h2'⟩ := hc' k hkl'
        have HEQ := Lib.hid (kitEqual_int A1 A2 l[k] l'[k] c1 c2 wr.drew h2 h2')
        have HST := Lib.hid (show l[k] = l'[k] → ∀ j, (h : j < l.length) → (h' : j < l'.length) → j < k + 1 → l[j] = l'[j] from fun e j h h' hj => by
          by_cases e2 : j = k
          · subst e2; exact e
          · exact HH.out j h h' (by omega))
        have HNE := Lib.hid (show ¬ l[k] = l'[k] → eqB l l' = false from fun e => decide_eq_false fun e2 => e (by subst e2; rfl))
        have hge : decide (l'.length ≤ k) = false := by simp; omega
        have i1 : (0 : Int) ≤ (k : Int) ∧ (k : Int) < (l.length : Int) := by omega
        have i2 : (0 : Int) ≤ (k : Int) ∧ (k : Int) < (l'.length : Int) := by omega
        clear hc hc' h2 h2'
        generalize l[k] = r at *
        generalize l'[k] = r' at *
        cases he : eqB r r'
        all_goals
          rw [he] at HEQ
          have HE := Lib.hid he
          clear he
          go_wp2_with fail
          refine wp_region_tail 13 (by kernel_rfl) (by kernel_rfl) ?_
          simp only [List.take_succ_cons, List.take_zero, List.drop_succ_cons, List.drop_zero]
          repeat (first | go_big_quiet_skip | (go_big_quiet_want; go_big_quiet_op; go_big_quiet_on))
          refine wpQuiet_nil ?_
          go_wp2_with (go_at_call 20; refine HEQ.out.mono ?_; rintro e w2 ⟨rfl, ha⟩)
        · go_ret
          exact ⟨ret_bool (HNE.out (of_decide_eq_false HE.out)).symm, hw.then_drew.trans ha⟩
        · refine ⟨⟨k + 1, by go_num, by omega, by omega, HST.out (of_decide_eq_true HE.out), hw.then_drew.trans ha⟩, by simp [intOf]; omega⟩
      · have hge : decide (l'.length ≤ k) = true := by simp; omega
        go_wp2_with fail
        refine wp_region_tail 13 (by kernel_rfl) (by kernel_rfl) ?_
        simp only [List.take_succ_cons, List.take_zero, List.drop_succ_cons, List.drop_zero]
        repeat (first | go_big_quiet_skip | (go_big_quiet_want; go_big_quiet_op; go_big_quiet_on))
        refine wpQuiet_nil ?_
        go_wp2_with fail
        go_ret
        exact ⟨ret_bool (decide_eq_false fun e => by subst e; omega).symm, hw.then_drew⟩
    · go_wp2_with fail
      go_ret
      refine ⟨ret_bool ?_, hw⟩
      unfold eqB
      by_cases e : l.length = l'.length
      · rw [e]
        have : l = l' := eq_of_steps l l' (fun i h h' => HH.out i h h' (by omega)) e
        rw [decide_eq_true this]; simp
      · rw [decide_eq_false (fun e2 => e (by rw [e2]))]
        simp; omega
end Go.Proofs
end

section
/- Walks: the iterator over a treaty's readings. -/
namespace Go.Proofs
open Go.RowKit
attribute [local go_sem] Oper.semAt_some

/-- The treaty's words, in the box of the treaty that the iterator holds. -/
def RepW (bt : Nat) (T : Treaty) (a2 : Option Addr) (c2 : Nat) (W : World) : Prop := W.cell? ⟨bt, 2, none⟩ = some (.slice a2 T.words.length c2) ∧ RowsP W a2 1 WordR T.words
/-- The k-th reading, in memory that was made since. -/
def GivesR (T : Treaty) (k : Nat) (W0 W : World) (v : Value) : Prop := W.ownsRow W0.heap.size 3 1 v (dig (lensOf T) k).length ((dig (lensOf T) k).map (Value.int .i64))
def IterR (J : Nat → World → Prop) (Jx : World → Prop) (N : Nat) (e : Ending) (W : World) : Prop := (∃ v, e = .returned v) ∧ (J N W ∨ Jx W)
def YieldR' (J : Nat → World → Prop) (Jx : World → Prop) (B k : Nat) (W1 : World) (e : Ending) (W' : World) : Prop :=
  (e = .returned (.bool true) ∧ J (k + 1) W' ∧ W'.heap[B + 2]? = W1.heap[B + 2]? ∧ W1.heap.size ≤ W'.heap.size) ∨ (e = .returned (.bool false) ∧ Jx W')
/-- The digits in the iterator's block: those that are turned back are zero. -/
def Turned (ns : List Nat) (k i : Nat) (l : List Int) : Prop := l = (dig ns k).take i ++ ((dig ns k).drop i).map (fun _ => 0) ∧ inc (ns.drop i) ((dig ns k).drop i) = none

theorem Turned.start {ns : List Nat} {k n : Nat} (hn : ns.length = n) : Turned ns k n (dig ns k) := by
  have h1 : (dig ns k).length = n := by rw [dig_len, hn]
  refine ⟨?_, ?_⟩
  · rw [List.take_of_length_le (by omega), List.drop_of_length_le (by omega)]; simp
  · rw [List.drop_of_length_le (by omega), List.drop_of_length_le (by omega)]; rfl
theorem Turned.len {ns : List Nat} {k i : Nat} {l : List Int} (h : Turned ns k i l) : l.length = ns.length := by
  rw [h.1, List.length_append, List.length_map, ← List.length_append, List.take_append_drop, dig_len]
theorem Turned.get {ns : List Nat} {k j : Nat} {l : List Int} (h : Turned ns k (j + 1) l) (hl : j < l.length) (hd : j < (dig ns k).length) : l[j] = (dig ns k)[j] := by
  have h1 := h.1
  subst h1
  rw [List.getElem_append_left (by simp; omega)]
  simp
theorem Turned.step {ns : List Nat} {k j : Nat} {l : List Int} (h : Turned ns k (j + 1) l) (hn : j < ns.length) (hl : j < l.length) (e : l[j] = (ns[j] : Int) - 1) : Turned ns k j (l.set j 0) := by
  have hd : j < (dig ns k).length := by rw [dig_len]; exact hn
  have e2 := h.get hl hd
  refine ⟨?_, inc_none_step hn hd h.2 (by rw [← e2]; exact e)⟩
  have h1 := h.1
  clear e e2 hl
  subst h1
  rw [List.take_succ_eq_append_getElem hd, List.append_assoc, List.set_append_right _ _ (by simp; omega)]
  rw [List.drop_eq_getElem_cons hd]
  have e3 : j - ((dig ns k).take j).length = 0 := by simp; omega
  rw [e3]
  rfl
theorem Turned.done {ns : List Nat} {k j : Nat} {l : List Int} (h : Turned ns k (j + 1) l) (hp : ∀ n ∈ ns, 1 ≤ n) (hk : k < prodN ns) (hn : j < ns.length) (hl : j < l.length) (e : l[j] ≠ (ns[j] : Int) - 1) : k + 1 < prodN ns ∧ l.set j (l[j] + 1) = dig ns (k + 1) := by
  have hd : j < (dig ns k).length := by rw [dig_len]; exact hn
  have e2 := h.get hl hd
  rw [e2] at e
  have h3 := inc_front (by omega) (by omega) (inc_some_step hn hd h.2 e)
  rw [inc_dig ns k hp hk] at h3
  split at h3
  · rename_i hlt
    refine ⟨hlt, ?_⟩
    injection h3 with h4
    have h1 := h.1
    rw [e2]
    clear e2 hl
    subst h1
    rw [h4, List.take_succ_eq_append_getElem hd, List.append_assoc, List.set_append_right _ _ (by simp; omega)]
    have e3 : j - ((dig ns k).take j).length = 0 := by simp; omega
    rw [e3]
    simp
  · cases h3
theorem Turned.end_ {ns : List Nat} {k : Nat} {l : List Int} (h : Turned ns k 0 l) (hp : ∀ n ∈ ns, 1 ≤ n) (hk : k < prodN ns) : k + 1 = prodN ns := by
  have h2 := h.2
  rw [List.drop_zero, List.drop_zero, inc_dig ns k hp hk] at h2
  split at h2
  · cases h2
  · omega

/-- Behind the digits that are turned back. -/
def AfterT (ns : List Nat) (n k B : Nat) (W3 : World) (s4 : Value) (wx : World) : Prop :=
  ∃ (i : Nat) (cs' : Array Value), s4 = .int .i64 ((i : Int) - 1) ∧ Blk wx (B + 2) 3 cs' ∧ cs'.size = n ∧ W3.grownBy wx (some (B + 2)) ∧
    ((i = 0 ∧ k + 1 = prodN ns) ∨ (∃ (j : Nat) (x : Int), i = j + 1 ∧ j < n ∧ k + 1 < prodN ns ∧ cs'[j]? = some (.int .i64 x) ∧ 0 ≤ x ∧ x ≤ 10 ∧ Nums (cs'.setIfInBounds j (.int .i64 (x + 1))) (dig ns (k + 1))))

set_option maxRecDepth 100000 in
set_option maxHeartbeats 2000000 in
theorem iter109 (n bt B : Nat) (T : Treaty) (a2 : Option Addr) (c2 : Nat) (ok : TOk T) : IterOk n 109 #[.pointer (some ⟨bt, 0, none⟩)] B (prodN (lensOf T)) (GivesR T) (RepW bt T a2 c2) := by
  intro l J Jx W hsz hJ hrep hY h0
  have hlen : T.words.length ≤ 6 := ok.nwords
  have HL : Hid (∀ j, (h : j < (lensOf T).length) → (h' : j < T.words.length) → (lensOf T)[j] = T.words[j].length) := Lib.hid fun j h h' => by simp [lensOf]
  have hll : (lensOf T).length = T.words.length := by simp [lensOf]
  have HLL := Lib.hid hll
  have HOK := Lib.hid ok
  obtain ⟨r1, r2⟩ := hrep 0 W h0
  have HJ := Lib.hid hJ
  have HR := Lib.hid hrep
  have HY : Hid (∀ k v W0 W1, k < prodN (lensOf T) → J k W0 → Aft W0 W1 → B + 3 ≤ W0.heap.size → GivesR T k W0 W1 v → YieldAt Fence.wide (n - 1) Try.prog l #[v] W1 (YieldR' J Jx B k W1)) := Lib.hid hY
  have H0 := Lib.hid h0
  have HP : Hid (1 ≤ prodN (lensOf T)) := Lib.hid (prodN_pos ok.lens)
  clear hJ hrep hY h0 hll ok
  refine callsIn_wide.2 ?_
  show Calls Try.prog 109 #[.func (.yield l) #[] #[], .pointer (some ⟨bt, 0, none⟩)] W (IterR J Jx (prodN (lensOf T)))
  have hbt2 := r1
  clear r2
  obtain ⟨i0, hi0, hz0, hz1, hz2⟩ := info_parts (show (Try.prog.info? 3).map (fun i => (i.zero, i.size, i.bytes)) = some (some (.int .i64 0), 1, 8) by kernel_rfl)
  have HI := Lib.hid hi0
  have HZ0 := Lib.hid hz0
  have HZ1 := Lib.hid hz1
  have HZ2 := Lib.hid hz2
  clear hi0 hz0 hz1 hz2 r1
  go_enter Try.func109, Try.ntmps109
  go_upto_block 0 with (at_make; refine wpList_make_row _ rfl _ _ 24 rfl 3 i0 (.int .i64 0) Try.underlying24 HI.out HZ0.out HZ1.out rfl .i64 .i64 T.words.length rfl rfl (by rw [HZ2.out]; omega) (by omega) ?_)
  have HB0 := Lib.hid (Blk.new W 3 (madeCells #[Value.int .i64 0] T.words.length))
  have HA0 := Lib.hid (Aft.alloc W (.cells (madeCells #[Value.int .i64 0] T.words.length) 3))
  have hz3 : (W.alloc (.cells (madeCells #[Value.int .i64 0] T.words.length) 3)).heap.size = B + 3 := by simp [hsz]
  rw [hsz] at HB0
  have HSZ := Lib.hid hsz
  clear hsz
  have HJ0 : Hid (J 0 (W.alloc (.cells (madeCells #[Value.int .i64 0] T.words.length) 3))) := Lib.hid (HJ.out _ _ _ H0.out (only_of_aft HA0.out _))
  generalize W.alloc (.cells (madeCells #[Value.int .i64 0] T.words.length) 3) = W1 at *
  clear hbt2
  refine wp_block ?_
  go_loopg [] (prodN (lensOf T)) (fun gk wr => ∃ k cs, k + gk = prodN (lensOf T) ∧ k < prodN (lensOf T) ∧ J k wr ∧ Blk wr (B + 2) 3 cs ∧ Nums cs (dig (lensOf T) k) ∧ cs.size = T.words.length ∧ B + 3 ≤ wr.heap.size)
  case atStart =>
    have hd0 : (dig (lensOf T) 0).length = T.words.length := by rw [dig_len]; exact HLL.out
    refine ⟨0, _, by omega, by have := HP.out; omega, HJ0.out, HB0.out, ⟨by rw [size_madeCells, hd0]; exact Nat.le_refl _, fun t ht => ?_⟩, size_madeCells _ _, by omega⟩
    rw [hd0] at ht
    have e0 : (dig (lensOf T) 0)[t] = 0 := by simp [dig_zero]
    rw [e0]
    simp [madeCells, ht, Nat.mod_one]
  case round =>
    obtain ⟨k, cs, hkg, hkN, hj, hb, hn, hcs, hsz⟩ := hrel
    have hdl : (dig (lensOf T) k).length = T.words.length := by rw [dig_len]; exact HLL.out
    have hin : Ints wr (some ⟨B + 2, 0, none⟩) (dig (lensOf T) k) := ⟨by omega, .inr ⟨B + 2, 0, rfl, hb.lt, fun i hi => ⟨_, rfl, rfl, fun j hj => by
      have : j = 0 := by simp at hj; omega
      subst this
      have := hb.cell i
      rw [hn.2 i hi] at this
      simpa using this⟩⟩⟩
    have HC : Hid (Calls Try.prog 84 #[.slice (some ⟨B + 2, 0, none⟩) T.words.length T.words.length] wr (OwnInts wr (dig (lensOf T) k))) := Lib.hid (by
      have := clone84 _ _ T.words.length wr hin
      rwa [hdl] at this)
    have HYK := Lib.hid fun v W1 => HY.out k v wr W1 hkN hj
    have HB := Lib.hid hb
    have HN := Lib.hid hn
    have HCS := Lib.hid hcs
    have HKG := Lib.hid hkg
    have HSZ2 := Lib.hid hsz
    clear hdl hin hb hn hcs hkg hj hsz hz3
    go_upto_region 1 with (fail)
    refine (wpIn_wide (n := n)).1 ?_
    gi_wp2_with (refine ⟨trivial, (fun h => by cases h), ?_⟩; gi_at_call 84; refine (callsIn_wide.2 HC.out).mono ?_; rintro e w1 ⟨v, rfl, hown, ha⟩; obtain ⟨fn, tmps, assign, body, hy, hR⟩ := HYK.out v w1 ha HSZ2.out hown)
    refine ⟨(fun h => by cases h), hR.mono ?_⟩
    rintro e W3 (⟨rfl, hJ3, hk3, hs3⟩ | ⟨rfl, hJx3⟩)
    · have hb3 : Blk W3 (B + 2) 3 cs := hk3.trans (HB.out.aft ha)
      have hs3' : B + 3 ≤ W3.heap.size := Nat.le_trans HSZ2.out (Nat.le_trans ha.size hs3)
      clear hy hR hown HC HYK HB
      have HJ3 := Lib.hid hJ3
      have HB3 := Lib.hid hb3
      clear hJ3 hb3 hk3 hs3 ha
      have hdl : (dig (lensOf T) k).length = T.words.length := by rw [dig_len]; exact HLL.out
      have HDL := Lib.hid hdl
      clear hdl
      gi_wp2_with fail
      go_upto_block 2 with (fail)
      go_cut [4] from 17 (fun s4 wx => AfterT (lensOf T) T.words.length k B W3 s4 wx)
      case first =>
        go_wp2_with fail
        go_loopw [4] (fun s4 wx => ∃ (i : Nat) (l : List Int) (cs' : Array Value), s4 = .int .i64 ((i : Int) - 1) ∧ i ≤ T.words.length ∧ Blk wx (B + 2) 3 cs' ∧ Nums cs' l ∧ cs'.size = T.words.length ∧ Turned (lensOf T) k i l ∧ W3.grownBy wx (some (B + 2))) (fun s4 _ => (intOf s4 + 1).toNat)
        case atStart => exact ⟨T.words.length, _, cs, rfl, Nat.le_refl _, HB3.out, HN.out, HCS.out, Turned.start HLL.out, only_refl _ _⟩
        case round =>
          obtain ⟨i, l', cs', rfl, hi, hb', hn', hcs', ht, hg⟩ := hrel
          have HB' := Lib.hid hb'
          have HN' := Lib.hid hn'
          have HCS' := Lib.hid hcs'
          have HT := Lib.hid ht
          have HG := Lib.hid hg
          clear hb' hn' hcs' ht hg
          by_cases hi0 : i = 0
          · subst hi0
            have em : (((0 : Nat) : Int) - 1) = -1 := rfl
            rw [em]
            clear em
            go_wp2_with fail
            go_quiet (fail)
            go_wp2_with fail
            go_meet
            case rel => exact ⟨0, cs', rfl, HB'.out.drewN _, HCS'.out, only_drewN HG.out _, .inl ⟨rfl, HT.out.end_ HOK.out.lens hkN⟩⟩
          · obtain ⟨j, rfl⟩ : ∃ j, i = j + 1 := ⟨i - 1, by omega⟩
            have em : (((j + 1 : Nat) : Int) - 1) = (j : Int) := by omega
            rw [em]
            have hrep := HR.out (k + 1) _ (HJ.out _ _ _ HJ3.out HG.out)
            have hj : j < T.words.length := by omega
            obtain ⟨r1, r2⟩ := hrep
            obtain ⟨bw, ow, rfl, hbw, hcw⟩ := r2.at hj
            obtain ⟨vs, v1, ⟨Aw, cw, rfl, -⟩, v3⟩ := hcw j hj
            have r3 : wr.cell? ⟨bw, ow + j, none⟩ = some (.slice Aw T.words[j].length cw) := by have := v3 0 (by simp); simpa using this
            have hjl : j < (lensOf T).length := by rw [HLL.out]; exact hj
            have hll' := HT.out.len
            have hjl' : j < l'.length := by omega
            have hdj : j < (dig (lensOf T) k).length := by rw [dig_len]; exact hjl
            obtain ⟨x0, x1⟩ := (readOk_iff.2 (dig_ok _ _ HOK.out.lens hkN)).2 j hdj hj
            have hwl := HOK.out.wlen _ (List.getElem_mem hj)
            have HGT := Lib.hid (HT.out.get hjl' hdj)
            have HLJ := Lib.hid (HL.out j hjl hj)
            have HST := Lib.hid (fun e => HT.out.step hjl hjl' e)
            have HDN := Lib.hid (fun e => HT.out.done HOK.out.lens hkN hjl hjl' e)
            have HNS := Lib.hid (fun y => HN'.out.set j y)
            have c1 : wr.cell? ⟨B + 2, j, none⟩ = some (.int .i64 l'[j]) := (HB'.out.cell j).trans (HN'.out.2 j hjl')
            have HCX : Hid (cs'[j]? = some (.int .i64 l'[j])) := Lib.hid (HN'.out.2 j hjl')
            have c2 := HB'.out.frozen j
            rw [← HGT.out] at x0 x1
            rw [HLJ.out] at HST HDN
            clear hcw v1 v3 r2 hll' HGT HLJ
            generalize l'[j] = x at *
            generalize T.words[j].length = m at *
            have i1 : (0 : Int) ≤ (j : Int) ∧ (j : Int) < (T.words.length : Int) := by omega
            by_cases hx : x = (m : Int) - 1
            · have t1 : (x == (m : Int) - 1) = true := by simpa using hx
              have HST2 := Lib.hid (HST.out hx)
              clear hx HDN HST
              go_wp2_with fail
              go_quiet (fail)
              go_wp2_with fail
              refine ⟨⟨j, _, _, rfl, by omega, (HB'.out.drewN _).store j _, HNS.out 0, by simpa using HCS'.out, HST2.out, only_setCell (only_drewN HG.out _) (.inl rfl) _⟩, by simp [intOf]⟩
            · have t1 : (x == (m : Int) - 1) = false := by simpa using hx
              obtain ⟨d1, d2⟩ := HDN.out hx
              have HNS2 := Lib.hid (HNS.out (x + 1))
              rw [d2] at HNS2
              clear hx HDN HST d2
              go_wp2_with fail
              go_quiet (fail)
              go_wp2_with fail
              go_meet
              case rel => exact ⟨j + 1, cs', by rw [em], HB'.out.drewN _, HCS'.out, only_drewN HG.out _, .inr ⟨j, x, rfl, hj, d1, HCX.out, x0, by omega, HNS2.out⟩⟩
      case rest =>
        obtain ⟨i, cs', rfl, hb', hcs', hg, (⟨rfl, he⟩ | ⟨j, x, rfl, hj, hk1, hcx, x0, x1, hn'⟩)⟩ := hcut
        · have HE := Lib.hid he
          have HG := Lib.hid hg
          clear he hg hb' hcs'
          have em : (((0 : Nat) : Int) - 1) = -1 := rfl
          rw [em]
          clear em
          go_wp2_with fail
          go_end0
          exact ⟨⟨_, rfl⟩, .inl (by rw [← HE.out]; exact HJ.out _ _ _ HJ3.out HG.out)⟩
        · have em : (((j + 1 : Nat) : Int) - 1) = (j : Int) := by omega
          rw [em]
          clear em
          have HB' := Lib.hid hb'
          have HN' := Lib.hid hn'
          have HCS' := Lib.hid hcs'
          have HG := Lib.hid hg
          have c1 : wc.cell? ⟨B + 2, j, none⟩ = some (.int .i64 x) := (hb'.cell j).trans hcx
          have c2 := hb'.frozen j
          have i1 : (0 : Int) ≤ (j : Int) ∧ (j : Int) < (T.words.length : Int) := by omega
          clear hb' hn' hcs' hg hcx
          go_wp2_with fail
          go_roundg (gk - 1)
          case measure => have := HKG.out; omega
          case rel => exact ⟨k + 1, _, by have := HKG.out; omega, hk1, HJ.out _ _ _ HJ3.out (only_setCell HG.out (.inl rfl) _), HB'.out.store j _, HN'.out, by simpa using HCS'.out, by have := HG.out.size; simp; omega⟩
    · gi_wp2_with fail
      go_wp2_with fail
      go_end0
      exact ⟨⟨_, rfl⟩, .inr hJx3⟩
end Go.Proofs
end

section
/- Plain: a desk on which some legs yield. -/
namespace Go.Proofs

/-- whether each leg can lead, if some legs yield -/
def setS (f : Nat → Nat → Nat → Bool) (S : List Int) (p : Nat) : Nat → Nat → Nat → Bool := fun i x y => f i x y || hasB S i && decide (x < p) && decide (y < p)

def EInv (f : Nat → Nat → Nat → Bool) (S : List Int) (p leg a b : Nat) (g : Nat → Nat → Nat → Bool) : Prop :=
  ∀ i x y, i < 10 → x < 12 → y < 12 → (g i x y = true ↔ f i x y = true ∨ (x < p ∧ y < p ∧ ((i : Int) ∈ S ∨ i = leg ∧ (x < a ∨ x = a ∧ y < b))))

section
variable {f g : Nat → Nat → Nat → Bool} {S : List Int} {p leg a b : Nat}
theorem EInv.init : EInv f [] p leg 0 0 f := fun i x y _ _ _ => by simp
theorem EInv.any (h : EInv f S p leg 0 0 g) (leg' : Nat) : EInv f S p leg' 0 0 g := fun i x y hi hx hy => by
  rw [h i x y hi hx hy]; simp
theorem EInv.step (h : EInv f S p leg a b g) (ha : a < p) (hb : b < p) : EInv f S p leg a (b + 1) (upd3 g leg a b true) := fun i x y hi hx hy => by
  unfold upd3
  by_cases e : i = leg ∧ x = a ∧ y = b
  · rw [if_pos e]
    obtain ⟨rfl, rfl, rfl⟩ := e
    exact ⟨fun _ => .inr ⟨ha, hb, .inr ⟨rfl, .inr ⟨rfl, by omega⟩⟩⟩, fun _ => rfl⟩
  · rw [if_neg e, h i x y hi hx hy]
    constructor
    · rintro (h1 | ⟨h1, h2, h3⟩)
      · exact .inl h1
      · refine .inr ⟨h1, h2, h3.imp id fun h4 => ⟨h4.1, h4.2.imp id fun h5 => ⟨h5.1, by omega⟩⟩⟩
    · rintro (h1 | ⟨h1, h2, h3⟩)
      · exact .inl h1
      · refine .inr ⟨h1, h2, h3.imp id fun h4 => ⟨h4.1, h4.2.imp id fun h5 => ⟨h5.1, ?_⟩⟩⟩
        have : ¬ y = b := fun e2 => e ⟨h4.1, h5.1, e2⟩
        omega
theorem EInv.row (h : EInv f S p leg a p g) : EInv f S p leg (a + 1) 0 g := fun i x y hi hx hy => by
  rw [h i x y hi hx hy]
  constructor
  · rintro (h1 | ⟨h1, h2, h3⟩)
    · exact .inl h1
    · refine .inr ⟨h1, h2, h3.imp id fun h4 => ⟨h4.1, .inl (by omega)⟩⟩
  · rintro (h1 | ⟨h1, h2, h3⟩)
    · exact .inl h1
    · refine .inr ⟨h1, h2, h3.imp id fun h4 => ⟨h4.1, by omega⟩⟩
theorem EInv.done (h : EInv f S p leg p 0 g) : EInv f (S ++ [(leg : Int)]) p leg 0 0 g := fun i x y hi hx hy => by
  rw [h i x y hi hx hy]
  constructor
  · rintro (h1 | ⟨h1, h2, h3⟩)
    · exact .inl h1
    · refine .inr ⟨h1, h2, .inl ?_⟩
      rw [List.mem_append, List.mem_singleton]
      exact h3.imp id fun h4 => by omega
  · rintro (h1 | ⟨h1, h2, h3⟩)
    · exact .inl h1
    · refine .inr ⟨h1, h2, ?_⟩
      rw [List.mem_append, List.mem_singleton] at h3
      rcases h3 with (h4 | h4) | h4
      · exact .inl h4
      · exact .inr ⟨by omega, .inl h1⟩
      · omega
theorem EInv.set (h : EInv f S p leg 0 0 g) {i x y : Nat} (hi : i < 10) (hx : x < 12) (hy : y < 12) : g i x y = setS f S p i x y := by
  rw [Bool.eq_iff_iff, h i x y hi hx hy]
  unfold setS
  simp only [Bool.or_eq_true, Bool.and_eq_true, decide_eq_true_eq, hasB_iff]
  constructor
  · rintro (h1 | ⟨h1, h2, h3 | h3⟩)
    · exact .inl h1
    · exact .inr ⟨⟨h3, h1⟩, h2⟩
    · omega
  · rintro (h1 | ⟨⟨h3, h1⟩, h2⟩)
    · exact .inl h1
    · exact .inr ⟨h1, h2, .inl h3⟩
end
end Go.Proofs
end
