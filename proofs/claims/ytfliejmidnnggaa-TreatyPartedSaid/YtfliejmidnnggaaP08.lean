/- Merged by program out of the texts Mgd Mge Mgg. -/
import Derived.Test.YtfliejmidnnggaaP07
section
/- Walks: a made treaty: how a meaning is added. -/
namespace Go.Proofs
open Go.RowKit

def MeanOk (p : Nat) (m : Mean) : Prop := ((∀ x ∈ m.kinds, 0 ≤ x ∧ x < 4) ∧ risesB m.kinds = true) ∧ (∀ x ∈ m.ends, 0 ≤ x ∧ x < (p : Int)) ∧ risesB m.ends = true
/-- An own list of numbers under e that rise. -/
def OwnN (b3 e : Nat) (v : Value) (w : World) : Prop := ∃ ns : List Int, w.ownsRow b3 3 1 v ns.length (ns.map (Value.int .i64)) ∧ ns.length ≤ e ∧ (∀ x ∈ ns, 0 ≤ x ∧ x < (e : Int)) ∧ risesB ns = true
def OwnM (b3 p : Nat) (v1 v2 : Value) (w : World) (m : Mean) : Prop := w.ownsRow b3 3 1 v1 m.kinds.length (m.kinds.map (Value.int .i64)) ∧ w.ownsRow b3 3 1 v2 m.ends.length (m.ends.map (Value.int .i64)) ∧ m.kinds.length ≤ 4 ∧ m.ends.length ≤ p ∧ MeanOk p m
theorem own_kept' {b e sz n : Nat} {v : Value} {xs : List Value} {w w' : World} (h : w.ownsRow b e sz v n xs) {row : Option Nat} (hg : w.grownBy w' row) (hr : ∀ k, row = some k → k < b) : w'.ownsRow b e sz v n xs := by
  refine h.kept hg ?_
  cases hb : v.ownBlock with
  | none => exact .inl rfl
  | some g => exact .inr fun e => by have := (h.lt g hb).1; have := hr g (by rw [← e]); omega
theorem OwnN.kept {b3 e : Nat} {v : Value} {w w' : World} (h : OwnN b3 e v w) {row : Option Nat} (hg : w.grownBy w' row) (hr : ∀ k, row = some k → k < b3) : OwnN b3 e v w' := let ⟨ns, h1, h2⟩ := h; ⟨ns, own_kept' h1 hg hr, h2⟩
theorem OwnM.kept {b3 p : Nat} {v1 v2 : Value} {m : Mean} {w w' : World} (h : OwnM b3 p v1 v2 w m) {row : Option Nat} (hg : w.grownBy w' row) (hr : ∀ k, row = some k → k < b3) : OwnM b3 p v1 v2 w' m := ⟨own_kept' h.1 hg hr, own_kept' h.2.1 hg hr, h.2.2⟩
theorem ty78 : SliceTy Try.prog 78 80 2 48 := .mk' (z := .agg #[.slice none 0 0, .slice none 0 0]) Try.underlying78 (by kernel_rfl) rfl (by decide)
/-- The list with one more meaning. -/
def More12 (base p : Nat) (ms : List Mean) (v : Value) (w : World) : Prop := ∃ S m xs, MeanOk p m ∧ OwnK MeanR 80 2 base v S (ms ++ [m]) xs w
theorem More12.kept {base p : Nat} {ms : List Mean} {v : Value} {w w' : World} (h : More12 base p ms v w) {row : Option Nat} (hg : w.grownBy w' row) (hr : ∀ k, row = some k → k < base) : More12 base p ms v w' := let ⟨S, m, xs, h1, h2⟩ := h; ⟨S, m, xs, h1, h2.kept hg hr⟩

def b12 (b : Bool) (n : Nat) : Nat := if b then n else 0
theorem b12_le (b : Bool) (n : Nat) : b12 b n ≤ n := by cases b <;> simp [b12]
structure W12 (w0 : World) (d : Nat) (A : Option Addr) (l : List Int) (c m : Nat) (wE W8 : World) (B base p : Nat) (vS : Value) (S : Nat → Prop) (ms : List Mean) (xs : List Value) (done : Nat → Bool) (w : World) : Prop where
  deck : DeckAt w0 d A l c (m + b12 (done 2) 4 + b12 (done 6) p) w
  grown : wE.grownBy w (some d)
  keep : W8.heap.size ≤ w.heap.size ∧ ∀ k, k < W8.heap.size → k ≠ d → vS.ownBlock ≠ some k → w.heap[k]? = W8.heap[k]?
  own : done 9 = false → OwnK MeanR 80 2 base vS S ms xs w

def Fact12 (d B base b3 p : Nat) (vS : Value) (ms : List Mean) : Nat → Value → World → Prop
  | 0, v, _ => v = vS
  | 1, v, _ => v = .pointer (some ⟨d, 0, none⟩)
  | 2, v, w => OwnN b3 4 v w
  | 3, v, _ => v = .pointer (some ⟨d, 0, none⟩)
  | 4, v, _ => v = .pointer (some ⟨B, 0, none⟩)
  | 5, v, _ => v = .int .i64 p
  | 6, v, w => OwnN b3 p v w
  | 7, v, w => ∃ v1 v2 m, v = .agg #[v1, v2] ∧ OwnM b3 p v1 v2 w m
  | 8, v, w => ∃ v1 v2 m b, v = .slice (some ⟨b, 0, none⟩) 1 1 ∧ OwnM b3 p v1 v2 w m ∧ Blk w b 80 #[v1, v2] ∧ b3 ≤ b
  | 9, v, w => More12 base p ms v w
  | 10, v, w => More12 base p ms v w
  | _, _, _ => True
theorem Fact12.kept {d B base b3 p : Nat} {vS : Value} {ms : List Mean} {w w' : World} {row : Option Nat} (hg : w.grownBy w' row) (hr : ∀ k, row = some k → k < base) (hb : base ≤ b3) {i : Nat} {v : Value} (h : Fact12 d B base b3 p vS ms i v w) : Fact12 d B base b3 p vS ms i v w' := by
  have hr' : ∀ k, row = some k → k < b3 := fun k e => Nat.lt_of_lt_of_le (hr k e) hb
  unfold Fact12 at h ⊢
  split at h <;> first
    | exact h
    | exact OwnN.kept h hg hr'
    | exact More12.kept h hg hr
    | (obtain ⟨v1, v2, m, e, h1⟩ := h; exact ⟨v1, v2, m, e, h1.kept hg hr'⟩)
    | (obtain ⟨v1, v2, m, b, e, h1, h2, h3⟩ := h; exact ⟨v1, v2, m, b, e, h1.kept hg hr', h2.grown hg (fun e => by have := hr' b e.symm; omega), h3⟩)
theorem Fact12.low {d B base b3 p : Nat} {vS : Value} {ms : List Mean} {w w' : World} {row : Option Nat} (hg : w.grownBy w' row) (hr : ∀ k, row = some k → k < b3) {i : Nat} (hi : i < 9) {v : Value} (h : Fact12 d B base b3 p vS ms i v w) : Fact12 d B base b3 p vS ms i v w' := by
  unfold Fact12 at h ⊢
  split at h <;> first
    | exact h
    | omega
    | exact OwnN.kept h hg hr
    | (obtain ⟨v1, v2, m, e, h1⟩ := h; exact ⟨v1, v2, m, e, h1.kept hg hr⟩)
    | (obtain ⟨v1, v2, m, b, e, h1, h2, h3⟩ := h; exact ⟨v1, v2, m, b, e, h1.kept hg hr, h2.grown hg (fun e => by have := hr b e.symm; omega), h3⟩)

section
variable {w0 : World} {d : Nat} {A : Option Addr} {l : List Int} {c m : Nat} {wE W8 : World} {B base p : Nat} {vS : Value} {S : Nat → Prop} {ms : List Mean} {xs : List Value} {done : Nat → Bool} {w w' : World}
theorem W12.same (h : W12 w0 d A l c m wE W8 B base p vS S ms xs done w) {i : Nat} (h2 : i ≠ 2) (h6 : i ≠ 6) (h9 : i ≠ 9) : W12 w0 d A l c m wE W8 B base p vS S ms xs (upd done i) w := by
  have e : ∀ j, j ≠ i → upd done i j = done j := fun j hj => by unfold upd; rw [if_neg hj]
  refine ⟨?_, h.grown, h.keep, ?_⟩
  · rw [e 2 (Ne.symm h2), e 6 (Ne.symm h6)]; exact h.deck
  · rw [e 9 (Ne.symm h9)]; exact h.own
theorem W12.kept (h : W12 w0 d A l c m wE W8 B base p vS S ms xs done w) {row : Option Nat} (hg : w.grownBy w' row) (hr : ∀ k, row = some k → k = d ∨ vS.ownBlock = some k) : W8.heap.size ≤ w'.heap.size ∧ ∀ k, k < W8.heap.size → k ≠ d → vS.ownBlock ≠ some k → w'.heap[k]? = W8.heap[k]? :=
  ⟨Nat.le_trans h.keep.1 hg.size, fun k hk h1 h3 => (hg.block k (Nat.lt_of_lt_of_le hk h.keep.1) (fun e => by rcases hr k e.symm with g | g <;> (first | exact h1 g | exact h3 g))).trans (h.keep.2 k hk h1 h3)⟩
end

set_option maxRecDepth 100000 in
set_option maxHeartbeats 2000000 in
theorem region12_made (w0 : World) (d : Nat) (A : Option Addr) (l : List Int) (c m : Nat) (wE : World) (B base p : Nat) (vS : Value) (S : Nat → Prop) (ms : List Mean) (xs : List Value) (z1 z2 z3 z4 : Value) (a0 : Act) (Q0 : Exit → Act → World → Prop) (W8 : World)
    (hz : a0.tmps.size = 105) (s0 : a0.eval (.tmp 0) = .pointer (some ⟨d, 0, none⟩)) (s5 : a0.eval (.tmp 5) = .pointer (some ⟨B, 0, none⟩)) (s7 : a0.eval (.tmp 7) = vS) (hp8 : p ≤ 8)
    (hD : DeckAt w0 d A l c m W8) (hm : m ≤ 800000) (hg : wE.grownBy W8 (some d)) (hbx : Blk W8 B 27 #[.int .i64 p, z1, z2, z3, z4]) (hown : OwnK MeanR 80 2 base vS S ms xs W8) (hn : ms.length ≤ 100) (hBb : B < base) (hdB : d < B) (hE : wE.heap.size ≤ base) (hsz : base ≤ W8.heap.size)
    (hexit : ∀ a W', a.tmps.size = 105 → a.defers = a0.defers → (∀ s : Nat, s ≠ 7 → (s < 47 ∨ 56 < s) → a.eval (.tmp s) = a0.eval (.tmp s)) → DeckAt w0 d A l c (m + 4 + p) W' → wE.grownBy W' (some d) →
      (W8.heap.size ≤ W'.heap.size ∧ ∀ k, k < W8.heap.size → k ≠ d → vS.ownBlock ≠ some k → W'.heap[k]? = W8.heap[k]?) → More12 base p ms (a.eval (.tmp 7)) W' → Q0 .normal a W') :
    Code.wp Try.prog (Code.region 12 (opsMade 12).toArray true) Q0 a0 W8 := by
  have HEX := Lib.hid hexit
  have hvS : ∀ k, vS.ownBlock = some k → base ≤ k ∧ k < W8.heap.size := fun k e => hown.own.lt k e
  clear hexit
  refine wp_region_facts (by kernel_rfl) 105 hz (by kernel_rfl) (Fact12 d B base W8.heap.size p vS ms) (W12 w0 d A l c m wE W8 B base p vS S ms xs) ⟨hD.aft (Aft.drew _), only_drew hg, ⟨Nat.le_refl _, fun _ _ _ _ => rfl⟩, fun _ => hown.aft (Aft.drew _)⟩ ?step ?fin
  case step =>
    intro i o ho done a w hH hd hp K hK
    have hW := hH.wd
    have hold : ∀ s : Nat, s ≠ 7 → (s < 47 ∨ 56 < s) → a.eval (.tmp s) = a0.eval (.tmp s) := fun s h7 h => hH.old s fun k ok hk hs => by
      match k, hk with
      | 0, hk => cases hk; cases hs; exact absurd h (by decide)
      | 1, hk => cases hk; cases hs; exact absurd h (by decide)
      | 2, hk => cases hk; cases hs; exact absurd h (by decide)
      | 3, hk => cases hk; cases hs; exact absurd h (by decide)
      | 4, hk => cases hk; cases hs; exact absurd h (by decide)
      | 5, hk => cases hk; cases hs; exact absurd h (by decide)
      | 6, hk => cases hk; cases hs; exact absurd h (by decide)
      | 7, hk => cases hk; cases hs; exact absurd h (by decide)
      | 8, hk => cases hk; cases hs; exact absurd h (by decide)
      | 9, hk => cases hk; cases hs; exact absurd h (by decide)
      | 10, hk => cases hk; cases hs; exact absurd rfl h7
      | _ + 11, hk => cases hk
    have hK' : ∀ v, i ≠ 2 → i ≠ 6 → i ≠ 9 → Fact12 d B base W8.heap.size p vS ms i v w → K (a.put o.dst v) w := fun v h2 h6 h9 hv => hK v w hv (hW.same h2 h6 h9) fun j _ u hu => hu
    have hbox : Blk w B 27 #[.int .i64 p, z1, z2, z3, z4] := (hW.keep.2 B (Nat.lt_of_lt_of_le hBb hsz) (by omega) (fun e => by have := (hvS B e).1; omega)).trans hbx
    match i, ho with
    | 0, ho =>
      cases ho
      have e7 : a.eval (.tmp 7) = vS := (hH.old 7 fun k ok hk hs => by
        match k, hk with
        | 0, hk => cases hk; cases hs
        | 1, hk => cases hk; cases hs
        | 2, hk => cases hk; cases hs
        | 3, hk => cases hk; cases hs
        | 4, hk => cases hk; cases hs
        | 5, hk => cases hk; cases hs
        | 6, hk => cases hk; cases hs
        | 7, hk => cases hk; cases hs
        | 8, hk => cases hk; cases hs
        | 9, hk => cases hk; cases hs
        | 10, hk =>
          cases hdk : done 10 with
          | false => rfl
          | true => have := hH.closed 10 _ hk hdk 0 (by cases hk; decide); rw [hd] at this; cases this
        | _ + 11, hk => cases hk).trans s7
      exact op_value (by simp [go_sem, ev e7]) (hK' _ (by decide) (by decide) (by decide) rfl)
    | 1, ho =>
      cases ho
      have e : a.eval (.tmp 0) = .pointer (some ⟨d, 0, none⟩) := (hold 0 (by decide) (by decide)).trans s0
      exact op_value (by simp [go_sem, ev e]) (hK' _ (by decide) (by decide) (by decide) rfl)
    | 2, ho =>
      cases ho
      have e : a.eval (.tmp 48) = .pointer (some ⟨d, 0, none⟩) := hH.fact 1 _ 48 rfl rfl (hp 1 (by decide))
      have hdk := hW.deck
      rw [hd] at hdk
      refine op_call3 Try.func42 (by kernel_rfl) (by kernel_rfl) _ _ _ rfl e rfl rfl (some_any w0 d A l c _ 4 2 w hdk (by have h1 := b12_le (done 6) p; have h2 : b12 false 4 = 0 := rfl; omega) (by omega) (by omega) (by omega)) ?_
      rintro e w' ⟨v, ns, rfl, g1, g2, g3, g4, g5, g6⟩
      refine ⟨_, rfl, hK _ _ ⟨ns, World.ownsRow.mono g1 hW.keep.1, g2, g3, g4⟩ ⟨g5.more ?_, hW.grown.trans g6, hW.kept g6 (fun k e => by cases e; exact .inl rfl), fun h => (hW.own h).kept g6 (fun k e => by cases e; omega)⟩ fun j _ u hu => Fact12.kept g6 (fun k e => by cases e; omega) hsz hu⟩
      show m + b12 false 4 + b12 (done 6) p + 4 ≤ m + b12 (upd done 2 2) 4 + b12 (upd done 2 6) p
      have e1 : upd done 2 2 = true := rfl
      have e2 : upd done 2 6 = done 6 := rfl
      rw [e1, e2]; unfold b12; simp; omega
    | 3, ho =>
      cases ho
      have e : a.eval (.tmp 0) = .pointer (some ⟨d, 0, none⟩) := (hold 0 (by decide) (by decide)).trans s0
      exact op_value (by simp [go_sem, ev e]) (hK' _ (by decide) (by decide) (by decide) rfl)
    | 4, ho =>
      cases ho
      have e : a.eval (.tmp 5) = .pointer (some ⟨B, 0, none⟩) := (hold 5 (by decide) (by decide)).trans s5
      exact op_value (by simp [go_sem, ev e]) (hK' _ (by decide) (by decide) (by decide) rfl)
    | 5, ho =>
      cases ho
      have e : a.eval (.tmp 51) = .pointer (some ⟨B, 0, none⟩) := hH.fact 4 _ 51 rfl rfl (hp 4 (by decide))
      have hc : w.cell? ⟨B, 0, none⟩ = some (.int .i64 p) := hbox.cell 0
      exact op_value (by simp [go_sem, ev e, hc]) (hK' _ (by decide) (by decide) (by decide) rfl)
    | 6, ho =>
      cases ho
      have e : a.eval (.tmp 50) = .pointer (some ⟨d, 0, none⟩) := hH.fact 3 _ 50 rfl rfl (hp 3 (by decide))
      have ep : a.eval (.tmp 52) = .int .i64 p := hH.fact 5 _ 52 rfl rfl (hp 5 (by decide))
      have hdk := hW.deck
      rw [hd] at hdk
      refine op_call3 Try.func42 (by kernel_rfl) (by kernel_rfl) _ _ _ rfl e ep rfl (some_any w0 d A l c _ p 2 w hdk (by have h1 := b12_le (done 2) 4; have h2 : b12 false p = 0 := rfl; omega) (by omega) (by omega) (by omega)) ?_
      rintro e w' ⟨v, ns, rfl, g1, g2, g3, g4, g5, g6⟩
      refine ⟨_, rfl, hK _ _ ⟨ns, World.ownsRow.mono g1 hW.keep.1, g2, g3, g4⟩ ⟨g5.more ?_, hW.grown.trans g6, hW.kept g6 (fun k e => by cases e; exact .inl rfl), fun h => (hW.own h).kept g6 (fun k e => by cases e; omega)⟩ fun j _ u hu => Fact12.kept g6 (fun k e => by cases e; omega) hsz hu⟩
      show m + b12 (done 2) 4 + b12 false p + p ≤ m + b12 (upd done 6 2) 4 + b12 (upd done 6 6) p
      have e1 : upd done 6 6 = true := rfl
      have e2 : upd done 6 2 = done 2 := rfl
      rw [e1, e2]; unfold b12; simp
    | 7, ho =>
      cases ho
      obtain ⟨ks, g1, g2, g3, g4⟩ : OwnN W8.heap.size 4 (a.eval (.tmp 49)) w := hH.fact 2 _ 49 rfl rfl (hp 2 (by decide))
      obtain ⟨es, q1, q2, q3, q4⟩ : OwnN W8.heap.size p (a.eval (.tmp 53)) w := hH.fact 6 _ 53 rfl rfl (hp 6 (by decide))
      obtain ⟨v1, e1⟩ : ∃ v, a.eval (.tmp 49) = v := ⟨_, rfl⟩
      obtain ⟨v2, e2⟩ : ∃ v, a.eval (.tmp 53) = v := ⟨_, rfl⟩
      rw [e1] at g1
      rw [e2] at q1
      have hf : Fact12 d B base W8.heap.size p vS ms 7 (.agg #[v1, v2]) w := ⟨v1, v2, ⟨ks, es⟩, rfl, g1, q1, g2, q2, ⟨g3, g4⟩, q3, q4⟩
      obtain ⟨sA, sn, sc, rfl⟩ := own_slice' g1
      obtain ⟨tA, tn, tc, rfl⟩ := own_slice' q1
      exact op_value (by simp [go_sem, ev e1, ev e2]) (hK' _ (by decide) (by decide) (by decide) hf)
    | 8, ho =>
      cases ho
      obtain ⟨v1, v2, mm, e, g1⟩ : ∃ v1 v2 m, a.eval (.tmp 54) = .agg #[v1, v2] ∧ OwnM W8.heap.size p v1 v2 w m := hH.fact 7 _ 54 rfl rfl (hp 7 (by decide))
      have h9 : done 9 = false := by
        cases hdk : done 9 with
        | false => rfl
        | true => have := hH.closed 9 _ rfl hdk 8 (by decide); rw [hd] at this; cases this
      have hg' := only_of_aft (Aft.alloc w (.cells #[v1, v2] 80)) none
      have h1 : Fact12 d B base W8.heap.size p vS ms 8 (.slice (some ⟨w.heap.size, 0, none⟩) 1 1) (w.alloc (.cells #[v1, v2] 80)) := ⟨v1, v2, mm, _, rfl, g1.kept hg' (fun k e => by cases e), Blk.new _ _ _, hW.keep.1⟩
      have := hK _ _ h1 ⟨(hW.same (i := 8) (by decide) (by decide) (by decide)).deck.aft (Aft.alloc _ _), only_aft hW.grown (Aft.alloc _ _), hW.kept hg' (fun k e => by cases e), fun _ => (hW.own h9).aft (Aft.alloc _ _)⟩ fun j _ u hu => Fact12.kept hg' (fun k e => by cases e) hsz hu
      obtain ⟨sA, sn, sc, rfl⟩ := own_slice' g1.1
      obtain ⟨tA, tn, tc, rfl⟩ := own_slice' g1.2.1
      unfold Oper.wp
      simpa [go_sem, ev e] using this
    | 9, ho =>
      cases ho
      obtain ⟨v1, v2, mm, b, e, g1, hb, hb3⟩ : ∃ v1 v2 m b, a.eval (.tmp 55) = .slice (some ⟨b, 0, none⟩) 1 1 ∧ OwnM W8.heap.size p v1 v2 w m ∧ Blk w b 80 #[v1, v2] ∧ W8.heap.size ≤ b := hH.fact 8 _ 55 rfl rfl (hp 8 (by decide))
      have e2 : a.eval (.tmp 47) = vS := hH.fact 0 _ 47 rfl rfl (hp 0 (by decide))
      have ho1 := hW.own hd
      have hx := mean_sup g1.1 g1.2.1 (by have := g1.2.2.1; omega) (by have := g1.2.2.2.1; omega)
      have hone : ∀ u ∈ [v1, v2], u.oneCell' = true := fun u hu => by
        rcases List.mem_cons.1 hu with rfl | hu
        · exact own_cell1 g1.1
        · rw [List.mem_singleton] at hu; subst hu; exact own_cell1 g1.2.1
      refine op_app ty78 _ _ rfl (Nat.le_trans hsz hW.keep.1) e2 ho1.own e hb rfl hone (by omega) (by decide) fun v' w' h1 h2 h3 => ?_
      have hpush := ho1.push hx rfl (fun k hk => ?_) h1 h2 h3
      · refine hK _ _ ⟨_, mm, _, g1.2.2.2.2, hpush⟩ ⟨(hW.deck).grown h2 (fun k e => by have := (hvS k e).1; omega), only_grown hW.grown h2 (fun k e => by have := (hvS k e).1; omega), hW.kept h2 (fun k e => .inr e), fun h => (by (have h' : upd done 9 9 = true := rfl); rw [h'] at h; cases h)⟩ fun j hj u hu => ?_
        have : j ≠ 9 := fun e => by rw [e, hd] at hj; cases hj
        have : j ≠ 10 := fun e => by
          subst e
          have := hH.closed 10 _ rfl hj 9 (by decide)
          rw [hd] at this; cases this
        by_cases h9 : j < 9
        · exact Fact12.low h2 (fun k e => (hvS k e).2) h9 hu
        · unfold Fact12 at hu ⊢; split at hu <;> first | exact hu | omega
      · have hk' : W8.heap.size ≤ k := hk.elim (fun e => (g1.1.lt k e).1) (fun e => (g1.2.1.lt k e).1)
        exact ⟨Nat.le_trans hsz hk', fun e => by have := (hvS k e).2; omega⟩
    | 10, ho =>
      cases ho
      obtain ⟨v', e2⟩ : ∃ v', a.eval (.tmp 56) = v' := ⟨_, rfl⟩
      have h1 : More12 base p ms v' w := by rw [← e2]; exact hH.fact 9 _ 56 rfl rfl (hp 9 (by decide))
      exact op_value (by simp [go_sem, ev e2]) (hK' _ (by decide) (by decide) (by decide) h1)
    | _ + 11, ho => cases ho
  case fin =>
    intro done a w hall hH
    have hdone : ∀ i, i < 11 → done i = true := fun i hi => hall i (by exact hi)
    refine HEX.out a w (hH.size.trans hz) hH.defers (fun s h7 h => hH.old s fun k ok hk hs => ?_) ?_ hH.wd.grown hH.wd.keep (hH.fact 10 _ 7 rfl rfl (hdone 10 (by decide)))
    · match k, hk with
      | 0, hk => cases hk; cases hs; exact absurd h (by decide)
      | 1, hk => cases hk; cases hs; exact absurd h (by decide)
      | 2, hk => cases hk; cases hs; exact absurd h (by decide)
      | 3, hk => cases hk; cases hs; exact absurd h (by decide)
      | 4, hk => cases hk; cases hs; exact absurd h (by decide)
      | 5, hk => cases hk; cases hs; exact absurd h (by decide)
      | 6, hk => cases hk; cases hs; exact absurd h (by decide)
      | 7, hk => cases hk; cases hs; exact absurd h (by decide)
      | 8, hk => cases hk; cases hs; exact absurd h (by decide)
      | 9, hk => cases hk; cases hs; exact absurd h (by decide)
      | 10, hk => cases hk; cases hs; exact absurd rfl h7
      | _ + 11, hk => cases hk
    · have := hH.wd.deck
      rw [hdone 2 (by decide), hdone 6 (by decide)] at this
      exact this
end Go.Proofs
end

section
/- Walks: a made treaty: its drawn regions, the frame written out. -/
namespace Go.Proofs
open Go.RowKit

set_option maxRecDepth 100000 in
set_option maxHeartbeats 2000000 in
theorem region5_lit (w0 : World) (d : Nat) (A : Option Addr) (l : List Int) (c m : Nat) (wE : World) (B base n : Nat) (P F : Int) (v1 z2 z3 z4 : Value) (xs : List Value) (q1 q2 q3 q4 q7 q8 q9 q10 q11 q12 q13 q14 q15 q16 q17 q18 q19 q20 q21 q22 q23 q24 q25 q26 q27 q28 q29 q30 q31 q32 q33 q34 q35 q36 q37 q38 q39 q40 q41 q42 q43 q44 q45 q46 q47 q48 q49 q50 q51 q52 q53 q54 q55 q56 q57 q58 q59 q60 q61 q62 q63 q64 q65 q66 q67 q68 q69 q70 q71 q72 q73 q74 q75 q76 q77 q78 q79 q80 q81 q82 q83 q84 q85 q86 q87 q88 q89 q90 q91 q92 q93 q94 q95 q96 q97 q98 q99 q100 q101 q102 q103 q104 : Value) (Q0 : Exit → Act → World → Prop) (W8 : World)
    (hF : 0 ≤ F) (hF2 : F < P) (hP : 2 ≤ P) (hP8 : P ≤ 8)
    (hD : DeckAt w0 d A l c m W8) (hm : m ≤ 900000) (hg : wE.grownBy W8 (some d)) (hbx : Blk W8 B 27 #[.int .i64 P, v1, z2, z3, z4]) (hown : W8.ownsRow base 86 3 v1 n xs) (hn : n ≤ 100) (hBb : B < base) (hdB : d < B) (hE : wE.heap.size ≤ B) (hsz : base ≤ W8.heap.size)
    (hexit : ∀ (u19 u20 u21 u22 u23 u24 u25 u26 u27 u28 u29 u30 u31 u32 u33 u34 u35 u36 u37 : Value) W' wy v', DeckAt w0 d A l c (m + 2) W' → wE.grownBy W' (some d) → base ≤ W'.heap.size → Blk W' B 27 #[.int .i64 P, v', z2, z3, z4] → WayOk P wy → W'.ownsRow base 86 3 v' (n + 1) (xs ++ encWay wy) → Q0 .normal ⟨(List.toArray (.pointer (some ⟨d, 0, none⟩) :: q1 :: q2 :: q3 :: q4 :: .pointer (some ⟨B, 0, none⟩) :: .int .i64 F :: q7 :: q8 :: q9 :: q10 :: q11 :: q12 :: q13 :: q14 :: q15 :: q16 :: q17 :: q18 :: u19 :: u20 :: u21 :: u22 :: u23 :: u24 :: u25 :: u26 :: u27 :: u28 :: u29 :: u30 :: u31 :: u32 :: u33 :: u34 :: u35 :: u36 :: u37 :: q38 :: q39 :: q40 :: q41 :: q42 :: q43 :: q44 :: q45 :: q46 :: q47 :: q48 :: q49 :: q50 :: q51 :: q52 :: q53 :: q54 :: q55 :: q56 :: q57 :: q58 :: q59 :: q60 :: q61 :: q62 :: q63 :: q64 :: q65 :: q66 :: q67 :: q68 :: q69 :: q70 :: q71 :: q72 :: q73 :: q74 :: q75 :: q76 :: q77 :: q78 :: q79 :: q80 :: q81 :: q82 :: q83 :: q84 :: q85 :: q86 :: q87 :: q88 :: q89 :: q90 :: q91 :: q92 :: q93 :: q94 :: q95 :: q96 :: q97 :: q98 :: q99 :: q100 :: q101 :: q102 :: q103 :: q104 :: [])), []⟩ W') :
    Code.wp Try.prog (Code.region 5 (opsMade 5).toArray true) Q0 ⟨(List.toArray (.pointer (some ⟨d, 0, none⟩) :: q1 :: q2 :: q3 :: q4 :: .pointer (some ⟨B, 0, none⟩) :: .int .i64 F :: q7 :: q8 :: q9 :: q10 :: q11 :: q12 :: q13 :: q14 :: q15 :: q16 :: q17 :: q18 :: q19 :: q20 :: q21 :: q22 :: q23 :: q24 :: q25 :: q26 :: q27 :: q28 :: q29 :: q30 :: q31 :: q32 :: q33 :: q34 :: q35 :: q36 :: q37 :: q38 :: q39 :: q40 :: q41 :: q42 :: q43 :: q44 :: q45 :: q46 :: q47 :: q48 :: q49 :: q50 :: q51 :: q52 :: q53 :: q54 :: q55 :: q56 :: q57 :: q58 :: q59 :: q60 :: q61 :: q62 :: q63 :: q64 :: q65 :: q66 :: q67 :: q68 :: q69 :: q70 :: q71 :: q72 :: q73 :: q74 :: q75 :: q76 :: q77 :: q78 :: q79 :: q80 :: q81 :: q82 :: q83 :: q84 :: q85 :: q86 :: q87 :: q88 :: q89 :: q90 :: q91 :: q92 :: q93 :: q94 :: q95 :: q96 :: q97 :: q98 :: q99 :: q100 :: q101 :: q102 :: q103 :: q104 :: [])), []⟩ W8 := by
  refine region5_made w0 d A l c m wE B base n P F v1 z2 z3 z4 xs _ Q0 W8 rfl rfl rfl rfl hF hF2 hP hP8 hD hm hg hbx hown hn hBb hdB hE hsz ?_
  intro a W' wy v' hz hd hs h1 h2 h3 h4 h5 h6
  have e := frame_act 105 a _ hz hd (fun j => decide (19 ≤ j ∧ j ≤ 37)) (fun s hp => by
    have hp' := of_decide_eq_false hp
    exact hs s (by omega))
  have e2 : a = ⟨(List.toArray (.pointer (some ⟨d, 0, none⟩) :: q1 :: q2 :: q3 :: q4 :: .pointer (some ⟨B, 0, none⟩) :: .int .i64 F :: q7 :: q8 :: q9 :: q10 :: q11 :: q12 :: q13 :: q14 :: q15 :: q16 :: q17 :: q18 :: a.eval (.tmp 19) :: a.eval (.tmp 20) :: a.eval (.tmp 21) :: a.eval (.tmp 22) :: a.eval (.tmp 23) :: a.eval (.tmp 24) :: a.eval (.tmp 25) :: a.eval (.tmp 26) :: a.eval (.tmp 27) :: a.eval (.tmp 28) :: a.eval (.tmp 29) :: a.eval (.tmp 30) :: a.eval (.tmp 31) :: a.eval (.tmp 32) :: a.eval (.tmp 33) :: a.eval (.tmp 34) :: a.eval (.tmp 35) :: a.eval (.tmp 36) :: a.eval (.tmp 37) :: q38 :: q39 :: q40 :: q41 :: q42 :: q43 :: q44 :: q45 :: q46 :: q47 :: q48 :: q49 :: q50 :: q51 :: q52 :: q53 :: q54 :: q55 :: q56 :: q57 :: q58 :: q59 :: q60 :: q61 :: q62 :: q63 :: q64 :: q65 :: q66 :: q67 :: q68 :: q69 :: q70 :: q71 :: q72 :: q73 :: q74 :: q75 :: q76 :: q77 :: q78 :: q79 :: q80 :: q81 :: q82 :: q83 :: q84 :: q85 :: q86 :: q87 :: q88 :: q89 :: q90 :: q91 :: q92 :: q93 :: q94 :: q95 :: q96 :: q97 :: q98 :: q99 :: q100 :: q101 :: q102 :: q103 :: q104 :: [])), []⟩ := e
  have h := hexit (a.eval (.tmp 19)) (a.eval (.tmp 20)) (a.eval (.tmp 21)) (a.eval (.tmp 22)) (a.eval (.tmp 23)) (a.eval (.tmp 24)) (a.eval (.tmp 25)) (a.eval (.tmp 26)) (a.eval (.tmp 27)) (a.eval (.tmp 28)) (a.eval (.tmp 29)) (a.eval (.tmp 30)) (a.eval (.tmp 31)) (a.eval (.tmp 32)) (a.eval (.tmp 33)) (a.eval (.tmp 34)) (a.eval (.tmp 35)) (a.eval (.tmp 36)) (a.eval (.tmp 37)) W' wy v' h1 h2 h3 h4 h5 h6
  rw [← e2] at h
  exact h

set_option maxRecDepth 100000 in
set_option maxHeartbeats 2000000 in
theorem region12_lit (w0 : World) (d : Nat) (A : Option Addr) (l : List Int) (c m : Nat) (wE : World) (B base p : Nat) (vS : Value) (S : Nat → Prop) (ms : List Mean) (xs : List Value) (z1 z2 z3 z4 : Value) (q1 q2 q3 q4 q6 q8 q9 q10 q11 q12 q13 q14 q15 q16 q17 q18 q19 q20 q21 q22 q23 q24 q25 q26 q27 q28 q29 q30 q31 q32 q33 q34 q35 q36 q37 q38 q39 q40 q41 q42 q43 q44 q45 q46 q47 q48 q49 q50 q51 q52 q53 q54 q55 q56 q57 q58 q59 q60 q61 q62 q63 q64 q65 q66 q67 q68 q69 q70 q71 q72 q73 q74 q75 q76 q77 q78 q79 q80 q81 q82 q83 q84 q85 q86 q87 q88 q89 q90 q91 q92 q93 q94 q95 q96 q97 q98 q99 q100 q101 q102 q103 q104 : Value) (Q0 : Exit → Act → World → Prop) (W8 : World)
    (hp8 : p ≤ 8)
    (hD : DeckAt w0 d A l c m W8) (hm : m ≤ 800000) (hg : wE.grownBy W8 (some d)) (hbx : Blk W8 B 27 #[.int .i64 p, z1, z2, z3, z4]) (hown : OwnK MeanR 80 2 base vS S ms xs W8) (hn : ms.length ≤ 100) (hBb : B < base) (hdB : d < B) (hE : wE.heap.size ≤ base) (hsz : base ≤ W8.heap.size)
    (hexit : ∀ (u7 u47 u48 u49 u50 u51 u52 u53 u54 u55 u56 : Value) W' , DeckAt w0 d A l c (m + 4 + p) W' → wE.grownBy W' (some d) → (W8.heap.size ≤ W'.heap.size ∧ ∀ k, k < W8.heap.size → k ≠ d → vS.ownBlock ≠ some k → W'.heap[k]? = W8.heap[k]?) → More12 base p ms u7 W' → Q0 .normal ⟨(List.toArray (.pointer (some ⟨d, 0, none⟩) :: q1 :: q2 :: q3 :: q4 :: .pointer (some ⟨B, 0, none⟩) :: q6 :: u7 :: q8 :: q9 :: q10 :: q11 :: q12 :: q13 :: q14 :: q15 :: q16 :: q17 :: q18 :: q19 :: q20 :: q21 :: q22 :: q23 :: q24 :: q25 :: q26 :: q27 :: q28 :: q29 :: q30 :: q31 :: q32 :: q33 :: q34 :: q35 :: q36 :: q37 :: q38 :: q39 :: q40 :: q41 :: q42 :: q43 :: q44 :: q45 :: q46 :: u47 :: u48 :: u49 :: u50 :: u51 :: u52 :: u53 :: u54 :: u55 :: u56 :: q57 :: q58 :: q59 :: q60 :: q61 :: q62 :: q63 :: q64 :: q65 :: q66 :: q67 :: q68 :: q69 :: q70 :: q71 :: q72 :: q73 :: q74 :: q75 :: q76 :: q77 :: q78 :: q79 :: q80 :: q81 :: q82 :: q83 :: q84 :: q85 :: q86 :: q87 :: q88 :: q89 :: q90 :: q91 :: q92 :: q93 :: q94 :: q95 :: q96 :: q97 :: q98 :: q99 :: q100 :: q101 :: q102 :: q103 :: q104 :: [])), []⟩ W') :
    Code.wp Try.prog (Code.region 12 (opsMade 12).toArray true) Q0 ⟨(List.toArray (.pointer (some ⟨d, 0, none⟩) :: q1 :: q2 :: q3 :: q4 :: .pointer (some ⟨B, 0, none⟩) :: q6 :: vS :: q8 :: q9 :: q10 :: q11 :: q12 :: q13 :: q14 :: q15 :: q16 :: q17 :: q18 :: q19 :: q20 :: q21 :: q22 :: q23 :: q24 :: q25 :: q26 :: q27 :: q28 :: q29 :: q30 :: q31 :: q32 :: q33 :: q34 :: q35 :: q36 :: q37 :: q38 :: q39 :: q40 :: q41 :: q42 :: q43 :: q44 :: q45 :: q46 :: q47 :: q48 :: q49 :: q50 :: q51 :: q52 :: q53 :: q54 :: q55 :: q56 :: q57 :: q58 :: q59 :: q60 :: q61 :: q62 :: q63 :: q64 :: q65 :: q66 :: q67 :: q68 :: q69 :: q70 :: q71 :: q72 :: q73 :: q74 :: q75 :: q76 :: q77 :: q78 :: q79 :: q80 :: q81 :: q82 :: q83 :: q84 :: q85 :: q86 :: q87 :: q88 :: q89 :: q90 :: q91 :: q92 :: q93 :: q94 :: q95 :: q96 :: q97 :: q98 :: q99 :: q100 :: q101 :: q102 :: q103 :: q104 :: [])), []⟩ W8 := by
  refine region12_made w0 d A l c m wE B base p vS S ms xs z1 z2 z3 z4 _ Q0 W8 rfl rfl rfl rfl hp8 hD hm hg hbx hown hn hBb hdB hE hsz ?_
  intro a W' hz hd hs h1 h2 h3 h4
  have e := frame_act 105 a _ hz hd (fun j => decide (j = 7 ∨ (47 ≤ j ∧ j ≤ 56))) (fun s hp => by
    have hp' := of_decide_eq_false hp
    exact hs s (by omega) (by omega))
  have e2 : a = ⟨(List.toArray (.pointer (some ⟨d, 0, none⟩) :: q1 :: q2 :: q3 :: q4 :: .pointer (some ⟨B, 0, none⟩) :: q6 :: a.eval (.tmp 7) :: q8 :: q9 :: q10 :: q11 :: q12 :: q13 :: q14 :: q15 :: q16 :: q17 :: q18 :: q19 :: q20 :: q21 :: q22 :: q23 :: q24 :: q25 :: q26 :: q27 :: q28 :: q29 :: q30 :: q31 :: q32 :: q33 :: q34 :: q35 :: q36 :: q37 :: q38 :: q39 :: q40 :: q41 :: q42 :: q43 :: q44 :: q45 :: q46 :: a.eval (.tmp 47) :: a.eval (.tmp 48) :: a.eval (.tmp 49) :: a.eval (.tmp 50) :: a.eval (.tmp 51) :: a.eval (.tmp 52) :: a.eval (.tmp 53) :: a.eval (.tmp 54) :: a.eval (.tmp 55) :: a.eval (.tmp 56) :: q57 :: q58 :: q59 :: q60 :: q61 :: q62 :: q63 :: q64 :: q65 :: q66 :: q67 :: q68 :: q69 :: q70 :: q71 :: q72 :: q73 :: q74 :: q75 :: q76 :: q77 :: q78 :: q79 :: q80 :: q81 :: q82 :: q83 :: q84 :: q85 :: q86 :: q87 :: q88 :: q89 :: q90 :: q91 :: q92 :: q93 :: q94 :: q95 :: q96 :: q97 :: q98 :: q99 :: q100 :: q101 :: q102 :: q103 :: q104 :: [])), []⟩ := e
  have h := hexit (a.eval (.tmp 7)) (a.eval (.tmp 47)) (a.eval (.tmp 48)) (a.eval (.tmp 49)) (a.eval (.tmp 50)) (a.eval (.tmp 51)) (a.eval (.tmp 52)) (a.eval (.tmp 53)) (a.eval (.tmp 54)) (a.eval (.tmp 55)) (a.eval (.tmp 56)) W' h1 h2 h3 h4
  rw [← e2] at h
  exact h

set_option maxRecDepth 100000 in
set_option maxHeartbeats 2000000 in
theorem region21_lit (w0 : World) (d : Nat) (A : Option Addr) (l : List Int) (c m : Nat) (wE : World) (B base n : Nat) (P : Int) (z1 z3 v4 : Value) (A2 : Option Addr) (nW c2 : Nat) (xs : List Value) (q1 q2 q3 q4 q6 q7 q8 q9 q10 q11 q12 q13 q14 q15 q16 q17 q18 q19 q20 q21 q22 q23 q24 q25 q26 q27 q28 q29 q30 q31 q32 q33 q34 q35 q36 q37 q38 q39 q40 q41 q42 q43 q44 q45 q46 q47 q48 q49 q50 q51 q52 q53 q54 q55 q56 q57 q58 q59 q60 q61 q62 q63 q64 q65 q66 q67 q68 q69 q70 q71 q72 q73 q74 q75 q76 q77 q78 q79 q80 q81 q82 q83 q84 q85 q86 q87 q88 q89 q90 q91 q92 q93 q94 q95 q96 q97 q98 q99 q100 q101 q102 q103 q104 : Value) (Q0 : Exit → Act → World → Prop) (W8 : World)
    (hW1 : 1 ≤ nW) (hW3 : nW ≤ 3)
    (hD : DeckAt w0 d A l c m W8) (hm : m ≤ 900000) (hg : wE.grownBy W8 (some d)) (hbx : Blk W8 B 27 #[.int .i64 P, z1, .slice A2 nW c2, z3, v4]) (hown : W8.ownsRow base 83 2 v4 n xs) (hn : n ≤ 100) (hBb : B < base) (hdB : d < B) (hE : wE.heap.size ≤ B) (hsz : base ≤ W8.heap.size)
    (hexit : ∀ (u86 u87 u88 u89 u90 u91 u92 u93 u94 u95 u96 u97 u98 u99 u100 u101 u102 : Value) W' lg v', DeckAt w0 d A l c (m + 2) W' → wE.grownBy W' (some d) → base ≤ W'.heap.size → (W8.heap.size ≤ W'.heap.size ∧ ∀ k, k < W8.heap.size → k ≠ d → k ≠ B → v4.ownBlock ≠ some k → W'.heap[k]? = W8.heap[k]?) → Blk W' B 27 #[.int .i64 P, z1, .slice A2 nW c2, z3, v'] → LegOk nW lg → W'.ownsRow base 83 2 v' (n + 1) (xs ++ encLeg lg) → Q0 .normal ⟨(List.toArray (.pointer (some ⟨d, 0, none⟩) :: q1 :: q2 :: q3 :: q4 :: .pointer (some ⟨B, 0, none⟩) :: q6 :: q7 :: q8 :: q9 :: q10 :: q11 :: q12 :: q13 :: q14 :: q15 :: q16 :: q17 :: q18 :: q19 :: q20 :: q21 :: q22 :: q23 :: q24 :: q25 :: q26 :: q27 :: q28 :: q29 :: q30 :: q31 :: q32 :: q33 :: q34 :: q35 :: q36 :: q37 :: q38 :: q39 :: q40 :: q41 :: q42 :: q43 :: q44 :: q45 :: q46 :: q47 :: q48 :: q49 :: q50 :: q51 :: q52 :: q53 :: q54 :: q55 :: q56 :: q57 :: q58 :: q59 :: q60 :: q61 :: q62 :: q63 :: q64 :: q65 :: q66 :: q67 :: q68 :: q69 :: q70 :: q71 :: q72 :: q73 :: q74 :: q75 :: q76 :: q77 :: q78 :: q79 :: q80 :: q81 :: q82 :: q83 :: q84 :: q85 :: u86 :: u87 :: u88 :: u89 :: u90 :: u91 :: u92 :: u93 :: u94 :: u95 :: u96 :: u97 :: u98 :: u99 :: u100 :: u101 :: u102 :: q103 :: q104 :: [])), []⟩ W') :
    Code.wp Try.prog (Code.region 21 (opsMade 21).toArray true) Q0 ⟨(List.toArray (.pointer (some ⟨d, 0, none⟩) :: q1 :: q2 :: q3 :: q4 :: .pointer (some ⟨B, 0, none⟩) :: q6 :: q7 :: q8 :: q9 :: q10 :: q11 :: q12 :: q13 :: q14 :: q15 :: q16 :: q17 :: q18 :: q19 :: q20 :: q21 :: q22 :: q23 :: q24 :: q25 :: q26 :: q27 :: q28 :: q29 :: q30 :: q31 :: q32 :: q33 :: q34 :: q35 :: q36 :: q37 :: q38 :: q39 :: q40 :: q41 :: q42 :: q43 :: q44 :: q45 :: q46 :: q47 :: q48 :: q49 :: q50 :: q51 :: q52 :: q53 :: q54 :: q55 :: q56 :: q57 :: q58 :: q59 :: q60 :: q61 :: q62 :: q63 :: q64 :: q65 :: q66 :: q67 :: q68 :: q69 :: q70 :: q71 :: q72 :: q73 :: q74 :: q75 :: q76 :: q77 :: q78 :: q79 :: q80 :: q81 :: q82 :: q83 :: q84 :: q85 :: q86 :: q87 :: q88 :: q89 :: q90 :: q91 :: q92 :: q93 :: q94 :: q95 :: q96 :: q97 :: q98 :: q99 :: q100 :: q101 :: q102 :: q103 :: q104 :: [])), []⟩ W8 := by
  refine region21_made w0 d A l c m wE B base n P z1 z3 v4 A2 nW c2 xs _ Q0 W8 rfl rfl rfl hW1 hW3 hD hm hg hbx hown hn hBb hdB hE hsz ?_
  intro a W' lg v' hz hd hs h1 h2 h3 h4 h5 h6 h7
  have e := frame_act 105 a _ hz hd (fun j => decide (86 ≤ j ∧ j ≤ 102)) (fun s hp => by
    have hp' := of_decide_eq_false hp
    exact hs s (by omega))
  have e2 : a = ⟨(List.toArray (.pointer (some ⟨d, 0, none⟩) :: q1 :: q2 :: q3 :: q4 :: .pointer (some ⟨B, 0, none⟩) :: q6 :: q7 :: q8 :: q9 :: q10 :: q11 :: q12 :: q13 :: q14 :: q15 :: q16 :: q17 :: q18 :: q19 :: q20 :: q21 :: q22 :: q23 :: q24 :: q25 :: q26 :: q27 :: q28 :: q29 :: q30 :: q31 :: q32 :: q33 :: q34 :: q35 :: q36 :: q37 :: q38 :: q39 :: q40 :: q41 :: q42 :: q43 :: q44 :: q45 :: q46 :: q47 :: q48 :: q49 :: q50 :: q51 :: q52 :: q53 :: q54 :: q55 :: q56 :: q57 :: q58 :: q59 :: q60 :: q61 :: q62 :: q63 :: q64 :: q65 :: q66 :: q67 :: q68 :: q69 :: q70 :: q71 :: q72 :: q73 :: q74 :: q75 :: q76 :: q77 :: q78 :: q79 :: q80 :: q81 :: q82 :: q83 :: q84 :: q85 :: a.eval (.tmp 86) :: a.eval (.tmp 87) :: a.eval (.tmp 88) :: a.eval (.tmp 89) :: a.eval (.tmp 90) :: a.eval (.tmp 91) :: a.eval (.tmp 92) :: a.eval (.tmp 93) :: a.eval (.tmp 94) :: a.eval (.tmp 95) :: a.eval (.tmp 96) :: a.eval (.tmp 97) :: a.eval (.tmp 98) :: a.eval (.tmp 99) :: a.eval (.tmp 100) :: a.eval (.tmp 101) :: a.eval (.tmp 102) :: q103 :: q104 :: [])), []⟩ := e
  have h := hexit (a.eval (.tmp 86)) (a.eval (.tmp 87)) (a.eval (.tmp 88)) (a.eval (.tmp 89)) (a.eval (.tmp 90)) (a.eval (.tmp 91)) (a.eval (.tmp 92)) (a.eval (.tmp 93)) (a.eval (.tmp 94)) (a.eval (.tmp 95)) (a.eval (.tmp 96)) (a.eval (.tmp 97)) (a.eval (.tmp 98)) (a.eval (.tmp 99)) (a.eval (.tmp 100)) (a.eval (.tmp 101)) (a.eval (.tmp 102)) W' lg v' h1 h2 h3 h4 h5 h6 h7
  rw [← e2] at h
  exact h
end Go.Proofs
end

section
/- Words for memory: flat records of the call's own, and what stands with their block. -/
namespace Go.Proofs
open Go.RowKit

theorem flat_sup {α : Type} {enc : α → List Value} {sz : Nat} {R : World → α → List Value → Prop} (hR : ∀ w x, R w x (enc x)) (hR2 : ∀ w w' x vs, R w x vs → R w' x vs) (hs : ∀ x, (enc x).length = sz) (hz : 0 < sz) {W : World} {base : Nat} {e : TypeId} {v : Value} {l : List α}
    (h : W.ownsRow base e sz v l.length (l.flatMap enc)) (hl : l.length * sz ≤ 17592186043904) : ∃ A c, v = .slice A l.length c ∧ Sup W (fun k => v.ownBlock = some k) (fun W' => RowsP W' A sz R l) := by
  obtain ⟨A, c, rfl, _, hi⟩ := own_rows hR hs hz h hl
  have := RowsP.sup hi (fun _ => False) (fun _ h => h.elim) (fun x _ vs hv => ⟨fun _ h => h.elim, fun _ _ _ => hR2 _ _ _ _ hv⟩)
  exact ⟨A, c, rfl, this.wide (fun k hk => hk.elim (fun h => h.elim) (fun ⟨_, o, e⟩ => by subst e; rfl)) (fun k e => (h.lt k e).2)⟩
theorem ways_sup {W : World} {base : Nat} {v : Value} {l : List Way} (h : W.ownsRow base 86 3 v l.length (l.flatMap encWay)) (hl : l.length ≤ 1000) : ∃ A c, v = .slice A l.length c ∧ Sup W (fun k => v.ownBlock = some k) (fun W' => RowsP W' A 3 WayR l) :=
  flat_sup (R := WayR) (fun _ _ => rfl) (fun _ _ _ _ h => h) (fun _ => rfl) (by decide) h (by omega)
theorem legs_sup {W : World} {base : Nat} {v : Value} {l : List Leg} (h : W.ownsRow base 83 2 v l.length (l.flatMap encLeg)) (hl : l.length ≤ 1000) : ∃ A c, v = .slice A l.length c ∧ Sup W (fun k => v.ownBlock = some k) (fun W' => RowsP W' A 2 LegR l) :=
  flat_sup (R := LegR) (fun _ _ => rfl) (fun _ _ _ _ h => h) (fun _ => rfl) (by decide) h (by omega)
/-- A treaty whose parts are the call's own stands whatever the deck deals. -/
theorem trepF_own {W : World} {d base b3 : Nat} {p : Int} {v1 v2 v3 v4 : Value} {S : Nat → Prop} {xs : List Value} {ws : List Way} {ls : List (List Mean)} {ns : List Int} {lg : List Leg} (hd : d < base) (hd3 : d < b3)
    (h1 : W.ownsRow base 86 3 v1 ws.length (ws.flatMap encWay)) (h2 : OwnK WordR 78 1 base v2 S ls xs W) (h3 : W.ownsRow b3 3 1 v3 ns.length (ns.map (Value.int .i64))) (h4 : W.ownsRow base 83 2 v4 lg.length (lg.flatMap encLeg))
    (l1 : ws.length ≤ 1000) (l2 : ls.length ≤ 1000) (l3 : ns.length ≤ 1000) (l4 : lg.length ≤ 1000) :
    ∃ a1 a2 a3 a4 c1 c2 c3 c4, v1 = .slice a1 ws.length c1 ∧ v2 = .slice a2 ls.length c2 ∧ v3 = .slice a3 ns.length c3 ∧ v4 = .slice a4 lg.length c4 ∧ TRepF d W ⟨p, ws, ls, ns, lg⟩ a1 a2 a3 a4 := by
  obtain ⟨a1, c1, e1, s1⟩ := ways_sup h1 l1
  obtain ⟨a2, c2, e2, _, s2⟩ := h2.rowsP (by omega)
  obtain ⟨a3, c3, e3, s3⟩ := own_sup h3 (by omega)
  obtain ⟨a4, c4, e4, s4⟩ := legs_sup h4 l4
  refine ⟨a1, a2, a3, a4, c1, c2, c3, c4, e1, e2, e3, e4, fun W' hg => ?_⟩
  refine ⟨s1.firm (fun e => ?_) W' hg, s2.firm (fun e => ?_) W' hg, s3.firm (fun e => ?_) W' hg, s4.firm (fun e => ?_) W' hg⟩
  · have := (h1.lt d e).1; omega
  · rcases e with e | e
    · have := (h2.far d e).1; omega
    · have := (h2.own.lt d e).1; omega
  · have := (h3.lt d e).1; omega
  · have := (h4.lt d e).1; omega
theorem Sup.keep {W0 W : World} {S : Nat → Prop} {P : World → Prop} (h : Sup W0 S P) (hk : ∀ k, S k → W.heap[k]? = W0.heap[k]?) (hs : W0.heap.size ≤ W.heap.size) : Sup W S P :=
  ⟨fun k hS => Nat.lt_of_lt_of_le (h.1 k hS) hs, fun W' h1 h2 => h.2 W' (fun k hS => (h1 k hS).trans (hk k hS)) (Nat.le_trans hs h2)⟩
/-- The same, when the legs alone came later. -/
theorem trepF_keep {W0 W : World} {d base : Nat} {p : Int} {v1 v2 v3 v4 : Value} {S : Nat → Prop} {xs : List Value} {ws : List Way} {ls : List (List Mean)} {ns : List Int} {lg : List Leg} (hd : d < base)
    (h1 : W0.ownsRow base 86 3 v1 ws.length (ws.flatMap encWay)) (h2 : OwnK WordR 78 1 base v2 S ls xs W0) (h3 : W0.ownsRow base 3 1 v3 ns.length (ns.map (Value.int .i64))) (h4 : W.ownsRow W0.heap.size 83 2 v4 lg.length (lg.flatMap encLeg))
    (hk : ∀ k, base ≤ k → k < W0.heap.size → W.heap[k]? = W0.heap[k]?) (hs : W0.heap.size ≤ W.heap.size) (hb : base ≤ W0.heap.size)
    (l1 : ws.length ≤ 1000) (l2 : ls.length ≤ 1000) (l3 : ns.length ≤ 1000) (l4 : lg.length ≤ 1000) :
    ∃ a1 a2 a3 a4 c1 c2 c3 c4, v1 = .slice a1 ws.length c1 ∧ v2 = .slice a2 ls.length c2 ∧ v3 = .slice a3 ns.length c3 ∧ v4 = .slice a4 lg.length c4 ∧ TRepF d W ⟨p, ws, ls, ns, lg⟩ a1 a2 a3 a4 := by
  obtain ⟨a1, c1, e1, s1⟩ := ways_sup h1 l1
  obtain ⟨a2, c2, e2, _, s2⟩ := h2.rowsP (by omega)
  obtain ⟨a3, c3, e3, s3⟩ := own_sup h3 (by omega)
  obtain ⟨a4, c4, e4, s4⟩ := legs_sup h4 l4
  have hb2 : ∀ k, (S k ∨ v2.ownBlock = some k) → base ≤ k := fun k e => e.elim (fun e => (h2.far k e).1) (fun e => (h2.own.lt k e).1)
  have s1 := s1.keep (fun k e => hk k (h1.lt k e).1 (h1.lt k e).2) hs
  have s2 := s2.keep (fun k e => hk k (hb2 k e) (s2.1 k e)) hs
  have s3 := s3.keep (fun k e => hk k (h3.lt k e).1 (h3.lt k e).2) hs
  refine ⟨a1, a2, a3, a4, c1, c2, c3, c4, e1, e2, e3, e4, fun W' hg => ?_⟩
  refine ⟨s1.firm (fun e => ?_) W' hg, s2.firm (fun e => ?_) W' hg, s3.firm (fun e => ?_) W' hg, s4.firm (fun e => ?_) W' hg⟩
  · have := (h1.lt d e).1; omega
  · have := hb2 d e; omega
  · have := (h3.lt d e).1; omega
  · have := (h4.lt d e).1; omega
/-- A record of five cells that is written over. -/
theorem blk_five {w : World} {g : Nat} {t : TypeId} {y0 y1 y2 y3 y4 : Value} (h : Blk w g t #[y0, y1, y2, y3, y4]) (v0 v1 v2 v3 v4 : Value) :
    Blk (((((w.setCell ⟨g, 0, none⟩ v0).setCell ⟨g, 1, none⟩ v1).setCell ⟨g, 2, none⟩ v2).setCell ⟨g, 3, none⟩ v3).setCell ⟨g, 4, none⟩ v4) g t #[v0, v1, v2, v3, v4] ∧
    w.grownBy (((((w.setCell ⟨g, 0, none⟩ v0).setCell ⟨g, 1, none⟩ v1).setCell ⟨g, 2, none⟩ v2).setCell ⟨g, 3, none⟩ v3).setCell ⟨g, 4, none⟩ v4) (some g) := by
  have h0 : Blk (w.setCell ⟨g, 0, none⟩ v0) g t #[v0, y1, y2, y3, y4] := h.store 0 v0
  have g0 : w.grownBy (w.setCell ⟨g, 0, none⟩ v0) (some g) := only_setCell (only_refl w (some g)) (p := ⟨g, 0, none⟩) (.inl rfl) v0
  generalize w.setCell ⟨g, 0, none⟩ v0 = W0 at *
  have h1 : Blk (W0.setCell ⟨g, 1, none⟩ v1) g t #[v0, v1, y2, y3, y4] := h0.store 1 v1
  have g1 := only_setCell g0 (p := ⟨g, 1, none⟩) (.inl rfl) v1
  generalize W0.setCell ⟨g, 1, none⟩ v1 = W1 at *
  have h2 : Blk (W1.setCell ⟨g, 2, none⟩ v2) g t #[v0, v1, v2, y3, y4] := h1.store 2 v2
  have g2 := only_setCell g1 (p := ⟨g, 2, none⟩) (.inl rfl) v2
  generalize W1.setCell ⟨g, 2, none⟩ v2 = W2 at *
  have h3 : Blk (W2.setCell ⟨g, 3, none⟩ v3) g t #[v0, v1, v2, v3, y4] := h2.store 3 v3
  have g3 := only_setCell g2 (p := ⟨g, 3, none⟩) (.inl rfl) v3
  generalize W2.setCell ⟨g, 3, none⟩ v3 = W3 at *
  exact ⟨h3.store 4 v4, only_setCell g3 (p := ⟨g, 4, none⟩) (.inl rfl) v4⟩
end Go.Proofs
end
