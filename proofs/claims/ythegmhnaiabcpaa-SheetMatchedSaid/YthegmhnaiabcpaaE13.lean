/- Own texts, merged: Tb0 Tb Td0. -/
import Derived.Test.YthegmhnaiabcpaaE12
set_option linter.unusedSimpArgs false
set_option linter.unusedVariables false
set_option linter.unnecessarySimpa false
section
/- Between: what is plain of it. -/
namespace Sheet
theorem wk_map {E E' : List Edge} (f : ∀ a b w, (a, b, w) ∈ E → ∃ w', (a, b, w') ∈ E') {a b k : Nat} {s : Int} (h : Wk E a b k s) : ∃ s', Wk E' a b k s' := by
  induction h with
  | nil => exact ⟨0, .nil _⟩
  | snoc h e ih =>
    obtain ⟨s1, h1⟩ := ih
    obtain ⟨w1, e1⟩ := f _ _ _ e
    exact ⟨_, h1.snoc e1⟩
theorem wk_back {E : List Edge} (f : ∀ a b w, (a, b, w) ∈ E → ∃ w', (b, a, w') ∈ E) {a b k : Nat} {s : Int} (h : Wk E a b k s) : ∃ k' s', Wk E b a k' s' := by
  induction h with
  | nil => exact ⟨0, 0, .nil _⟩
  | snoc h e ih =>
    obtain ⟨k1, s1, h1⟩ := ih
    obtain ⟨w1, e1⟩ := f _ _ _ e
    exact ⟨_, _, (Wk.one e1).append h1⟩
theorem dist_small {E : List Edge} {n : Nat} {M : Int} (hE : In E n) (hn : 0 < n) (hneg : NoNeg E) (hM : ∀ a b w, (a, b, w) ∈ E → -M ≤ w ∧ w ≤ M) (hM0 : 0 ≤ M) {a b : Nat} {m : Int} (h : Dist E a b (some m)) : -(M * n) ≤ m ∧ m ≤ M * n := by
  obtain ⟨k, hk⟩ := h.1 m rfl
  have hm : AtMost E 0 (-1) := fun a k s hw _ => by have := hneg a k s hw; omega
  obtain ⟨k', s', h1, -, h3, h4⟩ := hk.short hE hn hm k (Nat.le_refl _)
  obtain ⟨m', he, h5⟩ := h.2 k' s' h3
  cases he
  have h6 := h3.bound (p := 0) (q := 1) (M := M) fun a b w e => by have := hM a b w e; omega
  have h7 := h3.bound (p := 0) (q := -1) (M := M) fun a b w e => by have := hM a b w e; omega
  have h8 : M * (k' : Int) ≤ M * (n : Int) := Int.mul_le_mul_of_nonneg_left (by omega) hM0
  omega
theorem far_back {n : Nat} {J : List Jo} {D N : Int} {t : Nat → Nat → Int} (h : Calms n J D N t) {a b : Nat} (ha : a < n) (hb : b < n) (hf : t a b ≠ far) : t b a ≠ far := by
  intro e
  have h1 := h.dist ha b
  have h2 := h.dist hb a
  have h3 : opt (t a b) = some (t a b) := opt_some.2 ⟨rfl, hf⟩
  obtain ⟨k, hk⟩ := h1.1 _ h3
  obtain ⟨k', s', h4⟩ := wk_back (fun a b w he => by
    obtain ⟨w', h1, -⟩ := mem_sc he
    exact ⟨_, sc_mem (legs_sym J _ _ _ h1)⟩) hk
  obtain ⟨m, h5, _⟩ := h2.2 _ _ h4
  rw [opt_none.2 e] at h5
  cases h5
theorem far_ways {n : Nat} {J J' : List Jo} {D N : Int} {t t' : Nat → Nat → Int} (h : Calms n J D N t) (h' : Calms n J' D N t') (hJ : ∀ a b w, (a, b, w) ∈ legs J → ∃ w', (a, b, w') ∈ legs J') {a b : Nat} (ha : a < n) (hf : t a b ≠ far) : t' a b ≠ far := by
  intro e
  have h1 := h.dist ha b
  have h2 := h'.dist ha b
  have h3 : opt (t a b) = some (t a b) := opt_some.2 ⟨rfl, hf⟩
  obtain ⟨k, hk⟩ := h1.1 _ h3
  obtain ⟨s', h4⟩ := wk_map (E' := sc D N (legs J')) (fun a b w he => by
    obtain ⟨w', h1, -⟩ := mem_sc he
    obtain ⟨w2, h2⟩ := hJ _ _ _ h1
    exact ⟨_, sc_mem h2⟩) hk
  obtain ⟨m, h5, _⟩ := h2.2 _ _ h4
  rw [opt_none.2 e] at h5
  cases h5
end Sheet
namespace Go.Proofs
theorem legs_ways (J : List Q4) (n1 n2 : Bool) : ∀ a b w, (a, b, w) ∈ Sheet.legs (joOf n1 J) → ∃ w', (a, b, w') ∈ Sheet.legs (joOf n2 J) := by
  intro a b w he
  obtain ⟨j, hj, he⟩ := List.mem_flatMap.1 he
  obtain ⟨q, hq, rfl⟩ := List.mem_map.1 hj
  simp only [List.mem_cons, Prod.mk.injEq, List.not_mem_nil, or_false] at he
  rcases he with ⟨rfl, rfl, rfl⟩ | ⟨rfl, rfl, rfl⟩
  · exact ⟨way1 n2 q, List.mem_flatMap.2 ⟨_, List.mem_map.2 ⟨q, hq, rfl⟩, by simp⟩⟩
  · exact ⟨-(way1 n2 q), List.mem_flatMap.2 ⟨_, List.mem_map.2 ⟨q, hq, rfl⟩, by simp⟩⟩
def tabOf (S : SetL) (ap : Nat → Int) (a : Nat) : Nat → Int := rowOf S.n.toNat ap a
theorem calms_tab {S : SetL} {north : Bool} {D N : Int} {ap : Nat → Int} (h : ∀ a, a < S.n.toNat → RowDone S north D N ap a) : Sheet.Calms S.n.toNat (joOf north S.J) D N (tabOf S ap) := h
theorem tab_small {S : SetL} {north : Bool} {D N : Int} {t : Nat → Nat → Int} (hS : SetOk S) (hp : PlayOk N D) (h : Sheet.Calms S.n.toNat (joOf north S.J) D N t) {a b : Nat} (ha : a < S.n.toNat) (hf : t a b ≠ Sheet.far) : -24000000000 ≤ t a b ∧ t a b ≤ 24000000000 := by
  have h1 := h.dist ha b
  rw [Sheet.opt_some.2 ⟨rfl, hf⟩] at h1
  have h2 := Sheet.dist_small (M := 2000000000) (hS.ok north).in_sc (by omega) (h.noNeg (hS.ok north)) (fun a b w he => by
    obtain ⟨w', h1, rfl⟩ := Sheet.mem_sc he
    obtain ⟨g, g1, g2, g3, g4⟩ := Sheet.mem_leg h1
    have := wt_le (north := north) hS hp (g := g) (by simpa [joOf] using g1)
    unfold Sheet.wt at this
    rw [g4] at this
    exact this) (by decide) h1
  have := hS.n2
  omega
/-- Between two sheets, one way: the least and the greatest. -/
def bt4 (D : Int) (t : Nat → Nat → Int) (a b : Nat) : Q4 := ⟨(Sheet.low (-(t b a)) D).1, (Sheet.low (-(t b a)) D).2, (Sheet.low (t a b) D).1, (Sheet.low (t a b) D).2⟩
def BtR (S : SetL) (N D : Int) (a b : Nat) (w : World) (e : Ending) (w' : World) : Prop := Aft w w' ∧
  ((e = .returned (.tuple #[.agg #[.int .i64 0, .int .i64 0, .int .i64 0, .int .i64 0], .agg #[.int .i64 0, .int .i64 0, .int .i64 0, .int .i64 0], .int .i64 8]) ∧ ∃ north l, Sheet.Clash S.n.toNat (joOf north S.J) D N l) ∨
   ∃ t0 t1, Sheet.Calms S.n.toNat (joOf false S.J) D N t0 ∧ Sheet.Calms S.n.toNat (joOf true S.J) D N t1 ∧
    ((t0 a b = Sheet.far ∧ e = .returned (.tuple #[.agg #[.int .i64 0, .int .i64 0, .int .i64 0, .int .i64 0], .agg #[.int .i64 0, .int .i64 0, .int .i64 0, .int .i64 0], .int .i64 7])) ∨
     (t0 a b ≠ Sheet.far ∧ e = .returned (.tuple #[.agg (encS (bt4 D t0 a b)), .agg (encS (bt4 D t1 a b)), .int .i64 0]))))
end Go.Proofs
end

section
/- Walks: Between. -/
namespace Go.Proofs
open Go.RowKit
attribute [local go_sem] Oper.semAt_some

theorem put_two {w W : World} {B : Nat} {bs : List (Nat × TypeId × Array Value)} (h : Fr w B bs W) {g1 g2 : Nat} (h1 : (g1, 43, #[.int .i64 0, .int .i64 0, .int .i64 0, .int .i64 0]) ∈ bs) (h2 : (g2, 43, #[.int .i64 0, .int .i64 0, .int .i64 0, .int .i64 0]) ∈ bs) (hne : g2 ≠ g1) (hb : w.heap.size ≤ g1 ∧ w.heap.size ≤ g2) (a1 a2 a3 a4 b1 b2 b3 b4 : Int) :
    Blk ((((((((W.setCell ⟨g1, 0, none⟩ (.int .i64 a1)).setCell ⟨g1, 1, none⟩ (.int .i64 a2)).setCell ⟨g1, 2, none⟩ (.int .i64 a3)).setCell ⟨g1, 3, none⟩ (.int .i64 a4)).setCell ⟨g2, 0, none⟩ (.int .i64 b1)).setCell ⟨g2, 1, none⟩ (.int .i64 b2)).setCell ⟨g2, 2, none⟩ (.int .i64 b3)).setCell ⟨g2, 3, none⟩ (.int .i64 b4)) g1 43 #[.int .i64 a1, .int .i64 a2, .int .i64 a3, .int .i64 a4] ∧
    Blk ((((((((W.setCell ⟨g1, 0, none⟩ (.int .i64 a1)).setCell ⟨g1, 1, none⟩ (.int .i64 a2)).setCell ⟨g1, 2, none⟩ (.int .i64 a3)).setCell ⟨g1, 3, none⟩ (.int .i64 a4)).setCell ⟨g2, 0, none⟩ (.int .i64 b1)).setCell ⟨g2, 1, none⟩ (.int .i64 b2)).setCell ⟨g2, 2, none⟩ (.int .i64 b3)).setCell ⟨g2, 3, none⟩ (.int .i64 b4)) g2 43 #[.int .i64 b1, .int .i64 b2, .int .i64 b3, .int .i64 b4] ∧
    Aft w ((((((((W.setCell ⟨g1, 0, none⟩ (.int .i64 a1)).setCell ⟨g1, 1, none⟩ (.int .i64 a2)).setCell ⟨g1, 2, none⟩ (.int .i64 a3)).setCell ⟨g1, 3, none⟩ (.int .i64 a4)).setCell ⟨g2, 0, none⟩ (.int .i64 b1)).setCell ⟨g2, 1, none⟩ (.int .i64 b2)).setCell ⟨g2, 2, none⟩ (.int .i64 b3)).setCell ⟨g2, 3, none⟩ (.int .i64 b4)) := by
  have k1 := (h.blks _ h1).2.2
  have k2 := (h.blks _ h2).2.2
  have e1 := (((k1.store 0 (.int .i64 a1)).store 1 (.int .i64 a2)).store 2 (.int .i64 a3)).store 3 (.int .i64 a4)
  have e2 := (((k2.far (p := ⟨g1, 0, none⟩) hne (.int .i64 a1)).far (p := ⟨g1, 1, none⟩) hne (.int .i64 a2)).far (p := ⟨g1, 2, none⟩) hne (.int .i64 a3)).far (p := ⟨g1, 3, none⟩) hne (.int .i64 a4)
  refine ⟨?_, ?_, ?_⟩
  · exact (((e1.far (p := ⟨g2, 0, none⟩) hne.symm (.int .i64 b1)).far (p := ⟨g2, 1, none⟩) hne.symm (.int .i64 b2)).far (p := ⟨g2, 2, none⟩) hne.symm (.int .i64 b3)).far (p := ⟨g2, 3, none⟩) hne.symm (.int .i64 b4)
  · exact (((e2.store 0 (.int .i64 b1)).store 1 (.int .i64 b2)).store 2 (.int .i64 b3)).store 3 (.int .i64 b4)
  · exact (((((((h.aft.then_setCell (p := ⟨g1, 0, none⟩) hb.1 _).then_setCell (p := ⟨g1, 1, none⟩) hb.1 _).then_setCell (p := ⟨g1, 2, none⟩) hb.1 _).then_setCell (p := ⟨g1, 3, none⟩) hb.1 _).then_setCell (p := ⟨g2, 0, none⟩) hb.2 _).then_setCell (p := ⟨g2, 1, none⟩) hb.2 _).then_setCell (p := ⟨g2, 2, none⟩) hb.2 _).then_setCell (p := ⟨g2, 3, none⟩) hb.2 _



theorem ReckR.val3 {w0 w w' : World} {d : Nat} {S : SetL} {A : Option Addr} {c : Nat} {north : Bool} {D N : Int} {e : Ending} (h : ReckR w0 w d S A c north D N e w') :
    (∃ ap' bf', e = .returned (.slice none 0 0) ∧ w.grownBy w' (some d) ∧ WorkAt w0 w' d S A c ap' bf' ∧ Sheet.Calms S.n.toNat (joOf north S.J) D N (tabOf S ap')) ∨
    ∃ g n c9 l, e = .returned (.slice (some ⟨g, 0, none⟩) n c9) ∧ w.grownBy w' (some d) ∧ Sheet.Clash S.n.toNat (joOf north S.J) D N l := by
  obtain ⟨ap', bf', h1, h2, (⟨rfl, h3⟩ | ⟨g, c, l, rfl, -, h4⟩)⟩ := h
  · exact .inl ⟨ap', bf', rfl, h1, h2, calms_tab h3⟩
  · exact .inr ⟨g, _, c, l, rfl, h1, h4⟩
def enc8 (q0 q1 : Q4) : Array Value := #[.int .i64 q0.a, .int .i64 q0.b, .int .i64 q0.x, .int .i64 q0.y, .int .i64 q1.a, .int .i64 q1.b, .int .i64 q1.x, .int .i64 q1.y]
def z4 : Q4 := ⟨0, 0, 0, 0⟩
theorem enc8_cells (q0 q1 : Q4) {k : Nat} (hk : k < 2) : ∃ x0 x1 x2 x3, (enc8 q0 q1)[k * 4]? = some (.int .i64 x0) ∧ (enc8 q0 q1)[k * 4 + 1]? = some (.int .i64 x1) ∧ (enc8 q0 q1)[k * 4 + 2]? = some (.int .i64 x2) ∧ (enc8 q0 q1)[k * 4 + 3]? = some (.int .i64 x3) := by
  match k, hk with
  | 0, _ => exact ⟨_, _, _, _, rfl, rfl, rfl, rfl⟩
  | 1, _ => exact ⟨_, _, _, _, rfl, rfl, rfl, rfl⟩
theorem enc8_set (q0 q1 : Q4) {k : Nat} (hk : k < 2) (q : Q4) : ((((enc8 q0 q1).setIfInBounds (k * 4) (.int .i64 q.a)).setIfInBounds (k * 4 + 1) (.int .i64 q.b)).setIfInBounds (k * 4 + 2) (.int .i64 q.x)).setIfInBounds (k * 4 + 3) (.int .i64 q.y) = if k = 0 then enc8 q q1 else enc8 q0 q := by
  match k, hk with
  | 0, _ => rfl
  | 1, _ => rfl
/-- What is known after k ways. -/
def BtK (S : SetL) (N D : Int) (a b : Nat) (t : Nat → Nat → Int) (k : Nat) (q0 q1 : Q4) : Prop :=
  (k = 0 ∧ q0 = z4 ∧ q1 = z4) ∨ (k = 1 ∧ Sheet.Calms S.n.toNat (joOf false S.J) D N t ∧ q1 = z4 ∧ (t a b ≠ Sheet.far → q0 = bt4 D t a b)) ∨
  (k = 2 ∧ ∃ t0, Sheet.Calms S.n.toNat (joOf false S.J) D N t0 ∧ Sheet.Calms S.n.toNat (joOf true S.J) D N t ∧ (t0 a b ≠ Sheet.far → q0 = bt4 D t0 a b ∧ q1 = bt4 D t a b))
structure BtI (W1 W3 : World) (d z : Nat) (S : SetL) (A : Option Addr) (c : Nat) (N D : Int) (a b k : Nat) (ap : Nat → Int) (bf : Nat → Nat × Bool) (q0 q1 : Q4) (W : World) : Prop where
  fr : FrD W3 d (z + 1) [(z, 110, enc8 q0 q1)] [] W
  wk : WorkAt W1 W d S A c ap bf
  bt : BtK S N D a b (tabOf S ap) k q0 q1

theorem BtK.next_far {S : SetL} {N D : Int} {a b : Nat} {t t' : Nat → Nat → Int} {k : Nat} {q0 q1 : Q4} {north : Bool} (h : BtK S N D a b t k q0 q1) (hk : k < 2) (hn : north = decide (k = 1)) (hc : Sheet.Calms S.n.toNat (joOf north S.J) D N t') (ha : a < S.n.toNat) (hf : t' a b = Sheet.far) : BtK S N D a b t' (k + 1) q0 q1 := by
  rcases h with ⟨rfl, rfl, rfl⟩ | ⟨rfl, h1, rfl, h2⟩ | ⟨rfl, _⟩
  · subst hn
    exact .inr (.inl ⟨rfl, hc, rfl, fun h => absurd hf h⟩)
  · subst hn
    exact .inr (.inr ⟨rfl, t, h1, hc, fun h => absurd hf (Sheet.far_ways h1 hc (legs_ways S.J false true) ha h)⟩)
  · omega
theorem BtK.next_set {S : SetL} {N D : Int} {a b : Nat} {t t' : Nat → Nat → Int} {k : Nat} {q0 q1 : Q4} {north : Bool} (h : BtK S N D a b t k q0 q1) (hk : k < 2) (hn : north = decide (k = 1)) (hc : Sheet.Calms S.n.toNat (joOf north S.J) D N t') : BtK S N D a b t' (k + 1) (if k = 0 then bt4 D t' a b else q0) (if k = 0 then q1 else bt4 D t' a b) := by
  rcases h with ⟨rfl, rfl, rfl⟩ | ⟨rfl, h1, rfl, h2⟩ | ⟨rfl, _⟩
  · subst hn
    exact .inr (.inl ⟨rfl, hc, rfl, fun _ => rfl⟩)
  · subst hn
    exact .inr (.inr ⟨rfl, t, h1, hc, fun h => ⟨h2 h, rfl⟩⟩)
  · omega
theorem enc8_if (q0 q1 q : Q4) (k : Nat) : (if k = 0 then enc8 q q1 else enc8 q0 q) = enc8 (if k = 0 then q else q0) (if k = 0 then q1 else q) := by split <;> rfl

set_option maxRecDepth 100000 in
set_option maxHeartbeats 4000000 in
theorem between_good (S : SetL) (A : Option Addr) (c : Nat) (a b : Nat) (N D : Int) (w : World) (hA : Quads w A S.J) (he : setE S = 0) (ha : a < S.n.toNat) (hb : b < S.n.toNat) (hp : PlayOk N D) :
    Calls Try.prog 14 #[.agg #[.int .i64 S.n, .slice A S.J.length c], .int .i64 (a : Nat), .int .i64 (b : Nat), .agg #[.int .i64 N, .int .i64 D]] w (BtR S N D a b w) := by
  obtain ⟨s, hs⟩ : ∃ s, w.heap.size = s := ⟨_, rfl⟩
  have F0 := ((((Fr.start w).alloc rfl 25 #[.int .i64 S.n, .slice A S.J.length c]).alloc (by simp) 37 #[.int .i64 N, .int .i64 D]).alloc (by simp) 43 zerS).alloc (by simp) 43 zerS
  simp only [List.nil_append, List.cons_append] at F0
  rw [hs] at F0
  unfold zerS at F0
  have HF0 := Lib.hid F0
  have HO := Lib.hid (opened_good S A c _ (hA.aft F0.aft) he)
  have hS := setE_ok he
  have hn1 := hS.n1
  have hn2 := hS.n2
  have H1 : Hid (fromB (a : Int) 0 (S.n - 1) = true) := Lib.hid (by rw [fromB_iff]; omega)
  have H2 : Hid (fromB (b : Int) 0 (S.n - 1) = true) := Lib.hid (by rw [fromB_iff]; omega)
  have H3 := Lib.hid fun w => part_any N D 0 w
  have h3 : partB N D 0 = true := by
    have := hp.d1
    have := hp.d2
    have := hp.n1
    have := hp.n2
    unfold partB
    rw [Bool.and_eq_true, fromB_iff, fromB_iff]
    omega
  rw [h3] at H3
  have HS := Lib.hid hS
  have HP := Lib.hid hp
  have qN : ∀ (w : World) (a : Option Addr) (n c n' c' : Nat), (binOp .neq 103 (.slice a n c) (.slice none n' c')).run Try.prog w = .ok (.bool (!a.isNone)) w := fun w a n c n' c' => run_neq_slice_nil_any w _ _ a n c n' c' Try.underlying103
  clear hA he F0 h3 hS hp
  go_enter Try.func14, Try.ntmps14
  go_upto_block 0 with (go_at_call 43; refine HO.out.mono ?_; rintro e w2 ⟨d, rfl, hw2⟩)
  have HF2 := Lib.hid (HF0.out.later hw2.aft)
  have HW2 := Lib.hid hw2
  have hdb := hw2.base
  clear hw2
  simp only [World.size_alloc] at hdb
  try rw [hs]
  generalize ((((w.alloc (.cells #[.int .i64 S.n, .slice A S.J.length c] 25)).alloc (.cells #[.int .i64 N, .int .i64 D] 37)).alloc (.cells #[.int .i64 0, .int .i64 0, .int .i64 0, .int .i64 0] 43)).alloc (.cells #[.int .i64 0, .int .i64 0, .int .i64 0, .int .i64 0] 43)) = W1 at *
  clear HO HF0
  have y1 : w2.cell? ⟨s, 0, none⟩ = some (.int .i64 S.n) := (HF2.out.nth 0 rfl).cell 0
  have y2 := (HF2.out.nth 0 rfl).lt
  have y3 : w2.cell? ⟨s + 1, 0, none⟩ = some (.int .i64 N) := (HF2.out.nth 1 rfl).cell 0
  have y4 : w2.cell? ⟨s + 1, 1, none⟩ = some (.int .i64 D) := (HF2.out.nth 1 rfl).cell 1
  have y5 := (HF2.out.nth 1 rfl).lt
  go_upto_region 8 with (first | (go_at_call_of 45 (Value.int IntKind.i64 a); refine (in_any _ _ _ _).mono ?_; rintro e w' ⟨rfl, rfl⟩; rw [H1.out]) | (go_at_call_of 45 (Value.int IntKind.i64 b); refine (in_any _ _ _ _).mono ?_; rintro e w' ⟨rfl, rfl⟩; rw [H2.out]) | (go_at_call 46; refine (H3.out _).mono ?_; rintro e w3 ⟨rfl, u, rfl⟩))
  have HF3 := Lib.hid (HF2.out.later (Aft.lat _ u))
  have HW3 := Lib.hid (HW2.out.later (Aft.lat _ u))
  clear y1 y2 y3 y4 y5 HF2 HW2 H1 H2 H3
  generalize w2.lat u = W3 at *
  obtain ⟨z, hz⟩ : ∃ z, W3.heap.size = z := ⟨_, rfl⟩
  have hdz : d < z := hz ▸ HW3.out.lt
  have hzw : W1.heap.size ≤ z := hz ▸ HW3.out.aft.size
  have HD4 : Hid (FrD W3 d (z + 1) [(z, 110, enc8 z4 z4)] [] (W3.alloc (.cells (enc8 z4 z4) 110))) := Lib.hid (by
    have := (FrD.start W3 HW3.out.lt).alloc rfl 110 (enc8 z4 z4)
    rw [hz] at this
    exact this)
  have HW4 := Lib.hid (HW3.out.later (Aft.alloc W3 (.cells (enc8 z4 z4) 110)))
  have hze : (enc8 z4 z4) = #[.int .i64 0, .int .i64 0, .int .i64 0, .int .i64 0, .int .i64 0, .int .i64 0, .int .i64 0, .int .i64 0] := rfl
  rw [hze] at HD4 HW4
  have HZ := Lib.hid hz
  clear hz
  go_upto_block 1 with (go_at_call 47; refine (both_any _).mono ?_; rintro e w6 ⟨rfl, u6, rfl⟩)
  try rw [HZ.out]
  have HI0 : Hid (BtI W1 W3 d z S A c N D a b 0 zAp zBy z4 z4 ((W3.alloc (.cells #[.int .i64 0, .int .i64 0, .int .i64 0, .int .i64 0, .int .i64 0, .int .i64 0, .int .i64 0, .int .i64 0] 110)).lat u6)) := Lib.hid ⟨HD4.out.later (Aft.lat _ u6), HW4.out.later (Aft.lat _ u6), .inl ⟨rfl, rfl, rfl⟩⟩
  clear hze HZ HD4 HW4
  generalize (W3.alloc (.cells #[.int .i64 0, .int .i64 0, .int .i64 0, .int .i64 0, .int .i64 0, .int .i64 0, .int .i64 0, .int .i64 0] 110)).lat u6 = W4 at *
  refine wp_block ?_
  go_loopw [50] (fun i wr => ∃ k : Nat, i = .int .i64 (k : Nat) ∧ k ≤ 2 ∧ ∃ ap bf q0 q1, BtI W1 W3 d z S A c N D a b k ap bf q0 q1 wr) (fun i _ => 2 - (intOf i).toNat)
  case atStart => exact ⟨0, rfl, by omega, _, _, _, _, HI0.out⟩
  case round =>
    obtain ⟨k, rfl, hk, ap1, bf1, q0, q1, hI⟩ := hrel
    have HI := Lib.hid hI
    clear HI0 hI
    by_cases hk2 : k < 2
    · have t1 : decide ((k : Int) < 2) = true := by simp; omega
      obtain ⟨kw, north, hK, hix, hk1, hno⟩ := way_ex k hk2
      have HNO := Lib.hid hno
      obtain ⟨X1, hX1⟩ : ∃ X1, wr.alloc (.cells #[.func (.func kw) #[] #[]] 113) = X1 := ⟨_, rfl⟩
      have hax := hX1 ▸ Aft.alloc wr (.cells #[.func (.func kw) #[] #[]] 113)
      have HBX := Lib.hid (hX1 ▸ Blk.new wr 113 #[.func (.func kw) #[] #[]])
      have HD5 := Lib.hid (HI.out.fr.later hax)
      have HW5 := Lib.hid (HI.out.wk.later hax)
      have HF5 := Lib.hid (HF3.out.grown HD5.out.grow (fun r e => by have e : d = r := Option.some.inj e; omega))
      have HRK := Lib.hid (reckon_any hK S A c d ap1 bf1 W1 X1 HW5.out HS.out N D HP.out)
      obtain ⟨zx, hzx⟩ : ∃ zx, wr.heap.size = zx := ⟨_, rfl⟩
      rw [hzx] at HBX
      clear hK hno hax
      go_upto_region 12 with fail
      try rw [hX1]
      try rw [hzx]
      clear hX1 hix hzx
      have y1 : X1.cell? ⟨zx, 0, none⟩ = some (.func (.func kw) #[] #[]) := HBX.out.cell 0
      have y2 := HBX.out.lt
      have y3 : X1.cell? ⟨s + 1, 0, none⟩ = some (.int .i64 N) := (HF5.out.nth 1 rfl).cell 0
      have y4 : X1.cell? ⟨s + 1, 1, none⟩ = some (.int .i64 D) := (HF5.out.nth 1 rfl).cell 1
      have y5 := (HF5.out.nth 1 rfl).lt
      go_upto_region 14 with (go_at_call 48; refine HRK.out.mono ?_; rintro e W6 hfin; refine hfin.val3.elim ?_ ?_ <;> clear hfin; rotate_left; (rintro ⟨g9, n9, c9, l9, rfl, hg6, hor⟩; have HOR := Lib.hid hor; have HF9 := Lib.hid (HF5.out.grown hg6 (fun r e => by have e : d = r := Option.some.inj e; omega)); clear hg6 hor HF5 HF3 y1 y2 y3 y4 y5; obtain ⟨W9, hW9⟩ : ∃ W9, W9 = W6 := ⟨_, rfl⟩; rw [← hW9] at HF9 ⊢; clear hW9; have p0 := (HF9.out.nth 2 rfl).cell 0; have p1 := (HF9.out.nth 2 rfl).cell 1; have p2 := (HF9.out.nth 2 rfl).cell 2; have p3 := (HF9.out.nth 2 rfl).cell 3; have p4 := (HF9.out.nth 2 rfl).lt; have p5 := (HF9.out.nth 2 rfl).frozen 0; have p6 := (HF9.out.nth 2 rfl).frozen 1; have p7 := (HF9.out.nth 2 rfl).frozen 2; have p8 := (HF9.out.nth 2 rfl).frozen 3; have q0 := (HF9.out.nth 3 rfl).cell 0; have q1 := (HF9.out.nth 3 rfl).cell 1; have q2 := (HF9.out.nth 3 rfl).cell 2; have q3 := (HF9.out.nth 3 rfl).cell 3; have q4 := (HF9.out.nth 3 rfl).lt; have q5 := (HF9.out.nth 3 rfl).frozen 0; have q6 := (HF9.out.nth 3 rfl).frozen 1; have q7 := (HF9.out.nth 3 rfl).frozen 2; have q8 := (HF9.out.nth 3 rfl).frozen 3; simp only [List.getElem?_toArray, List.getElem?_cons_zero, List.getElem?_cons_succ] at p0 p1 p2 p3 q0 q1 q2 q3); rotate_left; rintro ⟨ap2, bf2, rfl, hg6, hw6, hor⟩)
      · have HG6 := Lib.hid hg6
        have HW6 := Lib.hid hw6
        have HOR := Lib.hid hor
        clear hg6 hw6 hor
        have HD6 := Lib.hid (HD5.out.grown HG6.out (.inl rfl))
        have HF6 := Lib.hid (HF5.out.grown HG6.out (fun r e => by have e : d = r := Option.some.inj e; omega))
        clear HG6 HD5 HW5 HF5 HBX y1 y2 y3 y4 y5
        have k1 := HW6.out.lt
        have k2 := kap2 HW6.out (n := S.n.toNat) (by omega) ha hb
        have k4 := kap2 HW6.out (n := S.n.toNat) (by omega) hb ha
        have ia : (0 : Int) ≤ (a : Int) ∧ (a : Int) < 12 := by omega
        have ib : (0 : Int) ≤ (b : Int) ∧ (b : Int) < 12 := by omega
        by_cases hf : tabOf S ap2 a b = Sheet.far
        · have HBK := Lib.hid (HI.out.bt.next_far hk2 HNO.out HOR.out ha hf)
          have t2 : decide (rowOf S.n.toNat ap2 a b < 36028797018963968) = false := by rw [decide_eq_false_iff_not]; show ¬ (tabOf S ap2 a b < 36028797018963968); rw [hf]; decide
          clear hf k4
          go_wp2_with fail
          exact ⟨⟨k + 1, by go_num, by omega, ap2, bf2, q0, q1, HD6.out, HW6.out, HBK.out⟩, by simp [intOf]; omega⟩
        · have hf2 := Sheet.far_back HOR.out ha hb hf
          have hx := tab_small HS.out HP.out HOR.out ha hf
          have hy := tab_small HS.out HP.out HOR.out hb hf2
          have t2 : decide (rowOf S.n.toNat ap2 a b < 36028797018963968) = true := by rw [decide_eq_true_eq]; show (tabOf S ap2 a b < 36028797018963968); omega
          have HBK := Lib.hid (HI.out.bt.next_set hk2 HNO.out HOR.out (a := a) (b := b))
          have HQ : Hid (bt4 D (tabOf S ap2) a b = ⟨(Sheet.low (-(tabOf S ap2 b a)) D).1, (Sheet.low (-(tabOf S ap2 b a)) D).2, (Sheet.low (tabOf S ap2 a b) D).1, (Sheet.low (tabOf S ap2 a b) D).2⟩) := Lib.hid rfl
          have hd1 := HP.out.d1
          have hd2 := HP.out.d2
          have k2 : W6.cell? ⟨d, 2 + a * 12 + b, none⟩ = some (.int .i64 (tabOf S ap2 a b)) := k2
          have k4 : W6.cell? ⟨d, 2 + b * 12 + a, none⟩ = some (.int .i64 (tabOf S ap2 b a)) := k4
          have t2 : decide (tabOf S ap2 a b < 36028797018963968) = true := t2
          clear hf hf2
          obtain ⟨x, hxe⟩ : ∃ x, tabOf S ap2 a b = x := ⟨_, rfl⟩
          obtain ⟨y, hye⟩ : ∃ y, tabOf S ap2 b a = y := ⟨_, rfl⟩
          rw [hxe] at hx HQ k2 t2
          rw [hye] at hy HQ k4
          have HR1 := Lib.hid fun W => ratio_any (-y) D W (by omega) (by omega) ⟨by omega, by omega⟩
          have HR2 := Lib.hid fun W => ratio_any x D W (by omega) (by omega) ⟨by omega, by omega⟩
          have ew : IntKind.i64.wrap (-y) = -y := IntWalk.i64_in _ (by omega)
          clear hxe hye
          obtain ⟨⟨l1, l2⟩, hl⟩ : ∃ l, Sheet.low (-y) D = l := ⟨_, rfl⟩
          obtain ⟨⟨r1, r2⟩, hr⟩ : ∃ l, Sheet.low x D = l := ⟨_, rfl⟩
          rw [hl] at HR1 HQ
          rw [hr] at HR2 HQ
          rw [HQ.out] at HBK
          dsimp only at HR1 HR2 HBK
          clear hl hr HQ
          go_upto_region 15 with fail
          clear t2
          refine wp_region_valsT (by kernel_rfl) 25 112 rfl (by kernel_rfl) (by kernel_rfl) (by kernel_rfl) [.int .i64 (k : Nat), .pointer (some ⟨d, 0, none⟩), .int .i64 (b : Nat), .int .i64 (a : Nat), .pointer (some ⟨d, 0, none⟩), .pointer (some ⟨d, 2, none⟩), .pointer (some ⟨d, 2 + b * 12, none⟩), .pointer (some ⟨d, 2 + b * 12 + a, none⟩), .int .i64 y, .int .i64 (-y), .pointer (some ⟨s + 1, 1, none⟩), .int .i64 D, .agg #[.int .i64 l1, .int .i64 l2], .pointer (some ⟨d, 0, none⟩), .int .i64 (a : Nat), .int .i64 (b : Nat), .pointer (some ⟨d, 0, none⟩), .pointer (some ⟨d, 2, none⟩), .pointer (some ⟨d, 2 + a * 12, none⟩), .pointer (some ⟨d, 2 + a * 12 + b, none⟩), .int .i64 x, .pointer (some ⟨s + 1, 1, none⟩), .int .i64 D, .agg #[.int .i64 r1, .int .i64 r2], .agg #[.int .i64 l1, .int .i64 l2, .int .i64 r1, .int .i64 r2]] rfl (fun _ W => Aft W6 W) (Aft.drew _) ?st1 ?fi1
          case st1 =>
            intro i o v ho hv
            match i, ho, hv with
            | 0, ho, hv =>
              cases ho; cases hv
              refine .inl ⟨rfl, fun done a W hd hp hk hw K hK => ?_⟩
              have e13 := hk.same 13 (by decide)
              exact op_val (by simp [go_sem, ev' e13]) (hK _ hw)
            | 1, ho, hv =>
              cases ho; cases hv
              refine .inl ⟨rfl, fun done a W hd hp hk hw K hK => ?_⟩
              have e11 := hk.same 11 (by decide)
              exact op_val (by simp [go_sem, ev' e11]) (hK _ hw)
            | 2, ho, hv =>
              cases ho; cases hv
              refine .inl ⟨rfl, fun done a W hd hp hk hw K hK => ?_⟩
              have e2 := hk.same 2 (by decide)
              exact op_val (by simp [go_sem, ev' e2]) (hK _ hw)
            | 3, ho, hv =>
              cases ho; cases hv
              refine .inl ⟨rfl, fun done a W hd hp hk hw K hK => ?_⟩
              have e1 := hk.same 1 (by decide)
              exact op_val (by simp [go_sem, ev' e1]) (hK _ hw)
            | 4, ho, hv =>
              cases ho; cases hv
              refine .inl ⟨rfl, fun done a W hd hp hk hw K hK => ?_⟩
              have e71 := hk.at_ 1 _ 71 _ rfl (by decide) _ rfl rfl rfl
              exact op_val (by simp [go_sem, ev' e71]) (hK _ hw)
            | 5, ho, hv =>
              cases ho; cases hv
              refine .inl ⟨rfl, fun done a W hd hp hk hw K hK => ?_⟩
              have e74 := hk.at_ 4 _ 74 _ rfl (by decide) _ rfl rfl rfl
              exact op_val (by simp [go_sem, ev' e74]) (hK _ hw)
            | 6, ho, hv =>
              cases ho; cases hv
              refine .inl ⟨rfl, fun done a W hd hp hk hw K hK => ?_⟩
              have e72 := hk.at_ 2 _ 72 _ rfl (by decide) _ rfl rfl rfl
              have e75 := hk.at_ 5 _ 75 _ rfl (by decide) _ rfl rfl rfl
              exact op_val (by simp [go_sem, ev' e72, ev' e75, ib]) (hK _ hw)
            | 7, ho, hv =>
              cases ho; cases hv
              refine .inl ⟨rfl, fun done a W hd hp hk hw K hK => ?_⟩
              have e73 := hk.at_ 3 _ 73 _ rfl (by decide) _ rfl rfl rfl
              have e76 := hk.at_ 6 _ 76 _ rfl (by decide) _ rfl rfl rfl
              exact op_val (by simp [go_sem, ev' e73, ev' e76, ia]) (hK _ hw)
            | 8, ho, hv =>
              cases ho; cases hv
              refine .inl ⟨rfl, fun done a W hd hp hk hw K hK => ?_⟩
              have e77 := hk.at_ 7 _ 77 _ rfl (by decide) _ rfl rfl rfl
              have q1 := cellA k4 k1 hw
              exact op_val (by simp [go_sem, ev' e77, q1]) (hK _ hw)
            | 9, ho, hv =>
              cases ho; cases hv
              refine .inl ⟨rfl, fun done a W hd hp hk hw K hK => ?_⟩
              have e78 := hk.at_ 8 _ 78 _ rfl (by decide) _ rfl rfl rfl
              exact op_val (by simp [go_sem, ev' e78, ew]) (hK _ hw)
            | 10, ho, hv =>
              cases ho; cases hv
              refine .inl ⟨rfl, fun done a W hd hp hk hw K hK => ?_⟩
              have e7 := hk.same 7 (by decide)
              exact op_val (by simp [go_sem, ev' e7]) (hK _ hw)
            | 11, ho, hv =>
              cases ho; cases hv
              refine .inl ⟨rfl, fun done a W hd hp hk hw K hK => ?_⟩
              have e80 := hk.at_ 10 _ 80 _ rfl (by decide) _ rfl rfl rfl
              exact op_val (by simp [go_sem, ev' e80, ((HF6.out.later hw).nth 1 rfl).cell 1]) (hK _ hw)
            | 12, ho, hv =>
              cases ho; cases hv
              refine .inl ⟨rfl, fun done a W hd hp hk hw K hK => ?_⟩
              have e79 := hk.at_ 9 _ 79 _ rfl (by decide) _ rfl rfl rfl
              have e81 := hk.at_ 11 _ 81 _ rfl (by decide) _ rfl rfl rfl
              refine op_callN rfl rfl rfl _ rfl (vs := #[.int .i64 (-y), .int .i64 D]) (by simp [e79, e81]) (HR1.out W) ?_
              rintro e w7 ⟨rfl, hw7⟩
              exact ⟨_, rfl, hK _ (hw.trans hw7)⟩
            | 13, ho, hv =>
              cases ho; cases hv
              refine .inl ⟨rfl, fun done a W hd hp hk hw K hK => ?_⟩
              have e11 := hk.same 11 (by decide)
              exact op_val (by simp [go_sem, ev' e11]) (hK _ hw)
            | 14, ho, hv =>
              cases ho; cases hv
              refine .inl ⟨rfl, fun done a W hd hp hk hw K hK => ?_⟩
              have e1 := hk.same 1 (by decide)
              exact op_val (by simp [go_sem, ev' e1]) (hK _ hw)
            | 15, ho, hv =>
              cases ho; cases hv
              refine .inl ⟨rfl, fun done a W hd hp hk hw K hK => ?_⟩
              have e2 := hk.same 2 (by decide)
              exact op_val (by simp [go_sem, ev' e2]) (hK _ hw)
            | 16, ho, hv =>
              cases ho; cases hv
              refine .inl ⟨rfl, fun done a W hd hp hk hw K hK => ?_⟩
              have e83 := hk.at_ 13 _ 83 _ rfl (by decide) _ rfl rfl rfl
              exact op_val (by simp [go_sem, ev' e83]) (hK _ hw)
            | 17, ho, hv =>
              cases ho; cases hv
              refine .inl ⟨rfl, fun done a W hd hp hk hw K hK => ?_⟩
              have e86 := hk.at_ 16 _ 86 _ rfl (by decide) _ rfl rfl rfl
              exact op_val (by simp [go_sem, ev' e86]) (hK _ hw)
            | 18, ho, hv =>
              cases ho; cases hv
              refine .inl ⟨rfl, fun done a W hd hp hk hw K hK => ?_⟩
              have e84 := hk.at_ 14 _ 84 _ rfl (by decide) _ rfl rfl rfl
              have e87 := hk.at_ 17 _ 87 _ rfl (by decide) _ rfl rfl rfl
              exact op_val (by simp [go_sem, ev' e84, ev' e87, ia]) (hK _ hw)
            | 19, ho, hv =>
              cases ho; cases hv
              refine .inl ⟨rfl, fun done a W hd hp hk hw K hK => ?_⟩
              have e85 := hk.at_ 15 _ 85 _ rfl (by decide) _ rfl rfl rfl
              have e88 := hk.at_ 18 _ 88 _ rfl (by decide) _ rfl rfl rfl
              exact op_val (by simp [go_sem, ev' e85, ev' e88, ib]) (hK _ hw)
            | 20, ho, hv =>
              cases ho; cases hv
              refine .inl ⟨rfl, fun done a W hd hp hk hw K hK => ?_⟩
              have e89 := hk.at_ 19 _ 89 _ rfl (by decide) _ rfl rfl rfl
              have q1 := cellA k2 k1 hw
              exact op_val (by simp [go_sem, ev' e89, q1]) (hK _ hw)
            | 21, ho, hv =>
              cases ho; cases hv
              refine .inl ⟨rfl, fun done a W hd hp hk hw K hK => ?_⟩
              have e7 := hk.same 7 (by decide)
              exact op_val (by simp [go_sem, ev' e7]) (hK _ hw)
            | 22, ho, hv =>
              cases ho; cases hv
              refine .inl ⟨rfl, fun done a W hd hp hk hw K hK => ?_⟩
              have e91 := hk.at_ 21 _ 91 _ rfl (by decide) _ rfl rfl rfl
              exact op_val (by simp [go_sem, ev' e91, ((HF6.out.later hw).nth 1 rfl).cell 1]) (hK _ hw)
            | 23, ho, hv =>
              cases ho; cases hv
              refine .inl ⟨rfl, fun done a W hd hp hk hw K hK => ?_⟩
              have e90 := hk.at_ 20 _ 90 _ rfl (by decide) _ rfl rfl rfl
              have e92 := hk.at_ 22 _ 92 _ rfl (by decide) _ rfl rfl rfl
              refine op_callN rfl rfl rfl _ rfl (vs := #[.int .i64 x, .int .i64 D]) (by simp [e90, e92]) (HR2.out W) ?_
              rintro e w7 ⟨rfl, hw7⟩
              exact ⟨_, rfl, hK _ (hw.trans hw7)⟩
            | 24, ho, hv =>
              cases ho; cases hv
              refine .inl ⟨rfl, fun done a W hd hp hk hw K hK => ?_⟩
              have e82 := hk.at_ 12 _ 82 _ rfl (by decide) _ rfl rfl rfl
              have e93 := hk.at_ 23 _ 93 _ rfl (by decide) _ rfl rfl rfl
              exact op_val (by simp [go_sem, ev' e82, ev' e93]) (hK _ hw)
            | _ + 25, _, hv => cases hv
          intro done W hd hw
          simp only [List.drop_succ_cons, List.drop_zero, List.zip_cons_cons, List.zip_nil_right, putAll]
          simp only [Act.put, List.setIfInBounds_toArray, List.set]
          clear hd
          have HD7 := Lib.hid (HD6.out.later hw)
          have HW7 := Lib.hid (HW6.out.later hw)
          obtain ⟨x0, x1, x2, x3, c0, c1, c2, c3⟩ := enc8_cells q0 q1 hk2
          have m0 := ((HD7.out.nth 0 rfl).cell (k * 4)).trans c0
          have m1 := ((HD7.out.nth 0 rfl).cell (k * 4 + 1)).trans c1
          have m2 := ((HD7.out.nth 0 rfl).cell (k * 4 + 2)).trans c2
          have m3 := ((HD7.out.nth 0 rfl).cell (k * 4 + 3)).trans c3
          have m4 := (HD7.out.nth 0 rfl).frozen (k * 4)
          have m5 := (HD7.out.nth 0 rfl).frozen (k * 4 + 1)
          have m6 := (HD7.out.nth 0 rfl).frozen (k * 4 + 2)
          have m7 := (HD7.out.nth 0 rfl).frozen (k * 4 + 3)
          have m8 := (HD7.out.nth 0 rfl).lt
          clear hw k1 k2 k4 HR1 HR2 HW6 HD6 HF6 c0 c1 c2 c3 ew
          have ik : (0 : Int) ≤ (k : Int) ∧ (k : Int) < 2 := by omega
          go_wp2_with fail
          refine ⟨⟨k + 1, by go_num, by omega, ap2, bf2, _, _, ?_, ?_, HBK.out⟩, by simp [intOf]; omega⟩
          · have := (((HD7.out.store (g := z) (t := 110) (cs := enc8 q0 q1) (by simp) (k * 4) (.int .i64 l1) (bs' := [(z, 110, (enc8 q0 q1).setIfInBounds (k * 4) (.int .i64 l1))]) (by simp)).store (g := z) (t := 110) (by simp; rfl) (k * 4 + 1) (.int .i64 l2) (bs' := [(z, 110, ((enc8 q0 q1).setIfInBounds (k * 4) (.int .i64 l1)).setIfInBounds (k * 4 + 1) (.int .i64 l2))]) (by simp)).store (g := z) (t := 110) (by simp; rfl) (k * 4 + 2) (.int .i64 r1) (bs' := [(z, 110, (((enc8 q0 q1).setIfInBounds (k * 4) (.int .i64 l1)).setIfInBounds (k * 4 + 1) (.int .i64 l2)).setIfInBounds (k * 4 + 2) (.int .i64 r1))]) (by simp)).store (g := z) (t := 110) (by simp; rfl) (k * 4 + 3) (.int .i64 r2) (bs' := [(z, 110, ((((enc8 q0 q1).setIfInBounds (k * 4) (.int .i64 l1)).setIfInBounds (k * 4 + 1) (.int .i64 l2)).setIfInBounds (k * 4 + 2) (.int .i64 r1)).setIfInBounds (k * 4 + 3) (.int .i64 r2))]) (by simp)
            rw [enc8_set q0 q1 hk2 ⟨l1, l2, r1, r2⟩, enc8_if] at this
            exact this
          · have hg2 : W.grownBy ((((W.setCell ⟨z, k * 4, none⟩ (.int .i64 l1)).setCell ⟨z, k * 4 + 1, none⟩ (.int .i64 l2)).setCell ⟨z, k * 4 + 2, none⟩ (.int .i64 r1)).setCell ⟨z, k * 4 + 3, none⟩ (.int .i64 r2)) (some z) := only_setCell (only_setCell (only_setCell (only_setCell (only_refl _ _) (p := ⟨z, k * 4, none⟩) (.inl rfl) _) (p := ⟨z, k * 4 + 1, none⟩) (.inl rfl) _) (p := ⟨z, k * 4 + 2, none⟩) (.inl rfl) _) (p := ⟨z, k * 4 + 3, none⟩) (.inl rfl) _
            exact HW7.out.grown hg2 (fun e => by have e : d = z := Option.some.inj e; omega) (fun r e => by have e : z = r := Option.some.inj e; omega)
      · skip
        obtain ⟨B1, B2, A2⟩ := put_two HF9.out (g1 := s + 1 + 1) (g2 := s + 1 + 1 + 1) (by simp) (by simp) (by omega) (by omega) 0 0 0 0 0 0 0 0
        generalize ((((((((W9.setCell ⟨s + 1 + 1, 0, none⟩ (.int .i64 0)).setCell ⟨s + 1 + 1, 1, none⟩ (.int .i64 0)).setCell ⟨s + 1 + 1, 2, none⟩ (.int .i64 0)).setCell ⟨s + 1 + 1, 3, none⟩ (.int .i64 0)).setCell ⟨s + 1 + 1 + 1, 0, none⟩ (.int .i64 0)).setCell ⟨s + 1 + 1 + 1, 1, none⟩ (.int .i64 0)).setCell ⟨s + 1 + 1 + 1, 2, none⟩ (.int .i64 0)).setCell ⟨s + 1 + 1 + 1, 3, none⟩ (.int .i64 0)) = X at *
        have p0 : X.cell? ⟨s + 1 + 1, 0, none⟩ = some (.int .i64 0) := B1.cell 0
        have p1 : X.cell? ⟨s + 1 + 1, 1, none⟩ = some (.int .i64 0) := B1.cell 1
        have p2 : X.cell? ⟨s + 1 + 1, 2, none⟩ = some (.int .i64 0) := B1.cell 2
        have p3 : X.cell? ⟨s + 1 + 1, 3, none⟩ = some (.int .i64 0) := B1.cell 3
        have q0 : X.cell? ⟨s + 1 + 1 + 1, 0, none⟩ = some (.int .i64 0) := B2.cell 0
        have q1 : X.cell? ⟨s + 1 + 1 + 1, 1, none⟩ = some (.int .i64 0) := B2.cell 1
        have q2 : X.cell? ⟨s + 1 + 1 + 1, 2, none⟩ = some (.int .i64 0) := B2.cell 2
        have q3 : X.cell? ⟨s + 1 + 1 + 1, 3, none⟩ = some (.int .i64 0) := B2.cell 3
        exact bodyPost_ret (v := .tuple #[.agg #[.int .i64 0, .int .i64 0, .int .i64 0, .int .i64 0], .agg #[.int .i64 0, .int .i64 0, .int .i64 0, .int .i64 0], .int .i64 8]) (by simp [results, Try.results14, go_sem, p0, p1, p2, p3, q0, q1, q2, q3]) rfl ⟨A2, .inl ⟨rfl, _, _, HOR.out⟩⟩
    · have ek : k = 2 := by omega
      have t1 : decide ((k : Int) < 2) = false := by simp; omega
      have HD6 := Lib.hid HI.out.fr
      have HW6 := Lib.hid HI.out.wk
      have HF9 := Lib.hid (HF3.out.grown HD6.out.grow (fun r e => by have e : d = r := Option.some.inj e; omega))
      obtain ⟨t0, hc0, hc1, hq⟩ : ∃ t0, Sheet.Calms S.n.toNat (joOf false S.J) D N t0 ∧ Sheet.Calms S.n.toNat (joOf true S.J) D N (tabOf S ap1) ∧ (t0 a b ≠ Sheet.far → q0 = bt4 D t0 a b ∧ q1 = bt4 D (tabOf S ap1) a b) := by
        rcases HI.out.bt with ⟨h, _⟩ | ⟨h, _⟩ | ⟨_, h⟩
        · omega
        · omega
        · exact h
      have k1 := HW6.out.lt
      have k2 : wr.cell? ⟨d, 2 + a * 12 + b, none⟩ = some (.int .i64 (tabOf S ap1 a b)) := kap2 HW6.out (n := S.n.toNat) (by omega) ha hb
      have ia : (0 : Int) ≤ (a : Int) ∧ (a : Int) < 12 := by omega
      have ib : (0 : Int) ≤ (b : Int) ∧ (b : Int) < 12 := by omega
      by_cases hf : tabOf S ap1 a b = Sheet.far
      · have hf0 : t0 a b = Sheet.far := Classical.byContradiction fun h => Sheet.far_ways hc0 hc1 (legs_ways S.J false true) ha h hf
        have HRES := Lib.hid (show _ ∧ _ ∧ _ from ⟨hc0, hc1, hf0⟩)
        have t2 : (tabOf S ap1 a b == (36028797018963968 : Int)) = true := by rw [hf]; decide
        clear hf hf0 hq hc0 hc1 HI HD6 HW6 HF3
        go_upto_region 18 with fail
        clear k1 k2
        obtain ⟨W9, hW9⟩ : ∃ W9, W9 = wr := ⟨_, rfl⟩
        rw [← hW9] at HF9 ⊢
        clear hW9
        have p0 := (HF9.out.nth 2 rfl).cell 0
        have p1 := (HF9.out.nth 2 rfl).cell 1
        have p2 := (HF9.out.nth 2 rfl).cell 2
        have p3 := (HF9.out.nth 2 rfl).cell 3
        have p4 := (HF9.out.nth 2 rfl).lt
        have p5 := (HF9.out.nth 2 rfl).frozen 0
        have p6 := (HF9.out.nth 2 rfl).frozen 1
        have p7 := (HF9.out.nth 2 rfl).frozen 2
        have p8 := (HF9.out.nth 2 rfl).frozen 3
        have q0 := (HF9.out.nth 3 rfl).cell 0
        have q1 := (HF9.out.nth 3 rfl).cell 1
        have q2 := (HF9.out.nth 3 rfl).cell 2
        have q3 := (HF9.out.nth 3 rfl).cell 3
        have q4 := (HF9.out.nth 3 rfl).lt
        have q5 := (HF9.out.nth 3 rfl).frozen 0
        have q6 := (HF9.out.nth 3 rfl).frozen 1
        have q7 := (HF9.out.nth 3 rfl).frozen 2
        have q8 := (HF9.out.nth 3 rfl).frozen 3
        simp only [List.getElem?_toArray, List.getElem?_cons_zero, List.getElem?_cons_succ] at p0 p1 p2 p3 q0 q1 q2 q3
        go_wp2_with fail
        obtain ⟨B1, B2, A2⟩ := put_two HF9.out (g1 := s + 1 + 1) (g2 := s + 1 + 1 + 1) (by simp) (by simp) (by omega) (by omega) 0 0 0 0 0 0 0 0
        generalize ((((((((W9.setCell ⟨s + 1 + 1, 0, none⟩ (.int .i64 0)).setCell ⟨s + 1 + 1, 1, none⟩ (.int .i64 0)).setCell ⟨s + 1 + 1, 2, none⟩ (.int .i64 0)).setCell ⟨s + 1 + 1, 3, none⟩ (.int .i64 0)).setCell ⟨s + 1 + 1 + 1, 0, none⟩ (.int .i64 0)).setCell ⟨s + 1 + 1 + 1, 1, none⟩ (.int .i64 0)).setCell ⟨s + 1 + 1 + 1, 2, none⟩ (.int .i64 0)).setCell ⟨s + 1 + 1 + 1, 3, none⟩ (.int .i64 0)) = X at *
        have p0 : X.cell? ⟨s + 1 + 1, 0, none⟩ = some (.int .i64 0) := B1.cell 0
        have p1 : X.cell? ⟨s + 1 + 1, 1, none⟩ = some (.int .i64 0) := B1.cell 1
        have p2 : X.cell? ⟨s + 1 + 1, 2, none⟩ = some (.int .i64 0) := B1.cell 2
        have p3 : X.cell? ⟨s + 1 + 1, 3, none⟩ = some (.int .i64 0) := B1.cell 3
        have q0 : X.cell? ⟨s + 1 + 1 + 1, 0, none⟩ = some (.int .i64 0) := B2.cell 0
        have q1 : X.cell? ⟨s + 1 + 1 + 1, 1, none⟩ = some (.int .i64 0) := B2.cell 1
        have q2 : X.cell? ⟨s + 1 + 1 + 1, 2, none⟩ = some (.int .i64 0) := B2.cell 2
        have q3 : X.cell? ⟨s + 1 + 1 + 1, 3, none⟩ = some (.int .i64 0) := B2.cell 3
        exact bodyPost_ret (v := .tuple #[.agg #[.int .i64 0, .int .i64 0, .int .i64 0, .int .i64 0], .agg #[.int .i64 0, .int .i64 0, .int .i64 0, .int .i64 0], .int .i64 7]) (by simp [results, Try.results14, go_sem, p0, p1, p2, p3, q0, q1, q2, q3]) rfl ⟨A2, .inr ⟨t0, _, HRES.out.1, HRES.out.2.1, .inl ⟨HRES.out.2.2, rfl⟩⟩⟩
      · have hf0 : t0 a b ≠ Sheet.far := fun h => Sheet.far_ways hc1 hc0 (legs_ways S.J true false) ha hf h
        obtain ⟨hq0, hq1⟩ := hq hf0
        have HRES := Lib.hid (show _ ∧ _ ∧ _ ∧ _ ∧ _ from ⟨hc0, hc1, hf0, hq0, hq1⟩)
        have t2 : (tabOf S ap1 a b == (36028797018963968 : Int)) = false := by rw [beq_eq_false_iff_ne]; exact hf
        clear hf hf0 hq hc0 hc1 hq0 hq1
        go_upto_region 19 with fail
        clear k1 k2
        obtain ⟨a1, a2, a3, a4⟩ := q0
        obtain ⟨b1, b2, b3, b4⟩ := q1
        have hzs : s + 1 + 1 + 1 < z := by omega
        have HI1 : Hid (Fr w (s + 1 + 1 + 1 + 1) [(s, 25, #[.int .i64 S.n, .slice A S.J.length c]), (s + 1, 37, #[.int .i64 N, .int .i64 D]), (s + 1 + 1, 43, #[.int .i64 0, .int .i64 0, .int .i64 0, .int .i64 0]), (s + 1 + 1 + 1, 43, #[.int .i64 0, .int .i64 0, .int .i64 0, .int .i64 0])] wr.drew ∧ Blk wr.drew z 110 (enc8 ⟨a1, a2, a3, a4⟩ ⟨b1, b2, b3, b4⟩)) := Lib.hid ⟨HF9.out.later (Aft.drew _), (HD6.out.nth 0 rfl).aft (Aft.drew _)⟩
        clear HI HD6 HW6 HF3 HF9
        refine wp_region_valsT (by kernel_rfl) 5 112 rfl (by kernel_rfl) (by kernel_rfl) (by kernel_rfl) [.pointer (some ⟨z, 0, none⟩), .agg #[.int .i64 a1, .int .i64 a2, .int .i64 a3, .int .i64 a4], .pointer (some ⟨z, 4, none⟩), .agg #[.int .i64 b1, .int .i64 b2, .int .i64 b3, .int .i64 b4], undef] rfl (fun done W => Fr w (s + 1 + 1 + 1 + 1) [(s, 25, #[.int .i64 S.n, .slice A S.J.length c]), (s + 1, 37, #[.int .i64 N, .int .i64 D]), (s + 1 + 1, 43, if done 4 = true then #[.int .i64 a1, .int .i64 a2, .int .i64 a3, .int .i64 a4] else #[.int .i64 0, .int .i64 0, .int .i64 0, .int .i64 0]), (s + 1 + 1 + 1, 43, #[.int .i64 0, .int .i64 0, .int .i64 0, .int .i64 0])] W ∧ Blk W z 110 (enc8 ⟨a1, a2, a3, a4⟩ ⟨b1, b2, b3, b4⟩)) (HI1.out) ?st2 ?fi2
        case st2 =>
          intro i o v ho hv
          match i, ho, hv with
          | 0, ho, hv =>
            cases ho; cases hv
            refine .inl ⟨rfl, fun done a W hd hp hk hw K hK => ?_⟩
            have e12 := hk.same 12 (by decide)
            exact op_val (by simp [go_sem, ev' e12]) (hK _ (by rw [upd_ne' (by decide)]; exact hw))
          | 1, ho, hv =>
            cases ho; cases hv
            refine .inl ⟨rfl, fun done a W hd hp hk hw K hK => ?_⟩
            have e108 := hk.at_ 0 _ 108 _ rfl (by decide) _ rfl rfl rfl
            have c0 := hw.2.cell 0
            have c1 := hw.2.cell 1
            have c2 := hw.2.cell 2
            have c3 := hw.2.cell 3
            simp only [enc8, List.getElem?_toArray, List.getElem?_cons_zero, List.getElem?_cons_succ] at c0 c1 c2 c3
            exact op_val (by simp [go_sem, ev' e108, c0, c1, c2, c3]) (hK _ (by rw [upd_ne' (by decide)]; exact hw))
          | 2, ho, hv =>
            cases ho; cases hv
            refine .inl ⟨rfl, fun done a W hd hp hk hw K hK => ?_⟩
            have e12 := hk.same 12 (by decide)
            exact op_val (by simp [go_sem, ev' e12]) (hK _ (by rw [upd_ne' (by decide)]; exact hw))
          | 3, ho, hv =>
            cases ho; cases hv
            refine .inl ⟨rfl, fun done a W hd hp hk hw K hK => ?_⟩
            have e110 := hk.at_ 2 _ 110 _ rfl (by decide) _ rfl rfl rfl
            have c0 := hw.2.cell 4
            have c1 := hw.2.cell 5
            have c2 := hw.2.cell 6
            have c3 := hw.2.cell 7
            simp only [enc8, List.getElem?_toArray, List.getElem?_cons_zero, List.getElem?_cons_succ] at c0 c1 c2 c3
            exact op_val (by simp [go_sem, ev' e110, c0, c1, c2, c3]) (hK _ (by rw [upd_ne' (by decide)]; exact hw))
          | 4, ho, hv =>
            cases ho; cases hv
            refine .inl ⟨rfl, fun done a W hd hp hk hw K hK => ?_⟩
            have e8 := hk.same 8 (by decide)
            have e109 := hk.at_ 1 _ 109 _ rfl (by decide) _ rfl rfl rfl
            have h12 : done 4 = false := hd
            rw [h12, if_neg (by decide)] at hw
            have c0 := (hw.1.nth 2 rfl).cell 0
            have c1 := (hw.1.nth 2 rfl).cell 1
            have c2 := (hw.1.nth 2 rfl).cell 2
            have c3 := (hw.1.nth 2 rfl).cell 3
            have f0 := (hw.1.nth 2 rfl).frozen 0
            have f1 := (hw.1.nth 2 rfl).frozen 1
            have f2 := (hw.1.nth 2 rfl).frozen 2
            have f3 := (hw.1.nth 2 rfl).frozen 3
            have c4 := (hw.1.nth 2 rfl).lt
            simp only [List.getElem?_toArray, List.getElem?_cons_zero, List.getElem?_cons_succ] at c0 c1 c2 c3
            have e8 := hk.same 8 (by decide)
            refine op_skipW (w' := ((((W.setCell ⟨s + 1 + 1, 0, none⟩ (.int .i64 a1)).setCell ⟨s + 1 + 1, 1, none⟩ (.int .i64 a2)).setCell ⟨s + 1 + 1, 2, none⟩ (.int .i64 a3)).setCell ⟨s + 1 + 1, 3, none⟩ (.int .i64 a4))) (by simp [go_sem, ev' e8, ev' e109, c0, c1, c2, c3, f0, f1, f2, f3, c4]) (hK _ ⟨?_, ((((hw.2.far (p := ⟨s + 1 + 1, 0, none⟩) (show z ≠ s + 1 + 1 by omega) (.int .i64 a1)).far (p := ⟨s + 1 + 1, 1, none⟩) (show z ≠ s + 1 + 1 by omega) (.int .i64 a2)).far (p := ⟨s + 1 + 1, 2, none⟩) (show z ≠ s + 1 + 1 by omega) (.int .i64 a3)).far (p := ⟨s + 1 + 1, 3, none⟩) (show z ≠ s + 1 + 1 by omega) (.int .i64 a4))⟩)
            rw [show Go.upd done 4 4 = true from rfl, if_pos rfl]
            exact ((((hw.1.store (g := s + 1 + 1) (t := 43) (cs := #[.int .i64 0, .int .i64 0, .int .i64 0, .int .i64 0]) (by simp) 0 (.int .i64 a1) (bs' := [(s, 25, #[.int .i64 S.n, .slice A S.J.length c]), (s + 1, 37, #[.int .i64 N, .int .i64 D]), (s + 1 + 1, 43, #[.int .i64 a1, .int .i64 0, .int .i64 0, .int .i64 0]), (s + 1 + 1 + 1, 43, #[.int .i64 0, .int .i64 0, .int .i64 0, .int .i64 0])]) (by simp; omega)).store (g := s + 1 + 1) (t := 43) (cs := #[.int .i64 a1, .int .i64 0, .int .i64 0, .int .i64 0]) (by simp) 1 (.int .i64 a2) (bs' := [(s, 25, #[.int .i64 S.n, .slice A S.J.length c]), (s + 1, 37, #[.int .i64 N, .int .i64 D]), (s + 1 + 1, 43, #[.int .i64 a1, .int .i64 a2, .int .i64 0, .int .i64 0]), (s + 1 + 1 + 1, 43, #[.int .i64 0, .int .i64 0, .int .i64 0, .int .i64 0])]) (by simp; omega)).store (g := s + 1 + 1) (t := 43) (cs := #[.int .i64 a1, .int .i64 a2, .int .i64 0, .int .i64 0]) (by simp) 2 (.int .i64 a3) (bs' := [(s, 25, #[.int .i64 S.n, .slice A S.J.length c]), (s + 1, 37, #[.int .i64 N, .int .i64 D]), (s + 1 + 1, 43, #[.int .i64 a1, .int .i64 a2, .int .i64 a3, .int .i64 0]), (s + 1 + 1 + 1, 43, #[.int .i64 0, .int .i64 0, .int .i64 0, .int .i64 0])]) (by simp; omega)).store (g := s + 1 + 1) (t := 43) (cs := #[.int .i64 a1, .int .i64 a2, .int .i64 a3, .int .i64 0]) (by simp) 3 (.int .i64 a4) (bs' := [(s, 25, #[.int .i64 S.n, .slice A S.J.length c]), (s + 1, 37, #[.int .i64 N, .int .i64 D]), (s + 1 + 1, 43, #[.int .i64 a1, .int .i64 a2, .int .i64 a3, .int .i64 a4]), (s + 1 + 1 + 1, 43, #[.int .i64 0, .int .i64 0, .int .i64 0, .int .i64 0])]) (by simp; omega))
          | _ + 5, _, hv => cases hv
        intro done W hd hw
        simp only [List.drop_succ_cons, List.drop_zero, List.zip_cons_cons, List.zip_nil_right, putAll]
        simp only [Act.put, List.setIfInBounds_toArray, List.set]
        rw [hd 4 (by decide), if_pos rfl] at hw
        have HF9 := Lib.hid hw.1
        clear hw hd HI1
        have q0 := (HF9.out.nth 3 rfl).cell 0
        have q1 := (HF9.out.nth 3 rfl).cell 1
        have q2 := (HF9.out.nth 3 rfl).cell 2
        have q3 := (HF9.out.nth 3 rfl).cell 3
        have q4 := (HF9.out.nth 3 rfl).lt
        have q5 := (HF9.out.nth 3 rfl).frozen 0
        have q6 := (HF9.out.nth 3 rfl).frozen 1
        have q7 := (HF9.out.nth 3 rfl).frozen 2
        have q8 := (HF9.out.nth 3 rfl).frozen 3
        simp only [List.getElem?_toArray, List.getElem?_cons_zero, List.getElem?_cons_succ] at q0 q1 q2 q3
        go_wp2_with fail
        have B2 := ((((HF9.out.nth 3 rfl).store 0 (.int .i64 b1)).store 1 (.int .i64 b2)).store 2 (.int .i64 b3)).store 3 (.int .i64 b4)
        have B1 := (((((HF9.out.nth 2 rfl).far (p := ⟨s + 1 + 1 + 1, 0, none⟩) (show s + 1 + 1 ≠ s + 1 + 1 + 1 by omega) (.int .i64 b1)).far (p := ⟨s + 1 + 1 + 1, 1, none⟩) (show s + 1 + 1 ≠ s + 1 + 1 + 1 by omega) (.int .i64 b2)).far (p := ⟨s + 1 + 1 + 1, 2, none⟩) (show s + 1 + 1 ≠ s + 1 + 1 + 1 by omega) (.int .i64 b3)).far (p := ⟨s + 1 + 1 + 1, 3, none⟩) (show s + 1 + 1 ≠ s + 1 + 1 + 1 by omega) (.int .i64 b4))
        have A2 := (((HF9.out.aft.then_setCell (p := ⟨s + 1 + 1 + 1, 0, none⟩) (by show w.heap.size ≤ s + 1 + 1 + 1; omega) (.int .i64 b1)).then_setCell (p := ⟨s + 1 + 1 + 1, 1, none⟩) (by show w.heap.size ≤ s + 1 + 1 + 1; omega) (.int .i64 b2)).then_setCell (p := ⟨s + 1 + 1 + 1, 2, none⟩) (by show w.heap.size ≤ s + 1 + 1 + 1; omega) (.int .i64 b3)).then_setCell (p := ⟨s + 1 + 1 + 1, 3, none⟩) (by show w.heap.size ≤ s + 1 + 1 + 1; omega) (.int .i64 b4)
        generalize (((W.setCell ⟨s + 1 + 1 + 1, 0, none⟩ (.int .i64 b1)).setCell ⟨s + 1 + 1 + 1, 1, none⟩ (.int .i64 b2)).setCell ⟨s + 1 + 1 + 1, 2, none⟩ (.int .i64 b3)).setCell ⟨s + 1 + 1 + 1, 3, none⟩ (.int .i64 b4) = X at *
        have p0 : X.cell? ⟨s + 1 + 1, 0, none⟩ = some (.int .i64 a1) := B1.cell 0
        have p1 : X.cell? ⟨s + 1 + 1, 1, none⟩ = some (.int .i64 a2) := B1.cell 1
        have p2 : X.cell? ⟨s + 1 + 1, 2, none⟩ = some (.int .i64 a3) := B1.cell 2
        have p3 : X.cell? ⟨s + 1 + 1, 3, none⟩ = some (.int .i64 a4) := B1.cell 3
        have q0 : X.cell? ⟨s + 1 + 1 + 1, 0, none⟩ = some (.int .i64 b1) := B2.cell 0
        have q1 : X.cell? ⟨s + 1 + 1 + 1, 1, none⟩ = some (.int .i64 b2) := B2.cell 1
        have q2 : X.cell? ⟨s + 1 + 1 + 1, 2, none⟩ = some (.int .i64 b3) := B2.cell 2
        have q3 : X.cell? ⟨s + 1 + 1 + 1, 3, none⟩ = some (.int .i64 b4) := B2.cell 3
        exact bodyPost_ret (v := .tuple #[.agg #[.int .i64 a1, .int .i64 a2, .int .i64 a3, .int .i64 a4], .agg #[.int .i64 b1, .int .i64 b2, .int .i64 b3, .int .i64 b4], .int .i64 0]) (by simp [results, Try.results14, go_sem, p0, p1, p2, p3, q0, q1, q2, q3]) rfl ⟨A2, .inr ⟨t0, _, HRES.out.1, HRES.out.2.1, .inr ⟨HRES.out.2.2.1, by rw [← HRES.out.2.2.2.1, ← HRES.out.2.2.2.2]; rfl⟩⟩⟩
end Go.Proofs
end

section
/- Shifts: what is plain of it. -/
namespace Go.Proofs
theorem most_up {E : List Sheet.Edge} {p q p' q' : Int} (h : Sheet.AtMost E p q) (hq : 0 < q) (hq' : 0 ≤ q') (hle : p * q' ≤ p' * q) : Sheet.AtMost E p' q' := by
  intro a k s hw hk
  have h1 := h a k s hw hk
  have h2 : q' * (q * s) ≤ q' * (p * k) := Int.mul_le_mul_of_nonneg_left h1 hq'
  have h3 : (p * q') * k ≤ (p' * q) * k := Int.mul_le_mul_of_nonneg_right hle (by omega)
  have e1 : q' * (p * k) = (p * q') * k := by rw [← Int.mul_assoc, Int.mul_comm q' p]
  have e2 : (p' * q) * k = q * (p' * k) := by rw [Int.mul_comm p' q, Int.mul_assoc]
  have e3 : q' * (q * s) = q * (q' * s) := Int.mul_left_comm _ _ _
  have h4 : q * (q' * s) ≤ q * (p' * k) := by rw [← e3, ← e2]; omega
  exact Int.le_of_mul_le_mul_left h4 hq
theorem gr2_cases (a b : Int × Int) : (gr2 a b = b ∧ a.1 * b.2 < b.1 * a.2) ∨ (gr2 a b = a ∧ b.1 * a.2 ≤ a.1 * b.2) := by
  unfold gr2 moreB
  by_cases h : a.1 * b.2 < b.1 * a.2
  · exact .inl ⟨by rw [if_pos (by simpa using h)], h⟩
  · exact .inr ⟨by rw [if_neg (by simpa using h)], by omega⟩
theorem PlayOf.parts {S : SetL} {p : Int × Int} (h : PlayOf S p) : ∃ p0 p1, LP S false p0 ∧ LP S true p1 ∧ p = gr2 (gr2 (0, 1) p0) p1 := by
  rcases h with ⟨h, _⟩ | ⟨h, _⟩ | ⟨_, h⟩
  · cases h
  · cases h
  · exact h
theorem gr2_most {E : List Sheet.Edge} {a b : Int × Int} (h : Sheet.AtMost E a.1 a.2) (ha : 0 < a.2) (hb : 0 < b.2) : Sheet.AtMost E (gr2 a b).1 (gr2 a b).2 := by
  rcases gr2_cases a b with ⟨e, h1⟩ | ⟨e, h1⟩ <;> rw [e]
  · exact most_up h ha (by omega) (by omega)
  · exact h
theorem gr2_most' {E : List Sheet.Edge} {a b : Int × Int} (h : Sheet.AtMost E b.1 b.2) (ha : 0 < a.2) (hb : 0 < b.2) : Sheet.AtMost E (gr2 a b).1 (gr2 a b).2 := by
  rcases gr2_cases a b with ⟨e, h1⟩ | ⟨e, h1⟩ <;> rw [e]
  · exact h
  · exact most_up h hb (by omega) h1
theorem gr2_pos {a b : Int × Int} (ha : 0 < a.2) (hb : 0 < b.2) : 0 < (gr2 a b).2 := by
  rcases gr2_cases a b with ⟨e, _⟩ | ⟨e, _⟩ <;> rw [e] <;> assumption
theorem PlayOf.most {S : SetL} {p : Int × Int} (h : PlayOf S p) (north : Bool) : Sheet.AtMost (Sheet.legs (joOf north S.J)) p.1 p.2 := by
  obtain ⟨p0, p1, h0, h1, rfl⟩ := h.parts
  have q0 := h0.least.q0
  have q1 := h1.least.q0
  have q : (0 : Int) < ((0, 1) : Int × Int).2 := by decide
  cases north
  · exact gr2_most (gr2_most' h0.least.most q q0) (gr2_pos q q0) q1
  · exact gr2_most' h1.least.most (gr2_pos q q0) q1
section
variable {W W' : World} {g n : Nat} {q : Nat → Q4}
end
end Go.Proofs
end
