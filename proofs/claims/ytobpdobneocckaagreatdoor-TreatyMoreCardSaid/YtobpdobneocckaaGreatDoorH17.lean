/- Own texts, merged: Mr9. -/
import Derived.Test.YtobpdobneocckaaGreatDoorH16
set_option linter.unusedSimpArgs false
set_option linter.unusedVariables false
section
/- Walks: a drawn region of the law TreatyMore: one meaning more. -/
namespace Go.Proofs
open Go.RowKit

/-- A list of the part's own of numbers under e, strictly increasing. -/
def SomeP (e : Nat) (u : Value) (v : Nat × Nat) (w : World) : Prop := ∃ ns : List Int, OInts (Inr v) u ns w ∧ ns.length ≤ e ∧ (∀ x ∈ ns, 0 ≤ x ∧ x < e) ∧ risesB ns = true
/-- A slice of one meaning. -/
def SlP (u x y : Value) (v : Nat × Nat) (w : World) : Prop := ∃ b, u = .slice (some ⟨b, 0, none⟩) 1 1 ∧ Inr v b ∧ Blk w b 67 #[x, y]
theorem somep_local (e : Nat) (u : Value) : LocalR (SomeP e u) := fun v w w' ⟨ns, h, r⟩ ha => ⟨ns, OwnD.agree h ha, r⟩
theorem slp_local (u x y : Value) : LocalR (SlP u x y) := fun v w w' ⟨b, e, hb, h⟩ ha => ⟨b, e, hb, blk_agree h hb ha⟩
theorem OWordsX.same {D : Nat → Prop} {v : Value} {ws : List (List Mean)} {xs : List Value} {w w' : World} (h : OWordsX D v ws xs w) (hs : ∀ k, D k → k < w.heap.size → w'.heap[k]? = w.heap[k]?) : OWordsX D v ws xs w' := by
  have one : ∀ {e sz n u zs}, OwnD D e sz u n zs w → OwnD D e sz u n zs w' := fun {e sz n u zs} h => by
    refine ⟨⟨h.1.1, ?_⟩, h.2⟩
    rcases h.1.2 with q | ⟨g, cap, cur, e0, hg, hh, rest⟩
    · exact .inl q
    · refine .inr ⟨g, cap, cur, e0, hg, ?_, rest⟩
      rw [hs g (h.2 g (by rw [e0]; rfl)) (h.1.lt g (by rw [e0]; rfl)).2]
      exact hh
  exact ⟨one h.own, fun i hi => let ⟨a, h1, ys, h2⟩ := h.at_ i hi; ⟨a, h1, ys, one h2.own, fun k hk => let ⟨p, q, e1, e2, e3, e4⟩ := h2.at_ k hk; ⟨p, q, e1, e2, one e3, one e4⟩⟩, h.far⟩
def M9 (i : Nat) : Bool := decide (i = 9) || decide (i = 13) || decide (i = 15)
theorem m9_cases {i : Nat} (h : M9 i = true) : i = 9 ∨ i = 13 ∨ i = 15 := by
  unfold M9 at h
  simp only [Bool.or_eq_true, decide_eq_true_eq] at h
  omega
def R9 (P : Nat) (a : Act) : Nat → Nat × Nat → World → Prop
  | 9, v, w => SomeP 4 (a.eval (.tmp 76)) v w
  | 13, v, w => SomeP P (a.eval (.tmp 80)) v w
  | 15, v, w => SlP (a.eval (.tmp 82)) (a.eval (.tmp 76)) (a.eval (.tmp 80)) v w
  | _, _, _ => True
theorem r9_local (P : Nat) (a : Act) : ∀ j, M9 j = true → LocalR (R9 P a j) := fun j hj => by
  rcases m9_cases hj with rfl | rfl | rfl
  · exact somep_local _ _
  · exact somep_local _ _
  · exact slp_local _ _ _
def b9 (b : Bool) (n : Nat) : Nat := if b then n else 0
theorem b9_le (b : Bool) (n : Nat) : b9 b n ≤ n := by unfold b9; split <;> omega
def OnD (d : Nat) : Nat → Prop := fun k => k = d
def Dom (D1 : Nat → Prop) (X : World) : Nat → Prop := fun k => D1 k ∨ X.heap.size ≤ k
/-- What region 9 may write of what was there: the deck, a row, the list of words. -/
def Sw9 (d : Nat) (D1 : Nat → Prop) (X : World) : Nat → Prop := fun k => k = d ∨ D1 k ∧ ∃ cs, X.heap[k]? = some (.cells cs 67) ∨ X.heap[k]? = some (.cells cs 68)
/-- Behind the append. -/
def App9 (w0 : World) (d : Nat) (A : Option Addr) (l : List Int) (c m : Nat) (X : World) (T : Treaty) (D1 : Nat → Prop) (g cap wi P : Nat) (xs : List Value) (va v' : Value) (w : World) : Prop :=
  ∃ (ks es : List Int) (wB : World) (ys : List Value) (u1 u2 : Value), (ks.length ≤ 4 ∧ (∀ x ∈ ks, 0 ≤ x ∧ x < 4) ∧ risesB ks = true) ∧ (es.length ≤ P ∧ (∀ x ∈ es, 0 ≤ x ∧ x < P) ∧ risesB es = true) ∧
    OWordsX (Dom D1 X) (.slice (some ⟨g, 0, none⟩) T.words.length cap) T.words xs wB ∧ (∃ h : wi < T.words.length, ORowX (Dom D1 X) va T.words[wi] ys wB) ∧ OInts (Dom D1 X) u1 ks wB ∧ OInts (Dom D1 X) u2 es wB ∧
    (∃ h : wi < T.words.length, w.ownsRow 0 67 2 v' (T.words[wi].length + 1) (ys ++ [u1, u2])) ∧ wB.grownBy w va.ownBlock ∧ (v'.ownBlock = va.ownBlock ∨ v'.ownBlock = some wB.heap.size) ∧ X.heap.size ≤ wB.heap.size ∧
    GrownS (Sw9 d D1 X) X w ∧ DeckAt w0 d A l c (m + 4 + P) w
/-- Behind the region. -/
def Fin9 (w0 : World) (d : Nat) (A : Option Addr) (l : List Int) (c m : Nat) (X : World) (T : Treaty) (D1 : Nat → Prop) (g cap wi P : Nat) (w : World) : Prop :=
  ∃ (ks es : List Int) (zs : List Value), (ks.length ≤ 4 ∧ (∀ x ∈ ks, 0 ≤ x ∧ x < 4) ∧ risesB ks = true) ∧ (es.length ≤ P ∧ (∀ x ∈ es, 0 ≤ x ∧ x < P) ∧ risesB es = true) ∧
    OWordsX (Dom D1 X) (.slice (some ⟨g, 0, none⟩) T.words.length cap) (T.words.set wi (T.words.getD wi [] ++ [⟨ks, es⟩])) zs w ∧ GrownS (Sw9 d D1 X) X w ∧ DeckAt w0 d A l c (m + 4 + P) w
structure W9 (w0 : World) (d : Nat) (A : Option Addr) (l : List Int) (c m : Nat) (X : World) (T : Treaty) (D1 : Nat → Prop) (g cap wi P : Nat) (xs : List Value) (va : Value) (done : Nat → Bool) (a : Act) (w : World) : Prop where
  pre : done 16 = false → PartsP X (OnD d) M9 done (R9 P a) w ∧ DeckAt w0 d A l c (m + b9 (done 9) 4 + b9 (done 13) P) w
  agg : done 14 = true → a.eval (.tmp 81) = .agg #[a.eval (.tmp 76), a.eval (.tmp 80)]
  app : done 16 = true → done 18 = false → App9 w0 d A l c m X T D1 g cap wi P xs va (a.eval (.tmp 83)) w
  fin : done 18 = true → Fin9 w0 d A l c m X T D1 g cap wi P w
theorem W9.grown {w0 : World} {d : Nat} {A : Option Addr} {l : List Int} {c m : Nat} {X : World} {T : Treaty} {D1 : Nat → Prop} {g cap wi P : Nat} {xs : List Value} {va : Value} {done : Nat → Bool} {a : Act} {w : World} (h : W9 w0 d A l c m X T D1 g cap wi P xs va done a w) : done 16 = false → GrownS (OnD d) X w := fun hd => (h.pre hd).1.grown
theorem grown9 {w0 : World} {d : Nat} {A : Option Addr} {l : List Int} {c m : Nat} {X : World} {T : Treaty} {D1 : Nat → Prop} {g cap wi P : Nat} {xs : List Value} {va : Value} {done : Nat → Bool} {a : Act} {w : World} (h : W9 w0 d A l c m X T D1 g cap wi P xs va done a w) : GrownS (Sw9 d D1 X) X w := by
  cases h16 : done 16 with
  | false => exact (h.grown h16).mono fun k hk => .inl hk
  | true =>
    cases h18 : done 18 with
    | false =>
      obtain ⟨_, _, _, _, _, _, _, _, _, _, _, _, _, _, _, _, hg, _⟩ := h.app h16 h18
      exact hg
    | true =>
      obtain ⟨_, _, _, _, _, _, hg, _⟩ := h.fin h18
      exact hg
def Fc9 (T : Treaty) (D d b1 g cap wi P : Nat) (aA : Option Addr) (an ac : Nat) (_ : Nat → Bool) : Nat → Value → World → Prop
  | 0, v, _ => v = .pointer (some ⟨b1, 2, none⟩)
  | 1, v, _ => v = .slice (some ⟨g, 0, none⟩) T.words.length cap
  | 2, v, _ => v = .int .i64 wi
  | 3, v, _ => v = .pointer (some ⟨b1, 2, none⟩)
  | 4, v, _ => v = .slice (some ⟨g, 0, none⟩) T.words.length cap
  | 5, v, _ => v = .int .i64 wi
  | 6, v, _ => v = .pointer (some ⟨g, wi, none⟩)
  | 7, v, _ => v = .slice aA an ac
  | 8, v, _ => v = .pointer (some ⟨d, 0, none⟩)
  | 10, v, _ => v = .pointer (some ⟨d, 0, none⟩)
  | 11, v, _ => v = .pointer (some ⟨D, 0, none⟩)
  | 12, v, _ => v = .int .i64 P
  | 17, v, _ => v = .pointer (some ⟨g, wi, none⟩)
  | _, _, _ => True
theorem Fc9.any {T : Treaty} {D d b1 g cap wi P : Nat} {aA : Option Addr} {an ac : Nat} {done done' : Nat → Bool} {i : Nat} {v : Value} {w w' : World} (h : Fc9 T D d b1 g cap wi P aA an ac done i v w) : Fc9 T D d b1 g cap wi P aA an ac done' i v w' := by
  unfold Fc9 at h ⊢
  split at h <;> exact h
def ch9 (s : Nat) : Bool := decide (67 ≤ s) && decide (s ≤ 84)
theorem not_done {ops : Array Oper} {Fact : (Nat → Bool) → Nat → Value → World → Prop} {Wd : (Nat → Bool) → Act → World → Prop} {a0 a : Act} {done : Nat → Bool} {w : World} (hH : HeldF ops Fact Wd a0 done a w) (j i : Nat) (hd : done i = false) {o : Oper} (ho : ops[j]? = some o) (hi : i ∈ Region.preds o) : done j = false := by
  cases hdk : done j with
  | false => rfl
  | true =>
    have := hH.closed j o ho hdk i hi
    rw [hd] at this
    cases this

set_option maxRecDepth 100000 in
set_option maxHeartbeats 4000000 in
theorem region9_mr (w0 : World) (d : Nat) (A : Option Addr) (l : List Int) (c m : Nat) (T : Treaty) (D1 : Nat → Prop) (D b1 g cap wi P : Nat) (z1 z2 z3 z4 y1 y3 y4 : Value) (xs : List Value) (a0 : Act) (Q0 : Exit → Act → World → Prop) (X : World) (hz : a0.tmps.size = 253)
    (s5 : a0.eval (.tmp 5) = .pointer (some ⟨D, 0, none⟩)) (s6 : a0.eval (.tmp 6) = .pointer (some ⟨d, 0, none⟩)) (s12 : a0.eval (.tmp 12) = .pointer (some ⟨b1, 0, none⟩)) (s15 : a0.eval (.tmp 15) = .int .i64 wi)
    (hD : DeckAt w0 d A l c m X) (hm : m ≤ 800000) (hP : P ≤ 8) (hbx : Blk X D 27 #[.int .i64 P, z1, z2, z3, z4]) (hb1 : Blk X b1 27 #[.int .i64 P, y1, .slice (some ⟨g, 0, none⟩) T.words.length cap, y3, y4])
    (hW : OWordsX D1 (.slice (some ⟨g, 0, none⟩) T.words.length cap) T.words xs X) (hd1 : ¬ D1 d) (hlt1 : ∀ k, D1 k → k < X.heap.size) (hlow : ∀ k, D1 k → w0.heap.size ≤ k) (hDd : D ≠ d) (hbd : b1 ≠ d) (hb1D : ¬ D1 b1) (hwi : wi < T.words.length) (hlen : ∀ ms ∈ T.words, ms.length ≤ 100) (hnw : T.words.length ≤ 1000)
    (hexit : ∀ a W', a.tmps.size = 253 → a.defers = a0.defers → (∀ s : Nat, ch9 s = false → a.eval (.tmp s) = a0.eval (.tmp s)) → Fin9 w0 d A l c m X T D1 g cap wi P W' → Q0 .normal a W') :
    Code.wp Tryz.prog (Code.region 9 (opsMr 9).toArray true) Q0 a0 X := by
  have HEX := Lib.hid hexit
  clear hexit
  obtain ⟨va, hxa, ys, hrow⟩ := hW.at_ wi hwi
  obtain ⟨aA, an, ac, rfl⟩ := own_slice' hrow.own.1
  have han : an = T.words[wi].length := by
    rcases hrow.own.1.2 with ⟨e, h0⟩ | ⟨g', cap', cur', e, -⟩
    · cases e; omega
    · cases e; rfl
  subst han
  have hdl := hD.lt
  have hD1' : ∀ k, D1 k → k ≠ d := fun k h e => hd1 (e ▸ h)
  have hg1 : D1 g := hW.own.2 g rfl
  have hca : X.cell? ⟨g, wi, none⟩ = some (.slice aA T.words[wi].length ac) := by
    have := hW.own.1.cells (g := g) rfl wi _ hxa
    rw [Addr.add_lit, Nat.zero_add] at this
    exact this
  have hag : ∀ k, (Value.slice aA T.words[wi].length ac).ownBlock = some k → D1 k := hrow.own.2
  refine wp_region_factsF (by kernel_rfl) 253 hz (by kernel_rfl) (Fc9 T D d b1 g cap wi P aA T.words[wi].length ac) (W9 w0 d A l c m X T D1 g cap wi P xs (.slice aA T.words[wi].length ac)) ⟨fun _ => ⟨PartsP.start (GrownS.of (only_of_aft (Aft.drew _) none) fun _ e => by cases e), hD.aft (Aft.drew _)⟩, (fun h => by cases h), (fun h => by cases h), (fun h => by cases h)⟩ ?step ?fin
  case step =>
    intro i o ho done a w hH hd hp K hK
    have hW9 : W9 w0 d A l c m X T D1 g cap wi P xs (.slice aA T.words[wi].length ac) done a w := hH.wd
    have hold : ∀ s : Nat, ch9 s = false → a.eval (.tmp s) = a0.eval (.tmp s) := fun s h => hH.old s fun k ok hk hs => by
      match k, hk with
      | 0, hk => cases hk; cases hs; exact absurd h (by decide)
      | 1, hk => cases hk; cases hs; exact absurd h (by decide)
      | 2, hk => cases hk; cases hs; exact absurd h (by decide)
      | 3, hk => cases hk; cases hs; exact absurd h (by decide)
      | 4, hk => cases hk; cases hs; exact absurd h (by decide)
      | 5, hk => cases hk; cases hs; exact absurd h (by decide)
      | 6, hk => cases hk; cases hs; exact absurd h (by decide)
      | 7, hk => cases hk; cases hs; exact absurd h (by decide)
      | 8, hk => cases hk; cases hs; exact absurd h (by decide)
      | 9, hk => cases hk; cases hs; exact absurd h (by decide)
      | 10, hk => cases hk; cases hs; exact absurd h (by decide)
      | 11, hk => cases hk; cases hs; exact absurd h (by decide)
      | 12, hk => cases hk; cases hs; exact absurd h (by decide)
      | 13, hk => cases hk; cases hs; exact absurd h (by decide)
      | 14, hk => cases hk; cases hs; exact absurd h (by decide)
      | 15, hk => cases hk; cases hs; exact absurd h (by decide)
      | 16, hk => cases hk; cases hs; exact absurd h (by decide)
      | 17, hk => cases hk; cases hs; exact absurd h (by decide)
      | 18, hk => cases hk; cases hs
      | _ + 19, hk => cases hk
    have hloc := r9_local P a
    have hsz : a.tmps.size = 253 := by rw [hH.size, hz]
    have iw : (0 : Int) ≤ (wi : Int) ∧ (wi : Int) < (T.words.length : Int) := by omega
    match i, ho, hd, hp, hK with
    | 0, ho, hd, hp, hK =>
      cases ho
      have e12 : a.eval (.tmp 12) = .pointer (some ⟨b1, 0, none⟩) := (hold 12 (by decide)).trans s12
      refine op_value (v := .pointer (some ⟨b1, 2, none⟩)) (by simp [go_sem, ev e12]) (hK _ _ rfl ⟨fun h => ?_, fun h => ?_, fun h1 h2 => ?_, fun h => hW9.fin h⟩ fun j _ _ _ _ _ hu => hu.any)
      · obtain ⟨p1, p2⟩ := hW9.pre h
        exact ⟨p1.plain (Aft.refl _) rfl hloc (fun j v hj hdj hr => by
          rcases m9_cases hj with rfl | rfl | rfl
          · show SomeP 4 ((a.put (some 67) _).eval (.tmp 76)) v _; rw [put_otherR (by decide)]; exact hr
          · show SomeP P ((a.put (some 67) _).eval (.tmp 80)) v _; rw [put_otherR (by decide)]; exact hr
          · show SlP ((a.put (some 67) _).eval (.tmp 82)) ((a.put (some 67) _).eval (.tmp 76)) ((a.put (some 67) _).eval (.tmp 80)) v _; rw [put_otherR (by decide), put_otherR (by decide), put_otherR (by decide)]; exact hr), p2⟩
      · rw [put_otherR (by decide), put_otherR (by decide), put_otherR (by decide)]; exact hW9.agg h
      · rw [put_otherR (by decide)]; exact hW9.app h1 h2
    | 1, ho, hd, hp, hK =>
      cases ho
      have e67 : a.eval (.tmp 67) = .pointer (some ⟨b1, 2, none⟩) := hH.fact 0 _ 67 rfl rfl (hp 0 (by decide))
      have kb2 : w.cell? ⟨b1, 2, none⟩ = some (.slice (some ⟨g, 0, none⟩) T.words.length cap) := by
        have hg : GrownS (Sw9 d D1 X) X w := grown9 hW9
        exact (blk_grownS hb1 hg (fun h => h.elim hbd fun h => hb1D h.1)).cell 2
      refine op_value (v := .slice (some ⟨g, 0, none⟩) T.words.length cap) (by simp [go_sem, ev e67, kb2]) (hK _ _ rfl ⟨fun h => ?_, fun h => ?_, fun h1 h2 => ?_, fun h => hW9.fin h⟩ fun j _ _ _ _ _ hu => hu.any)
      · obtain ⟨p1, p2⟩ := hW9.pre h
        exact ⟨p1.plain (Aft.refl _) rfl hloc (fun j v hj hdj hr => by
          rcases m9_cases hj with rfl | rfl | rfl
          · show SomeP 4 ((a.put (some 68) _).eval (.tmp 76)) v _; rw [put_otherR (by decide)]; exact hr
          · show SomeP P ((a.put (some 68) _).eval (.tmp 80)) v _; rw [put_otherR (by decide)]; exact hr
          · show SlP ((a.put (some 68) _).eval (.tmp 82)) ((a.put (some 68) _).eval (.tmp 76)) ((a.put (some 68) _).eval (.tmp 80)) v _; rw [put_otherR (by decide), put_otherR (by decide), put_otherR (by decide)]; exact hr), p2⟩
      · rw [put_otherR (by decide), put_otherR (by decide), put_otherR (by decide)]; exact hW9.agg h
      · rw [put_otherR (by decide)]; exact hW9.app h1 h2
    | 2, ho, hd, hp, hK =>
      cases ho
      have e15 : a.eval (.tmp 15) = .int .i64 wi := (hold 15 (by decide)).trans s15
      refine op_value (v := .int .i64 wi) (by simp [go_sem, ev e15]) (hK _ _ rfl ⟨fun h => ?_, fun h => ?_, fun h1 h2 => ?_, fun h => hW9.fin h⟩ fun j _ _ _ _ _ hu => hu.any)
      · obtain ⟨p1, p2⟩ := hW9.pre h
        exact ⟨p1.plain (Aft.refl _) rfl hloc (fun j v hj hdj hr => by
          rcases m9_cases hj with rfl | rfl | rfl
          · show SomeP 4 ((a.put (some 69) _).eval (.tmp 76)) v _; rw [put_otherR (by decide)]; exact hr
          · show SomeP P ((a.put (some 69) _).eval (.tmp 80)) v _; rw [put_otherR (by decide)]; exact hr
          · show SlP ((a.put (some 69) _).eval (.tmp 82)) ((a.put (some 69) _).eval (.tmp 76)) ((a.put (some 69) _).eval (.tmp 80)) v _; rw [put_otherR (by decide), put_otherR (by decide), put_otherR (by decide)]; exact hr), p2⟩
      · rw [put_otherR (by decide), put_otherR (by decide), put_otherR (by decide)]; exact hW9.agg h
      · rw [put_otherR (by decide)]; exact hW9.app h1 h2
    | 3, ho, hd, hp, hK =>
      cases ho
      have e12 : a.eval (.tmp 12) = .pointer (some ⟨b1, 0, none⟩) := (hold 12 (by decide)).trans s12
      refine op_value (v := .pointer (some ⟨b1, 2, none⟩)) (by simp [go_sem, ev e12]) (hK _ _ rfl ⟨fun h => ?_, fun h => ?_, fun h1 h2 => ?_, fun h => hW9.fin h⟩ fun j _ _ _ _ _ hu => hu.any)
      · obtain ⟨p1, p2⟩ := hW9.pre h
        exact ⟨p1.plain (Aft.refl _) rfl hloc (fun j v hj hdj hr => by
          rcases m9_cases hj with rfl | rfl | rfl
          · show SomeP 4 ((a.put (some 70) _).eval (.tmp 76)) v _; rw [put_otherR (by decide)]; exact hr
          · show SomeP P ((a.put (some 70) _).eval (.tmp 80)) v _; rw [put_otherR (by decide)]; exact hr
          · show SlP ((a.put (some 70) _).eval (.tmp 82)) ((a.put (some 70) _).eval (.tmp 76)) ((a.put (some 70) _).eval (.tmp 80)) v _; rw [put_otherR (by decide), put_otherR (by decide), put_otherR (by decide)]; exact hr), p2⟩
      · rw [put_otherR (by decide), put_otherR (by decide), put_otherR (by decide)]; exact hW9.agg h
      · rw [put_otherR (by decide)]; exact hW9.app h1 h2
    | 4, ho, hd, hp, hK =>
      cases ho
      have e70 : a.eval (.tmp 70) = .pointer (some ⟨b1, 2, none⟩) := hH.fact 3 _ 70 rfl rfl (hp 3 (by decide))
      have kb2 : w.cell? ⟨b1, 2, none⟩ = some (.slice (some ⟨g, 0, none⟩) T.words.length cap) := by
        have hg : GrownS (Sw9 d D1 X) X w := grown9 hW9
        exact (blk_grownS hb1 hg (fun h => h.elim hbd fun h => hb1D h.1)).cell 2
      refine op_value (v := .slice (some ⟨g, 0, none⟩) T.words.length cap) (by simp [go_sem, ev e70, kb2]) (hK _ _ rfl ⟨fun h => ?_, fun h => ?_, fun h1 h2 => ?_, fun h => hW9.fin h⟩ fun j _ _ _ _ _ hu => hu.any)
      · obtain ⟨p1, p2⟩ := hW9.pre h
        exact ⟨p1.plain (Aft.refl _) rfl hloc (fun j v hj hdj hr => by
          rcases m9_cases hj with rfl | rfl | rfl
          · show SomeP 4 ((a.put (some 71) _).eval (.tmp 76)) v _; rw [put_otherR (by decide)]; exact hr
          · show SomeP P ((a.put (some 71) _).eval (.tmp 80)) v _; rw [put_otherR (by decide)]; exact hr
          · show SlP ((a.put (some 71) _).eval (.tmp 82)) ((a.put (some 71) _).eval (.tmp 76)) ((a.put (some 71) _).eval (.tmp 80)) v _; rw [put_otherR (by decide), put_otherR (by decide), put_otherR (by decide)]; exact hr), p2⟩
      · rw [put_otherR (by decide), put_otherR (by decide), put_otherR (by decide)]; exact hW9.agg h
      · rw [put_otherR (by decide)]; exact hW9.app h1 h2
    | 5, ho, hd, hp, hK =>
      cases ho
      have e15 : a.eval (.tmp 15) = .int .i64 wi := (hold 15 (by decide)).trans s15
      refine op_value (v := .int .i64 wi) (by simp [go_sem, ev e15]) (hK _ _ rfl ⟨fun h => ?_, fun h => ?_, fun h1 h2 => ?_, fun h => hW9.fin h⟩ fun j _ _ _ _ _ hu => hu.any)
      · obtain ⟨p1, p2⟩ := hW9.pre h
        exact ⟨p1.plain (Aft.refl _) rfl hloc (fun j v hj hdj hr => by
          rcases m9_cases hj with rfl | rfl | rfl
          · show SomeP 4 ((a.put (some 72) _).eval (.tmp 76)) v _; rw [put_otherR (by decide)]; exact hr
          · show SomeP P ((a.put (some 72) _).eval (.tmp 80)) v _; rw [put_otherR (by decide)]; exact hr
          · show SlP ((a.put (some 72) _).eval (.tmp 82)) ((a.put (some 72) _).eval (.tmp 76)) ((a.put (some 72) _).eval (.tmp 80)) v _; rw [put_otherR (by decide), put_otherR (by decide), put_otherR (by decide)]; exact hr), p2⟩
      · rw [put_otherR (by decide), put_otherR (by decide), put_otherR (by decide)]; exact hW9.agg h
      · rw [put_otherR (by decide)]; exact hW9.app h1 h2
    | 6, ho, hd, hp, hK =>
      cases ho
      have e71 : a.eval (.tmp 71) = .slice (some ⟨g, 0, none⟩) T.words.length cap := hH.fact 4 _ 71 rfl rfl (hp 4 (by decide))
      have e72 : a.eval (.tmp 72) = .int .i64 wi := hH.fact 5 _ 72 rfl rfl (hp 5 (by decide))
      refine op_value (v := .pointer (some ⟨g, wi, none⟩)) (by simp [go_sem, ev e71, ev e72, iw.1, iw.2]) (hK _ _ rfl ⟨fun h => ?_, fun h => ?_, fun h1 h2 => ?_, fun h => hW9.fin h⟩ fun j _ _ _ _ _ hu => hu.any)
      · obtain ⟨p1, p2⟩ := hW9.pre h
        exact ⟨p1.plain (Aft.refl _) rfl hloc (fun j v hj hdj hr => by
          rcases m9_cases hj with rfl | rfl | rfl
          · show SomeP 4 ((a.put (some 73) _).eval (.tmp 76)) v _; rw [put_otherR (by decide)]; exact hr
          · show SomeP P ((a.put (some 73) _).eval (.tmp 80)) v _; rw [put_otherR (by decide)]; exact hr
          · show SlP ((a.put (some 73) _).eval (.tmp 82)) ((a.put (some 73) _).eval (.tmp 76)) ((a.put (some 73) _).eval (.tmp 80)) v _; rw [put_otherR (by decide), put_otherR (by decide), put_otherR (by decide)]; exact hr), p2⟩
      · rw [put_otherR (by decide), put_otherR (by decide), put_otherR (by decide)]; exact hW9.agg h
      · rw [put_otherR (by decide)]; exact hW9.app h1 h2
    | 7, ho, hd, hp, hK =>
      cases ho
      have e73 : a.eval (.tmp 73) = .pointer (some ⟨g, wi, none⟩) := hH.fact 6 _ 73 rfl rfl (hp 6 (by decide))
      have h16 : done 16 = false := not_done hH 16 7 hd rfl (by decide)
      have ka : w.cell? ⟨g, wi, none⟩ = some (.slice aA T.words[wi].length ac) := by
        have hg := hW9.grown h16
        exact (World.cell?_of_block (hg.block g (hlt1 g hg1) (hD1' g hg1))).trans hca
      refine op_value (v := .slice aA T.words[wi].length ac) (by simp [go_sem, ev e73, ka]) (hK _ _ rfl ⟨fun h => ?_, fun h => ?_, fun h1 h2 => ?_, fun h => hW9.fin h⟩ fun j _ _ _ _ _ hu => hu.any)
      · obtain ⟨p1, p2⟩ := hW9.pre h
        exact ⟨p1.plain (Aft.refl _) rfl hloc (fun j v hj hdj hr => by
          rcases m9_cases hj with rfl | rfl | rfl
          · show SomeP 4 ((a.put (some 74) _).eval (.tmp 76)) v _; rw [put_otherR (by decide)]; exact hr
          · show SomeP P ((a.put (some 74) _).eval (.tmp 80)) v _; rw [put_otherR (by decide)]; exact hr
          · show SlP ((a.put (some 74) _).eval (.tmp 82)) ((a.put (some 74) _).eval (.tmp 76)) ((a.put (some 74) _).eval (.tmp 80)) v _; rw [put_otherR (by decide), put_otherR (by decide), put_otherR (by decide)]; exact hr), p2⟩
      · rw [put_otherR (by decide), put_otherR (by decide), put_otherR (by decide)]; exact hW9.agg h
      · rw [put_otherR (by decide)]; exact hW9.app h1 h2
    | 8, ho, hd, hp, hK =>
      cases ho
      have e6 : a.eval (.tmp 6) = .pointer (some ⟨d, 0, none⟩) := (hold 6 (by decide)).trans s6
      refine op_value (v := .pointer (some ⟨d, 0, none⟩)) (by simp [go_sem, ev e6]) (hK _ _ rfl ⟨fun h => ?_, fun h => ?_, fun h1 h2 => ?_, fun h => hW9.fin h⟩ fun j _ _ _ _ _ hu => hu.any)
      · obtain ⟨p1, p2⟩ := hW9.pre h
        exact ⟨p1.plain (Aft.refl _) rfl hloc (fun j v hj hdj hr => by
          rcases m9_cases hj with rfl | rfl | rfl
          · show SomeP 4 ((a.put (some 75) _).eval (.tmp 76)) v _; rw [put_otherR (by decide)]; exact hr
          · show SomeP P ((a.put (some 75) _).eval (.tmp 80)) v _; rw [put_otherR (by decide)]; exact hr
          · show SlP ((a.put (some 75) _).eval (.tmp 82)) ((a.put (some 75) _).eval (.tmp 76)) ((a.put (some 75) _).eval (.tmp 80)) v _; rw [put_otherR (by decide), put_otherR (by decide), put_otherR (by decide)]; exact hr), p2⟩
      · rw [put_otherR (by decide), put_otherR (by decide), put_otherR (by decide)]; exact hW9.agg h
      · rw [put_otherR (by decide)]; exact hW9.app h1 h2
    | 9, ho, hd, hp, hK =>
      cases ho
      have e75 : a.eval (.tmp 75) = .pointer (some ⟨d, 0, none⟩) := hH.fact 8 _ 75 rfl rfl (hp 8 (by decide))
      have h16 : done 16 = false := not_done hH 16 13 (not_done hH 13 9 hd rfl (by decide)) rfl (by decide)
      have h14 : done 14 = false := not_done hH 14 9 hd rfl (by decide)
      obtain ⟨p1, p2⟩ := hW9.pre h16
      rw [hd] at p2
      refine op_call3 Tryz.func40 (by kernel_rfl) (by kernel_rfl) _ _ _ rfl e75 rfl rfl (some_any w0 d A l c _ 4 2 w p2 (by have h1 := b9_le (done 13) P; have h2 : b9 false 4 = 0 := rfl; omega) (by omega) (by omega) (by omega)) ?_
      rintro e w' ⟨v, ns, rfl, g1, g2, g3, g4, g5, g6⟩
      refine ⟨_, rfl, hK _ _ trivial ⟨fun h => ⟨p1.addG g6 (fun k e => by cases e; exact ⟨rfl, hdl⟩) hd hloc (fun j v hne hj hdj hr => by
          rcases m9_cases hj with rfl | rfl | rfl
          · exact absurd rfl hne
          · show SomeP P ((a.put (some 76) _).eval (.tmp 80)) v _; rw [put_otherR (by decide)]; exact hr
          · have h := not_done hH 15 14 (not_done hH 14 9 hd rfl (by decide)) rfl (by decide); rw [h] at hdj; cases hdj) ?_, g5.more ?_⟩, (fun h => ?_), (fun h => ?_), (fun h => ?_)⟩ fun j _ _ _ _ _ hu => hu.any⟩
      · show SomeP 4 ((a.put (some 76) _).eval (.tmp 76)) _ _
        rw [Act.eval_put_same _ _ _ (by rw [hsz]; decide)]
        exact ⟨ns, OwnD.of g1 fun k h1 h2 => ⟨h1, h2⟩, g2, g3, g4⟩
      · show m + b9 false 4 + b9 (done 13) P + 4 ≤ m + b9 true 4 + b9 (done 13) P; unfold b9; simp; omega
      · have h' : done 14 = true := h
        rw [h14] at h'; cases h'
      · have h' : done 16 = true := h
        rw [h16] at h'; cases h'
      · have h' : done 18 = true := h
        have h18 : done 18 = false := not_done hH 18 16 h16 rfl (by decide)
        rw [h18] at h'; cases h'
    | 10, ho, hd, hp, hK =>
      cases ho
      have e6 : a.eval (.tmp 6) = .pointer (some ⟨d, 0, none⟩) := (hold 6 (by decide)).trans s6
      refine op_value (v := .pointer (some ⟨d, 0, none⟩)) (by simp [go_sem, ev e6]) (hK _ _ rfl ⟨fun h => ?_, fun h => ?_, fun h1 h2 => ?_, fun h => hW9.fin h⟩ fun j _ _ _ _ _ hu => hu.any)
      · obtain ⟨p1, p2⟩ := hW9.pre h
        exact ⟨p1.plain (Aft.refl _) rfl hloc (fun j v hj hdj hr => by
          rcases m9_cases hj with rfl | rfl | rfl
          · show SomeP 4 ((a.put (some 77) _).eval (.tmp 76)) v _; rw [put_otherR (by decide)]; exact hr
          · show SomeP P ((a.put (some 77) _).eval (.tmp 80)) v _; rw [put_otherR (by decide)]; exact hr
          · show SlP ((a.put (some 77) _).eval (.tmp 82)) ((a.put (some 77) _).eval (.tmp 76)) ((a.put (some 77) _).eval (.tmp 80)) v _; rw [put_otherR (by decide), put_otherR (by decide), put_otherR (by decide)]; exact hr), p2⟩
      · rw [put_otherR (by decide), put_otherR (by decide), put_otherR (by decide)]; exact hW9.agg h
      · rw [put_otherR (by decide)]; exact hW9.app h1 h2
    | 11, ho, hd, hp, hK =>
      cases ho
      have e5 : a.eval (.tmp 5) = .pointer (some ⟨D, 0, none⟩) := (hold 5 (by decide)).trans s5
      refine op_value (v := .pointer (some ⟨D, 0, none⟩)) (by simp [go_sem, ev e5]) (hK _ _ rfl ⟨fun h => ?_, fun h => ?_, fun h1 h2 => ?_, fun h => hW9.fin h⟩ fun j _ _ _ _ _ hu => hu.any)
      · obtain ⟨p1, p2⟩ := hW9.pre h
        exact ⟨p1.plain (Aft.refl _) rfl hloc (fun j v hj hdj hr => by
          rcases m9_cases hj with rfl | rfl | rfl
          · show SomeP 4 ((a.put (some 78) _).eval (.tmp 76)) v _; rw [put_otherR (by decide)]; exact hr
          · show SomeP P ((a.put (some 78) _).eval (.tmp 80)) v _; rw [put_otherR (by decide)]; exact hr
          · show SlP ((a.put (some 78) _).eval (.tmp 82)) ((a.put (some 78) _).eval (.tmp 76)) ((a.put (some 78) _).eval (.tmp 80)) v _; rw [put_otherR (by decide), put_otherR (by decide), put_otherR (by decide)]; exact hr), p2⟩
      · rw [put_otherR (by decide), put_otherR (by decide), put_otherR (by decide)]; exact hW9.agg h
      · rw [put_otherR (by decide)]; exact hW9.app h1 h2
    | 12, ho, hd, hp, hK =>
      cases ho
      have e78 : a.eval (.tmp 78) = .pointer (some ⟨D, 0, none⟩) := hH.fact 11 _ 78 rfl rfl (hp 11 (by decide))
      have h16 : done 13 = false := not_done hH 13 12 hd rfl (by decide)
      have h16 : done 16 = false := not_done hH 16 13 h16 rfl (by decide)
      have kd : w.cell? ⟨D, 0, none⟩ = some (.int .i64 P) := (blk_grownS hbx (hW9.grown h16) hDd).cell 0
      refine op_value (v := .int .i64 P) (by simp [go_sem, ev e78, kd]) (hK _ _ rfl ⟨fun h => ?_, fun h => ?_, fun h1 h2 => ?_, fun h => hW9.fin h⟩ fun j _ _ _ _ _ hu => hu.any)
      · obtain ⟨p1, p2⟩ := hW9.pre h
        exact ⟨p1.plain (Aft.refl _) rfl hloc (fun j v hj hdj hr => by
          rcases m9_cases hj with rfl | rfl | rfl
          · show SomeP 4 ((a.put (some 79) _).eval (.tmp 76)) v _; rw [put_otherR (by decide)]; exact hr
          · show SomeP P ((a.put (some 79) _).eval (.tmp 80)) v _; rw [put_otherR (by decide)]; exact hr
          · show SlP ((a.put (some 79) _).eval (.tmp 82)) ((a.put (some 79) _).eval (.tmp 76)) ((a.put (some 79) _).eval (.tmp 80)) v _; rw [put_otherR (by decide), put_otherR (by decide), put_otherR (by decide)]; exact hr), p2⟩
      · rw [put_otherR (by decide), put_otherR (by decide), put_otherR (by decide)]; exact hW9.agg h
      · rw [put_otherR (by decide)]; exact hW9.app h1 h2
    | 13, ho, hd, hp, hK =>
      cases ho
      have e77 : a.eval (.tmp 77) = .pointer (some ⟨d, 0, none⟩) := hH.fact 10 _ 77 rfl rfl (hp 10 (by decide))
      have e79 : a.eval (.tmp 79) = .int .i64 P := hH.fact 12 _ 79 rfl rfl (hp 12 (by decide))
      have h16 : done 16 = false := not_done hH 16 13 hd rfl (by decide)
      have h14 : done 14 = false := not_done hH 14 13 hd rfl (by decide)
      obtain ⟨p1, p2⟩ := hW9.pre h16
      rw [hd] at p2
      refine op_call3 Tryz.func40 (by kernel_rfl) (by kernel_rfl) _ _ _ rfl e77 e79 rfl (some_any w0 d A l c _ P 2 w p2 (by have h1 := b9_le (done 9) 4; have h2 : b9 false P = 0 := rfl; omega) (by omega) (by omega) (by omega)) ?_
      rintro e w' ⟨v, ns, rfl, g1, g2, g3, g4, g5, g6⟩
      refine ⟨_, rfl, hK _ _ trivial ⟨fun h => ⟨p1.addG g6 (fun k e => by cases e; exact ⟨rfl, hdl⟩) hd hloc (fun j v hne hj hdj hr => by
          rcases m9_cases hj with rfl | rfl | rfl
          · show SomeP 4 ((a.put (some 80) _).eval (.tmp 76)) v _; rw [put_otherR (by decide)]; exact hr
          · exact absurd rfl hne
          · have h := not_done hH 15 14 (not_done hH 14 13 hd rfl (by decide)) rfl (by decide); rw [h] at hdj; cases hdj) ?_, g5.more ?_⟩, (fun h => ?_), (fun h => ?_), (fun h => ?_)⟩ fun j _ _ _ _ _ hu => hu.any⟩
      · show SomeP P ((a.put (some 80) _).eval (.tmp 80)) _ _
        rw [Act.eval_put_same _ _ _ (by rw [hsz]; decide)]
        exact ⟨ns, OwnD.of g1 fun k h1 h2 => ⟨h1, h2⟩, g2, g3, g4⟩
      · show m + b9 (done 9) 4 + b9 false P + P ≤ m + b9 (done 9) 4 + b9 true P; unfold b9; simp
      · have h' : done 14 = true := h
        rw [h14] at h'; cases h'
      · have h' : done 16 = true := h
        rw [h16] at h'; cases h'
      · have h' : done 18 = true := h
        have h18 : done 18 = false := not_done hH 18 16 h16 rfl (by decide)
        rw [h18] at h'; cases h'
    | 14, ho, hd, hp, hK =>
      cases ho
      have h16 : done 16 = false := not_done hH 16 15 (not_done hH 15 14 hd rfl (by decide)) rfl (by decide)
      obtain ⟨p1, p2⟩ := hW9.pre h16
      obtain ⟨-, f, hf, -⟩ := id p1
      obtain ⟨-, -, ks, ok, -⟩ := hf 9 rfl (hp 9 (by decide))
      obtain ⟨-, -, es, oe, -⟩ := hf 13 rfl (hp 13 (by decide))
      obtain ⟨x1, e1⟩ : ∃ x, a.eval (.tmp 76) = x := ⟨_, rfl⟩
      obtain ⟨x2, e2⟩ : ∃ x, a.eval (.tmp 80) = x := ⟨_, rfl⟩
      have hk := hK (.agg #[x1, x2]) w trivial ⟨(fun h => ⟨p1.plain (Aft.refl _) rfl hloc (fun j v hj hdj hr => by
        rcases m9_cases hj with rfl | rfl | rfl
        · show SomeP 4 ((a.put (some 81) _).eval (.tmp 76)) v _; rw [put_otherR (by decide)]; exact hr
        · show SomeP P ((a.put (some 81) _).eval (.tmp 80)) v _; rw [put_otherR (by decide)]; exact hr
        · show SlP ((a.put (some 81) _).eval (.tmp 82)) ((a.put (some 81) _).eval (.tmp 76)) ((a.put (some 81) _).eval (.tmp 80)) v _; rw [put_otherR (by decide), put_otherR (by decide), put_otherR (by decide)]; exact hr), p2⟩), (fun h => by
        rw [Act.eval_put_same _ _ _ (by rw [hsz]; decide), put_otherR (by decide), put_otherR (by decide), e1, e2]), (fun h1 h2 => by rw [put_otherR (by decide)]; exact hW9.app h1 h2), (fun h => hW9.fin h)⟩ fun j _ _ _ _ _ hu => hu.any
      rw [e1] at ok
      rw [e2] at oe
      obtain ⟨sA, sn, sc, rfl⟩ := own_slice' ok.1
      obtain ⟨tA, tn, tc, rfl⟩ := own_slice' oe.1
      exact op_value (by simp [go_sem, ev e1, ev e2]) hk
    | 15, ho, hd, hp, hK =>
      cases ho
      have h16 : done 16 = false := not_done hH 16 15 hd rfl (by decide)
      obtain ⟨p1, p2⟩ := hW9.pre h16
      obtain ⟨-, f, hf, -⟩ := id p1
      have ea := hW9.agg (hp 14 (by decide))
      have h14 : done 14 = true := hp 14 (by decide)
      obtain ⟨-, -, ks, ok, -⟩ := hf 9 rfl (hH.closed 14 _ rfl h14 9 (by decide))
      obtain ⟨-, -, es, oe, -⟩ := hf 13 rfl (hH.closed 14 _ rfl h14 13 (by decide))
      obtain ⟨x1, e1⟩ : ∃ x, a.eval (.tmp 76) = x := ⟨_, rfl⟩
      obtain ⟨x2, e2⟩ : ∃ x, a.eval (.tmp 80) = x := ⟨_, rfl⟩
      rw [e1, e2] at ea
      have hk := hK (.slice (some ⟨w.heap.size, 0, none⟩) 1 1) (w.alloc (.cells #[x1, x2] 67)) trivial ⟨(fun h => ⟨p1.add (Aft.alloc _ _) hd hloc (fun j v hne hj hdj hr => by
        rcases m9_cases hj with rfl | rfl | rfl
        · show SomeP 4 ((a.put (some 82) _).eval (.tmp 76)) v _; rw [put_otherR (by decide)]; exact hr
        · show SomeP P ((a.put (some 82) _).eval (.tmp 80)) v _; rw [put_otherR (by decide)]; exact hr
        · exact absurd rfl hne) (by
          show SlP ((a.put (some 82) _).eval (.tmp 82)) ((a.put (some 82) _).eval (.tmp 76)) ((a.put (some 82) _).eval (.tmp 80)) _ _
          rw [Act.eval_put_same _ _ _ (by rw [hsz]; decide), put_otherR (by decide), put_otherR (by decide), e1, e2]
          exact ⟨_, rfl, ⟨Nat.le_refl _, by simp⟩, Blk.new _ _ _⟩), p2.aft (Aft.alloc _ _)⟩), (fun h => by
        rw [put_otherR (by decide), put_otherR (by decide), put_otherR (by decide)]; exact hW9.agg h), (fun h => by
        have h' : done 16 = true := h
        rw [h16] at h'; cases h'), (fun h => by
        have h' : done 18 = true := h
        have h18 : done 18 = false := not_done hH 18 16 h16 rfl (by decide)
        rw [h18] at h'; cases h')⟩ fun j _ _ _ _ _ hu => hu.any
      rw [e1] at ok
      rw [e2] at oe
      obtain ⟨sA, sn, sc, rfl⟩ := own_slice' ok.1
      obtain ⟨tA, tn, tc, rfl⟩ := own_slice' oe.1
      unfold Oper.wp
      simpa [go_sem, ev ea] using hk
    | 16, ho, hd, hp, hK =>
      cases ho
      have e74 : a.eval (.tmp 74) = .slice aA T.words[wi].length ac := hH.fact 7 _ 74 rfl rfl (hp 7 (by decide))
      obtain ⟨p1, p2⟩ := hW9.pre hd
      have hg := p1.grown
      obtain ⟨-, f, hf, -⟩ := id p1
      have h15 : done 15 = true := hp 15 (by decide)
      have h14 : done 14 = true := hH.closed 15 _ rfl h15 14 (by decide)
      have h9 : done 9 = true := hH.closed 14 _ rfl h14 9 (by decide)
      have h13 : done 13 = true := hH.closed 14 _ rfl h14 13 (by decide)
      obtain ⟨f1, -, ks, ok, k1, k2, k3⟩ := hf 9 rfl h9
      obtain ⟨f2, -, es, oe, k4, k5, k6⟩ := hf 13 rfl h13
      obtain ⟨f3, -, b, e82, -, hbb⟩ := hf 15 rfl h15
      obtain ⟨x1, e1⟩ : ∃ x, a.eval (.tmp 76) = x := ⟨_, rfl⟩
      obtain ⟨x2, e2⟩ : ∃ x, a.eval (.tmp 80) = x := ⟨_, rfl⟩
      rw [e1] at ok hbb
      rw [e2] at oe hbb
      have hWB : OWordsX (Dom D1 X) (.slice (some ⟨g, 0, none⟩) T.words.length cap) T.words xs w := (hW.same fun k hk hl => hg.block k hl (hD1' k hk)).mono fun k hk _ => .inl hk
      obtain ⟨va', hxa', ys', hrow'⟩ := hWB.at_ wi hwi
      rw [hxa] at hxa'
      cases hxa'
      have ok' : OInts (Dom D1 X) x1 ks w := OwnD.mono ok fun k hk _ => .inr (Nat.le_trans f1 hk.1)
      have oe' : OInts (Dom D1 X) x2 es w := OwnD.mono oe fun k hk _ => .inr (Nat.le_trans f2 hk.1)
      have hl1 : T.words[wi].length ≤ 100 := hlen _ (List.getElem_mem hwi)
      refine op_app (base := 0) ty78 _ _ rfl (Nat.zero_le _) e74 hrow'.own.1 e82 hbb rfl (fun u hu => by
        rcases List.mem_cons.1 hu with rfl | hu
        · exact own_cell1 ok.1
        · rw [List.mem_singleton] at hu; subst hu; exact own_cell1 oe.1) (by omega) (by decide) fun v' w' h1 h2 h3 => ?_
      have hm' : m + b9 (done 9) 4 + b9 (done 13) P ≤ m + 4 + P := by have := b9_le (done 9) 4; have := b9_le (done 13) P; omega
      have hdk : DeckAt w0 d A l c (m + 4 + P) w' := by
        obtain ⟨q1, q2, q3, qq, ss, q4, q5, q6⟩ := p2
        have hr : ∀ k, (Value.slice aA T.words[wi].length ac).ownBlock = some k → w0.heap.size ≤ k ∧ k ≠ d := fun k e => ⟨hlow k (hag k e), hD1' k (hag k e)⟩
        exact ⟨q1, q2, q3.grown h2 (fun k e => (hr k e).1), qq, ss, q4.grown h2 (fun e => (hr d e.symm).2 rfl), by omega, q6⟩
      refine hK _ _ trivial ⟨(fun h => by (have h' : Go.upd done 16 16 = true := rfl); rw [h'] at h; cases h), (fun h => by rw [put_otherR (by decide), put_otherR (by decide), put_otherR (by decide)]; exact hW9.agg h), (fun _ _ => ?_), (fun h => ?_)⟩ fun j _ _ _ _ _ hu => hu.any
      · rw [Act.eval_put_same _ _ _ (by rw [hsz]; decide)]
        exact ⟨ks, es, w, ys', x1, x2, ⟨k1, k2, k3⟩, ⟨k4, k5, k6⟩, hWB, ⟨hwi, hrow'⟩, ok', oe', ⟨hwi, h1⟩, h2, h3, hg.size, (hg.mono fun k hk => .inl hk).then h2 (fun k e => .inl (.inr ⟨hag k e, let ⟨cs, h⟩ := own_block hrow.own.1 e; ⟨cs, .inl h⟩⟩)), hdk⟩
      · have h' : done 18 = true := h
        have h18 : done 18 = false := not_done hH 18 16 hd rfl (by decide)
        rw [h18] at h'; cases h'
    | 17, ho, hd, hp, hK =>
      cases ho
      have e68 : a.eval (.tmp 68) = .slice (some ⟨g, 0, none⟩) T.words.length cap := hH.fact 1 _ 68 rfl rfl (hp 1 (by decide))
      have e69 : a.eval (.tmp 69) = .int .i64 wi := hH.fact 2 _ 69 rfl rfl (hp 2 (by decide))
      refine op_value (v := .pointer (some ⟨g, wi, none⟩)) (by simp [go_sem, ev e68, ev e69, iw.1, iw.2]) (hK _ _ rfl ⟨fun h => ?_, fun h => ?_, fun h1 h2 => ?_, fun h => hW9.fin h⟩ fun j _ _ _ _ _ hu => hu.any)
      · obtain ⟨p1, p2⟩ := hW9.pre h
        exact ⟨p1.plain (Aft.refl _) rfl hloc (fun j v hj hdj hr => by
          rcases m9_cases hj with rfl | rfl | rfl
          · show SomeP 4 ((a.put (some 84) _).eval (.tmp 76)) v _; rw [put_otherR (by decide)]; exact hr
          · show SomeP P ((a.put (some 84) _).eval (.tmp 80)) v _; rw [put_otherR (by decide)]; exact hr
          · show SlP ((a.put (some 84) _).eval (.tmp 82)) ((a.put (some 84) _).eval (.tmp 76)) ((a.put (some 84) _).eval (.tmp 80)) v _; rw [put_otherR (by decide), put_otherR (by decide), put_otherR (by decide)]; exact hr), p2⟩
      · rw [put_otherR (by decide), put_otherR (by decide), put_otherR (by decide)]; exact hW9.agg h
      · rw [put_otherR (by decide)]; exact hW9.app h1 h2
    | 18, ho, hd, hp, hK =>
      cases ho
      have e84 : a.eval (.tmp 84) = .pointer (some ⟨g, wi, none⟩) := hH.fact 17 _ 84 rfl rfl (hp 17 (by decide))
      have h16 : done 16 = true := hp 16 (by decide)
      obtain ⟨v', e83⟩ : ∃ x, a.eval (.tmp 83) = x := ⟨_, rfl⟩
      have ha := hW9.app h16 hd
      rw [e83] at ha
      obtain ⟨ks, es, wB, ys', u1, u2, b1', b2', hWB, ⟨_, hrow'⟩, o1, o2, ⟨_, hown⟩, hg2, hat, hsz2, hgr, hdk⟩ := ha
      obtain ⟨q1, q2⟩ := hWB.app (m := ⟨ks, es⟩) hwi hxa hrow' o1 o2 hown hg2 hat (fun k e => by
        rcases hat with h | h
        · rw [h] at e; exact .inl (hag k e)
        · rw [h] at e; cases e; exact .inr hsz2)
      have hfin : Fin9 w0 d A l c m X T D1 g cap wi P (w.setCell ⟨g, wi, none⟩ v') := by
        refine ⟨ks, es, xs.set wi v', b1', b2', ?_, hgr.then q2 (fun k e => by cases e; exact .inl (.inr ⟨hg1, let ⟨cs, h⟩ := own_block hW.own.1 rfl; ⟨cs, .inr h⟩⟩)), ?_⟩
        · rw [show T.words.getD wi [] = T.words[wi] by rw [List.getD_eq_getElem?_getD, List.getElem?_eq_getElem hwi]; rfl]
          exact q1
        · obtain ⟨p1, p2, p3, qq, ss, p4, p5, p6⟩ := hdk
          exact ⟨p1, p2, p3.grown q2 (fun k e => by cases e; exact hlow g hg1), qq, ss, p4.grown q2 (fun e => by cases e; exact hd1 hg1), p5, p6⟩
      have hk := hK undef _ trivial ⟨(fun h => by (have h' : Go.upd done 18 16 = true := h16); rw [h'] at h; cases h), (fun h => by rw [put_noneR]; exact hW9.agg h), (fun _ h => by (have h' : Go.upd done 18 18 = true := rfl); rw [h'] at h; cases h), (fun _ => hfin)⟩ fun j _ _ _ _ _ hu => hu.any
      obtain ⟨sA, sn, sc, rfl⟩ := own_slice' hown
      have hgw : g ≠ d := hD1' g hg1
      have hcw : ∃ x, w.cell? ⟨g, wi, none⟩ = some x ∧ w.frozen? ⟨g, wi, none⟩ = false ∧ g < w.heap.size := by
        have h68 := own_off (e' := 68) hrow'.own.1 (by decide)
        have ho := hWB.own.off hg2 h68
        have hc := ho.1.cells (g := g) rfl wi _ hxa
        rw [Addr.add_lit, Nat.zero_add] at hc
        refine ⟨_, hc, ?_, (ho.1.lt g rfl).2⟩
        rcases ho.1.2 with ⟨e, -⟩ | ⟨g', cap', cur', e, -, hh, -⟩
        · cases e
        · cases e
          simp [World.frozen?, hh]
      obtain ⟨x0, c1, c2, c3⟩ := hcw
      unfold Oper.wp
      simpa [go_sem, ev e84, ev e83, c1, c2, c3] using hk
    | _ + 19, ho, _, _, _ => cases ho
  case fin =>
    intro done a w hall hH
    have hold : ∀ s : Nat, ch9 s = false → a.eval (.tmp s) = a0.eval (.tmp s) := fun s h => hH.old s fun k ok hk hs => by
      match k, hk with
      | 0, hk => cases hk; cases hs; exact absurd h (by decide)
      | 1, hk => cases hk; cases hs; exact absurd h (by decide)
      | 2, hk => cases hk; cases hs; exact absurd h (by decide)
      | 3, hk => cases hk; cases hs; exact absurd h (by decide)
      | 4, hk => cases hk; cases hs; exact absurd h (by decide)
      | 5, hk => cases hk; cases hs; exact absurd h (by decide)
      | 6, hk => cases hk; cases hs; exact absurd h (by decide)
      | 7, hk => cases hk; cases hs; exact absurd h (by decide)
      | 8, hk => cases hk; cases hs; exact absurd h (by decide)
      | 9, hk => cases hk; cases hs; exact absurd h (by decide)
      | 10, hk => cases hk; cases hs; exact absurd h (by decide)
      | 11, hk => cases hk; cases hs; exact absurd h (by decide)
      | 12, hk => cases hk; cases hs; exact absurd h (by decide)
      | 13, hk => cases hk; cases hs; exact absurd h (by decide)
      | 14, hk => cases hk; cases hs; exact absurd h (by decide)
      | 15, hk => cases hk; cases hs; exact absurd h (by decide)
      | 16, hk => cases hk; cases hs; exact absurd h (by decide)
      | 17, hk => cases hk; cases hs; exact absurd h (by decide)
      | 18, hk => cases hk; cases hs
      | _ + 19, hk => cases hk
    have hW9 : W9 w0 d A l c m X T D1 g cap wi P xs (.slice aA T.words[wi].length ac) done a w := hH.wd
    exact HEX.out a w (hH.size.trans hz) hH.defers hold (hW9.fin (hall 18 (by decide)))

set_option maxRecDepth 100000 in
set_option maxHeartbeats 2000000 in
theorem region9_mrlit (w0 : World) (d : Nat) (A : Option Addr) (l : List Int) (c m : Nat) (T : Treaty) (D1 : Nat → Prop) (D b1 g cap wi P : Nat) (z1 z2 z3 z4 y1 y3 y4 : Value) (xs : List Value) (X : World)
    (hD : DeckAt w0 d A l c m X) (hm : m ≤ 800000) (hP : P ≤ 8) (hbx : Blk X D 27 #[.int .i64 P, z1, z2, z3, z4]) (hb1 : Blk X b1 27 #[.int .i64 P, y1, .slice (some ⟨g, 0, none⟩) T.words.length cap, y3, y4])
    (hW : OWordsX D1 (.slice (some ⟨g, 0, none⟩) T.words.length cap) T.words xs X) (hd1 : ¬ D1 d) (hlt1 : ∀ k, D1 k → k < X.heap.size) (hlow : ∀ k, D1 k → w0.heap.size ≤ k) (hDd : D ≠ d) (hbd : b1 ≠ d) (hb1D : ¬ D1 b1) (hwi : wi < T.words.length) (hlen : ∀ ms ∈ T.words, ms.length ≤ 100) (hnw : T.words.length ≤ 1000)
    (q0 q1 q2 q3 q4 q7 q8 q9 q10 q11 q13 q14 q16 q17 q18 q19 q20 q21 q22 q23 q24 q25 q26 q27 q28 q29 q30 q31 q32 q33 q34 q35 q36 q37 q38 q39 q40 q41 q42 q43 q44 q45 q46 q47 q48 q49 q50 q51 q52 q53 q54 q55 q56 q57 q58 q59 q60 q61 q62 q63 q64 q65 q66 q85 q86 q87 q88 q89 q90 q91 q92 q93 q94 q95 q96 q97 q98 q99 q100 q101 q102 q103 q104 q105 q106 q107 q108 q109 q110 q111 q112 q113 q114 q115 q116 q117 q118 q119 q120 q121 q122 q123 q124 q125 q126 q127 q128 q129 q130 q131 q132 q133 q134 q135 q136 q137 q138 q139 q140 q141 q142 q143 q144 q145 q146 q147 q148 q149 q150 q151 q152 q153 q154 q155 q156 q157 q158 q159 q160 q161 q162 q163 q164 q165 q166 q167 q168 q169 q170 q171 q172 q173 q174 q175 q176 q177 q178 q179 q180 q181 q182 q183 q184 q185 q186 q187 q188 q189 q190 q191 q192 q193 q194 q195 q196 q197 q198 q199 q200 q201 q202 q203 q204 q205 q206 q207 q208 q209 q210 q211 q212 q213 q214 q215 q216 q217 q218 q219 q220 q221 q222 q223 q224 q225 q226 q227 q228 q229 q230 q231 q232 q233 q234 q235 q236 q237 q238 q239 q240 q241 q242 q243 q244 q245 q246 q247 q248 q249 q250 q251 q252 q67 q68 q69 q70 q71 q72 q73 q74 q75 q76 q77 q78 q79 q80 q81 q82 q83 q84 : Value) (Q0 : Exit → Act → World → Prop)
    (hexit : ∀ (u67 u68 u69 u70 u71 u72 u73 u74 u75 u76 u77 u78 u79 u80 u81 u82 u83 u84 : Value) W', Fin9 w0 d A l c m X T D1 g cap wi P W' → Q0 .normal ⟨(List.toArray (q0 :: q1 :: q2 :: q3 :: q4 :: .pointer (some ⟨D, 0, none⟩) :: .pointer (some ⟨d, 0, none⟩) :: q7 :: q8 :: q9 :: q10 :: q11 :: .pointer (some ⟨b1, 0, none⟩) :: q13 :: q14 :: .int .i64 wi :: q16 :: q17 :: q18 :: q19 :: q20 :: q21 :: q22 :: q23 :: q24 :: q25 :: q26 :: q27 :: q28 :: q29 :: q30 :: q31 :: q32 :: q33 :: q34 :: q35 :: q36 :: q37 :: q38 :: q39 :: q40 :: q41 :: q42 :: q43 :: q44 :: q45 :: q46 :: q47 :: q48 :: q49 :: q50 :: q51 :: q52 :: q53 :: q54 :: q55 :: q56 :: q57 :: q58 :: q59 :: q60 :: q61 :: q62 :: q63 :: q64 :: q65 :: q66 :: u67 :: u68 :: u69 :: u70 :: u71 :: u72 :: u73 :: u74 :: u75 :: u76 :: u77 :: u78 :: u79 :: u80 :: u81 :: u82 :: u83 :: u84 :: q85 :: q86 :: q87 :: q88 :: q89 :: q90 :: q91 :: q92 :: q93 :: q94 :: q95 :: q96 :: q97 :: q98 :: q99 :: q100 :: q101 :: q102 :: q103 :: q104 :: q105 :: q106 :: q107 :: q108 :: q109 :: q110 :: q111 :: q112 :: q113 :: q114 :: q115 :: q116 :: q117 :: q118 :: q119 :: q120 :: q121 :: q122 :: q123 :: q124 :: q125 :: q126 :: q127 :: q128 :: q129 :: q130 :: q131 :: q132 :: q133 :: q134 :: q135 :: q136 :: q137 :: q138 :: q139 :: q140 :: q141 :: q142 :: q143 :: q144 :: q145 :: q146 :: q147 :: q148 :: q149 :: q150 :: q151 :: q152 :: q153 :: q154 :: q155 :: q156 :: q157 :: q158 :: q159 :: q160 :: q161 :: q162 :: q163 :: q164 :: q165 :: q166 :: q167 :: q168 :: q169 :: q170 :: q171 :: q172 :: q173 :: q174 :: q175 :: q176 :: q177 :: q178 :: q179 :: q180 :: q181 :: q182 :: q183 :: q184 :: q185 :: q186 :: q187 :: q188 :: q189 :: q190 :: q191 :: q192 :: q193 :: q194 :: q195 :: q196 :: q197 :: q198 :: q199 :: q200 :: q201 :: q202 :: q203 :: q204 :: q205 :: q206 :: q207 :: q208 :: q209 :: q210 :: q211 :: q212 :: q213 :: q214 :: q215 :: q216 :: q217 :: q218 :: q219 :: q220 :: q221 :: q222 :: q223 :: q224 :: q225 :: q226 :: q227 :: q228 :: q229 :: q230 :: q231 :: q232 :: q233 :: q234 :: q235 :: q236 :: q237 :: q238 :: q239 :: q240 :: q241 :: q242 :: q243 :: q244 :: q245 :: q246 :: q247 :: q248 :: q249 :: q250 :: q251 :: q252 :: [])), []⟩ W') :
    Code.wp Tryz.prog (Code.region 9 (opsMr 9).toArray true) Q0 ⟨(List.toArray (q0 :: q1 :: q2 :: q3 :: q4 :: .pointer (some ⟨D, 0, none⟩) :: .pointer (some ⟨d, 0, none⟩) :: q7 :: q8 :: q9 :: q10 :: q11 :: .pointer (some ⟨b1, 0, none⟩) :: q13 :: q14 :: .int .i64 wi :: q16 :: q17 :: q18 :: q19 :: q20 :: q21 :: q22 :: q23 :: q24 :: q25 :: q26 :: q27 :: q28 :: q29 :: q30 :: q31 :: q32 :: q33 :: q34 :: q35 :: q36 :: q37 :: q38 :: q39 :: q40 :: q41 :: q42 :: q43 :: q44 :: q45 :: q46 :: q47 :: q48 :: q49 :: q50 :: q51 :: q52 :: q53 :: q54 :: q55 :: q56 :: q57 :: q58 :: q59 :: q60 :: q61 :: q62 :: q63 :: q64 :: q65 :: q66 :: q67 :: q68 :: q69 :: q70 :: q71 :: q72 :: q73 :: q74 :: q75 :: q76 :: q77 :: q78 :: q79 :: q80 :: q81 :: q82 :: q83 :: q84 :: q85 :: q86 :: q87 :: q88 :: q89 :: q90 :: q91 :: q92 :: q93 :: q94 :: q95 :: q96 :: q97 :: q98 :: q99 :: q100 :: q101 :: q102 :: q103 :: q104 :: q105 :: q106 :: q107 :: q108 :: q109 :: q110 :: q111 :: q112 :: q113 :: q114 :: q115 :: q116 :: q117 :: q118 :: q119 :: q120 :: q121 :: q122 :: q123 :: q124 :: q125 :: q126 :: q127 :: q128 :: q129 :: q130 :: q131 :: q132 :: q133 :: q134 :: q135 :: q136 :: q137 :: q138 :: q139 :: q140 :: q141 :: q142 :: q143 :: q144 :: q145 :: q146 :: q147 :: q148 :: q149 :: q150 :: q151 :: q152 :: q153 :: q154 :: q155 :: q156 :: q157 :: q158 :: q159 :: q160 :: q161 :: q162 :: q163 :: q164 :: q165 :: q166 :: q167 :: q168 :: q169 :: q170 :: q171 :: q172 :: q173 :: q174 :: q175 :: q176 :: q177 :: q178 :: q179 :: q180 :: q181 :: q182 :: q183 :: q184 :: q185 :: q186 :: q187 :: q188 :: q189 :: q190 :: q191 :: q192 :: q193 :: q194 :: q195 :: q196 :: q197 :: q198 :: q199 :: q200 :: q201 :: q202 :: q203 :: q204 :: q205 :: q206 :: q207 :: q208 :: q209 :: q210 :: q211 :: q212 :: q213 :: q214 :: q215 :: q216 :: q217 :: q218 :: q219 :: q220 :: q221 :: q222 :: q223 :: q224 :: q225 :: q226 :: q227 :: q228 :: q229 :: q230 :: q231 :: q232 :: q233 :: q234 :: q235 :: q236 :: q237 :: q238 :: q239 :: q240 :: q241 :: q242 :: q243 :: q244 :: q245 :: q246 :: q247 :: q248 :: q249 :: q250 :: q251 :: q252 :: [])), []⟩ X := by
  refine region9_mr w0 d A l c m T D1 D b1 g cap wi P z1 z2 z3 z4 y1 y3 y4 xs _ Q0 X rfl rfl rfl rfl rfl hD hm hP hbx hb1 hW hd1 hlt1 hlow hDd hbd hb1D hwi hlen hnw ?_
  intro a W' hz hd hs hF
  have e := frame_act 253 a _ hz hd ch9 (fun s hp => hs s hp)
  have e2 : a = ⟨(List.toArray (q0 :: q1 :: q2 :: q3 :: q4 :: .pointer (some ⟨D, 0, none⟩) :: .pointer (some ⟨d, 0, none⟩) :: q7 :: q8 :: q9 :: q10 :: q11 :: .pointer (some ⟨b1, 0, none⟩) :: q13 :: q14 :: .int .i64 wi :: q16 :: q17 :: q18 :: q19 :: q20 :: q21 :: q22 :: q23 :: q24 :: q25 :: q26 :: q27 :: q28 :: q29 :: q30 :: q31 :: q32 :: q33 :: q34 :: q35 :: q36 :: q37 :: q38 :: q39 :: q40 :: q41 :: q42 :: q43 :: q44 :: q45 :: q46 :: q47 :: q48 :: q49 :: q50 :: q51 :: q52 :: q53 :: q54 :: q55 :: q56 :: q57 :: q58 :: q59 :: q60 :: q61 :: q62 :: q63 :: q64 :: q65 :: q66 :: a.eval (.tmp 67) :: a.eval (.tmp 68) :: a.eval (.tmp 69) :: a.eval (.tmp 70) :: a.eval (.tmp 71) :: a.eval (.tmp 72) :: a.eval (.tmp 73) :: a.eval (.tmp 74) :: a.eval (.tmp 75) :: a.eval (.tmp 76) :: a.eval (.tmp 77) :: a.eval (.tmp 78) :: a.eval (.tmp 79) :: a.eval (.tmp 80) :: a.eval (.tmp 81) :: a.eval (.tmp 82) :: a.eval (.tmp 83) :: a.eval (.tmp 84) :: q85 :: q86 :: q87 :: q88 :: q89 :: q90 :: q91 :: q92 :: q93 :: q94 :: q95 :: q96 :: q97 :: q98 :: q99 :: q100 :: q101 :: q102 :: q103 :: q104 :: q105 :: q106 :: q107 :: q108 :: q109 :: q110 :: q111 :: q112 :: q113 :: q114 :: q115 :: q116 :: q117 :: q118 :: q119 :: q120 :: q121 :: q122 :: q123 :: q124 :: q125 :: q126 :: q127 :: q128 :: q129 :: q130 :: q131 :: q132 :: q133 :: q134 :: q135 :: q136 :: q137 :: q138 :: q139 :: q140 :: q141 :: q142 :: q143 :: q144 :: q145 :: q146 :: q147 :: q148 :: q149 :: q150 :: q151 :: q152 :: q153 :: q154 :: q155 :: q156 :: q157 :: q158 :: q159 :: q160 :: q161 :: q162 :: q163 :: q164 :: q165 :: q166 :: q167 :: q168 :: q169 :: q170 :: q171 :: q172 :: q173 :: q174 :: q175 :: q176 :: q177 :: q178 :: q179 :: q180 :: q181 :: q182 :: q183 :: q184 :: q185 :: q186 :: q187 :: q188 :: q189 :: q190 :: q191 :: q192 :: q193 :: q194 :: q195 :: q196 :: q197 :: q198 :: q199 :: q200 :: q201 :: q202 :: q203 :: q204 :: q205 :: q206 :: q207 :: q208 :: q209 :: q210 :: q211 :: q212 :: q213 :: q214 :: q215 :: q216 :: q217 :: q218 :: q219 :: q220 :: q221 :: q222 :: q223 :: q224 :: q225 :: q226 :: q227 :: q228 :: q229 :: q230 :: q231 :: q232 :: q233 :: q234 :: q235 :: q236 :: q237 :: q238 :: q239 :: q240 :: q241 :: q242 :: q243 :: q244 :: q245 :: q246 :: q247 :: q248 :: q249 :: q250 :: q251 :: q252 :: [])), []⟩ := e
  have h := hexit (a.eval (.tmp 67)) (a.eval (.tmp 68)) (a.eval (.tmp 69)) (a.eval (.tmp 70)) (a.eval (.tmp 71)) (a.eval (.tmp 72)) (a.eval (.tmp 73)) (a.eval (.tmp 74)) (a.eval (.tmp 75)) (a.eval (.tmp 76)) (a.eval (.tmp 77)) (a.eval (.tmp 78)) (a.eval (.tmp 79)) (a.eval (.tmp 80)) (a.eval (.tmp 81)) (a.eval (.tmp 82)) (a.eval (.tmp 83)) (a.eval (.tmp 84)) W' hF
  rw [← e2] at h
  exact h
end Go.Proofs
end
