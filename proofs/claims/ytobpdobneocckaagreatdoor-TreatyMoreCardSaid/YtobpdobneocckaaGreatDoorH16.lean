/- Own texts, merged: Mr7. -/
import Derived.Test.YtobpdobneocckaaGreatDoorH15
set_option linter.unusedSimpArgs false
set_option linter.unusedVariables false
section
/- Walks: the drawn region of the law TreatyMore: three clones of a treaty, each into a box of its own. -/
namespace Go.Proofs
open Go.RowKit

noncomputable def opsMr (k : Nat) : List Oper := ((regAt k (Tryz.f7.body.getD .skip)).getD #[]).toList
/-- A treaty of the part's own. -/
def OTV (T : Treaty) (u : Value) (v : Nat × Nat) (w : World) : Prop := ∃ (d1 d2 d3 d4 : Option Addr) (f1 f2 f3 f4 : Nat), u = .agg #[.int .i64 T.places, .slice d1 T.ways.length f1, .slice d2 T.words.length f2, .slice d3 T.starts.length f3, .slice d4 T.legs.length f4] ∧ OT (Inr v) T (.slice d1 T.ways.length f1) (.slice d2 T.words.length f2) (.slice d3 T.starts.length f3) (.slice d4 T.legs.length f4) w
/-- A box of the part's own: as it was laid, or with a treaty. -/
def BoxV (filled : Bool) (p u : Value) (v : Nat × Nat) (w : World) : Prop := ∃ b, p = .pointer (some ⟨b, 0, none⟩) ∧ Inr v b ∧ (filled = false → Blk w b 27 #[.int .i64 0, .slice none 0 0, .slice none 0 0, .slice none 0 0, .slice none 0 0]) ∧ (filled = true → ∃ cs, u = .agg cs ∧ Blk w b 27 cs)
theorem otv_local (T : Treaty) (u : Value) : LocalR (OTV T u) := fun v w w' ⟨d1, d2, d3, d4, f1, f2, f3, f4, e, h⟩ ha => ⟨d1, d2, d3, d4, f1, f2, f3, f4, e, h.agree ha⟩
theorem boxv_local (f : Bool) (p u : Value) : LocalR (BoxV f p u) := fun v w w' ⟨b, e, hb, h1, h2⟩ ha => ⟨b, e, hb, fun h => blk_agree (h1 h) hb ha, fun h => let ⟨cs, q1, q2⟩ := h2 h; ⟨cs, q1, blk_agree q2 hb ha⟩⟩
theorem boxv_new (u : Value) (w : World) : BoxV false (.pointer (some ⟨w.heap.size, 0, none⟩)) u (w.heap.size, (w.alloc (.cells #[.int .i64 0, .slice none 0 0, .slice none 0 0, .slice none 0 0, .slice none 0 0] 27)).heap.size) (w.alloc (.cells #[.int .i64 0, .slice none 0 0, .slice none 0 0, .slice none 0 0, .slice none 0 0] 27)) :=
  ⟨_, rfl, ⟨Nat.le_refl _, by simp⟩, fun _ => Blk.new _ _ _, fun h => by cases h⟩
theorem boxv_any {p u u' : Value} {v : Nat × Nat} {w : World} (h : BoxV false p u v w) : BoxV false p u' v w := let ⟨b, e, hb, h1, _⟩ := h; ⟨b, e, hb, h1, fun h => by cases h⟩
theorem boxv_put {b : Nat} {cs : Array Value} {v : Nat × Nat} {w w' : World} (h : BoxV false (.pointer (some ⟨b, 0, none⟩)) (.agg cs) v w) (hb : Blk w' b 27 cs) : BoxV true (.pointer (some ⟨b, 0, none⟩)) (.agg cs) v w' := by
  obtain ⟨b', e, hi, -, -⟩ := h
  cases e
  exact ⟨b, rfl, hi, fun h => (by cases h), fun _ => ⟨cs, rfl, hb⟩⟩
def M7 (i : Nat) : Bool := decide (i = 1) || decide (i = 3) || decide (i = 5) || decide (i = 6) || decide (i = 7) || decide (i = 8)
theorem m7_cases {i : Nat} (h : M7 i = true) : i = 1 ∨ i = 3 ∨ i = 5 ∨ i = 6 ∨ i = 7 ∨ i = 8 := by
  unfold M7 at h
  simp only [Bool.or_eq_true, decide_eq_true_eq] at h
  omega
def R7 (T : Treaty) (done : Nat → Bool) (a : Act) : Nat → Nat × Nat → World → Prop
  | 1, v, w => OTV T (a.eval (.tmp 57)) v w
  | 3, v, w => OTV T (a.eval (.tmp 59)) v w
  | 5, v, w => OTV T (a.eval (.tmp 61)) v w
  | 6, v, w => BoxV (done 9) (a.eval (.tmp 12)) (a.eval (.tmp 57)) v w
  | 7, v, w => BoxV (done 10) (a.eval (.tmp 13)) (a.eval (.tmp 59)) v w
  | 8, v, w => BoxV (done 11) (a.eval (.tmp 14)) (a.eval (.tmp 61)) v w
  | _, _, _ => True
theorem r7_local (T : Treaty) (done : Nat → Bool) (a : Act) : ∀ j, M7 j = true → LocalR (R7 T done a j) := fun j hj => by
  rcases m7_cases hj with rfl | rfl | rfl | rfl | rfl | rfl
  · exact otv_local _ _
  · exact otv_local _ _
  · exact otv_local _ _
  · exact boxv_local _ _ _
  · exact boxv_local _ _ _
  · exact boxv_local _ _ _
def Wr7 (X : World) (T : Treaty) (done : Nat → Bool) (a : Act) (w : World) : Prop := PartsP X NoneS M7 done (R7 T done a) w
def Fr7 (T : Treaty) (a1 a2 a3 a4 : Option Addr) (c1 c2 c3 c4 : Nat) (_ : Nat → Bool) : Nat → Value → World → Prop
  | 0, v, _ => v = .agg #[.int .i64 T.places, .slice a1 T.ways.length c1, .slice a2 T.words.length c2, .slice a3 T.starts.length c3, .slice a4 T.legs.length c4]
  | 2, v, _ => v = .agg #[.int .i64 T.places, .slice a1 T.ways.length c1, .slice a2 T.words.length c2, .slice a3 T.starts.length c3, .slice a4 T.legs.length c4]
  | 4, v, _ => v = .agg #[.int .i64 T.places, .slice a1 T.ways.length c1, .slice a2 T.words.length c2, .slice a3 T.starts.length c3, .slice a4 T.legs.length c4]
  | _, _, _ => True
theorem Fr7.any {T : Treaty} {a1 a2 a3 a4 : Option Addr} {c1 c2 c3 c4 : Nat} {done done' : Nat → Bool} {i : Nat} {v : Value} {w w' : World} (h : Fr7 T a1 a2 a3 a4 c1 c2 c3 c4 done i v w) : Fr7 T a1 a2 a3 a4 c1 c2 c3 c4 done' i v w' := by
  unfold Fr7 at h ⊢
  split at h <;> exact h
def ch7 (s : Nat) : Bool := decide (s = 12) || decide (s = 13) || decide (s = 14) || decide (s = 56) || decide (s = 57) || decide (s = 58) || decide (s = 59) || decide (s = 60) || decide (s = 61)

set_option maxRecDepth 100000 in
set_option maxHeartbeats 4000000 in
theorem region7_mr (T : Treaty) (a1 a2 a3 a4 : Option Addr) (c1 c2 c3 c4 : Nat) (D : Nat) (a0 : Act) (Q0 : Exit → Act → World → Prop) (X : World) (hz : a0.tmps.size = 253) (s5 : a0.eval (.tmp 5) = .pointer (some ⟨D, 0, none⟩))
    (hT : TRep X T a1 a2 a3 a4) (hbx : Blk X D 27 #[.int .i64 T.places, .slice a1 T.ways.length c1, .slice a2 T.words.length c2, .slice a3 T.starts.length c3, .slice a4 T.legs.length c4]) (hl1 : T.ways.length ≤ 1000) (hl2 : T.words.length ≤ 100) (hl3 : T.starts.length ≤ 1000) (hl4 : T.legs.length ≤ 1000) (hwl : ∀ l ∈ T.words, l.length ≤ 100) (hsm : WSmall T.words)
    (hexit : ∀ a W', a.tmps.size = 253 → a.defers = a0.defers → (∀ s : Nat, ch7 s = false → a.eval (.tmp s) = a0.eval (.tmp s)) → Wr7 X T (fun _ => true) a W' → Q0 .normal a W') :
    Code.wp Tryz.prog (Code.region 7 (opsMr 7).toArray true) Q0 a0 X := by
  have HEX := Lib.hid hexit
  clear hexit
  refine wp_region_factsF (by kernel_rfl) 253 hz (by kernel_rfl) (Fr7 T a1 a2 a3 a4 c1 c2 c3 c4) (Wr7 X T) (PartsP.start (GrownS.of (only_of_aft (Aft.drew _) none) fun _ e => by cases e)) ?step ?fin
  case step =>
    intro i o ho done a w hH hd hp K hK
    have hW : PartsP X NoneS M7 done (R7 T done a) w := hH.wd
    have hold : ∀ s : Nat, ch7 s = false → a.eval (.tmp s) = a0.eval (.tmp s) := fun s h => hH.old s fun k ok hk hs => by
      match k, hk with
      | 0, hk => cases hk; cases hs; exact absurd h (by decide)
      | 1, hk => cases hk; cases hs; exact absurd h (by decide)
      | 2, hk => cases hk; cases hs; exact absurd h (by decide)
      | 3, hk => cases hk; cases hs; exact absurd h (by decide)
      | 4, hk => cases hk; cases hs; exact absurd h (by decide)
      | 5, hk => cases hk; cases hs; exact absurd h (by decide)
      | 6, hk => cases hk; cases hs; exact absurd h (by decide)
      | 7, hk => cases hk; cases hs; exact absurd h (by decide)
      | 8, hk => cases hk; cases hs; exact absurd h (by decide)
      | 9, hk => cases hk; cases hs
      | 10, hk => cases hk; cases hs
      | 11, hk => cases hk; cases hs
      | _ + 12, hk => cases hk
    have hloc := r7_local T done a
    have hsz : a.tmps.size = 253 := by rw [hH.size, hz]
    match i, ho, hd, hp, hK with
    | 0, ho, hd, hp, hK =>
      cases ho
      have e : a.eval (.tmp 5) = .pointer (some ⟨D, 0, none⟩) := (hold 5 (by decide)).trans s5
      obtain ⟨k0, k1, k2, k3, k4⟩ := boxR5 (hbx.aft hW.aft)
      refine op_value (v := .agg #[.int .i64 T.places, .slice a1 T.ways.length c1, .slice a2 T.words.length c2, .slice a3 T.starts.length c3, .slice a4 T.legs.length c4]) (by simp [go_sem, ev e, k0, k1, k2, k3, k4]) (hK _ _ rfl ?_ fun j _ _ _ _ _ hu => hu.any)
      exact hW.plain (Aft.refl _) rfl hloc (fun j v hj hdj hr => by
        rcases m7_cases hj with rfl | rfl | rfl | rfl | rfl | rfl
        · show OTV T ((a.put (some 56) _).eval (.tmp 57)) v _; rw [put_otherR (by decide)]; exact hr
        · show OTV T ((a.put (some 56) _).eval (.tmp 59)) v _; rw [put_otherR (by decide)]; exact hr
        · show OTV T ((a.put (some 56) _).eval (.tmp 61)) v _; rw [put_otherR (by decide)]; exact hr
        · show BoxV (done 9) ((a.put (some 56) _).eval (.tmp 12)) ((a.put (some 56) _).eval (.tmp 57)) v _; rw [put_otherR (by decide), put_otherR (by decide)]; exact hr
        · show BoxV (done 10) ((a.put (some 56) _).eval (.tmp 13)) ((a.put (some 56) _).eval (.tmp 59)) v _; rw [put_otherR (by decide), put_otherR (by decide)]; exact hr
        · show BoxV (done 11) ((a.put (some 56) _).eval (.tmp 14)) ((a.put (some 56) _).eval (.tmp 61)) v _; rw [put_otherR (by decide), put_otherR (by decide)]; exact hr)
    | 1, ho, hd, hp, hK =>
      cases ho
      have hst : done 9 = false := by
        cases hdk : done 9 with
        | false => rfl
        | true => have := hH.closed 9 _ rfl hdk 1 (by decide); rw [hd] at this; cases this
      have e : a.eval (.tmp 56) = .agg #[.int .i64 T.places, .slice a1 T.ways.length c1, .slice a2 T.words.length c2, .slice a3 T.starts.length c3, .slice a4 T.legs.length c4] := hH.fact 0 _ 56 rfl rfl (hp 0 (by decide))
      refine op_call1 Tryz.func10 (by kernel_rfl) (by kernel_rfl) _ rfl e (cloneO_any w T a1 a2 a3 a4 c1 c2 c3 c4 (hT.aft hW.aft) hl1 hl2 hl3 hl4 hwl) ?_
      rintro e w' ⟨v1, v2, v3, v4, rfl, ha, hot⟩
      obtain ⟨d1, d2, d3, d4, f1, f2, f3, f4, rfl, rfl, rfl, rfl, -⟩ := hot.trep hl1 hsm hl3 hl4
      refine ⟨_, rfl, hK _ _ trivial ?_ fun j _ _ _ _ _ hu => hu.any⟩
      refine hW.add ha hd hloc (fun j v hne hj hdj hr => by
        rcases m7_cases hj with rfl | rfl | rfl | rfl | rfl | rfl
        · exact absurd rfl hne
        · show OTV T ((a.put (some 57) _).eval (.tmp 59)) v _; rw [put_otherR (by decide)]; exact hr
        · show OTV T ((a.put (some 57) _).eval (.tmp 61)) v _; rw [put_otherR (by decide)]; exact hr
        · show BoxV (done 9) ((a.put (some 57) _).eval (.tmp 12)) ((a.put (some 57) _).eval (.tmp 57)) v _; rw [put_otherR (by decide)]; have hr : BoxV (done 9) (a.eval (.tmp 12)) (a.eval (.tmp 57)) v _ := hr; rw [hst] at hr ⊢; exact boxv_any hr
        · show BoxV (done 10) ((a.put (some 57) _).eval (.tmp 13)) ((a.put (some 57) _).eval (.tmp 59)) v _; rw [put_otherR (by decide), put_otherR (by decide)]; exact hr
        · show BoxV (done 11) ((a.put (some 57) _).eval (.tmp 14)) ((a.put (some 57) _).eval (.tmp 61)) v _; rw [put_otherR (by decide), put_otherR (by decide)]; exact hr) ?_
      show OTV T ((a.put (some 57) _).eval (.tmp 57)) _ _
      rw [Act.eval_put_same _ _ _ (by rw [hsz]; decide)]
      exact ⟨d1, d2, d3, d4, f1, f2, f3, f4, rfl, hot.mono fun k hk hlt => ⟨hk, hlt⟩⟩
    | 2, ho, hd, hp, hK =>
      cases ho
      have e : a.eval (.tmp 5) = .pointer (some ⟨D, 0, none⟩) := (hold 5 (by decide)).trans s5
      obtain ⟨k0, k1, k2, k3, k4⟩ := boxR5 (hbx.aft hW.aft)
      refine op_value (v := .agg #[.int .i64 T.places, .slice a1 T.ways.length c1, .slice a2 T.words.length c2, .slice a3 T.starts.length c3, .slice a4 T.legs.length c4]) (by simp [go_sem, ev e, k0, k1, k2, k3, k4]) (hK _ _ rfl ?_ fun j _ _ _ _ _ hu => hu.any)
      exact hW.plain (Aft.refl _) rfl hloc (fun j v hj hdj hr => by
        rcases m7_cases hj with rfl | rfl | rfl | rfl | rfl | rfl
        · show OTV T ((a.put (some 58) _).eval (.tmp 57)) v _; rw [put_otherR (by decide)]; exact hr
        · show OTV T ((a.put (some 58) _).eval (.tmp 59)) v _; rw [put_otherR (by decide)]; exact hr
        · show OTV T ((a.put (some 58) _).eval (.tmp 61)) v _; rw [put_otherR (by decide)]; exact hr
        · show BoxV (done 9) ((a.put (some 58) _).eval (.tmp 12)) ((a.put (some 58) _).eval (.tmp 57)) v _; rw [put_otherR (by decide), put_otherR (by decide)]; exact hr
        · show BoxV (done 10) ((a.put (some 58) _).eval (.tmp 13)) ((a.put (some 58) _).eval (.tmp 59)) v _; rw [put_otherR (by decide), put_otherR (by decide)]; exact hr
        · show BoxV (done 11) ((a.put (some 58) _).eval (.tmp 14)) ((a.put (some 58) _).eval (.tmp 61)) v _; rw [put_otherR (by decide), put_otherR (by decide)]; exact hr)
    | 3, ho, hd, hp, hK =>
      cases ho
      have hst : done 10 = false := by
        cases hdk : done 10 with
        | false => rfl
        | true => have := hH.closed 10 _ rfl hdk 3 (by decide); rw [hd] at this; cases this
      have e : a.eval (.tmp 58) = .agg #[.int .i64 T.places, .slice a1 T.ways.length c1, .slice a2 T.words.length c2, .slice a3 T.starts.length c3, .slice a4 T.legs.length c4] := hH.fact 2 _ 58 rfl rfl (hp 2 (by decide))
      refine op_call1 Tryz.func10 (by kernel_rfl) (by kernel_rfl) _ rfl e (cloneO_any w T a1 a2 a3 a4 c1 c2 c3 c4 (hT.aft hW.aft) hl1 hl2 hl3 hl4 hwl) ?_
      rintro e w' ⟨v1, v2, v3, v4, rfl, ha, hot⟩
      obtain ⟨d1, d2, d3, d4, f1, f2, f3, f4, rfl, rfl, rfl, rfl, -⟩ := hot.trep hl1 hsm hl3 hl4
      refine ⟨_, rfl, hK _ _ trivial ?_ fun j _ _ _ _ _ hu => hu.any⟩
      refine hW.add ha hd hloc (fun j v hne hj hdj hr => by
        rcases m7_cases hj with rfl | rfl | rfl | rfl | rfl | rfl
        · show OTV T ((a.put (some 59) _).eval (.tmp 57)) v _; rw [put_otherR (by decide)]; exact hr
        · exact absurd rfl hne
        · show OTV T ((a.put (some 59) _).eval (.tmp 61)) v _; rw [put_otherR (by decide)]; exact hr
        · show BoxV (done 9) ((a.put (some 59) _).eval (.tmp 12)) ((a.put (some 59) _).eval (.tmp 57)) v _; rw [put_otherR (by decide), put_otherR (by decide)]; exact hr
        · show BoxV (done 10) ((a.put (some 59) _).eval (.tmp 13)) ((a.put (some 59) _).eval (.tmp 59)) v _; rw [put_otherR (by decide)]; have hr : BoxV (done 10) (a.eval (.tmp 13)) (a.eval (.tmp 59)) v _ := hr; rw [hst] at hr ⊢; exact boxv_any hr
        · show BoxV (done 11) ((a.put (some 59) _).eval (.tmp 14)) ((a.put (some 59) _).eval (.tmp 61)) v _; rw [put_otherR (by decide), put_otherR (by decide)]; exact hr) ?_
      show OTV T ((a.put (some 59) _).eval (.tmp 59)) _ _
      rw [Act.eval_put_same _ _ _ (by rw [hsz]; decide)]
      exact ⟨d1, d2, d3, d4, f1, f2, f3, f4, rfl, hot.mono fun k hk hlt => ⟨hk, hlt⟩⟩
    | 4, ho, hd, hp, hK =>
      cases ho
      have e : a.eval (.tmp 5) = .pointer (some ⟨D, 0, none⟩) := (hold 5 (by decide)).trans s5
      obtain ⟨k0, k1, k2, k3, k4⟩ := boxR5 (hbx.aft hW.aft)
      refine op_value (v := .agg #[.int .i64 T.places, .slice a1 T.ways.length c1, .slice a2 T.words.length c2, .slice a3 T.starts.length c3, .slice a4 T.legs.length c4]) (by simp [go_sem, ev e, k0, k1, k2, k3, k4]) (hK _ _ rfl ?_ fun j _ _ _ _ _ hu => hu.any)
      exact hW.plain (Aft.refl _) rfl hloc (fun j v hj hdj hr => by
        rcases m7_cases hj with rfl | rfl | rfl | rfl | rfl | rfl
        · show OTV T ((a.put (some 60) _).eval (.tmp 57)) v _; rw [put_otherR (by decide)]; exact hr
        · show OTV T ((a.put (some 60) _).eval (.tmp 59)) v _; rw [put_otherR (by decide)]; exact hr
        · show OTV T ((a.put (some 60) _).eval (.tmp 61)) v _; rw [put_otherR (by decide)]; exact hr
        · show BoxV (done 9) ((a.put (some 60) _).eval (.tmp 12)) ((a.put (some 60) _).eval (.tmp 57)) v _; rw [put_otherR (by decide), put_otherR (by decide)]; exact hr
        · show BoxV (done 10) ((a.put (some 60) _).eval (.tmp 13)) ((a.put (some 60) _).eval (.tmp 59)) v _; rw [put_otherR (by decide), put_otherR (by decide)]; exact hr
        · show BoxV (done 11) ((a.put (some 60) _).eval (.tmp 14)) ((a.put (some 60) _).eval (.tmp 61)) v _; rw [put_otherR (by decide), put_otherR (by decide)]; exact hr)
    | 5, ho, hd, hp, hK =>
      cases ho
      have hst : done 11 = false := by
        cases hdk : done 11 with
        | false => rfl
        | true => have := hH.closed 11 _ rfl hdk 5 (by decide); rw [hd] at this; cases this
      have e : a.eval (.tmp 60) = .agg #[.int .i64 T.places, .slice a1 T.ways.length c1, .slice a2 T.words.length c2, .slice a3 T.starts.length c3, .slice a4 T.legs.length c4] := hH.fact 4 _ 60 rfl rfl (hp 4 (by decide))
      refine op_call1 Tryz.func10 (by kernel_rfl) (by kernel_rfl) _ rfl e (cloneO_any w T a1 a2 a3 a4 c1 c2 c3 c4 (hT.aft hW.aft) hl1 hl2 hl3 hl4 hwl) ?_
      rintro e w' ⟨v1, v2, v3, v4, rfl, ha, hot⟩
      obtain ⟨d1, d2, d3, d4, f1, f2, f3, f4, rfl, rfl, rfl, rfl, -⟩ := hot.trep hl1 hsm hl3 hl4
      refine ⟨_, rfl, hK _ _ trivial ?_ fun j _ _ _ _ _ hu => hu.any⟩
      refine hW.add ha hd hloc (fun j v hne hj hdj hr => by
        rcases m7_cases hj with rfl | rfl | rfl | rfl | rfl | rfl
        · show OTV T ((a.put (some 61) _).eval (.tmp 57)) v _; rw [put_otherR (by decide)]; exact hr
        · show OTV T ((a.put (some 61) _).eval (.tmp 59)) v _; rw [put_otherR (by decide)]; exact hr
        · exact absurd rfl hne
        · show BoxV (done 9) ((a.put (some 61) _).eval (.tmp 12)) ((a.put (some 61) _).eval (.tmp 57)) v _; rw [put_otherR (by decide), put_otherR (by decide)]; exact hr
        · show BoxV (done 10) ((a.put (some 61) _).eval (.tmp 13)) ((a.put (some 61) _).eval (.tmp 59)) v _; rw [put_otherR (by decide), put_otherR (by decide)]; exact hr
        · show BoxV (done 11) ((a.put (some 61) _).eval (.tmp 14)) ((a.put (some 61) _).eval (.tmp 61)) v _; rw [put_otherR (by decide)]; have hr : BoxV (done 11) (a.eval (.tmp 14)) (a.eval (.tmp 61)) v _ := hr; rw [hst] at hr ⊢; exact boxv_any hr) ?_
      show OTV T ((a.put (some 61) _).eval (.tmp 61)) _ _
      rw [Act.eval_put_same _ _ _ (by rw [hsz]; decide)]
      exact ⟨d1, d2, d3, d4, f1, f2, f3, f4, rfl, hot.mono fun k hk hlt => ⟨hk, hlt⟩⟩
    | 6, ho, hd, hp, hK =>
      cases ho
      have hst : done 9 = false := by
        cases hdk : done 9 with
        | false => rfl
        | true => have := hH.closed 9 _ rfl hdk 6 (by decide); rw [hd] at this; cases this
      have := hK (.pointer (some ⟨w.heap.size, 0, none⟩)) (w.alloc (.cells #[.int .i64 0, .slice none 0 0, .slice none 0 0, .slice none 0 0, .slice none 0 0] 27)) trivial (by
        refine hW.add (Aft.alloc _ _) hd hloc (fun j v hne hj hdj hr => by
          rcases m7_cases hj with rfl | rfl | rfl | rfl | rfl | rfl
          · show OTV T ((a.put (some 12) _).eval (.tmp 57)) v _; rw [put_otherR (by decide)]; exact hr
          · show OTV T ((a.put (some 12) _).eval (.tmp 59)) v _; rw [put_otherR (by decide)]; exact hr
          · show OTV T ((a.put (some 12) _).eval (.tmp 61)) v _; rw [put_otherR (by decide)]; exact hr
          · exact absurd rfl hne
          · show BoxV (done 10) ((a.put (some 12) _).eval (.tmp 13)) ((a.put (some 12) _).eval (.tmp 59)) v _; rw [put_otherR (by decide), put_otherR (by decide)]; exact hr
          · show BoxV (done 11) ((a.put (some 12) _).eval (.tmp 14)) ((a.put (some 12) _).eval (.tmp 61)) v _; rw [put_otherR (by decide), put_otherR (by decide)]; exact hr) ?_
        show BoxV (done 9) ((a.put (some 12) _).eval (.tmp 12)) ((a.put (some 12) _).eval (.tmp 57)) _ _
        rw [Act.eval_put_same _ _ _ (by rw [hsz]; decide), put_otherR (by decide), hst]
        exact boxv_new _ _) fun j _ _ _ _ _ hu => hu.any
      unfold Oper.wp
      simpa [go_sem] using this
    | 7, ho, hd, hp, hK =>
      cases ho
      have hst : done 10 = false := by
        cases hdk : done 10 with
        | false => rfl
        | true => have := hH.closed 10 _ rfl hdk 7 (by decide); rw [hd] at this; cases this
      have := hK (.pointer (some ⟨w.heap.size, 0, none⟩)) (w.alloc (.cells #[.int .i64 0, .slice none 0 0, .slice none 0 0, .slice none 0 0, .slice none 0 0] 27)) trivial (by
        refine hW.add (Aft.alloc _ _) hd hloc (fun j v hne hj hdj hr => by
          rcases m7_cases hj with rfl | rfl | rfl | rfl | rfl | rfl
          · show OTV T ((a.put (some 13) _).eval (.tmp 57)) v _; rw [put_otherR (by decide)]; exact hr
          · show OTV T ((a.put (some 13) _).eval (.tmp 59)) v _; rw [put_otherR (by decide)]; exact hr
          · show OTV T ((a.put (some 13) _).eval (.tmp 61)) v _; rw [put_otherR (by decide)]; exact hr
          · show BoxV (done 9) ((a.put (some 13) _).eval (.tmp 12)) ((a.put (some 13) _).eval (.tmp 57)) v _; rw [put_otherR (by decide), put_otherR (by decide)]; exact hr
          · exact absurd rfl hne
          · show BoxV (done 11) ((a.put (some 13) _).eval (.tmp 14)) ((a.put (some 13) _).eval (.tmp 61)) v _; rw [put_otherR (by decide), put_otherR (by decide)]; exact hr) ?_
        show BoxV (done 10) ((a.put (some 13) _).eval (.tmp 13)) ((a.put (some 13) _).eval (.tmp 59)) _ _
        rw [Act.eval_put_same _ _ _ (by rw [hsz]; decide), put_otherR (by decide), hst]
        exact boxv_new _ _) fun j _ _ _ _ _ hu => hu.any
      unfold Oper.wp
      simpa [go_sem] using this
    | 8, ho, hd, hp, hK =>
      cases ho
      have hst : done 11 = false := by
        cases hdk : done 11 with
        | false => rfl
        | true => have := hH.closed 11 _ rfl hdk 8 (by decide); rw [hd] at this; cases this
      have := hK (.pointer (some ⟨w.heap.size, 0, none⟩)) (w.alloc (.cells #[.int .i64 0, .slice none 0 0, .slice none 0 0, .slice none 0 0, .slice none 0 0] 27)) trivial (by
        refine hW.add (Aft.alloc _ _) hd hloc (fun j v hne hj hdj hr => by
          rcases m7_cases hj with rfl | rfl | rfl | rfl | rfl | rfl
          · show OTV T ((a.put (some 14) _).eval (.tmp 57)) v _; rw [put_otherR (by decide)]; exact hr
          · show OTV T ((a.put (some 14) _).eval (.tmp 59)) v _; rw [put_otherR (by decide)]; exact hr
          · show OTV T ((a.put (some 14) _).eval (.tmp 61)) v _; rw [put_otherR (by decide)]; exact hr
          · show BoxV (done 9) ((a.put (some 14) _).eval (.tmp 12)) ((a.put (some 14) _).eval (.tmp 57)) v _; rw [put_otherR (by decide), put_otherR (by decide)]; exact hr
          · show BoxV (done 10) ((a.put (some 14) _).eval (.tmp 13)) ((a.put (some 14) _).eval (.tmp 59)) v _; rw [put_otherR (by decide), put_otherR (by decide)]; exact hr
          · exact absurd rfl hne) ?_
        show BoxV (done 11) ((a.put (some 14) _).eval (.tmp 14)) ((a.put (some 14) _).eval (.tmp 61)) _ _
        rw [Act.eval_put_same _ _ _ (by rw [hsz]; decide), put_otherR (by decide), hst]
        exact boxv_new _ _) fun j _ _ _ _ _ hu => hu.any
      unfold Oper.wp
      simpa [go_sem] using this
    | 9, ho, hd, hp, hK =>
      cases ho
      have hc : done 1 = true := hp 1 (by decide)
      have hb : done 6 = true := hp 6 (by decide)
      obtain ⟨-, f, hf, -⟩ := id hW
      obtain ⟨-, -, d1, d2, d3, d4, f1, f2, f3, f4, e, -⟩ := hf 1 rfl hc
      have hbx2 : BoxV (done 9) (a.eval (.tmp 12)) (a.eval (.tmp 57)) (f 6) w := (hf 6 rfl hb).2.2
      rw [hd] at hbx2
      obtain ⟨b, e2, hib, hbl, -⟩ := hbx2
      have hb0 := hbl rfl
      obtain ⟨h5, hg5⟩ := blk_fiveR hb0 (.int .i64 T.places) (.slice d1 T.ways.length f1) (.slice d2 T.words.length f2) (.slice d3 T.starts.length f3) (.slice d4 T.legs.length f4)
      have := hK undef _ trivial (by
        rw [put_noneR]
        refine hW.write (p := 6) rfl rfl hb hloc (fun j v hne hj hdj hr => by
          rcases m7_cases hj with rfl | rfl | rfl | rfl | rfl | rfl
          · exact hr
          · exact hr
          · exact hr
          · exact absurd rfl hne
          · exact hr
          · exact hr) hg5 (fun v hv => ?_) (fun v hv => ?_)
        · have hv : BoxV (done 9) (a.eval (.tmp 12)) (a.eval (.tmp 57)) v w := hv
          obtain ⟨b', q1, q2, -⟩ := hv
          rw [e2] at q1
          cases q1
          exact q2
        · have hv : BoxV (done 9) (a.eval (.tmp 12)) (a.eval (.tmp 57)) v w := hv
          show BoxV true (a.eval (.tmp 12)) (a.eval (.tmp 57)) v _
          rw [hd, e2, e] at hv
          rw [e2, e]
          exact boxv_put hv h5) fun j _ _ _ _ _ hu => hu.any
      have hlt := hb0.lt
      have hf' : ∀ i, w.frozen? ⟨b, i, none⟩ = false := fun i => hb0.frozen i
      have j0 : w.cell? ⟨b, 0, none⟩ = some (.int .i64 0) := hb0.cell 0
      have j1 : w.cell? ⟨b, 1, none⟩ = some (.slice none 0 0) := hb0.cell 1
      have j2 : w.cell? ⟨b, 2, none⟩ = some (.slice none 0 0) := hb0.cell 2
      have j3 : w.cell? ⟨b, 3, none⟩ = some (.slice none 0 0) := hb0.cell 3
      have j4 : w.cell? ⟨b, 4, none⟩ = some (.slice none 0 0) := hb0.cell 4
      unfold Oper.wp
      simpa [go_sem, ev e, ev e2, hf', j0, j1, j2, j3, j4, hlt] using this
    | 10, ho, hd, hp, hK =>
      cases ho
      have hc : done 3 = true := hp 3 (by decide)
      have hb : done 7 = true := hp 7 (by decide)
      obtain ⟨-, f, hf, -⟩ := id hW
      obtain ⟨-, -, d1, d2, d3, d4, f1, f2, f3, f4, e, -⟩ := hf 3 rfl hc
      have hbx2 : BoxV (done 10) (a.eval (.tmp 13)) (a.eval (.tmp 59)) (f 7) w := (hf 7 rfl hb).2.2
      rw [hd] at hbx2
      obtain ⟨b, e2, hib, hbl, -⟩ := hbx2
      have hb0 := hbl rfl
      obtain ⟨h5, hg5⟩ := blk_fiveR hb0 (.int .i64 T.places) (.slice d1 T.ways.length f1) (.slice d2 T.words.length f2) (.slice d3 T.starts.length f3) (.slice d4 T.legs.length f4)
      have := hK undef _ trivial (by
        rw [put_noneR]
        refine hW.write (p := 7) rfl rfl hb hloc (fun j v hne hj hdj hr => by
          rcases m7_cases hj with rfl | rfl | rfl | rfl | rfl | rfl
          · exact hr
          · exact hr
          · exact hr
          · exact hr
          · exact absurd rfl hne
          · exact hr) hg5 (fun v hv => ?_) (fun v hv => ?_)
        · have hv : BoxV (done 10) (a.eval (.tmp 13)) (a.eval (.tmp 59)) v w := hv
          obtain ⟨b', q1, q2, -⟩ := hv
          rw [e2] at q1
          cases q1
          exact q2
        · have hv : BoxV (done 10) (a.eval (.tmp 13)) (a.eval (.tmp 59)) v w := hv
          show BoxV true (a.eval (.tmp 13)) (a.eval (.tmp 59)) v _
          rw [hd, e2, e] at hv
          rw [e2, e]
          exact boxv_put hv h5) fun j _ _ _ _ _ hu => hu.any
      have hlt := hb0.lt
      have hf' : ∀ i, w.frozen? ⟨b, i, none⟩ = false := fun i => hb0.frozen i
      have j0 : w.cell? ⟨b, 0, none⟩ = some (.int .i64 0) := hb0.cell 0
      have j1 : w.cell? ⟨b, 1, none⟩ = some (.slice none 0 0) := hb0.cell 1
      have j2 : w.cell? ⟨b, 2, none⟩ = some (.slice none 0 0) := hb0.cell 2
      have j3 : w.cell? ⟨b, 3, none⟩ = some (.slice none 0 0) := hb0.cell 3
      have j4 : w.cell? ⟨b, 4, none⟩ = some (.slice none 0 0) := hb0.cell 4
      unfold Oper.wp
      simpa [go_sem, ev e, ev e2, hf', j0, j1, j2, j3, j4, hlt] using this
    | 11, ho, hd, hp, hK =>
      cases ho
      have hc : done 5 = true := hp 5 (by decide)
      have hb : done 8 = true := hp 8 (by decide)
      obtain ⟨-, f, hf, -⟩ := id hW
      obtain ⟨-, -, d1, d2, d3, d4, f1, f2, f3, f4, e, -⟩ := hf 5 rfl hc
      have hbx2 : BoxV (done 11) (a.eval (.tmp 14)) (a.eval (.tmp 61)) (f 8) w := (hf 8 rfl hb).2.2
      rw [hd] at hbx2
      obtain ⟨b, e2, hib, hbl, -⟩ := hbx2
      have hb0 := hbl rfl
      obtain ⟨h5, hg5⟩ := blk_fiveR hb0 (.int .i64 T.places) (.slice d1 T.ways.length f1) (.slice d2 T.words.length f2) (.slice d3 T.starts.length f3) (.slice d4 T.legs.length f4)
      have := hK undef _ trivial (by
        rw [put_noneR]
        refine hW.write (p := 8) rfl rfl hb hloc (fun j v hne hj hdj hr => by
          rcases m7_cases hj with rfl | rfl | rfl | rfl | rfl | rfl
          · exact hr
          · exact hr
          · exact hr
          · exact hr
          · exact hr
          · exact absurd rfl hne) hg5 (fun v hv => ?_) (fun v hv => ?_)
        · have hv : BoxV (done 11) (a.eval (.tmp 14)) (a.eval (.tmp 61)) v w := hv
          obtain ⟨b', q1, q2, -⟩ := hv
          rw [e2] at q1
          cases q1
          exact q2
        · have hv : BoxV (done 11) (a.eval (.tmp 14)) (a.eval (.tmp 61)) v w := hv
          show BoxV true (a.eval (.tmp 14)) (a.eval (.tmp 61)) v _
          rw [hd, e2, e] at hv
          rw [e2, e]
          exact boxv_put hv h5) fun j _ _ _ _ _ hu => hu.any
      have hlt := hb0.lt
      have hf' : ∀ i, w.frozen? ⟨b, i, none⟩ = false := fun i => hb0.frozen i
      have j0 : w.cell? ⟨b, 0, none⟩ = some (.int .i64 0) := hb0.cell 0
      have j1 : w.cell? ⟨b, 1, none⟩ = some (.slice none 0 0) := hb0.cell 1
      have j2 : w.cell? ⟨b, 2, none⟩ = some (.slice none 0 0) := hb0.cell 2
      have j3 : w.cell? ⟨b, 3, none⟩ = some (.slice none 0 0) := hb0.cell 3
      have j4 : w.cell? ⟨b, 4, none⟩ = some (.slice none 0 0) := hb0.cell 4
      unfold Oper.wp
      simpa [go_sem, ev e, ev e2, hf', j0, j1, j2, j3, j4, hlt] using this
    | _ + 12, ho, _, _, _ => cases ho
  case fin =>
    intro done a w hall hH
    have hdone : ∀ i, i < 12 → done i = true := fun i hi => hall i (by exact hi)
    have hold : ∀ s : Nat, ch7 s = false → a.eval (.tmp s) = a0.eval (.tmp s) := fun s h => hH.old s fun k ok hk hs => by
      match k, hk with
      | 0, hk => cases hk; cases hs; exact absurd h (by decide)
      | 1, hk => cases hk; cases hs; exact absurd h (by decide)
      | 2, hk => cases hk; cases hs; exact absurd h (by decide)
      | 3, hk => cases hk; cases hs; exact absurd h (by decide)
      | 4, hk => cases hk; cases hs; exact absurd h (by decide)
      | 5, hk => cases hk; cases hs; exact absurd h (by decide)
      | 6, hk => cases hk; cases hs; exact absurd h (by decide)
      | 7, hk => cases hk; cases hs; exact absurd h (by decide)
      | 8, hk => cases hk; cases hs; exact absurd h (by decide)
      | 9, hk => cases hk; cases hs
      | 10, hk => cases hk; cases hs
      | 11, hk => cases hk; cases hs
      | _ + 12, hk => cases hk
    have hW : PartsP X NoneS M7 done (R7 T done a) w := hH.wd
    refine HEX.out a w (hH.size.trans hz) hH.defers hold ?_
    obtain ⟨ha, f, h1, h2⟩ := hW
    refine ⟨ha, f, fun j hj _ => ?_, fun j k hjk hj hk _ _ => h2 j k hjk hj hk (hdone j (by rcases m7_cases hj with rfl | rfl | rfl | rfl | rfl | rfl <;> decide)) (hdone k (by rcases m7_cases hk with rfl | rfl | rfl | rfl | rfl | rfl <;> decide))⟩
    obtain ⟨p1, p2, p3⟩ := h1 j hj (hdone j (by rcases m7_cases hj with rfl | rfl | rfl | rfl | rfl | rfl <;> decide))
    refine ⟨p1, p2, ?_⟩
    rcases m7_cases hj with rfl | rfl | rfl | rfl | rfl | rfl
    · exact p3
    · exact p3
    · exact p3
    · have q : BoxV (done 9) (a.eval (.tmp 12)) (a.eval (.tmp 57)) (f 6) w := p3; rw [hdone 9 (by decide)] at q; exact q
    · have q : BoxV (done 10) (a.eval (.tmp 13)) (a.eval (.tmp 59)) (f 7) w := p3; rw [hdone 10 (by decide)] at q; exact q
    · have q : BoxV (done 11) (a.eval (.tmp 14)) (a.eval (.tmp 61)) (f 8) w := p3; rw [hdone 11 (by decide)] at q; exact q

set_option maxRecDepth 100000 in
set_option maxHeartbeats 2000000 in
theorem region7_mrlit (T : Treaty) (a1 a2 a3 a4 : Option Addr) (c1 c2 c3 c4 : Nat) (D : Nat) (X : World)
    (hT : TRep X T a1 a2 a3 a4) (hbx : Blk X D 27 #[.int .i64 T.places, .slice a1 T.ways.length c1, .slice a2 T.words.length c2, .slice a3 T.starts.length c3, .slice a4 T.legs.length c4]) (hl1 : T.ways.length ≤ 1000) (hl2 : T.words.length ≤ 100) (hl3 : T.starts.length ≤ 1000) (hl4 : T.legs.length ≤ 1000) (hwl : ∀ l ∈ T.words, l.length ≤ 100) (hsm : WSmall T.words)
    (q0 q1 q2 q3 q4 q6 q7 q8 q9 q10 q11 q12 q13 q14 q15 q16 q17 q18 q19 q20 q21 q22 q23 q24 q25 q26 q27 q28 q29 q30 q31 q32 q33 q34 q35 q36 q37 q38 q39 q40 q41 q42 q43 q44 q45 q46 q47 q48 q49 q50 q51 q52 q53 q54 q55 q56 q57 q58 q59 q60 q61 q62 q63 q64 q65 q66 q67 q68 q69 q70 q71 q72 q73 q74 q75 q76 q77 q78 q79 q80 q81 q82 q83 q84 q85 q86 q87 q88 q89 q90 q91 q92 q93 q94 q95 q96 q97 q98 q99 q100 q101 q102 q103 q104 q105 q106 q107 q108 q109 q110 q111 q112 q113 q114 q115 q116 q117 q118 q119 q120 q121 q122 q123 q124 q125 q126 q127 q128 q129 q130 q131 q132 q133 q134 q135 q136 q137 q138 q139 q140 q141 q142 q143 q144 q145 q146 q147 q148 q149 q150 q151 q152 q153 q154 q155 q156 q157 q158 q159 q160 q161 q162 q163 q164 q165 q166 q167 q168 q169 q170 q171 q172 q173 q174 q175 q176 q177 q178 q179 q180 q181 q182 q183 q184 q185 q186 q187 q188 q189 q190 q191 q192 q193 q194 q195 q196 q197 q198 q199 q200 q201 q202 q203 q204 q205 q206 q207 q208 q209 q210 q211 q212 q213 q214 q215 q216 q217 q218 q219 q220 q221 q222 q223 q224 q225 q226 q227 q228 q229 q230 q231 q232 q233 q234 q235 q236 q237 q238 q239 q240 q241 q242 q243 q244 q245 q246 q247 q248 q249 q250 q251 q252 : Value) (Q0 : Exit → Act → World → Prop)
    (hexit : ∀ (u56 u58 u60 : Value) (b1 b2 b3 : Nat) (d1 d2 d3 d4 : Option Addr) (f1 f2 f3 f4 : Nat) (g1 g2 g3 g4 : Option Addr) (h1 h2 h3 h4 : Nat) (j1 j2 j3 j4 : Option Addr) (k1 k2 k3 k4 : Nat) (v1 v2 v3 : Nat × Nat) W', Aft X W' →
      Blk W' b1 27 #[.int .i64 T.places, .slice d1 T.ways.length f1, .slice d2 T.words.length f2, .slice d3 T.starts.length f3, .slice d4 T.legs.length f4] → Blk W' b2 27 #[.int .i64 T.places, .slice g1 T.ways.length h1, .slice g2 T.words.length h2, .slice g3 T.starts.length h3, .slice g4 T.legs.length h4] → Blk W' b3 27 #[.int .i64 T.places, .slice j1 T.ways.length k1, .slice j2 T.words.length k2, .slice j3 T.starts.length k3, .slice j4 T.legs.length k4] → OT (Inr v1) T (.slice d1 T.ways.length f1) (.slice d2 T.words.length f2) (.slice d3 T.starts.length f3) (.slice d4 T.legs.length f4) W' → OT (Inr v2) T (.slice g1 T.ways.length h1) (.slice g2 T.words.length h2) (.slice g3 T.starts.length h3) (.slice g4 T.legs.length h4) W' → OT (Inr v3) T (.slice j1 T.ways.length k1) (.slice j2 T.words.length k2) (.slice j3 T.starts.length k3) (.slice j4 T.legs.length k4) W' →
      (X.heap.size ≤ v1.1 ∧ X.heap.size ≤ v2.1 ∧ X.heap.size ≤ v3.1 ∧ v1.2 ≤ W'.heap.size ∧ v2.2 ≤ W'.heap.size ∧ v3.2 ≤ W'.heap.size) →
      ((v1.2 ≤ v2.1 ∨ v2.2 ≤ v1.1) ∧ (v1.2 ≤ v3.1 ∨ v3.2 ≤ v1.1) ∧ (v2.2 ≤ v3.1 ∨ v3.2 ≤ v2.1)) →
      (∀ b, b = b1 ∨ b = b2 ∨ b = b3 → X.heap.size ≤ b ∧ ¬ Inr v1 b ∧ ¬ Inr v2 b ∧ ¬ Inr v3 b) → (b1 ≠ b2 ∧ b1 ≠ b3 ∧ b2 ≠ b3) → Q0 .normal ⟨(List.toArray (q0 :: q1 :: q2 :: q3 :: q4 :: .pointer (some ⟨D, 0, none⟩) :: q6 :: q7 :: q8 :: q9 :: q10 :: q11 :: .pointer (some ⟨b1, 0, none⟩) :: .pointer (some ⟨b2, 0, none⟩) :: .pointer (some ⟨b3, 0, none⟩) :: q15 :: q16 :: q17 :: q18 :: q19 :: q20 :: q21 :: q22 :: q23 :: q24 :: q25 :: q26 :: q27 :: q28 :: q29 :: q30 :: q31 :: q32 :: q33 :: q34 :: q35 :: q36 :: q37 :: q38 :: q39 :: q40 :: q41 :: q42 :: q43 :: q44 :: q45 :: q46 :: q47 :: q48 :: q49 :: q50 :: q51 :: q52 :: q53 :: q54 :: q55 :: u56 :: .agg #[.int .i64 T.places, .slice d1 T.ways.length f1, .slice d2 T.words.length f2, .slice d3 T.starts.length f3, .slice d4 T.legs.length f4] :: u58 :: .agg #[.int .i64 T.places, .slice g1 T.ways.length h1, .slice g2 T.words.length h2, .slice g3 T.starts.length h3, .slice g4 T.legs.length h4] :: u60 :: .agg #[.int .i64 T.places, .slice j1 T.ways.length k1, .slice j2 T.words.length k2, .slice j3 T.starts.length k3, .slice j4 T.legs.length k4] :: q62 :: q63 :: q64 :: q65 :: q66 :: q67 :: q68 :: q69 :: q70 :: q71 :: q72 :: q73 :: q74 :: q75 :: q76 :: q77 :: q78 :: q79 :: q80 :: q81 :: q82 :: q83 :: q84 :: q85 :: q86 :: q87 :: q88 :: q89 :: q90 :: q91 :: q92 :: q93 :: q94 :: q95 :: q96 :: q97 :: q98 :: q99 :: q100 :: q101 :: q102 :: q103 :: q104 :: q105 :: q106 :: q107 :: q108 :: q109 :: q110 :: q111 :: q112 :: q113 :: q114 :: q115 :: q116 :: q117 :: q118 :: q119 :: q120 :: q121 :: q122 :: q123 :: q124 :: q125 :: q126 :: q127 :: q128 :: q129 :: q130 :: q131 :: q132 :: q133 :: q134 :: q135 :: q136 :: q137 :: q138 :: q139 :: q140 :: q141 :: q142 :: q143 :: q144 :: q145 :: q146 :: q147 :: q148 :: q149 :: q150 :: q151 :: q152 :: q153 :: q154 :: q155 :: q156 :: q157 :: q158 :: q159 :: q160 :: q161 :: q162 :: q163 :: q164 :: q165 :: q166 :: q167 :: q168 :: q169 :: q170 :: q171 :: q172 :: q173 :: q174 :: q175 :: q176 :: q177 :: q178 :: q179 :: q180 :: q181 :: q182 :: q183 :: q184 :: q185 :: q186 :: q187 :: q188 :: q189 :: q190 :: q191 :: q192 :: q193 :: q194 :: q195 :: q196 :: q197 :: q198 :: q199 :: q200 :: q201 :: q202 :: q203 :: q204 :: q205 :: q206 :: q207 :: q208 :: q209 :: q210 :: q211 :: q212 :: q213 :: q214 :: q215 :: q216 :: q217 :: q218 :: q219 :: q220 :: q221 :: q222 :: q223 :: q224 :: q225 :: q226 :: q227 :: q228 :: q229 :: q230 :: q231 :: q232 :: q233 :: q234 :: q235 :: q236 :: q237 :: q238 :: q239 :: q240 :: q241 :: q242 :: q243 :: q244 :: q245 :: q246 :: q247 :: q248 :: q249 :: q250 :: q251 :: q252 :: [])), []⟩ W') :
    Code.wp Tryz.prog (Code.region 7 (opsMr 7).toArray true) Q0 ⟨(List.toArray (q0 :: q1 :: q2 :: q3 :: q4 :: .pointer (some ⟨D, 0, none⟩) :: q6 :: q7 :: q8 :: q9 :: q10 :: q11 :: q12 :: q13 :: q14 :: q15 :: q16 :: q17 :: q18 :: q19 :: q20 :: q21 :: q22 :: q23 :: q24 :: q25 :: q26 :: q27 :: q28 :: q29 :: q30 :: q31 :: q32 :: q33 :: q34 :: q35 :: q36 :: q37 :: q38 :: q39 :: q40 :: q41 :: q42 :: q43 :: q44 :: q45 :: q46 :: q47 :: q48 :: q49 :: q50 :: q51 :: q52 :: q53 :: q54 :: q55 :: q56 :: q57 :: q58 :: q59 :: q60 :: q61 :: q62 :: q63 :: q64 :: q65 :: q66 :: q67 :: q68 :: q69 :: q70 :: q71 :: q72 :: q73 :: q74 :: q75 :: q76 :: q77 :: q78 :: q79 :: q80 :: q81 :: q82 :: q83 :: q84 :: q85 :: q86 :: q87 :: q88 :: q89 :: q90 :: q91 :: q92 :: q93 :: q94 :: q95 :: q96 :: q97 :: q98 :: q99 :: q100 :: q101 :: q102 :: q103 :: q104 :: q105 :: q106 :: q107 :: q108 :: q109 :: q110 :: q111 :: q112 :: q113 :: q114 :: q115 :: q116 :: q117 :: q118 :: q119 :: q120 :: q121 :: q122 :: q123 :: q124 :: q125 :: q126 :: q127 :: q128 :: q129 :: q130 :: q131 :: q132 :: q133 :: q134 :: q135 :: q136 :: q137 :: q138 :: q139 :: q140 :: q141 :: q142 :: q143 :: q144 :: q145 :: q146 :: q147 :: q148 :: q149 :: q150 :: q151 :: q152 :: q153 :: q154 :: q155 :: q156 :: q157 :: q158 :: q159 :: q160 :: q161 :: q162 :: q163 :: q164 :: q165 :: q166 :: q167 :: q168 :: q169 :: q170 :: q171 :: q172 :: q173 :: q174 :: q175 :: q176 :: q177 :: q178 :: q179 :: q180 :: q181 :: q182 :: q183 :: q184 :: q185 :: q186 :: q187 :: q188 :: q189 :: q190 :: q191 :: q192 :: q193 :: q194 :: q195 :: q196 :: q197 :: q198 :: q199 :: q200 :: q201 :: q202 :: q203 :: q204 :: q205 :: q206 :: q207 :: q208 :: q209 :: q210 :: q211 :: q212 :: q213 :: q214 :: q215 :: q216 :: q217 :: q218 :: q219 :: q220 :: q221 :: q222 :: q223 :: q224 :: q225 :: q226 :: q227 :: q228 :: q229 :: q230 :: q231 :: q232 :: q233 :: q234 :: q235 :: q236 :: q237 :: q238 :: q239 :: q240 :: q241 :: q242 :: q243 :: q244 :: q245 :: q246 :: q247 :: q248 :: q249 :: q250 :: q251 :: q252 :: [])), []⟩ X := by
  refine region7_mr T a1 a2 a3 a4 c1 c2 c3 c4 D _ Q0 X rfl rfl hT hbx hl1 hl2 hl3 hl4 hwl hsm ?_
  intro a W' hz hd hs hW
  have ha : Aft X W' := PartsP.aft hW
  obtain ⟨-, f, hf, hdis⟩ := hW
  obtain ⟨p1, p2, d1, d2, d3, d4, f1, f2, f3, f4, e57, o1⟩ := hf 1 rfl rfl
  obtain ⟨p3, p4, g1, g2, g3, g4, h1, h2, h3, h4, e59, o2⟩ := hf 3 rfl rfl
  obtain ⟨p5, p6, j1, j2, j3, j4, k1, k2, k3, k4, e61, o3⟩ := hf 5 rfl rfl
  obtain ⟨p7, p8, b1, e12, i1, -, x1⟩ := hf 6 rfl rfl
  obtain ⟨p9, p10, b2, e13, i2, -, x2⟩ := hf 7 rfl rfl
  obtain ⟨p11, p12, b3, e14, i3, -, x3⟩ := hf 8 rfl rfl
  obtain ⟨cs1, r1, x1⟩ := x1 rfl
  obtain ⟨cs2, r2, x2⟩ := x2 rfl
  obtain ⟨cs3, r3, x3⟩ := x3 rfl
  rw [e57] at r1
  rw [e59] at r2
  rw [e61] at r3
  cases r1
  cases r2
  cases r3
  have e := frame_act 253 a _ hz hd ch7 (fun s hp => hs s hp)
  have e2 : a = ⟨(List.toArray (q0 :: q1 :: q2 :: q3 :: q4 :: .pointer (some ⟨D, 0, none⟩) :: q6 :: q7 :: q8 :: q9 :: q10 :: q11 :: a.eval (.tmp 12) :: a.eval (.tmp 13) :: a.eval (.tmp 14) :: q15 :: q16 :: q17 :: q18 :: q19 :: q20 :: q21 :: q22 :: q23 :: q24 :: q25 :: q26 :: q27 :: q28 :: q29 :: q30 :: q31 :: q32 :: q33 :: q34 :: q35 :: q36 :: q37 :: q38 :: q39 :: q40 :: q41 :: q42 :: q43 :: q44 :: q45 :: q46 :: q47 :: q48 :: q49 :: q50 :: q51 :: q52 :: q53 :: q54 :: q55 :: a.eval (.tmp 56) :: a.eval (.tmp 57) :: a.eval (.tmp 58) :: a.eval (.tmp 59) :: a.eval (.tmp 60) :: a.eval (.tmp 61) :: q62 :: q63 :: q64 :: q65 :: q66 :: q67 :: q68 :: q69 :: q70 :: q71 :: q72 :: q73 :: q74 :: q75 :: q76 :: q77 :: q78 :: q79 :: q80 :: q81 :: q82 :: q83 :: q84 :: q85 :: q86 :: q87 :: q88 :: q89 :: q90 :: q91 :: q92 :: q93 :: q94 :: q95 :: q96 :: q97 :: q98 :: q99 :: q100 :: q101 :: q102 :: q103 :: q104 :: q105 :: q106 :: q107 :: q108 :: q109 :: q110 :: q111 :: q112 :: q113 :: q114 :: q115 :: q116 :: q117 :: q118 :: q119 :: q120 :: q121 :: q122 :: q123 :: q124 :: q125 :: q126 :: q127 :: q128 :: q129 :: q130 :: q131 :: q132 :: q133 :: q134 :: q135 :: q136 :: q137 :: q138 :: q139 :: q140 :: q141 :: q142 :: q143 :: q144 :: q145 :: q146 :: q147 :: q148 :: q149 :: q150 :: q151 :: q152 :: q153 :: q154 :: q155 :: q156 :: q157 :: q158 :: q159 :: q160 :: q161 :: q162 :: q163 :: q164 :: q165 :: q166 :: q167 :: q168 :: q169 :: q170 :: q171 :: q172 :: q173 :: q174 :: q175 :: q176 :: q177 :: q178 :: q179 :: q180 :: q181 :: q182 :: q183 :: q184 :: q185 :: q186 :: q187 :: q188 :: q189 :: q190 :: q191 :: q192 :: q193 :: q194 :: q195 :: q196 :: q197 :: q198 :: q199 :: q200 :: q201 :: q202 :: q203 :: q204 :: q205 :: q206 :: q207 :: q208 :: q209 :: q210 :: q211 :: q212 :: q213 :: q214 :: q215 :: q216 :: q217 :: q218 :: q219 :: q220 :: q221 :: q222 :: q223 :: q224 :: q225 :: q226 :: q227 :: q228 :: q229 :: q230 :: q231 :: q232 :: q233 :: q234 :: q235 :: q236 :: q237 :: q238 :: q239 :: q240 :: q241 :: q242 :: q243 :: q244 :: q245 :: q246 :: q247 :: q248 :: q249 :: q250 :: q251 :: q252 :: [])), []⟩ := e
  have D13 := hdis 1 3 (by decide) rfl rfl rfl rfl
  have D15 := hdis 1 5 (by decide) rfl rfl rfl rfl
  have D35 := hdis 3 5 (by decide) rfl rfl rfl rfl
  have D16 := hdis 1 6 (by decide) rfl rfl rfl rfl
  have D17 := hdis 1 7 (by decide) rfl rfl rfl rfl
  have D18 := hdis 1 8 (by decide) rfl rfl rfl rfl
  have D36 := hdis 3 6 (by decide) rfl rfl rfl rfl
  have D37 := hdis 3 7 (by decide) rfl rfl rfl rfl
  have D38 := hdis 3 8 (by decide) rfl rfl rfl rfl
  have D56 := hdis 5 6 (by decide) rfl rfl rfl rfl
  have D57 := hdis 5 7 (by decide) rfl rfl rfl rfl
  have D58 := hdis 5 8 (by decide) rfl rfl rfl rfl
  have D67 := hdis 6 7 (by decide) rfl rfl rfl rfl
  have D68 := hdis 6 8 (by decide) rfl rfl rfl rfl
  have D78 := hdis 7 8 (by decide) rfl rfl rfl rfl
  have i1 : (f 6).1 ≤ b1 ∧ b1 < (f 6).2 := i1
  have i2 : (f 7).1 ≤ b2 ∧ b2 < (f 7).2 := i2
  have i3 : (f 8).1 ≤ b3 ∧ b3 < (f 8).2 := i3
  have h := hexit (a.eval (.tmp 56)) (a.eval (.tmp 58)) (a.eval (.tmp 60)) b1 b2 b3 d1 d2 d3 d4 f1 f2 f3 f4 g1 g2 g3 g4 h1 h2 h3 h4 j1 j2 j3 j4 k1 k2 k3 k4 (f 1) (f 3) (f 5) W' ha x1 x2 x3 o1 o2 o3 ⟨p1, p3, p5, p2, p4, p6⟩ ⟨D13, D15, D35⟩ (fun b hb => ⟨by rcases hb with h | h | h <;> omega, fun (h : (f 1).1 ≤ b ∧ b < (f 1).2) => by rcases hb with e | e | e <;> omega, fun (h : (f 3).1 ≤ b ∧ b < (f 3).2) => by rcases hb with e | e | e <;> omega, fun (h : (f 5).1 ≤ b ∧ b < (f 5).2) => by rcases hb with e | e | e <;> omega⟩) ⟨by omega, by omega, by omega⟩
  rw [e12, e13, e14, e57, e59, e61] at e2
  rw [← e2] at h
  exact h
end Go.Proofs
end
