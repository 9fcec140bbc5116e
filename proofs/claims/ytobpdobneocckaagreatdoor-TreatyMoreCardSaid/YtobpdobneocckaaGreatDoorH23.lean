/- Own texts, merged: Mrs Mrv. -/
import Derived.Test.YtobpdobneocckaaGreatDoorH22
set_option linter.unusedSimpArgs false
set_option linter.unusedVariables false
section
/- TreatyMore: three treaties that may be written, each in blocks of its own; the steps of the law, each in plain words. -/
namespace Go.Proofs
open Go.RowKit

section
variable {D : Nat → Prop} {e : TypeId} {sz n : Nat} {v v1 v2 v3 v4 : Value} {xs : List Value} {ws : List (List Mean)} {T : Treaty} {w w' X : World} {S : Nat → Prop}
theorem OwnD.same (h : OwnD D e sz v n xs w) (hs : ∀ k, D k → k < w.heap.size → w'.heap[k]? = w.heap[k]?) : OwnD D e sz v n xs w' := by
  refine ⟨⟨h.1.1, ?_⟩, h.2⟩
  rcases h.1.2 with q | ⟨g, cap, cur, e0, hg, hh, rest⟩
  · exact .inl q
  · refine .inr ⟨g, cap, cur, e0, hg, ?_, rest⟩
    rw [hs g (h.2 g (by rw [e0]; rfl)) (h.1.lt g (by rw [e0]; rfl)).2]
    exact hh
theorem OwnD.offG (h : OwnD D e sz v n xs w) (hg : GrownS S w w') (hr : ∀ k, S k → D k → ∀ cs, w.heap[k]? ≠ some (.cells cs e)) : OwnD D e sz v n xs w' := by
  refine ⟨⟨h.1.1, ?_⟩, h.2⟩
  rcases h.1.2 with q | ⟨g, cap, cur, e0, hg', hh, rest⟩
  · exact .inl q
  · refine .inr ⟨g, cap, cur, e0, hg', ?_, rest⟩
    rw [hg.block g (h.1.lt g (by rw [e0]; rfl)).2 (fun hs => hr g hs (h.2 g (by rw [e0]; rfl)) _ hh)]
    exact hh
theorem OWordsX.offG (h : OWordsX D v ws xs w) (hg : GrownS S w w') (hr : ∀ e, e = 68 ∨ e = 67 ∨ e = 3 → ∀ k, S k → D k → ∀ cs, w.heap[k]? ≠ some (.cells cs e)) : OWordsX D v ws xs w' :=
  ⟨h.own.offG hg (hr 68 (by simp)), fun i hi => let ⟨a, h1, ys, h2⟩ := h.at_ i hi; ⟨a, h1, ys, h2.own.offG hg (hr 67 (by simp)), fun k hk => let ⟨p, q, e1, e2, e3, e4⟩ := h2.at_ k hk; ⟨p, q, e1, e2, OwnD.offG e3 hg (hr 3 (by simp)), OwnD.offG e4 hg (hr 3 (by simp))⟩⟩, h.far⟩
theorem OT.same (h : OT D T v1 v2 v3 v4 w) (hs : ∀ k, D k → k < w.heap.size → w'.heap[k]? = w.heap[k]?) : OT D T v1 v2 v3 v4 w' :=
  ⟨h.ways.same hs, let ⟨xs, hw⟩ := h.words; ⟨xs, hw.same hs⟩, OwnD.same h.starts hs, h.legs.same hs⟩
end

theorem flat_set : ∀ (L : List Leg) (i k : Nat) (h : i < L.length), (L.set i ⟨L[i].word, k⟩).flatMap encLeg = (L.flatMap encLeg).set (i * 2 + 1) (.int .i64 k)
  | [], i, _, h => by simp at h
  | x :: r, 0, k, _ => by simp [encLeg]
  | x :: r, i + 1, k, h => by
    have ih := flat_set r i k (by simpa using h)
    simp only [List.set_cons_succ, List.flatMap_cons, List.getElem_cons_succ]
    rw [ih]
    have e : (i + 1) * 2 + 1 = (i * 2 + 1) + 2 := by omega
    rw [e]
    simp [encLeg]

/-- Three treaties, each in blocks of its own and in a box of its own, beside a deck; of what was there in X the deck alone was written. -/
structure MStX (Y : World) (d : Nat) (A : Option Addr) (l : List Int) (c m : Nat) (X : World) (b1 b2 b3 : Nat) (T1 T2 T3 : Treaty) (D1 D2 D3 : Nat → Prop) (p1 p2 p3 p4 q1 q2 q3 q4 r1 r2 r3 r4 : Value) (w : World) : Prop where
  deck : DeckAt Y d A l c m w
  gx : GrownS (OnD d) X w
  dX : d < X.heap.size
  o1 : OT D1 T1 p1 p2 p3 p4 w
  o2 : OT D2 T2 q1 q2 q3 q4 w
  o3 : OT D3 T3 r1 r2 r3 r4 w
  x1 : Blk w b1 27 #[.int .i64 T1.places, p1, p2, p3, p4]
  x2 : Blk w b2 27 #[.int .i64 T2.places, q1, q2, q3, q4]
  x3 : Blk w b3 27 #[.int .i64 T3.places, r1, r2, r3, r4]
  lt1 : ∀ k, D1 k → X.heap.size ≤ k ∧ k < w.heap.size ∧ k ≠ b1 ∧ k ≠ b2 ∧ k ≠ b3
  lt2 : ∀ k, D2 k → X.heap.size ≤ k ∧ k < w.heap.size ∧ k ≠ b1 ∧ k ≠ b2 ∧ k ≠ b3
  lt3 : ∀ k, D3 k → X.heap.size ≤ k ∧ k < w.heap.size ∧ k ≠ b1 ∧ k ≠ b2 ∧ k ≠ b3
  d12 : ∀ k, D1 k → ¬ D2 k
  d13 : ∀ k, D1 k → ¬ D3 k
  d23 : ∀ k, D2 k → ¬ D3 k
  bs : X.heap.size ≤ b1 ∧ X.heap.size ≤ b2 ∧ X.heap.size ≤ b3 ∧ b1 ≠ b2 ∧ b1 ≠ b3 ∧ b2 ≠ b3
def MSt (Y : World) (d : Nat) (A : Option Addr) (l : List Int) (c m : Nat) (X : World) (b1 b2 b3 : Nat) (T1 T2 T3 : Treaty) (w : World) : Prop :=
  ∃ D1 D2 D3 p1 p2 p3 p4 q1 q2 q3 q4 r1 r2 r3 r4, MStX Y d A l c m X b1 b2 b3 T1 T2 T3 D1 D2 D3 p1 p2 p3 p4 q1 q2 q3 q4 r1 r2 r3 r4 w

section
variable {Y : World} {d : Nat} {A : Option Addr} {l : List Int} {c m : Nat} {X : World} {b1 b2 b3 : Nat} {T1 T2 T3 T : Treaty} {D1 D2 D3 : Nat → Prop} {p1 p2 p3 p4 q1 q2 q3 q4 r1 r2 r3 r4 : Value} {w w' : World}
/-- A step that writes the deck alone (or nothing that was there). -/
theorem MStX.step (h : MStX Y d A l c m X b1 b2 b3 T1 T2 T3 D1 D2 D3 p1 p2 p3 p4 q1 q2 q3 q4 r1 r2 r3 r4 w) {m' : Nat} (hg : GrownS (OnD d) w w') (hd : DeckAt Y d A l c m' w') : MStX Y d A l c m' X b1 b2 b3 T1 T2 T3 D1 D2 D3 p1 p2 p3 p4 q1 q2 q3 q4 r1 r2 r3 r4 w' := by
  have hdX := h.dX
  have same : ∀ {D : Nat → Prop}, (∀ k, D k → X.heap.size ≤ k ∧ k < w.heap.size ∧ k ≠ b1 ∧ k ≠ b2 ∧ k ≠ b3) → ∀ k, D k → k < w.heap.size → w'.heap[k]? = w.heap[k]? := fun hl k hk hlt => hg.block k hlt fun e => by have := (hl k hk).1; have e : k = d := e; omega
  have lt : ∀ {D : Nat → Prop}, (∀ k, D k → X.heap.size ≤ k ∧ k < w.heap.size ∧ k ≠ b1 ∧ k ≠ b2 ∧ k ≠ b3) → ∀ k, D k → X.heap.size ≤ k ∧ k < w'.heap.size ∧ k ≠ b1 ∧ k ≠ b2 ∧ k ≠ b3 := fun hl k hk => ⟨(hl k hk).1, Nat.lt_of_lt_of_le (hl k hk).2.1 hg.size, (hl k hk).2.2⟩
  have box : ∀ {b : Nat} {cs : Array Value}, X.heap.size ≤ b → Blk w b 27 cs → Blk w' b 27 cs := fun hb hx => blk_grownS hx hg fun e => by have e : _ = d := e; omega
  exact ⟨hd, h.gx.trans hg, hdX, h.o1.same (same h.lt1), h.o2.same (same h.lt2), h.o3.same (same h.lt3), box h.bs.1 h.x1, box h.bs.2.1 h.x2, box h.bs.2.2.1 h.x3, lt h.lt1, lt h.lt2, lt h.lt3, h.d12, h.d13, h.d23, h.bs⟩
theorem MSt.step (h : MSt Y d A l c m X b1 b2 b3 T1 T2 T3 w) {m' : Nat} (hg : GrownS (OnD d) w w') (hd : DeckAt Y d A l c m' w') : MSt Y d A l c m' X b1 b2 b3 T1 T2 T3 w' := by
  obtain ⟨D1, D2, D3, p1, p2, p3, p4, q1, q2, q3, q4, r1, r2, r3, r4, h⟩ := h
  exact ⟨D1, D2, D3, p1, p2, p3, p4, q1, q2, q3, q4, r1, r2, r3, r4, h.step hg hd⟩

/-- Told has a meaning more. -/
theorem MStX.told {g cap : Nat} (h : MStX Y d A l c m X b1 b2 b3 T1 T2 T3 D1 D2 D3 p1 (.slice (some ⟨g, 0, none⟩) T1.words.length cap) p3 p4 q1 q2 q3 q4 r1 r2 r3 r4 w) {wi P : Nat} (hf : Fin9 Y d A l c m w T1 D1 g cap wi P w') :
    ∃ ks es : List Int, (ks.length ≤ 4 ∧ (∀ x ∈ ks, 0 ≤ x ∧ x < 4) ∧ risesB ks = true) ∧ (es.length ≤ P ∧ (∀ x ∈ es, 0 ≤ x ∧ x < P) ∧ risesB es = true) ∧ MSt Y d A l c (m + 4 + P) X b1 b2 b3 (toldT T1 wi ⟨ks, es⟩) T2 T3 w' := by
  obtain ⟨ks, es, zs, hk, he, hw, hg, hd⟩ := hf
  have hdX := h.dX
  have hb := h.bs
  refine ⟨ks, es, hk, he, fun k => Dom D1 w k ∧ k < w'.heap.size, D2, D3, p1, .slice (some ⟨g, 0, none⟩) T1.words.length cap, p3, p4, q1, q2, q3, q4, r1, r2, r3, r4, hd, ?_, hdX, ?_, ?_, ?_, ?_, ?_, ?_, ?_, ?_, ?_, ?_, ?_, h.d23, hb⟩
  · exact ⟨hg.os.trans h.gx.os, hg.tape.trans h.gx.tape, hg.output.trans h.gx.output, Nat.le_trans h.gx.size hg.size, fun k hk hs => (hg.block k (Nat.lt_of_lt_of_le hk h.gx.size) fun e => by
      rcases e with e | ⟨e, -⟩
      · exact hs e
      · have := (h.lt1 k e).1; omega).trans (h.gx.block k hk hs)⟩
  · have hr : ∀ e, e = 65 ∨ e = 3 ∨ e = 70 → ∀ k, Sw9 d D1 w k → D1 k → ∀ cs, w.heap[k]? ≠ some (.cells cs e) := fun e he k hS h1 cs hc => by
      rcases hS with e' | ⟨-, cs', h6⟩
      · have := (h.lt1 k h1).1; omega
      · rcases h6 with h6 | h6 <;> (rw [hc] at h6; injection h6 with h6; injection h6 with _ h6 _; rcases he with he | he | he <;> (rw [he] at h6; exact absurd h6 (by decide)))
    have up : ∀ k, D1 k → k < w'.heap.size → Dom D1 w k ∧ k < w'.heap.size := fun k h1 h2 => ⟨.inl h1, h2⟩
    refine ⟨(h.o1.ways.offG hg (hr 65 (by simp))).mono up, ⟨zs, ?_⟩, OwnD.mono (OwnD.offG h.o1.starts hg (hr 3 (by simp))) up, (h.o1.legs.offG hg (hr 70 (by simp))).mono up⟩
    have := hw.mono (D' := fun k => Dom D1 w k ∧ k < w'.heap.size) fun k h1 h2 => ⟨h1, h2⟩
    exact this
  · exact h.o2.same fun k h2 hl => hg.block k hl fun e => by
      rcases e with e | ⟨e, -⟩
      · have := (h.lt2 k h2).1; omega
      · exact h.d12 k e h2
  · exact h.o3.same fun k h2 hl => hg.block k hl fun e => by
      rcases e with e | ⟨e, -⟩
      · have := (h.lt3 k h2).1; omega
      · exact h.d13 k e h2
  · exact blk_grownS h.x1 hg fun e => by
      rcases e with e | ⟨e, -⟩
      · omega
      · exact (h.lt1 _ e).2.2.1 rfl
  · exact blk_grownS h.x2 hg fun e => by
      rcases e with e | ⟨e, -⟩
      · omega
      · exact (h.lt1 _ e).2.2.2.1 rfl
  · exact blk_grownS h.x3 hg fun e => by
      rcases e with e | ⟨e, -⟩
      · omega
      · exact (h.lt1 _ e).2.2.2.2 rfl
  · rintro k ⟨h1 | h1, h2⟩
    · exact ⟨(h.lt1 k h1).1, h2, (h.lt1 k h1).2.2⟩
    · have := h.gx.size; have := h.x1.lt; have := h.x2.lt; have := h.x3.lt; exact ⟨by omega, h2, by omega, by omega, by omega⟩
  · exact fun k hk => ⟨(h.lt2 k hk).1, Nat.lt_of_lt_of_le (h.lt2 k hk).2.1 hg.size, (h.lt2 k hk).2.2⟩
  · exact fun k hk => ⟨(h.lt3 k hk).1, Nat.lt_of_lt_of_le (h.lt3 k hk).2.1 hg.size, (h.lt3 k hk).2.2⟩
  · rintro k ⟨h1 | h1, -⟩ h2
    · exact h.d12 k h1 h2
    · have := (h.lt2 k h2).2.1; omega
  · rintro k ⟨h1 | h1, -⟩ h2
    · exact h.d13 k h1 h2
    · have := (h.lt3 k h2).2.1; omega

/-- Wide has a way more. -/
theorem MStX.way (h : MStX Y d A l c m X b1 b2 b3 T1 T2 T3 D1 D2 D3 p1 p2 p3 p4 q1 q2 q3 q4 r1 r2 r3 r4 w) {x y : Nat} (hf : Fin11 Y d A l c m w D2 b2 T2.ways.length x y (.int .i64 T2.places) q2 q3 q4 (T2.ways.flatMap encWay) w') :
    ∃ k : Nat, k < 4 ∧ MSt Y d A l c (m + 1) X b1 b2 b3 T1 { T2 with ways := T2.ways ++ [⟨x, y, k⟩] } T3 w' := by
  obtain ⟨k, v', hk, ho, hbx, hg, hd⟩ := hf
  have hdX := h.dX
  have hb := h.bs
  have hne : ∀ j, D2 j → j < w.heap.size → (∀ cs, w.heap[j]? ≠ some (.cells cs 65)) → w'.heap[j]? = w.heap[j]? := fun j hj hl hc => hg.block j hl fun e => by
    rcases e with e | ⟨-, cs, e⟩ | e
    · have := (h.lt2 j hj).1; omega
    · exact hc cs e
    · exact (h.lt2 j hj).2.2.2.1 e
  refine ⟨k, hk, D1, fun k => Dom D2 w k ∧ k < w'.heap.size, D3, p1, p2, p3, p4, v', q2, q3, q4, r1, r2, r3, r4, hd, ?_, hdX, ?_, ?_, ?_, ?_, hbx, ?_, ?_, ?_, ?_, ?_, h.d13, ?_, hb⟩
  · exact ⟨hg.os.trans h.gx.os, hg.tape.trans h.gx.tape, hg.output.trans h.gx.output, Nat.le_trans h.gx.size hg.size, fun k hk hs => (hg.block k (Nat.lt_of_lt_of_le hk h.gx.size) fun e => by
      rcases e with e | ⟨e, -⟩ | e
      · exact hs e
      · have := (h.lt2 k e).1; omega
      · omega).trans (h.gx.block k hk hs)⟩
  · exact h.o1.same fun k h2 hl => hg.block k hl fun e => by
      rcases e with e | ⟨e, -⟩ | e
      · have := (h.lt1 k h2).1; omega
      · exact h.d12 k h2 e
      · exact (h.lt1 k h2).2.2.2.1 e
  · have up : ∀ k, D2 k → k < w'.heap.size → Dom D2 w k ∧ k < w'.heap.size := fun k h1 h2 => ⟨.inl h1, h2⟩
    have hr : ∀ e, e ≠ 65 → ∀ k, (k = d ∨ (D2 k ∧ ∃ cs, w.heap[k]? = some (.cells cs 65)) ∨ k = b2) → D2 k → ∀ cs, w.heap[k]? ≠ some (.cells cs e) := fun e he k hS h1 cs hc => by
      rcases hS with e' | ⟨-, cs', h6⟩ | e'
      · have := (h.lt2 k h1).1; omega
      · rw [hc] at h6; injection h6 with h6; injection h6 with _ h6 _; exact he h6
      · exact (h.lt2 k h1).2.2.2.1 e'
    obtain ⟨xs, hw⟩ := h.o2.words
    refine ⟨?_, ⟨xs, (hw.offG hg fun e he => hr e (by rcases he with rfl | rfl | rfl <;> decide)).mono up⟩, OwnD.mono (OwnD.offG h.o2.starts hg (hr 3 (by decide))) up, (h.o2.legs.offG hg (hr 70 (by decide))).mono up⟩
    have e : (T2.ways ++ [(⟨x, y, k⟩ : Way)]).flatMap encWay = T2.ways.flatMap encWay ++ [.int .i64 x, .int .i64 y, .int .i64 k] := by simp [encWay]
    show OwnD _ 65 3 v' (T2.ways ++ [(⟨x, y, k⟩ : Way)]).length _ w'
    rw [e, List.length_append]
    exact ho.mono fun k h1 h2 => ⟨h1, h2⟩
  · exact h.o3.same fun k h2 hl => hg.block k hl fun e => by
      rcases e with e | ⟨e, -⟩ | e
      · have := (h.lt3 k h2).1; omega
      · exact h.d23 k e h2
      · exact (h.lt3 k h2).2.2.2.1 e
  · exact blk_grownS h.x1 hg fun e => by
      rcases e with e | ⟨e, -⟩ | e
      · omega
      · exact (h.lt2 _ e).2.2.1 rfl
      · exact hb.2.2.2.1 e
  · exact blk_grownS h.x3 hg fun e => by
      rcases e with e | ⟨e, -⟩ | e
      · omega
      · exact (h.lt2 _ e).2.2.2.2 rfl
      · exact hb.2.2.2.2.2 e.symm
  · exact fun k hk => ⟨(h.lt1 k hk).1, Nat.lt_of_lt_of_le (h.lt1 k hk).2.1 hg.size, (h.lt1 k hk).2.2⟩
  · rintro k ⟨h1 | h1, h2⟩
    · exact ⟨(h.lt2 k h1).1, h2, (h.lt2 k h1).2.2⟩
    · have := h.gx.size; have := h.x1.lt; have := h.x2.lt; have := h.x3.lt; exact ⟨by omega, h2, by omega, by omega, by omega⟩
  · exact fun k hk => ⟨(h.lt3 k hk).1, Nat.lt_of_lt_of_le (h.lt3 k hk).2.1 hg.size, (h.lt3 k hk).2.2⟩
  · rintro k h1 ⟨h2 | h2, -⟩
    · exact h.d12 k h1 h2
    · have := (h.lt1 k h1).2.1; omega
  · rintro k ⟨h1 | h1, -⟩ h2
    · exact h.d23 k h1 h2
    · have := (h.lt3 k h2).2.1; omega

/-- A meaning of wide has a kind and an end more. -/
theorem MStX.mean (h : MStX Y d A l c m X b1 b2 b3 T1 T2 T3 D1 D2 D3 p1 p2 p3 p4 q1 q2 q3 q4 r1 r2 r3 r4 w) {xs : List Value} {i0 k0 : Nat} {x y : Int} (hf : Fin20 w D2 q2 T2.words xs i0 k0 x y w') :
    MSt Y d A l c m X b1 b2 b3 T1 { T2 with words := T2.words.set i0 ((T2.words.getD i0 []).set k0 (joinM x y ((T2.words.getD i0 []).getD k0 ⟨[], []⟩))) } T3 w' := by
  obtain ⟨hw, hg⟩ := hf
  have hdX := h.dX
  have hb := h.bs
  have hS : ∀ k, (D2 k ∧ ∃ cs, w.heap[k]? = some (.cells cs 67)) → D2 k := fun k h => h.1
  refine ⟨D1, fun k => Dom D2 w k ∧ k < w'.heap.size, D3, p1, p2, p3, p4, q1, q2, q3, q4, r1, r2, r3, r4, ?_, ?_, hdX, ?_, ?_, ?_, ?_, ?_, ?_, ?_, ?_, ?_, ?_, h.d13, ?_, hb⟩
  · obtain ⟨a1, a2, a3, qq, ss, a4, a5, a6⟩ := h.deck
    refine ⟨a1, a2, ?_, qq, ss, blk_grownS a4 hg fun e => by have := (h.lt2 _ e.1).1; omega, a5, a6⟩
    refine (Aft.refl Y).grown (row := none) ?_ (fun _ e => by cases e)
    refine ⟨hg.os.trans (only_of_aft a3 none).os, hg.tape.trans (only_of_aft a3 none).tape, hg.output.trans (only_of_aft a3 none).output, Nat.le_trans a3.size hg.size, fun k hk _ => (hg.block k (Nat.lt_of_lt_of_le hk a3.size) fun e => by have := (h.lt2 _ e.1).1; have := h.dX; omega).trans ((only_of_aft a3 none).block k hk (by simp))⟩
  · exact ⟨hg.os.trans h.gx.os, hg.tape.trans h.gx.tape, hg.output.trans h.gx.output, Nat.le_trans h.gx.size hg.size, fun k hk hs => (hg.block k (Nat.lt_of_lt_of_le hk h.gx.size) fun e => by have := (h.lt2 k e.1).1; omega).trans (h.gx.block k hk hs)⟩
  · exact h.o1.same fun k h2 hl => hg.block k hl fun e => h.d12 k h2 e.1
  · have up : ∀ k, D2 k → k < w'.heap.size → Dom D2 w k ∧ k < w'.heap.size := fun k h1 h2 => ⟨.inl h1, h2⟩
    have hr : ∀ e, e ≠ 67 → ∀ k, (D2 k ∧ ∃ cs, w.heap[k]? = some (.cells cs 67)) → D2 k → ∀ cs, w.heap[k]? ≠ some (.cells cs e) := fun e he k hS h1 cs hc => by
      obtain ⟨-, cs', h6⟩ := hS
      rw [hc] at h6; injection h6 with h6; injection h6 with _ h6 _; exact he h6
    refine ⟨(h.o2.ways.offG hg (hr 65 (by decide))).mono up, ⟨xs, hw.mono fun k h1 h2 => ⟨h1, h2⟩⟩, OwnD.mono (OwnD.offG h.o2.starts hg (hr 3 (by decide))) up, (h.o2.legs.offG hg (hr 70 (by decide))).mono up⟩
  · exact h.o3.same fun k h2 hl => hg.block k hl fun e => h.d23 k e.1 h2
  · exact blk_grownS h.x1 hg fun e => (h.lt2 _ e.1).2.2.1 rfl
  · exact blk_grownS h.x2 hg fun e => (h.lt2 _ e.1).2.2.2.1 rfl
  · exact blk_grownS h.x3 hg fun e => (h.lt2 _ e.1).2.2.2.2 rfl
  · exact fun k hk => ⟨(h.lt1 k hk).1, Nat.lt_of_lt_of_le (h.lt1 k hk).2.1 hg.size, (h.lt1 k hk).2.2⟩
  · rintro k ⟨h1 | h1, h2⟩
    · exact ⟨(h.lt2 k h1).1, h2, (h.lt2 k h1).2.2⟩
    · have := h.gx.size; have := h.x1.lt; have := h.x2.lt; have := h.x3.lt; exact ⟨by omega, h2, by omega, by omega, by omega⟩
  · exact fun k hk => ⟨(h.lt3 k hk).1, Nat.lt_of_lt_of_le (h.lt3 k hk).2.1 hg.size, (h.lt3 k hk).2.2⟩
  · rintro k h1 ⟨h2 | h2, -⟩
    · exact h.d12 k h1 h2
    · have := (h.lt1 k h1).2.1; omega
  · rintro k ⟨h1 | h1, -⟩ h2
    · exact h.d23 k h1 h2
    · have := (h.lt3 k h2).2.1; omega

/-- A leg of strict has another other word. -/
theorem MStX.leg {g cap : Nat} (h : MStX Y d A l c m X b1 b2 b3 T1 T2 T3 D1 D2 D3 p1 p2 p3 p4 q1 q2 q3 q4 r1 r2 r3 (.slice (some ⟨g, 0, none⟩) T3.legs.length cap) w) {i0 nW : Nat} (hi : i0 < T3.legs.length) (hf : Fin27 Y d A l c m w D3 g T3.legs.length cap i0 nW (T3.legs.flatMap encLeg) w') :
    ∃ k : Nat, k < nW ∧ MSt Y d A l c (m + 1) X b1 b2 b3 T1 T2 { T3 with legs := T3.legs.set i0 ⟨T3.legs[i0].word, k⟩ } w' := by
  obtain ⟨k, hk, ho, hg, hd⟩ := hf
  have hdX := h.dX
  have hb := h.bs
  refine ⟨k, hk, D1, D2, D3, p1, p2, p3, p4, q1, q2, q3, q4, r1, r2, r3, .slice (some ⟨g, 0, none⟩) T3.legs.length cap, hd, ?_, hdX, ?_, ?_, ?_, ?_, ?_, ?_, ?_, ?_, ?_, h.d12, h.d13, h.d23, hb⟩
  · exact ⟨hg.os.trans h.gx.os, hg.tape.trans h.gx.tape, hg.output.trans h.gx.output, Nat.le_trans h.gx.size hg.size, fun k hk hs => (hg.block k (Nat.lt_of_lt_of_le hk h.gx.size) fun e => by
      rcases e with e | ⟨e, -⟩
      · exact hs e
      · have := (h.lt3 k e).1; omega).trans (h.gx.block k hk hs)⟩
  · exact h.o1.same fun k h2 hl => hg.block k hl fun e => by
      rcases e with e | ⟨e, -⟩
      · have := (h.lt1 k h2).1; omega
      · exact h.d13 k h2 e
  · exact h.o2.same fun k h2 hl => hg.block k hl fun e => by
      rcases e with e | ⟨e, -⟩
      · have := (h.lt2 k h2).1; omega
      · exact h.d23 k h2 e
  · have hr : ∀ e, e ≠ 70 → ∀ k, (k = d ∨ D3 k ∧ ∃ cs, w.heap[k]? = some (.cells cs 70)) → D3 k → ∀ cs, w.heap[k]? ≠ some (.cells cs e) := fun e he k hS h1 cs hc => by
      rcases hS with e' | ⟨-, cs', h6⟩
      · have := (h.lt3 k h1).1; omega
      · rw [hc] at h6; injection h6 with h6; injection h6 with _ h6 _; exact he h6
    obtain ⟨xs, hw⟩ := h.o3.words
    refine ⟨h.o3.ways.offG hg (hr 65 (by decide)), ⟨xs, hw.offG hg fun e he => hr e (by rcases he with rfl | rfl | rfl <;> decide)⟩, OwnD.offG h.o3.starts hg (hr 3 (by decide)), ?_⟩
    show OwnD D3 70 2 _ (T3.legs.set i0 ⟨T3.legs[i0].word, k⟩).length ((T3.legs.set i0 ⟨T3.legs[i0].word, k⟩).flatMap encLeg) w'
    rw [List.length_set, flat_set]
    exact ho
  · exact blk_grownS h.x1 hg fun e => by
      rcases e with e | ⟨e, -⟩
      · omega
      · exact (h.lt3 _ e).2.2.1 rfl
  · exact blk_grownS h.x2 hg fun e => by
      rcases e with e | ⟨e, -⟩
      · omega
      · exact (h.lt3 _ e).2.2.2.1 rfl
  · show Blk w' b3 27 #[_, _, _, _, .slice (some ⟨g, 0, none⟩) T3.legs.length cap]
    exact blk_grownS h.x3 hg fun e => by
      rcases e with e | ⟨e, -⟩
      · omega
      · exact (h.lt3 _ e).2.2.2.2 rfl
  · exact fun k hk => ⟨(h.lt1 k hk).1, Nat.lt_of_lt_of_le (h.lt1 k hk).2.1 hg.size, (h.lt1 k hk).2.2⟩
  · exact fun k hk => ⟨(h.lt2 k hk).1, Nat.lt_of_lt_of_le (h.lt2 k hk).2.1 hg.size, (h.lt2 k hk).2.2⟩
  · exact fun k hk => ⟨(h.lt3 k hk).1, Nat.lt_of_lt_of_le (h.lt3 k hk).2.1 hg.size, (h.lt3 k hk).2.2⟩
end
end Go.Proofs
end

section
/- The law TreatyMore: the treaties on the way (some meanings widened, some legs told), their sizes; the law's end, plain. -/
namespace Go.Proofs
open Go.RowKit

/-- A strictly increasing list of numbers under p. -/
theorem rises_len {p : Nat} {l : List Int} (h : risesB l = true) (hr : ∀ x ∈ l, 0 ≤ x ∧ x < p) : l.length ≤ p :=
  nodup_le ((risesB_iff.1 h).imp fun h => by omega) hr
theorem WOk.small {T : Treaty} (h : WOk T) : WSmall T.words ∧ ∀ l ∈ T.words, ∀ m ∈ l, m.kinds.length ≤ 4 ∧ m.ends.length ≤ 8 := by
  obtain ⟨P, hP⟩ := Int.eq_ofNat_of_zero_le (show 0 ≤ T.places by have := h.p1; omega)
  have hp := h.p2
  have key : ∀ l ∈ T.words, ∀ m ∈ l, m.kinds.length ≤ 4 ∧ m.ends.length ≤ 8 := fun l hl m hm => by
    have h1 := h.kinds l hl m hm
    have h2 := h.ends l hl m hm
    have a := rises_len (p := 4) h1.2 h1.1
    have b := rises_len (p := P) h2.2 fun x hx => by have := h2.1 x hx; omega
    omega
  refine ⟨⟨by have := h.nwords; omega, fun l hl => ⟨by have := h.wlen l hl; omega, fun m hm => by have := key l hl m hm; omega⟩⟩, key⟩

def widen (x y : Int) (k : Nat) (l : List Mean) : List Mean := l.mapIdx fun q m => if q < k then joinM x y m else m
/-- Wide, when the meanings ahead of meaning k of word i have their kind and end. -/
def wideP (T : Treaty) (wy : Way) (x y : Int) (i k : Nat) : Treaty := { T with ways := T.ways ++ [wy], words := T.words.mapIdx fun j l => if j < i then l.map (joinM x y) else if j = i then widen x y k l else l }
theorem widen_get (x y : Int) (k : Nat) (l : List Mean) (n : Nat) : (widen x y k l)[n]? = l[n]?.map fun m => if n < k then joinM x y m else m := by unfold widen; rw [List.getElem?_mapIdx]
theorem wideP_get (T : Treaty) (wy : Way) (x y : Int) (i k n : Nat) : (wideP T wy x y i k).words[n]? = T.words[n]?.map fun l => if n < i then l.map (joinM x y) else if n = i then widen x y k l else l := by unfold wideP; rw [List.getElem?_mapIdx]
theorem wideP_len (T : Treaty) (wy : Way) (x y : Int) (i k : Nat) : (wideP T wy x y i k).words.length = T.words.length := by unfold wideP; simp
theorem widen_len (x y : Int) (k : Nat) (l : List Mean) : (widen x y k l).length = l.length := by unfold widen; simp
theorem get_of {α : Type} {l : List α} {n : Nat} {h : n < l.length} {a : α} (e : l[n]? = some a) : l[n] = a := by
  rw [List.getElem?_eq_getElem h] at e
  exact Option.some.inj e
theorem wideP_at (T : Treaty) (wy : Way) (x y : Int) (i k : Nat) (hi : i < T.words.length) : (wideP T wy x y i k).words[i]'(by rw [wideP_len]; exact hi) = widen x y k T.words[i] :=
  get_of (by rw [wideP_get, List.getElem?_eq_getElem hi]; simp)
theorem widen_at (x y : Int) (k : Nat) (l : List Mean) (hk : k < l.length) : (widen x y k l)[k]'(by rw [widen_len]; exact hk) = l[k] :=
  get_of (by rw [widen_get, List.getElem?_eq_getElem hk]; simp)
theorem widen_zero (x y : Int) (l : List Mean) : widen x y 0 l = l := by
  apply List.ext_getElem?
  intro n
  rw [widen_get]
  cases l[n]? <;> simp
theorem widen_all (x y : Int) (l : List Mean) : widen x y l.length l = l.map (joinM x y) := by
  apply List.ext_getElem?
  intro n
  rw [widen_get, List.getElem?_map]
  by_cases h : n < l.length
  · rw [List.getElem?_eq_getElem h]; simp [h]
  · rw [List.getElem?_eq_none (by omega)]; rfl
theorem widen_step (x y : Int) (k : Nat) (l : List Mean) (hk : k < l.length) : (widen x y k l).set k (joinM x y l[k]) = widen x y (k + 1) l := by
  apply List.ext_getElem?
  intro n
  rw [List.getElem?_set, widen_get, widen_get, widen_len]
  by_cases e : k = n
  · subst e
    rw [if_pos rfl, if_pos hk, List.getElem?_eq_getElem hk]
    simp
  · rw [if_neg e]
    cases l[n]? with
    | none => rfl
    | some m =>
      simp only [Option.map_some]
      by_cases h : n < k
      · rw [if_pos h, if_pos (by omega)]
      · rw [if_neg h, if_neg (by omega)]
theorem treaty_words {T U : Treaty} (h : T.words = U.words) (h1 : T.places = U.places) (h2 : T.ways = U.ways) (h3 : T.starts = U.starts) (h4 : T.legs = U.legs) : T = U := by
  cases T
  cases U
  simp only at h h1 h2 h3 h4
  subst h h1 h2 h3 h4
  rfl
theorem wideP_step (T : Treaty) (wy : Way) (x y : Int) (i k : Nat) (hi : i < T.words.length) (hk : k < T.words[i].length) :
    { wideP T wy x y i k with words := (wideP T wy x y i k).words.set i (((wideP T wy x y i k).words.getD i []).set k (joinM x y (((wideP T wy x y i k).words.getD i []).getD k ⟨[], []⟩))) } = wideP T wy x y i (k + 1) := by
  have e1 : (wideP T wy x y i k).words.getD i [] = widen x y k T.words[i] := by
    rw [List.getD_eq_getElem?_getD, wideP_get, List.getElem?_eq_getElem hi]
    simp
  have e2 : (widen x y k T.words[i]).getD k ⟨[], []⟩ = T.words[i][k] := by
    rw [List.getD_eq_getElem?_getD, widen_get, List.getElem?_eq_getElem hk]
    simp
  rw [e1, e2, widen_step x y k _ hk]
  refine treaty_words ?_ rfl rfl rfl rfl
  show (wideP T wy x y i k).words.set i (widen x y (k + 1) T.words[i]) = (wideP T wy x y i (k + 1)).words
  apply List.ext_getElem?
  intro n
  rw [List.getElem?_set, wideP_get, wideP_get, wideP_len]
  by_cases e : i = n
  · subst e
    rw [if_pos rfl, if_pos hi, List.getElem?_eq_getElem hi]
    simp
  · rw [if_neg e]
    cases T.words[n]? with
    | none => rfl
    | some m =>
      simp only [Option.map_some]
      rw [if_neg (show ¬ n = i from fun h => e h.symm), if_neg (show ¬ n = i from fun h => e h.symm)]
theorem wideP_next (T : Treaty) (wy : Way) (x y : Int) (i : Nat) (hi : i < T.words.length) : wideP T wy x y i T.words[i].length = wideP T wy x y (i + 1) 0 := by
  refine treaty_words ?_ rfl rfl rfl rfl
  apply List.ext_getElem?
  intro n
  rw [wideP_get, wideP_get]
  by_cases e : n = i
  · subst e
    rw [List.getElem?_eq_getElem hi]
    simp [widen_all]
  · cases T.words[n]? with
    | none => rfl
    | some m =>
      simp only [Option.map_some]
      by_cases h : n < i
      · rw [if_pos h, if_pos (by omega)]
      · rw [if_neg h, if_neg e, if_neg (by omega)]
        by_cases e2 : n = i + 1
        · rw [if_pos e2, widen_zero]
        · rw [if_neg e2]
theorem wideP_zero (T : Treaty) (wy : Way) (x y : Int) : wideP T wy x y 0 0 = { T with ways := T.ways ++ [wy] } := by
  refine treaty_words ?_ rfl rfl rfl rfl
  apply List.ext_getElem?
  intro n
  rw [wideP_get]
  show _ = T.words[n]?
  cases T.words[n]? with
  | none => rfl
  | some m =>
    simp only [Option.map_some]
    rw [if_neg (by omega)]
    split
    · rw [widen_zero]
    · rfl
theorem wideP_all (T : Treaty) (wy : Way) (x y : Int) : wideP T wy x y T.words.length 0 = wideT T wy x y := by
  refine treaty_words ?_ rfl rfl rfl rfl
  apply List.ext_getElem?
  intro n
  rw [wideP_get]
  unfold wideT
  rw [List.getElem?_map]
  by_cases h : n < T.words.length
  · rw [List.getElem?_eq_getElem h]; simp [h]
  · rw [List.getElem?_eq_none (by omega)]; rfl

/-- Strict, when the legs ahead of leg i have their other word. -/
def strictP (T : Treaty) (os : List Int) (i : Nat) : Treaty := { T with legs := T.legs.mapIdx fun j l => if j < i ∧ l.other = -1 then ⟨l.word, os.getD j 0⟩ else l }
theorem strictP_get (T : Treaty) (os : List Int) (i n : Nat) : (strictP T os i).legs[n]? = T.legs[n]?.map fun l => if n < i ∧ l.other = -1 then ⟨l.word, os.getD n 0⟩ else l := by unfold strictP; rw [List.getElem?_mapIdx]
theorem strictP_len (T : Treaty) (os : List Int) (i : Nat) : (strictP T os i).legs.length = T.legs.length := by unfold strictP; simp
theorem strictP_at (T : Treaty) (os : List Int) (i : Nat) (hi : i < T.legs.length) : (strictP T os i).legs[i]'(by rw [strictP_len]; exact hi) = T.legs[i] :=
  get_of (by rw [strictP_get, List.getElem?_eq_getElem hi]; simp)
theorem strictP_zero (T : Treaty) (os : List Int) : strictP T os 0 = T := by
  refine treaty_words rfl rfl rfl rfl ?_
  apply List.ext_getElem?
  intro n
  rw [strictP_get]
  cases T.legs[n]? <;> simp
theorem strictP_all (T : Treaty) (os : List Int) : strictP T os T.legs.length = strictT T os := by
  refine treaty_words rfl rfl rfl rfl ?_
  apply List.ext_getElem?
  intro n
  rw [strictP_get]
  unfold strictT
  rw [List.getElem?_mapIdx]
  by_cases h : n < T.legs.length
  · rw [List.getElem?_eq_getElem h]; simp [h]
  · rw [List.getElem?_eq_none (by omega)]; rfl
theorem getD_snoc {os : List Int} {z : Int} {n i : Nat} (ho : os.length = i) (h : n < i) : (os ++ [z]).getD n 0 = os.getD n 0 := by
  rw [List.getD_eq_getElem?_getD, List.getD_eq_getElem?_getD, List.getElem?_append_left (by omega)]
/-- A leg that was told in one language alone. -/
theorem strictP_put (T : Treaty) (os : List Int) (i k : Nat) (ho : os.length = i) (hi : i < T.legs.length) (h1 : T.legs[i].other = -1) :
    { strictP T os i with legs := (strictP T os i).legs.set i ⟨((strictP T os i).legs[i]'(by rw [strictP_len]; exact hi)).word, k⟩ } = strictP T (os ++ [(k : Int)]) (i + 1) := by
  rw [strictP_at T os i hi]
  refine treaty_words rfl rfl rfl rfl ?_
  show (strictP T os i).legs.set i ⟨T.legs[i].word, k⟩ = (strictP T (os ++ [(k : Int)]) (i + 1)).legs
  apply List.ext_getElem?
  intro n
  rw [List.getElem?_set, strictP_get, strictP_get, strictP_len]
  by_cases e : i = n
  · subst e
    rw [if_pos rfl, if_pos hi, List.getElem?_eq_getElem hi]
    have : (os ++ [(k : Int)]).getD i 0 = k := by rw [List.getD_eq_getElem?_getD, ← ho]; simp
    simp only [Option.map_some]
    rw [if_pos ⟨by omega, h1⟩, this]
  · rw [if_neg e]
    cases T.legs[n]? with
    | none => rfl
    | some m =>
      simp only [Option.map_some]
      by_cases h3 : m.other = -1
      · by_cases h : n < i
        · rw [if_pos ⟨h, h3⟩, if_pos ⟨by omega, h3⟩, getD_snoc ho h]
        · rw [if_neg (fun h' => h h'.1), if_neg (fun h' => by have := h'.1; omega)]
      · rw [if_neg (fun h => h3 h.2), if_neg (fun h => h3 h.2)]
/-- A leg that was told in both. -/
theorem strictP_skip (T : Treaty) (os : List Int) (i : Nat) (ho : os.length = i) (hi : i < T.legs.length) (h1 : T.legs[i].other ≠ -1) : strictP T os i = strictP T (os ++ [0]) (i + 1) := by
  refine treaty_words rfl rfl rfl rfl ?_
  apply List.ext_getElem?
  intro n
  rw [strictP_get, strictP_get]
  by_cases e : i = n
  · subst e
    rw [List.getElem?_eq_getElem hi]
    simp [h1]
  · cases T.legs[n]? with
    | none => rfl
    | some m =>
      simp only [Option.map_some]
      by_cases h3 : m.other = -1
      · by_cases h : n < i
        · rw [if_pos ⟨h, h3⟩, if_pos ⟨by omega, h3⟩, getD_snoc ho h]
        · rw [if_neg (fun h' => h h'.1), if_neg (fun h' => by have := h'.1; omega)]
      · rw [if_neg (fun h => h3 h.2), if_neg (fun h => h3 h.2)]

section
variable {Y : World} {d : Nat} {A : Option Addr} {l : List Int} {c m : Nat} {X : World} {b1 b2 b3 : Nat} {T1 T2 T3 T : Treaty} {w w' : World}
theorem MSt.aftY (h : MSt Y d A l c m X b1 b2 b3 T1 T2 T3 w) : Aft Y w := by
  obtain ⟨D1, D2, D3, p1, p2, p3, p4, q1, q2, q3, q4, r1, r2, r3, r4, h⟩ := h
  exact h.deck.2.2.1
theorem MSt.deckAt (h : MSt Y d A l c m X b1 b2 b3 T1 T2 T3 w) : DeckAt Y d A l c m w := by
  obtain ⟨D1, D2, D3, p1, p2, p3, p4, q1, q2, q3, q4, r1, r2, r3, r4, h⟩ := h
  exact h.deck
theorem MSt.grownX (h : MSt Y d A l c m X b1 b2 b3 T1 T2 T3 w) : X.grownBy w (some d) := by
  obtain ⟨D1, D2, D3, p1, p2, p3, p4, q1, q2, q3, q4, r1, r2, r3, r4, h⟩ := h
  exact h.gx.one fun k hk => by have hk : k = d := hk; rw [hk]
theorem mst_init {W : World} {v1 v2 v3 : Nat × Nat} {p1 p2 p3 p4 q1 q2 q3 q4 r1 r2 r3 r4 : Value} (hd : DeckAt Y d A l c m X) (hdX : d < X.heap.size) (ha : Aft X W)
    (x1 : Blk W b1 27 #[.int .i64 T.places, p1, p2, p3, p4]) (x2 : Blk W b2 27 #[.int .i64 T.places, q1, q2, q3, q4]) (x3 : Blk W b3 27 #[.int .i64 T.places, r1, r2, r3, r4])
    (o1 : OT (Inr v1) T p1 p2 p3 p4 W) (o2 : OT (Inr v2) T q1 q2 q3 q4 W) (o3 : OT (Inr v3) T r1 r2 r3 r4 W)
    (hlt : X.heap.size ≤ v1.1 ∧ X.heap.size ≤ v2.1 ∧ X.heap.size ≤ v3.1 ∧ v1.2 ≤ W.heap.size ∧ v2.2 ≤ W.heap.size ∧ v3.2 ≤ W.heap.size)
    (hdis : (v1.2 ≤ v2.1 ∨ v2.2 ≤ v1.1) ∧ (v1.2 ≤ v3.1 ∨ v3.2 ≤ v1.1) ∧ (v2.2 ≤ v3.1 ∨ v3.2 ≤ v2.1))
    (hbs : ∀ b, b = b1 ∨ b = b2 ∨ b = b3 → X.heap.size ≤ b ∧ ¬ Inr v1 b ∧ ¬ Inr v2 b ∧ ¬ Inr v3 b) (hbn : b1 ≠ b2 ∧ b1 ≠ b3 ∧ b2 ≠ b3) : MSt Y d A l c m X b1 b2 b3 T T T W := by
  have e1 := hbs b1 (.inl rfl)
  have e2 := hbs b2 (.inr (.inl rfl))
  have e3 := hbs b3 (.inr (.inr rfl))
  unfold Inr at e1 e2 e3
  refine ⟨Inr v1, Inr v2, Inr v3, p1, p2, p3, p4, q1, q2, q3, q4, r1, r2, r3, r4, hd.aft ha, GrownS.of (only_of_aft ha none) (fun _ e => by cases e), hdX, o1, o2, o3, x1, x2, x3, fun k hk => ?_, fun k hk => ?_, fun k hk => ?_, fun k hk hk' => ?_, fun k hk hk' => ?_, fun k hk hk' => ?_, e1.1, e2.1, e3.1, hbn⟩
  all_goals
    unfold Inr at hk
    try unfold Inr at hk'
    first
      | omega
      | (refine ⟨by omega, by omega, ?_, ?_, ?_⟩ <;> (intro e; subst e; omega))
/-- Where there is an element the list lies in a block. -/
theorem own_block1 {D : Nat → Prop} {e : TypeId} {sz n : Nat} {v : Value} {xs : List Value} (h : OwnD D e sz v n xs w) (hn : 0 < n) : ∃ g cap, v = .slice (some ⟨g, 0, none⟩) n cap := by
  rcases h.1.2 with ⟨-, h0⟩ | ⟨g, cap, cur, e0, -⟩
  · omega
  · exact ⟨g, cap, e0⟩
theorem own_cell {D : Nat → Prop} {e : TypeId} {sz n g cap : Nat} {xs : List Value} (h : OwnD D e sz (.slice (some ⟨g, 0, none⟩) n cap) n xs w) {j : Nat} {u : Value} (hj : xs[j]? = some u) : w.cell? ⟨g, j, none⟩ = some u := by
  have := h.1.cells (g := g) rfl j u hj
  rw [Addr.add_lit, Nat.zero_add] at this
  exact this
theorem flat_other : ∀ (L : List Leg) (i : Nat) (h : i < L.length), (L.flatMap encLeg)[i * 2 + 1]? = some (.int .i64 L[i].other)
  | [], i, h => by simp at h
  | x :: r, 0, _ => by simp [encLeg]
  | x :: r, i + 1, h => by
    have ih := flat_other r i (by simpa using h)
    rw [show (i + 1) * 2 + 1 = (i * 2 + 1) + 2 by omega]
    simpa [encLeg] using ih
theorem flat_ints (L : List Leg) : ∃ os : Nat → Int, ∀ j, (h : j < (L.flatMap encLeg).length) → (L.flatMap encLeg)[j] = .int .i64 (os j) := by
  have : ∀ v ∈ L.flatMap encLeg, ∃ x, v = Value.int .i64 x := fun v hv => by
    obtain ⟨y, -, hy⟩ := List.mem_flatMap.1 hv
    unfold encLeg at hy
    rcases List.mem_cons.1 hy with h | h
    · exact ⟨_, h⟩
    · exact ⟨_, List.mem_singleton.1 h⟩
  refine ⟨fun j => if h : j < (L.flatMap encLeg).length then (this _ (List.getElem_mem h)).choose else 0, fun j h => ?_⟩
  dsimp only
  rw [dif_pos h]
  exact (this _ (List.getElem_mem h)).choose_spec
end

theorem fewestZ_any (w : World) (T : Treaty) (a1 a2 a3 a4 : Option Addr) (c1 c2 c3 c4 : Nat) (hT : TRep w T a1 a2 a3 a4) (hc : checkE T = 0) : Calls Tryz.prog 38 #[.agg #[.int .i64 T.places, .slice a1 T.ways.length c1, .slice a2 T.words.length c2, .slice a3 T.starts.length c3, .slice a4 T.legs.length c4]] w
    fun e w' => (∃ A n c, e = .returned (.tuple #[.slice A n c, .int .i64 (fewN T), .int .i64 0])) ∧ Aft w w' :=
  (fewest_any w T a1 a2 a3 a4 c1 c2 c3 c4 hT).mono fun e w' ⟨ha, h⟩ => by
    rcases h with ⟨h, _⟩ | ⟨_, v, he, ho⟩
    · exact absurd hc h
    · obtain ⟨A, n, c, rfl⟩ := own_slice' ho
      refine ⟨⟨A, n, c, ?_⟩, ha⟩
      rw [he]
      unfold fewN
      rw [if_pos hc]
theorem mod_ne {x P : Nat} (hP : 2 ≤ P) (hx : x < P) : (x + 1) % P < P ∧ (x + 1) % P ≠ x := by
  refine ⟨Nat.mod_lt _ (by omega), ?_⟩
  by_cases h : x + 1 < P
  · rw [Nat.mod_eq_of_lt h]; omega
  · have : x + 1 = P := by omega
    rw [this, Nat.mod_self]; omega
def Box5 (w : World) (b : Nat) (T : Treaty) (a1 a2 a3 a4 : Option Addr) (c1 c2 c3 c4 : Nat) : Prop := Blk w b 27 #[.int .i64 T.places, .slice a1 T.ways.length c1, .slice a2 T.words.length c2, .slice a3 T.starts.length c3, .slice a4 T.legs.length c4]
theorem MSt.three {Y : World} {d : Nat} {A : Option Addr} {l : List Int} {c m : Nat} {X : World} {b1 b2 b3 : Nat} {T1 T2 T3 : Treaty} {w : World} (h : MSt Y d A l c m X b1 b2 b3 T1 T2 T3 w) (w1 : WOk T1) (w2 : WOk T2) (w3 : WOk T3) :
    (∃ a1 a2 a3 a4 c1 c2 c3 c4, Box5 w b1 T1 a1 a2 a3 a4 c1 c2 c3 c4 ∧ TRep w T1 a1 a2 a3 a4) ∧ (∃ a1 a2 a3 a4 c1 c2 c3 c4, Box5 w b2 T2 a1 a2 a3 a4 c1 c2 c3 c4 ∧ TRep w T2 a1 a2 a3 a4) ∧ (∃ a1 a2 a3 a4 c1 c2 c3 c4, Box5 w b3 T3 a1 a2 a3 a4 c1 c2 c3 c4 ∧ TRep w T3 a1 a2 a3 a4) := by
  obtain ⟨D1, D2, D3, p1, p2, p3, p4, q1, q2, q3, q4, r1, r2, r3, r4, h⟩ := h
  have one : ∀ {D : Nat → Prop} {T : Treaty} {v1 v2 v3 v4 : Value} {b : Nat}, OT D T v1 v2 v3 v4 w → WOk T → Blk w b 27 #[.int .i64 T.places, v1, v2, v3, v4] → ∃ a1 a2 a3 a4 c1 c2 c3 c4, Box5 w b T a1 a2 a3 a4 c1 c2 c3 c4 ∧ TRep w T a1 a2 a3 a4 := fun {D T v1 v2 v3 v4 b} o ok hb => by
    obtain ⟨a1, a2, a3, a4, c1, c2, c3, c4, rfl, rfl, rfl, rfl, ht⟩ := o.trep (by have := ok.nways; omega) ok.small.1 (by have := ok.nstarts2; have := ok.p2; omega) (by have := ok.nlegs; omega)
    exact ⟨a1, a2, a3, a4, c1, c2, c3, c4, hb, ht⟩
  exact ⟨one h.o1 w1 h.x1, one h.o2 w2 h.x2, one h.o3 w3 h.x3⟩
theorem among_sub {L1 L2 : List (List Int)} (h : ∀ x ∈ L1, x ∈ L2) : amongB L1 L2 = true := by
  unfold amongB
  rw [List.all_eq_true]
  intro x hx
  rw [List.any_eq_true]
  exact ⟨x, h x hx, eqB_self x⟩
/-- What the law asks of the three. -/
theorem more_plain {T : Treaty} (h : MOk T) {wi : Nat} (hw : wi < T.words.length) {mm : Mean} (hk : (∀ x ∈ mm.kinds, 0 ≤ x ∧ x < 4) ∧ risesB mm.kinds = true) (he : (∀ x ∈ mm.ends, 0 ≤ x ∧ x < T.places) ∧ risesB mm.ends = true)
    {wy : Way} {kd en : Int} (hwy : 0 ≤ wy.a ∧ wy.a < T.places ∧ 0 ≤ wy.b ∧ wy.b < T.places ∧ wy.a ≠ wy.b ∧ 0 ≤ wy.kind ∧ wy.kind < 4) (hkd : 0 ≤ kd ∧ kd < 4) (hen : 0 ≤ en ∧ en < T.places) {os : List Int} (hos : ∀ i, i < T.legs.length → 0 ≤ os.getD i 0 ∧ os.getD i 0 < T.words.length) :
    (WOk (toldT T wi mm) ∧ WOk (wideT T wy kd en) ∧ WOk (strictT T os)) ∧ fewN (toldT T wi mm) ≤ fewN T ∧ fewN (wideT T wy kd en) ≤ fewN T ∧ (allE (toldT T wi mm) = 0 → allE T = 0) ∧ (allE T = 0 → allE (strictT T os) = 0) ∧ (∀ l ∈ allL T, l ∈ allL (toldT T wi mm)) ∧ (∀ l ∈ allL (strictT T os), l ∈ allL T) := by
  have c0 := h.check
  have w1 := told_ok h hw hk he
  have w2 := wide_ok h hwy hkd hen
  have w3 := strict_ok h hos
  have l1 := told_leads h hw w1.check
  have l2 := wide_leads h (wy := wy) (kind := kd) (en := en)
  have l3 := strict_leads h (os := os)
  have s1 := allL_mono c0 w1.check (told_alike T wi mm) l1
  have s3 := allL_mono w3.check c0 (strict_alike T os) l3
  exact ⟨⟨w1, w2, w3⟩, fewN_mono c0 w1.check (told_alike T wi mm) l1, fewN_mono c0 w2.check (wide_alike T wy kd en) l2, allE_mono c0 w1.check s1, allE_mono w3.check c0 s3, s1, s3⟩
end Go.Proofs
end
