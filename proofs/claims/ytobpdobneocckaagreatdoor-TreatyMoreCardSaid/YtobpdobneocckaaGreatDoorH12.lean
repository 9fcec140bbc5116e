/- Own texts, merged: Owt Rgi Prt Agr. -/
import Derived.Test.YtobpdobneocckaaGreatDoorH11
import Derived.Scope
import Derived.LoopIn
import Derived.LoopNIn
set_option linter.unusedSimpArgs false
set_option linter.unusedVariables false
section
/- Words for memory: a treaty of the call's own that may be written: its rows and lists lie apart, by their blocks' types and numbers. -/
namespace Go.Proofs
open Go.RowKit

/-- An own list in a block of D. -/
def OwnD (D : Nat → Prop) (e : TypeId) (sz : Nat) (v : Value) (n : Nat) (xs : List Value) (w : World) : Prop := w.ownsRow 0 e sz v n xs ∧ ∀ k, v.ownBlock = some k → D k
section
variable {D D' : Nat → Prop} {e e' : TypeId} {sz n sz' n' base : Nat} {v u : Value} {xs xs' : List Value} {w w' : World} {row : Option Nat}
theorem OwnD.mono (h : OwnD D e sz v n xs w) (hd : ∀ k, D k → k < w.heap.size → D' k) : OwnD D' e sz v n xs w := ⟨h.1, fun k hk => hd k (h.2 k hk) (h.1.lt k hk).2⟩
theorem OwnD.keep (h : OwnD D e sz v n xs w) (hg : w.grownBy w' row) (hr : ∀ k, row = some k → v.ownBlock ≠ some k) : OwnD D e sz v n xs w' := ⟨own_kept3 h.1 hg hr, h.2⟩
theorem OwnD.aft (h : OwnD D e sz v n xs w) (ha : Aft w w') : OwnD D e sz v n xs w' := ⟨own_aft h.1 ha, h.2⟩
theorem OwnD.off (h : OwnD D e sz v n xs w) (hg : w.grownBy w' row) (hr : ∀ k, row = some k → ∀ cs, w.heap[k]? ≠ some (.cells cs e)) : OwnD D e sz v n xs w' := h.keep hg fun k hk he => let ⟨cs, hc⟩ := own_block h.1 he; hr k hk cs hc
theorem own_off {b : Nat} (h : w.ownsRow b e sz v n xs) (he : e ≠ e') : ∀ k, v.ownBlock = some k → ∀ cs, w.heap[k]? ≠ some (.cells cs e') := fun k hk cs hc => by
  obtain ⟨cs', h'⟩ := own_block h hk
  rw [h'] at hc
  cases hc
  exact he rfl
theorem blk_off {g : Nat} {cs : Array Value} (h : Blk w g e cs) (he : e ≠ e') : ∀ k, some g = some k → ∀ cs, w.heap[k]? ≠ some (.cells cs e') := fun k hk cs hc => by
  cases hk
  have h' : w.heap[g]? = some (.cells _ e (0, 0)) := h
  rw [h'] at hc
  cases hc
  exact he rfl
theorem OwnD.of (h : w.ownsRow base e sz v n xs) (hd : ∀ k, base ≤ k → k < w.heap.size → D k) : OwnD D e sz v n xs w := ⟨World.ownsRow.mono h (Nat.zero_le _), fun k hk => hd k (h.lt k hk).1 (h.lt k hk).2⟩
end

/-- A list of numbers of the call's own. -/
def OInts (D : Nat → Prop) (v : Value) (l : List Int) (w : World) : Prop := OwnD D 3 1 v l.length (l.map (Value.int .i64)) w
/-- A word's row: each meaning's two lists are own, too. -/
structure ORowX (D : Nat → Prop) (v : Value) (ms : List Mean) (ys : List Value) (w : World) : Prop where
  own : OwnD D 67 2 v ms.length ys w
  at_ : ∀ k, (h : k < ms.length) → ∃ a b, ys[k * 2]? = some a ∧ ys[k * 2 + 1]? = some b ∧ OInts D a ms[k].kinds w ∧ OInts D b ms[k].ends w
def ORow (D : Nat → Prop) (v : Value) (ms : List Mean) (w : World) : Prop := ∃ ys, ORowX D v ms ys w
/-- A list of words, the rows of which lie in blocks apart. -/
structure OWordsX (D : Nat → Prop) (v : Value) (ws : List (List Mean)) (xs : List Value) (w : World) : Prop where
  own : OwnD D 68 1 v ws.length xs w
  at_ : ∀ i, (h : i < ws.length) → ∃ a, xs[i]? = some a ∧ ORow D a ws[i] w
  far : ∀ (i j : Nat) (a b : Value) (g : Nat), i ≠ j → xs[i]? = some a → xs[j]? = some b → a.ownBlock = some g → b.ownBlock ≠ some g
structure OT (D : Nat → Prop) (T : Treaty) (v1 v2 v3 v4 : Value) (w : World) : Prop where
  ways : OwnD D 65 3 v1 T.ways.length (T.ways.flatMap encWay) w
  words : ∃ xs, OWordsX D v2 T.words xs w
  starts : OInts D v3 T.starts w
  legs : OwnD D 70 2 v4 T.legs.length (T.legs.flatMap encLeg) w
section
variable {D D' : Nat → Prop} {v v' a b u : Value} {l : List Int} {m : Mean} {ms ms' : List Mean} {ws : List (List Mean)} {xs ys ys' : List Value} {w w' : World} {row : Option Nat} {T : Treaty} {v1 v2 v3 v4 : Value}
theorem OInts.aft (h : OInts D v l w) (ha : Aft w w') : OInts D v l w' := OwnD.aft h ha
theorem OInts.mono (h : OInts D v l w) (hd : ∀ k, D k → k < w.heap.size → D' k) : OInts D' v l w := OwnD.mono h hd
theorem ORowX.mono (h : ORowX D v ms ys w) (hd : ∀ k, D k → k < w.heap.size → D' k) : ORowX D' v ms ys w :=
  ⟨h.own.mono hd, fun k hk => let ⟨a, b, h1, h2, h3, h4⟩ := h.at_ k hk; ⟨a, b, h1, h2, h3.mono hd, h4.mono hd⟩⟩
theorem ORow.mono (h : ORow D v ms w) (hd : ∀ k, D k → k < w.heap.size → D' k) : ORow D' v ms w := let ⟨ys, h⟩ := h; ⟨ys, h.mono hd⟩
theorem OWordsX.mono (h : OWordsX D v ws xs w) (hd : ∀ k, D k → k < w.heap.size → D' k) : OWordsX D' v ws xs w :=
  ⟨h.own.mono hd, fun i hi => let ⟨a, h1, h2⟩ := h.at_ i hi; ⟨a, h1, h2.mono hd⟩, h.far⟩
theorem OT.mono (h : OT D T v1 v2 v3 v4 w) (hd : ∀ k, D k → k < w.heap.size → D' k) : OT D' T v1 v2 v3 v4 w :=
  ⟨h.ways.mono hd, let ⟨xs, hw⟩ := h.words; ⟨xs, hw.mono hd⟩, h.starts.mono hd, h.legs.mono hd⟩
theorem ORowX.aft (h : ORowX D v ms ys w) (ha : Aft w w') : ORowX D v ms ys w' :=
  ⟨h.own.aft ha, fun k hk => let ⟨a, b, h1, h2, h3, h4⟩ := h.at_ k hk; ⟨a, b, h1, h2, h3.aft ha, h4.aft ha⟩⟩
theorem ORow.aft (h : ORow D v ms w) (ha : Aft w w') : ORow D v ms w' := let ⟨ys, h⟩ := h; ⟨ys, h.aft ha⟩
theorem OWordsX.aft (h : OWordsX D v ws xs w) (ha : Aft w w') : OWordsX D v ws xs w' :=
  ⟨h.own.aft ha, fun i hi => let ⟨a, h1, h2⟩ := h.at_ i hi; ⟨a, h1, h2.aft ha⟩, h.far⟩
/-- A row stays while a block is written that is neither its own nor a list of numbers. -/
theorem ORowX.keep (h : ORowX D v ms ys w) (hg : w.grownBy w' row) (hr : ∀ k, row = some k → v.ownBlock ≠ some k) (h3 : ∀ k, row = some k → ∀ cs, w.heap[k]? ≠ some (.cells cs 3)) : ORowX D v ms ys w' :=
  ⟨h.own.keep hg hr, fun k hk => let ⟨a, b, e1, e2, e3, e4⟩ := h.at_ k hk; ⟨a, b, e1, e2, OwnD.off e3 hg h3, OwnD.off e4 hg h3⟩⟩
theorem ORow.keep (h : ORow D v ms w) (hg : w.grownBy w' row) (hr : ∀ k, row = some k → v.ownBlock ≠ some k) (h3 : ∀ k, row = some k → ∀ cs, w.heap[k]? ≠ some (.cells cs 3)) : ORow D v ms w' := let ⟨ys, h⟩ := h; ⟨ys, h.keep hg hr h3⟩
theorem ORow.off (h : ORow D v ms w) (hg : w.grownBy w' row) (h67 : ∀ k, row = some k → ∀ cs, w.heap[k]? ≠ some (.cells cs 67)) (h3 : ∀ k, row = some k → ∀ cs, w.heap[k]? ≠ some (.cells cs 3)) : ORow D v ms w' := by
  obtain ⟨ys, h⟩ := h
  exact ⟨ys, h.keep hg (fun k hk e => let ⟨cs, hc⟩ := own_block h.own.1 e; h67 k hk cs hc) h3⟩
theorem OWordsX.off (h : OWordsX D v ws xs w) (hg : w.grownBy w' row) (h68 : ∀ k, row = some k → ∀ cs, w.heap[k]? ≠ some (.cells cs 68)) (h67 : ∀ k, row = some k → ∀ cs, w.heap[k]? ≠ some (.cells cs 67)) (h3 : ∀ k, row = some k → ∀ cs, w.heap[k]? ≠ some (.cells cs 3)) : OWordsX D v ws xs w' :=
  ⟨h.own.off hg h68, fun i hi => let ⟨a, h1, h2⟩ := h.at_ i hi; ⟨a, h1, h2.off hg h67 h3⟩, h.far⟩
/-- .. by the blocks' types. -/
theorem OT.off (h : OT D T v1 v2 v3 v4 w) (hg : w.grownBy w' row) (ho : ∀ e, e = 65 ∨ e = 68 ∨ e = 67 ∨ e = 3 ∨ e = 70 → ∀ k, row = some k → ∀ cs, w.heap[k]? ≠ some (.cells cs e)) : OT D T v1 v2 v3 v4 w' :=
  ⟨h.ways.off hg (ho 65 (by simp)), let ⟨xs, hw⟩ := h.words; ⟨xs, hw.off hg (ho 68 (by simp)) (ho 67 (by simp)) (ho 3 (by simp))⟩, OwnD.off h.starts hg (ho 3 (by simp)), h.legs.off hg (ho 70 (by simp))⟩
theorem OT.box (h : OT D T v1 v2 v3 v4 w) {g : Nat} {cs : Array Value} {t : TypeId} (hb : Blk w g t cs) (ht : t ≠ 65 ∧ t ≠ 68 ∧ t ≠ 67 ∧ t ≠ 3 ∧ t ≠ 70) (hg : w.grownBy w' (some g)) : OT D T v1 v2 v3 v4 w' :=
  h.off hg fun e he => blk_off hb (fun e' => by subst e'; rcases he with h | h | h | h | h; exact ht.1 h; exact ht.2.1 h; exact ht.2.2.1 h; exact ht.2.2.2.1 h; exact ht.2.2.2.2 h)

theorem ORowX.len (h : ORowX D v ms ys w) : ys.length = ms.length * 2 := h.own.1.1
theorem OWordsX.len (h : OWordsX D v ws xs w) : xs.length = ws.length := by have := h.own.1.1; omega
theorem ORowX.nil (D : Nat → Prop) (w : World) : ORowX D (.slice none 0 0) [] [] w := ⟨⟨World.ownsRow_nil _ _ _ _, fun k hk => by cases hk⟩, fun k h => by simp at h⟩
theorem OWordsX.nil (D : Nat → Prop) (w : World) : OWordsX D (.slice none 0 0) [] [] w := ⟨⟨World.ownsRow_nil _ _ _ _, fun k hk => by cases hk⟩, fun k h => by simp at h, fun i j a b g _ h => by simp at h⟩
/-- One meaning more. -/
theorem ORowX.push (h : ORowX D v ms ys w) (ha : OInts D a m.kinds w) (hb : OInts D b m.ends w) (hown : w'.ownsRow 0 67 2 v' (ms.length + 1) (ys ++ [a, b])) (hg : w.grownBy w' v.ownBlock) (hD : ∀ k, v'.ownBlock = some k → D k) : ORowX D v' (ms ++ [m]) (ys ++ [a, b]) w' := by
  have h3 := own_off (e' := 3) h.own.1 (by decide)
  have hl := h.len
  refine ⟨⟨by simpa using hown, hD⟩, fun k hk => ?_⟩
  by_cases hlt : k < ms.length
  · obtain ⟨p, q, e1, e2, e3, e4⟩ := h.at_ k hlt
    rw [List.getElem_append_left hlt]
    exact ⟨p, q, by rw [List.getElem?_append_left (by omega)]; exact e1, by rw [List.getElem?_append_left (by omega)]; exact e2, OwnD.off e3 hg h3, OwnD.off e4 hg h3⟩
  · have e : k = ms.length := by simp at hk; omega
    subst e
    rw [List.getElem_append_right (Nat.le_refl _)]
    simp only [Nat.sub_self, List.getElem_cons_zero]
    refine ⟨a, b, ?_, ?_, OwnD.off ha hg h3, OwnD.off hb hg h3⟩
    · rw [List.getElem?_append_right (by omega), hl, Nat.sub_self]; rfl
    · rw [List.getElem?_append_right (by omega), hl, show ms.length * 2 + 1 - ms.length * 2 = 1 by omega]; rfl
/-- One word more. -/
theorem OWordsX.push (h : OWordsX D v ws xs w) (ha : ORow D a ms w) (hf : ∀ (i : Nat) (b : Value) (g : Nat), xs[i]? = some b → b.ownBlock = some g → a.ownBlock ≠ some g) (hown : w'.ownsRow 0 68 1 v' (ws.length + 1) (xs ++ [a])) (hg : w.grownBy w' v.ownBlock) (hD : ∀ k, v'.ownBlock = some k → D k) : OWordsX D v' (ws ++ [ms]) (xs ++ [a]) w' := by
  have h3 := own_off (e' := 3) h.own.1 (by decide)
  have h67 := own_off (e' := 67) h.own.1 (by decide)
  have hl := h.len
  have hlast : ∀ (j : Nat) (b : Value), (xs ++ [a])[j]? = some b → xs[j]? = some b ∨ j = xs.length ∧ b = a := fun j b hj => by
    by_cases hlt : j < xs.length
    · left; rw [List.getElem?_append_left hlt] at hj; exact hj
    · rw [List.getElem?_append_right (by omega)] at hj
      by_cases h0 : j - xs.length = 0
      · rw [h0] at hj; right; exact ⟨by omega, by cases hj; rfl⟩
      · rw [List.getElem?_eq_none (by simp; omega)] at hj; cases hj
  refine ⟨⟨by simpa using hown, hD⟩, fun i hi => ?_, fun i j p q g hij hp hq hpg => ?_⟩
  · by_cases hlt : i < ws.length
    · obtain ⟨p, e1, e2⟩ := h.at_ i hlt
      rw [List.getElem_append_left hlt]
      exact ⟨p, by rw [List.getElem?_append_left (by omega)]; exact e1, e2.off hg h67 h3⟩
    · have e : i = ws.length := by simp at hi; omega
      subst e
      rw [List.getElem_append_right (Nat.le_refl _)]
      simp only [Nat.sub_self, List.getElem_cons_zero]
      exact ⟨a, by rw [List.getElem?_append_right (by omega), hl, Nat.sub_self]; rfl, ha.off hg h67 h3⟩
  · rcases hlast i p hp with hp' | ⟨e1, e1'⟩
    · rcases hlast j q hq with hq' | ⟨e2, e2'⟩
      · exact h.far i j p q g hij hp' hq' hpg
      · rw [e2']; exact hf i p g hp' hpg
    · rw [e1'] at hpg
      rcases hlast j q hq with hq' | ⟨e2, e2'⟩
      · intro e; exact hf j q g hq' e hpg
      · omega
theorem ints_of (h : OInts D v l w) (hl : l.length ≤ 1000) : ∃ A c, v = .slice A l.length c ∧ Ints w A l := by
  obtain ⟨A, c, e, -, hi⟩ := own_ints h.1 (by omega)
  exact ⟨A, c, e, hi⟩
theorem rowsP_of {α : Type} {R : World → α → List Value → Prop} {e : TypeId} {sz : Nat} {q : List α} (h : w.ownsRow 0 e sz v q.length xs) (hl : q.length * sz ≤ 17592186043904) (hr : ∀ i, (hi : i < q.length) → R w q[i] ((xs.drop (i * sz)).take sz)) : ∃ A c, v = .slice A q.length c ∧ RowsP w A sz R q := by
  rcases h.2 with ⟨e0, h0⟩ | ⟨g, cap, cur, e0, hg, hh, hc, hm, hs', ht⟩
  · have : q = [] := List.eq_nil_of_length_eq_zero h0
    subst this
    exact ⟨none, 0, e0, .nil⟩
  · refine ⟨some ⟨g, 0, none⟩, cap, e0, hl, .inr ⟨g, 0, rfl, (Array.getElem?_eq_some_iff.1 hh).1, fun i hi => ⟨_, ?_, hr i hi, fun j hj => ?_⟩⟩⟩
    · have hlt : (i + 1) * sz ≤ q.length * sz := Nat.mul_le_mul_right _ hi
      rw [Nat.succ_mul] at hlt
      rw [List.length_take, List.length_drop, h.1]; omega
    · have hx : xs[i * sz + j]? = some ((xs.drop (i * sz)).take sz)[j] := by
        rw [List.getElem_take, List.getElem_drop, List.getElem?_eq_getElem]
      have := h.cells (g := g) (by rw [e0]; rfl) (i * sz + j) _ hx
      rw [Addr.add_lit] at this
      simpa [Nat.add_assoc] using this
theorem take2 {ys : List Value} {k : Nat} (h1 : ys[k * 2]? = some a) (h2 : ys[k * 2 + 1]? = some b) : (ys.drop (k * 2)).take 2 = [a, b] := by
  obtain ⟨p1, e1⟩ := List.getElem?_eq_some_iff.1 h1
  obtain ⟨p2, e2⟩ := List.getElem?_eq_some_iff.1 h2
  rw [List.drop_eq_getElem_cons p1, List.drop_eq_getElem_cons p2, e1, e2]
  rfl
theorem take1 {ys : List Value} {k : Nat} (h1 : ys[k]? = some a) : (ys.drop (k * 1)).take 1 = [a] := by
  obtain ⟨p1, e1⟩ := List.getElem?_eq_some_iff.1 h1
  rw [Nat.mul_one, List.drop_eq_getElem_cons p1, e1]
  rfl
def MSmall (ms : List Mean) : Prop := ms.length ≤ 1000 ∧ ∀ m ∈ ms, m.kinds.length ≤ 1000 ∧ m.ends.length ≤ 1000
theorem ORow.rows (h : ORow D v ms w) (hs : MSmall ms) : ∃ A c, v = .slice A ms.length c ∧ RowsP w A 2 MeanR ms := by
  obtain ⟨ys, h⟩ := h
  refine rowsP_of h.own.1 (by have := hs.1; omega) fun k hk => ?_
  obtain ⟨p, q, e1, e2, e3, e4⟩ := h.at_ k hk
  rw [take2 e1 e2]
  have hm := hs.2 _ (List.getElem_mem hk)
  obtain ⟨A1, c1, rfl, i1⟩ := ints_of e3 hm.1
  obtain ⟨A2, c2, rfl, i2⟩ := ints_of e4 hm.2
  exact ⟨A1, c1, A2, c2, rfl, i1, i2⟩
def WSmall (ws : List (List Mean)) : Prop := ws.length ≤ 1000 ∧ ∀ ms ∈ ws, MSmall ms
theorem OWordsX.rows (h : OWordsX D v ws xs w) (hs : WSmall ws) : ∃ A c, v = .slice A ws.length c ∧ RowsP w A 1 WordR ws := by
  refine rowsP_of h.own.1 (by have := hs.1; omega) fun k hk => ?_
  obtain ⟨p, e1, e2⟩ := h.at_ k hk
  rw [take1 e1]
  obtain ⟨A1, c1, rfl, i1⟩ := e2.rows (hs.2 _ (List.getElem_mem hk))
  exact ⟨A1, c1, rfl, i1⟩
/-- What the program reads of it. -/
theorem OT.trep (h : OT D T v1 v2 v3 v4 w) (h1 : T.ways.length ≤ 1000) (h2 : WSmall T.words) (h3 : T.starts.length ≤ 1000) (h4 : T.legs.length ≤ 1000) :
    ∃ a1 a2 a3 a4 c1 c2 c3 c4, v1 = .slice a1 T.ways.length c1 ∧ v2 = .slice a2 T.words.length c2 ∧ v3 = .slice a3 T.starts.length c3 ∧ v4 = .slice a4 T.legs.length c4 ∧ TRep w T a1 a2 a3 a4 := by
  obtain ⟨xs, hw⟩ := h.words
  obtain ⟨a2, c2, e2, r2⟩ := hw.rows h2
  obtain ⟨a3, c3, e3, r3⟩ := ints_of h.starts h3
  obtain ⟨a1, c1, e1, -, r1⟩ := own_rows (R := WayR) (fun _ _ => rfl) (fun _ => rfl) (by decide) h.ways.1 (by omega)
  obtain ⟨a4, c4, e4, -, r4⟩ := own_rows (R := LegR) (fun _ _ => rfl) (fun _ => rfl) (by decide) h.legs.1 (by omega)
  exact ⟨a1, a2, a3, a4, c1, c2, c3, c4, e1, e2, e3, e4, r1, r2, r3, r4⟩
/-- A meaning's list is another one. -/
theorem ORowX.setK {g cap k : Nat} (h : ORowX D (.slice (some ⟨g, 0, none⟩) ms.length cap) ms ys w) (hk : k < ms.length) (hu : OInts D u l w) :
    ORowX D (.slice (some ⟨g, 0, none⟩) ms.length cap) (ms.set k ⟨l, ms[k].ends⟩) (ys.set (k * 2) u) (w.setCell ⟨g, k * 2, none⟩ u) ∧ w.grownBy (w.setCell ⟨g, k * 2, none⟩ u) (some g) := by
  obtain ⟨h1, h2⟩ := h.own.1.stored (k * 2) u
  have h3 := own_off (e' := 3) h.own.1 (by decide)
  have hl := h.len
  refine ⟨⟨⟨by rw [List.length_set]; exact h1, h.own.2⟩, fun i hi => ?_⟩, h2⟩
  rw [List.length_set] at hi
  obtain ⟨p, q, e1, e2, e3, e4⟩ := h.at_ i hi
  rw [List.getElem_set]
  by_cases hik : k = i
  · subst hik
    rw [if_pos rfl]
    exact ⟨u, q, by rw [List.getElem?_set_self (by omega)], by rw [List.getElem?_set_ne (by omega)]; exact e2, OwnD.off hu h2 h3, OwnD.off e4 h2 h3⟩
  · rw [if_neg hik]
    exact ⟨p, q, by rw [List.getElem?_set_ne (by omega)]; exact e1, by rw [List.getElem?_set_ne (by omega)]; exact e2, OwnD.off e3 h2 h3, OwnD.off e4 h2 h3⟩
theorem ORowX.setE {g cap k : Nat} (h : ORowX D (.slice (some ⟨g, 0, none⟩) ms.length cap) ms ys w) (hk : k < ms.length) (hu : OInts D u l w) :
    ORowX D (.slice (some ⟨g, 0, none⟩) ms.length cap) (ms.set k ⟨ms[k].kinds, l⟩) (ys.set (k * 2 + 1) u) (w.setCell ⟨g, k * 2 + 1, none⟩ u) ∧ w.grownBy (w.setCell ⟨g, k * 2 + 1, none⟩ u) (some g) := by
  obtain ⟨h1, h2⟩ := h.own.1.stored (k * 2 + 1) u
  have h3 := own_off (e' := 3) h.own.1 (by decide)
  have hl := h.len
  refine ⟨⟨⟨by rw [List.length_set]; exact h1, h.own.2⟩, fun i hi => ?_⟩, h2⟩
  rw [List.length_set] at hi
  obtain ⟨p, q, e1, e2, e3, e4⟩ := h.at_ i hi
  rw [List.getElem_set]
  by_cases hik : k = i
  · subst hik
    rw [if_pos rfl]
    exact ⟨p, u, by rw [List.getElem?_set_ne (by omega)]; exact e1, by rw [List.getElem?_set_self (by omega)], OwnD.off e3 h2 h3, OwnD.off hu h2 h3⟩
  · rw [if_neg hik]
    exact ⟨p, q, by rw [List.getElem?_set_ne (by omega)]; exact e1, by rw [List.getElem?_set_ne (by omega)]; exact e2, OwnD.off e3 h2 h3, OwnD.off e4 h2 h3⟩
/-- A row is written where it lies. -/
theorem OWordsX.inRow {i : Nat} (h : OWordsX D v ws xs w) (hi : i < ws.length) (ha : xs[i]? = some a) {n : Nat} (hal : w.ownsRow 0 67 2 a n ys') (hg : w.grownBy w' a.ownBlock) (hr : ORow D a ms w') : OWordsX D v (ws.set i ms) xs w' := by
  have h68 := own_off (e' := 68) hal (by decide)
  have h3 := own_off (e' := 3) hal (by decide)
  refine ⟨by rw [List.length_set]; exact h.own.off hg h68, fun j hj => ?_, h.far⟩
  rw [List.length_set] at hj
  obtain ⟨p, e1, e2⟩ := h.at_ j hj
  rw [List.getElem_set]
  by_cases hij : i = j
  · subst hij
    rw [if_pos rfl]
    exact ⟨a, ha, hr⟩
  · rw [if_neg hij]
    exact ⟨p, e1, e2.keep hg (fun k hk => h.far i j a p k hij ha e1 hk) h3⟩
/-- A row has grown, and its header is stored. -/
theorem OWordsX.app {i g cap : Nat} (h : OWordsX D (.slice (some ⟨g, 0, none⟩) ws.length cap) ws xs w) (hi : i < ws.length) (ha : xs[i]? = some a) (hra : ORowX D a ws[i] ys w) (hm : OInts D u m.kinds w) (hm2 : OInts D b m.ends w)
    (hown : w'.ownsRow 0 67 2 v' (ws[i].length + 1) (ys ++ [u, b])) (hg : w.grownBy w' a.ownBlock) (hat : v'.ownBlock = a.ownBlock ∨ v'.ownBlock = some w.heap.size) (hD : ∀ k, v'.ownBlock = some k → D k) :
    OWordsX D (.slice (some ⟨g, 0, none⟩) ws.length cap) (ws.set i (ws[i] ++ [m])) (xs.set i v') (w'.setCell ⟨g, i, none⟩ v') ∧ w'.grownBy (w'.setCell ⟨g, i, none⟩ v') (some g) := by
  have h68 := own_off (e' := 68) hra.own.1 (by decide)
  have h3 := own_off (e' := 3) hra.own.1 (by decide)
  have ho := h.own.off hg h68
  obtain ⟨s1, s2⟩ := ho.1.stored i v'
  have g3 := own_off (e' := 3) ho.1 (by decide)
  have g67 := own_off (e' := 67) ho.1 (by decide)
  have hl := h.len
  have hnew := hra.push hm hm2 hown hg hD
  refine ⟨⟨⟨by rw [List.length_set]; exact s1, h.own.2⟩, fun j hj => ?_, fun j k p q x hjk hp hq hpx => ?_⟩, s2⟩
  · rw [List.length_set] at hj
    obtain ⟨p, e1, e2⟩ := h.at_ j hj
    rw [List.getElem_set]
    by_cases hij : i = j
    · subst hij
      rw [if_pos rfl]
      exact ⟨v', by rw [List.getElem?_set_self (by omega)], ORow.off ⟨_, hnew⟩ s2 g67 g3⟩
    · rw [if_neg hij]
      exact ⟨p, by rw [List.getElem?_set_ne hij]; exact e1, (e2.keep hg (fun k hk => h.far i j a p k hij ha e1 hk) h3).off s2 g67 g3⟩
  · have hlt : ∀ (j : Nat) (p : Value), xs[j]? = some p → j < ws.length := fun j p hp => by rw [← hl]; exact (List.getElem?_eq_some_iff.1 hp).1
    have hold : ∀ (j : Nat) (p : Value) (y : Nat), xs[j]? = some p → p.ownBlock = some y → y < w.heap.size := fun j p y hp hy => by
      obtain ⟨p', e1, ys, e2⟩ := h.at_ j (hlt j p hp)
      rw [hp] at e1
      cases e1
      exact (e2.own.1.lt y hy).2
    by_cases hij : i = j
    · subst hij
      rw [List.getElem?_set_self (by omega)] at hp
      cases hp
      rw [List.getElem?_set_ne hjk] at hq
      rcases hat with e | e
      · rw [e] at hpx
        exact h.far i k a q x hjk ha hq hpx
      · rw [e] at hpx
        cases hpx
        intro e3
        have := hold k q _ hq e3
        omega
    · rw [List.getElem?_set_ne hij] at hp
      by_cases hik : i = k
      · subst hik
        rw [List.getElem?_set_self (by omega)] at hq
        cases hq
        rcases hat with e | e
        · rw [e]
          exact h.far j i p a x hjk hp ha hpx
        · rw [e]
          intro e3
          cases e3
          have := hold j p _ hp hpx
          omega
      · rw [List.getElem?_set_ne hik] at hq
        exact h.far j k p q x hjk hp hq hpx
end
end Go.Proofs
end

section
/- A region that draws its order, by facts that may say which operations are done. -/
namespace Go

/-- The state in which some of the operations are done. -/
structure HeldF (ops : Array Oper) (Fact : (Nat → Bool) → Nat → Value → World → Prop) (Wd : (Nat → Bool) → Act → World → Prop) (a0 : Act) (done : Nat → Bool) (a : Act) (w : World) : Prop where
  wd : Wd done a w
  size : a.tmps.size = a0.tmps.size
  defers : a.defers = a0.defers
  closed : ∀ i o, ops[i]? = some o → done i = true → ∀ j ∈ Region.preds o, done j = true
  old : ∀ s, (∀ i o, ops[i]? = some o → o.dst = some s → done i = false) → a.eval (.tmp s) = a0.eval (.tmp s)
  fact : ∀ (i : Nat) (o : Oper) (s : Nat), ops[i]? = some o → o.dst = some s → done i = true → Fact done i (a.eval (.tmp s)) w

section
variable {P : Program} {ops : Array Oper} {Q : Exit → Act → World → Prop} {Fact : (Nat → Bool) → Nat → Value → World → Prop} {Wd : (Nat → Bool) → Act → World → Prop} {a0 : Act}

theorem HeldF.put {done : Nat → Bool} {a : Act} {w w' : World} {i : Nat} {o : Oper} {v : Value} (h : HeldF ops Fact Wd a0 done a w) (ho : ops[i]? = some o) (hd : done i = false) (hp : ∀ j ∈ Region.preds o, done j = true)
    (hdst : ∀ (i j : Nat) (oi oj : Oper) (s : Nat), ops[i]? = some oi → ops[j]? = some oj → oi.dst = some s → oj.dst = some s → i = j) (hin : ∀ (i : Nat) (o : Oper) (s : Nat), ops[i]? = some o → o.dst = some s → s < a0.tmps.size)
    (hf : Fact (Go.upd done i) i v w') (hw : Wd (Go.upd done i) (a.put o.dst v) w') (hk : ∀ (j : Nat) (oj : Oper) (s : Nat), ops[j]? = some oj → oj.dst = some s → done j = true → Fact done j (a.eval (.tmp s)) w → Fact (Go.upd done i) j (a.eval (.tmp s)) w') : HeldF ops Fact Wd a0 (Go.upd done i) (a.put o.dst v) w' := by
  refine ⟨hw, ?_, ?_, fun k ok hk' hdk j hj => ?_, fun s hs => ?_, fun k ok s hk' hs hdk => ?_⟩
  · rw [← h.size]; unfold Act.put; split <;> simp
  · rw [← h.defers]; unfold Act.put; split <;> rfl
  · unfold Go.upd at hdk ⊢
    by_cases e : j = i
    · rw [if_pos e]
    · rw [if_neg e]
      by_cases e2 : k = i
      · subst e2
        rw [ho] at hk'; cases hk'
        exact hp j hj
      · rw [if_neg e2] at hdk
        exact h.closed k ok hk' hdk j hj
  · have hne : ∀ d, o.dst = some d → (Operand.tmp s) ≠ .tmp d := fun d hd' e => by
      cases e
      have := hs i o ho hd'
      simp [Go.upd] at this
    rw [Act.eval_put hne]
    refine h.old s fun k ok hk' hs' => ?_
    have := hs k ok hk' hs'
    unfold Go.upd at this
    split at this
    · cases this
    · exact this
  · by_cases e : k = i
    · subst e
      rw [ho] at hk'; cases hk'
      rw [hs, Act.eval_put_same _ _ _ (by rw [h.size]; exact hin k o s ho hs)]
      exact hf
    · unfold Go.upd at hdk
      rw [if_neg e] at hdk
      have hne : ∀ d, o.dst = some d → (Operand.tmp s) ≠ .tmp d := fun d hd' e2 => by
        cases e2
        exact e (hdst k i ok o s hk' ho hs hd')
      rw [Act.eval_put hne]
      exact hk k ok s hk' hs hdk (h.fact k ok s hk' hs hdk)

theorem wpAny_factsF (hg : ∀ (i : Nat) (o : Oper), ops[i]? = some o → o.guard = none) (hdst : ∀ (i j : Nat) (oi oj : Oper) (s : Nat), ops[i]? = some oi → ops[j]? = some oj → oi.dst = some s → oj.dst = some s → i = j) (hin : ∀ (i : Nat) (o : Oper) (s : Nat), ops[i]? = some o → o.dst = some s → s < a0.tmps.size)
    (hlt : ∀ (i : Nat) (o : Oper), ops[i]? = some o → ∀ j ∈ Region.preds o, j < i)
    (step : ∀ (i : Nat) (o : Oper), ops[i]? = some o → ∀ (done : Nat → Bool) (a : Act) (w : World), HeldF ops Fact Wd a0 done a w → done i = false → (∀ j ∈ Region.preds o, done j = true) → ∀ K : Act → World → Prop,
      (∀ (v : Value) (w' : World), Fact (Go.upd done i) i v w' → Wd (Go.upd done i) (a.put o.dst v) w' → (∀ (j : Nat) (oj : Oper) (s : Nat), ops[j]? = some oj → oj.dst = some s → done j = true → Fact done j (a.eval (.tmp s)) w → Fact (Go.upd done i) j (a.eval (.tmp s)) w') → K (a.put o.dst v) w') → Oper.wp P o a w K Q)
    (fin : ∀ (done : Nat → Bool) (a : Act) (w : World), (∀ i, i < ops.size → done i = true) → HeldF ops Fact Wd a0 done a w → Q .normal a w) :
    ∀ (fuel : Nat) (listed : Array Bool) (a : Act) (w : World), listed.size = ops.size → HeldF ops Fact Wd a0 (dn listed) a w → (unl ops (dn listed)).length ≤ fuel → wpAny P .any ops Q fuel listed a w
  | 0, listed, a, w, hs, h, hf => by
    have hd : ∀ i, i < ops.size → dn listed i = true := fun i hi => by
      cases hd : dn listed i with
      | true => rfl
      | false =>
        have : i ∈ unl ops (dn listed) := List.mem_filter.2 ⟨List.mem_range.2 hi, by simp [hd]⟩
        have hz : unl ops (dn listed) = [] := List.eq_nil_of_length_eq_zero (by omega)
        rw [hz] at this
        cases this
    refine ⟨?_, fin _ a w hd h⟩
    cases hr : Region.ready .any ops listed with
    | nil => rfl
    | cons i r =>
      obtain ⟨o, ho, h1, _⟩ := mem_ready' rfl hs (show i ∈ Region.ready .any ops listed by rw [hr]; simp)
      rw [hd i (Array.getElem?_eq_some_iff.1 ho).1] at h1
      cases h1
  | fuel + 1, listed, a, w, hs, h, hf => by
    refine ⟨fun hr => fin _ a w (all_done hs hlt hr) h, fun i hi => ?_⟩
    obtain ⟨o, ho, h1, h2⟩ := mem_ready' rfl hs hi
    have hio := (Array.getElem?_eq_some_iff.1 ho).1
    unfold wpOp
    simp only [ho]
    have hw : Region.wanted o (yielded ops a.tmps) = true := by simp [Region.wanted, hg i o ho]
    rw [if_pos hw]
    refine .inl (step i o ho _ a w h h1 h2 _ fun v w' hf' hw' hk => ?_)
    refine wpAny_factsF hg hdst hin hlt step fin fuel _ _ _ (by simpa using hs) ?_ ?_
    · rw [dn_set (by omega)]
      exact h.put ho h1 h2 hdst hin hf' hw' hk
    · rw [dn_set (by omega)]
      have := unl_lt (ops := ops) hio h1
      omega


/-- **A region that draws its order, by facts.** -/
theorem wp_region_factsF {id : Nat} {xs : List Oper} {w : World} (hm : P.follows .mixedOrders = true) (n : Nat) (hn : a0.tmps.size = n) (hB : factsB xs n = true)
    (Fact : (Nat → Bool) → Nat → Value → World → Prop) (Wd : (Nat → Bool) → Act → World → Prop) (h0 : Wd (fun _ => false) a0 w.drew)
    (step : ∀ (i : Nat) (o : Oper), xs[i]? = some o → ∀ (done : Nat → Bool) (a : Act) (w : World), HeldF xs.toArray Fact Wd a0 done a w → done i = false → (∀ j ∈ Region.preds o, done j = true) → ∀ K : Act → World → Prop,
      (∀ (v : Value) (w' : World), Fact (Go.upd done i) i v w' → Wd (Go.upd done i) (a.put o.dst v) w' → (∀ (j : Nat) (oj : Oper) (s : Nat), xs[j]? = some oj → oj.dst = some s → done j = true → Fact done j (a.eval (.tmp s)) w → Fact (Go.upd done i) j (a.eval (.tmp s)) w') → K (a.put o.dst v) w') → Oper.wp P o a w K Q)
    (fin : ∀ (done : Nat → Bool) (a : Act) (w : World), (∀ i, i < xs.length → done i = true) → HeldF xs.toArray Fact Wd a0 done a w → Q .normal a w) : (Code.region id xs.toArray true).wp P Q a0 w := by
  unfold factsB at hB
  rw [Bool.and_eq_true, Bool.and_eq_true, Bool.and_eq_true] at hB
  obtain ⟨⟨⟨h1, h2⟩, h3⟩, h4⟩ := hB
  refine wp_region_any hm ?_
  have e0 : dn (Array.replicate xs.toArray.size false) = fun _ => false := by
    funext i
    unfold dn
    rw [Array.getD_eq_getD_getElem?, Array.getElem?_replicate]
    split <;> rfl
  refine wpAny_factsF (Fact := Fact) (Wd := Wd) (a0 := a0) (fun i o ho => ?_) (fun i j oi oj s hi hj => nodup_dst (of_decide_eq_true h2) i j oi oj s (by simpa using hi) (by simpa using hj)) (fun i o s ho hs => ?_) (fun i o ho j hj => ?_)
    (fun i o ho done a w h hd hp K hK => step i o (by simpa using ho) done a w h hd hp K (fun v w' h1 h2 h3 => hK v w' h1 h2 (fun j oj s hj => h3 j oj s (by simpa using hj)))) (fun done a w hd => fin done a w (by simpa using hd)) _ _ _ _ (by simp) ?_ ?_
  · have := List.all_eq_true.1 h1 o (List.mem_of_getElem? (by simpa using ho))
    simpa using this
  · have := List.all_eq_true.1 h3 o (List.mem_of_getElem? (by simpa using ho))
    rw [hs] at this
    rw [hn]
    simpa using this
  · have ho' : xs[i]? = some o := by simpa using ho
    have := List.all_eq_true.1 h4 i (List.mem_range.2 (List.getElem?_eq_some_iff.1 ho').1)
    rw [ho'] at this
    have := List.all_eq_true.1 this j hj
    simpa using this
  · rw [e0]
    exact ⟨h0, rfl, rfl, (fun i o _ h => by cases h), (fun s _ => rfl), (fun i o s _ _ h => by cases h)⟩
  · have : (unl xs.toArray (dn (Array.replicate xs.toArray.size false))).length ≤ (List.range xs.toArray.size).length := List.length_filter_le _ _
    simpa using this
end
end Go
end

section
/- Words for memory: parts: several operations of a region lay memory of their own, each in an interval of blocks; whatever the order, the intervals lie apart, and what is said of each is of its own blocks alone. -/
namespace Go.Proofs
open Go.RowKit

def Inr (v : Nat × Nat) (k : Nat) : Prop := v.1 ≤ k ∧ k < v.2
def Agree (v : Nat × Nat) (w w' : World) : Prop := ∀ k, Inr v k → w'.heap[k]? = w.heap[k]?
/-- What is said is of the interval's blocks alone. -/
def LocalR (p : Nat × Nat → World → Prop) : Prop := ∀ v w w', p v w → Agree v w w' → p v w'
theorem Agree.grown {v : Nat × Nat} {w w' : World} {row : Option Nat} (h : w.grownBy w' row) (hv : v.2 ≤ w.heap.size) (hr : ∀ k, row = some k → ¬ Inr v k) : Agree v w w' := fun k hk =>
  h.block k (Nat.lt_of_lt_of_le hk.2 hv) fun e => hr k e.symm hk
/-- Nothing that was there is changed but blocks of S. -/
structure GrownS (S : Nat → Prop) (w w' : World) : Prop where
  os : w'.os = w.os
  tape : w'.tape = w.tape
  output : w'.output = w.output
  size : w.heap.size ≤ w'.heap.size
  block : ∀ k, k < w.heap.size → ¬ S k → w'.heap[k]? = w.heap[k]?
section
variable {S S' : Nat → Prop} {w w' w2 : World} {row : Option Nat}
theorem GrownS.refl (S : Nat → Prop) (w : World) : GrownS S w w := ⟨rfl, rfl, rfl, Nat.le_refl _, fun _ _ _ => rfl⟩
theorem GrownS.of (h : w.grownBy w' row) (hr : ∀ k, row = some k → S k) : GrownS S w w' := ⟨h.os, h.tape, h.output, h.size, fun k hk hs => h.block k hk fun e => hs (hr k e.symm)⟩
theorem GrownS.then (h : GrownS S w w') (k : w'.grownBy w2 row) (hr : ∀ b, row = some b → S b ∨ w.heap.size ≤ b) : GrownS S w w2 :=
  ⟨k.os.trans h.os, k.tape.trans h.tape, k.output.trans h.output, Nat.le_trans h.size k.size, fun b hb hs => (k.block b (Nat.lt_of_lt_of_le hb h.size) fun e => by
    rcases hr b e.symm with q | q
    · exact hs q
    · omega).trans (h.block b hb hs)⟩
theorem GrownS.trans (h : GrownS S w w') (k : GrownS S w' w2) : GrownS S w w2 :=
  ⟨k.os.trans h.os, k.tape.trans h.tape, k.output.trans h.output, Nat.le_trans h.size k.size, fun b hb hs => (k.block b (Nat.lt_of_lt_of_le hb h.size) hs).trans (h.block b hb hs)⟩
theorem GrownS.mono (h : GrownS S w w') (hS : ∀ k, S k → S' k) : GrownS S' w w' := ⟨h.os, h.tape, h.output, h.size, fun b hb hs => h.block b hb fun e => hs (hS b e)⟩
theorem GrownS.one (h : GrownS S w w') (hS : ∀ k, S k → row = some k) : w.grownBy w' row := ⟨h.os, h.tape, h.output, h.size, fun b hb hs => h.block b hb fun e => hs (hS b e).symm⟩
theorem GrownS.then_aft (h : GrownS S w w') (ha : Aft w' w2) : GrownS S w w2 := h.then (only_of_aft ha none) fun _ e => by cases e
theorem blk_grownS {g : Nat} {t : TypeId} {cs : Array Value} (hb : Blk w g t cs) (h : GrownS S w w') (hs : ¬ S g) : Blk w' g t cs := (h.block g hb.lt hs).trans hb
end
/-- The parts that are done; of what was there blocks of S alone may be written. -/
structure PartsP (X : World) (S : Nat → Prop) (M : Nat → Bool) (done : Nat → Bool) (R : Nat → Nat × Nat → World → Prop) (w : World) : Prop where
  grown : GrownS S X w
  ex : ∃ f : Nat → Nat × Nat, (∀ i, M i = true → done i = true → X.heap.size ≤ (f i).1 ∧ (f i).2 ≤ w.heap.size ∧ R i (f i) w) ∧
    (∀ i j, i ≠ j → M i = true → M j = true → done i = true → done j = true → (f i).2 ≤ (f j).1 ∨ (f j).2 ≤ (f i).1)
def NoneS : Nat → Prop := fun _ => False
section
variable {X w w' : World} {S : Nat → Prop} {M done : Nat → Bool} {R R' : Nat → Nat × Nat → World → Prop} {i : Nat} {row : Option Nat}
theorem PartsP.aft (h : PartsP X NoneS M done R w) : Aft X w := (Aft.refl X).grown (h.grown.one (row := none) fun _ e => e.elim) fun _ e => by cases e
theorem PartsP.start (h : GrownS S X w) : PartsP X S M (fun _ => false) R w := ⟨h, fun _ => (0, 0), ⟨fun _ _ h => (by cases h), fun _ _ _ _ _ h => (by cases h)⟩⟩
theorem upd_ne {j : Nat} (h : j ≠ i) (hd : Go.upd done i j = true) : done j = true := by
  unfold Go.upd at hd
  rw [if_neg h] at hd
  exact hd
/-- An operation that lays nothing of its own. -/
theorem PartsP.plainG (h : PartsP X S M done R w) (hg : w.grownBy w' row) (hr : ∀ k, row = some k → S k ∧ k < X.heap.size) (hM : M i = false) (hL : ∀ j, M j = true → LocalR (R j)) (hR : ∀ j v, M j = true → done j = true → R j v w' → R' j v w') : PartsP X S M (Go.upd done i) R' w' := by
  obtain ⟨f, h1, h2⟩ := h.ex
  have hne : ∀ j, M j = true → j ≠ i := fun j hj e => by rw [e, hM] at hj; cases hj
  refine ⟨h.grown.then hg fun b e => .inl (hr b e).1, f, fun j hj hd => ?_, fun j k hjk hj hk hdj hdk => h2 j k hjk hj hk (upd_ne (hne j hj) hdj) (upd_ne (hne k hk) hdk)⟩
  obtain ⟨p1, p2, p3⟩ := h1 j hj (upd_ne (hne j hj) hd)
  exact ⟨p1, Nat.le_trans p2 hg.size, hR j _ hj (upd_ne (hne j hj) hd) (hL j hj _ _ _ p3 (.grown hg p2 fun k e hk => by have := (hr k e).2; have := hk.1; omega))⟩
theorem PartsP.plain (h : PartsP X S M done R w) (ha : Aft w w') (hM : M i = false) (hL : ∀ j, M j = true → LocalR (R j)) (hR : ∀ j v, M j = true → done j = true → R j v w' → R' j v w') : PartsP X S M (Go.upd done i) R' w' :=
  h.plainG (only_of_aft ha none) (fun _ e => by cases e) hM hL hR
/-- An operation that lays memory of its own. -/
theorem PartsP.addG (h : PartsP X S M done R w) (hg : w.grownBy w' row) (hr : ∀ k, row = some k → S k ∧ k < X.heap.size) (hd0 : done i = false) (hL : ∀ j, M j = true → LocalR (R j)) (hR : ∀ j v, j ≠ i → M j = true → done j = true → R j v w' → R' j v w') (hi : R' i (w.heap.size, w'.heap.size) w') : PartsP X S M (Go.upd done i) R' w' := by
  obtain ⟨f, h1, h2⟩ := h.ex
  refine ⟨h.grown.then hg fun b e => .inl (hr b e).1, fun j => if j = i then (w.heap.size, w'.heap.size) else f j, fun j hj hd => ?_, fun j k hjk hj hk hdj hdk => ?_⟩
  · dsimp only
    by_cases e : j = i
    · subst e
      rw [if_pos rfl]
      exact ⟨h.grown.size, Nat.le_refl _, hi⟩
    · rw [if_neg e]
      obtain ⟨p1, p2, p3⟩ := h1 j hj (upd_ne e hd)
      exact ⟨p1, Nat.le_trans p2 hg.size, hR j _ e hj (upd_ne e hd) (hL j hj _ _ _ p3 (.grown hg p2 fun k e hk => by have := (hr k e).2; have := hk.1; omega))⟩
  · dsimp only
    by_cases e : j = i
    · subst e
      rw [if_pos rfl, if_neg (fun e => hjk e.symm)]
      exact .inr (h1 k hk (upd_ne (fun e => hjk e.symm) hdk)).2.1
    · by_cases e2 : k = i
      · subst e2
        rw [if_pos rfl, if_neg hjk]
        exact .inl (h1 j hj (upd_ne hjk hdj)).2.1
      · rw [if_neg e, if_neg e2]
        exact h2 j k hjk hj hk (upd_ne e hdj) (upd_ne e2 hdk)
theorem PartsP.add (h : PartsP X S M done R w) (ha : Aft w w') (hd0 : done i = false) (hL : ∀ j, M j = true → LocalR (R j)) (hR : ∀ j v, j ≠ i → M j = true → done j = true → R j v w' → R' j v w') (hi : R' i (w.heap.size, w'.heap.size) w') : PartsP X S M (Go.upd done i) R' w' :=
  h.addG (only_of_aft ha none) (fun _ e => by cases e) hd0 hL hR hi
/-- An operation that writes a block of part p. -/
theorem PartsP.write {p b : Nat} (h : PartsP X S M done R w) (hM : M i = false) (hp : M p = true) (hdp : done p = true) (hL : ∀ j, M j = true → LocalR (R j)) (hR : ∀ j v, j ≠ p → M j = true → done j = true → R j v w' → R' j v w')
    (hg : w.grownBy w' (some b)) (hb : ∀ v, R p v w → Inr v b) (hw : ∀ v, R p v w → R' p v w') : PartsP X S M (Go.upd done i) R' w' := by
  obtain ⟨f, h1, h2⟩ := h.ex
  have hne : ∀ j, M j = true → j ≠ i := fun j hj e => by rw [e, hM] at hj; cases hj
  obtain ⟨q1, q2, q3⟩ := h1 p hp hdp
  have hbp := hb _ q3
  refine ⟨h.grown.then hg (fun k e => by cases e; exact .inr (Nat.le_trans q1 hbp.1)), f, fun j hj hd => ?_, fun j k hjk hj hk hdj hdk => h2 j k hjk hj hk (upd_ne (hne j hj) hdj) (upd_ne (hne k hk) hdk)⟩
  have hdj := upd_ne (hne j hj) hd
  obtain ⟨p1, p2, p3⟩ := h1 j hj hdj
  refine ⟨p1, Nat.le_trans p2 hg.size, ?_⟩
  by_cases e : j = p
  · subst e
    exact hw _ p3
  · refine hR j _ e hj hdj (hL j hj _ _ _ p3 (.grown hg p2 fun k e' hk => ?_))
    cases e'
    have := h2 j p e hj hp hdj hdp
    have h3 : (f j).1 ≤ b ∧ b < (f j).2 := hk
    have h4 : (f p).1 ≤ b ∧ b < (f p).2 := hbp
    omega
end
section
variable {v : Nat × Nat} {e : TypeId} {sz n : Nat} {u u1 u2 u3 u4 : Value} {xs : List Value} {w w' : World} {ms : List Mean} {ws : List (List Mean)} {T : Treaty}
theorem OwnD.agree (h : OwnD (Inr v) e sz u n xs w) (ha : Agree v w w') : OwnD (Inr v) e sz u n xs w' := by
  refine ⟨⟨h.1.1, ?_⟩, h.2⟩
  rcases h.1.2 with q | ⟨g, cap, cur, e0, hg, hh, rest⟩
  · exact .inl q
  · refine .inr ⟨g, cap, cur, e0, hg, ?_, rest⟩
    rw [ha g (h.2 g (by rw [e0]; rfl))]
    exact hh
theorem ORow.agree (h : ORow (Inr v) u ms w) (ha : Agree v w w') : ORow (Inr v) u ms w' :=
  let ⟨ys, h⟩ := h; ⟨ys, h.own.agree ha, fun k hk => let ⟨a, b, e1, e2, e3, e4⟩ := h.at_ k hk; ⟨a, b, e1, e2, OwnD.agree e3 ha, OwnD.agree e4 ha⟩⟩
theorem OWordsX.agree (h : OWordsX (Inr v) u ws xs w) (ha : Agree v w w') : OWordsX (Inr v) u ws xs w' :=
  ⟨h.own.agree ha, fun i hi => let ⟨a, h1, h2⟩ := h.at_ i hi; ⟨a, h1, h2.agree ha⟩, h.far⟩
theorem OT.agree (h : OT (Inr v) T u1 u2 u3 u4 w) (ha : Agree v w w') : OT (Inr v) T u1 u2 u3 u4 w' :=
  ⟨h.ways.agree ha, let ⟨xs, hw⟩ := h.words; ⟨xs, hw.agree ha⟩, OwnD.agree h.starts ha, h.legs.agree ha⟩
theorem blk_agree {g : Nat} {t : TypeId} {cs : Array Value} (h : Blk w g t cs) (hg : Inr v g) (ha : Agree v w w') : Blk w' g t cs := (ha g hg).trans h
end
end Go.Proofs
end

section
/- Walks: Agrees, of a line that may agree. -/
namespace Go.Proofs
open Go.RowKit
attribute [local go_sem] Oper.semAt_some

/-- whether a line keeps each leg -/
def keepsTo (f : Nat → Nat → Nat → Bool) (l : List Int) (k : Nat) : Bool := (List.range k).all fun i => f i (l.getD i 0).toNat (l.getD (i + 1) 0).toNat
theorem keepsTo_succ (f : Nat → Nat → Nat → Bool) (l : List Int) (k : Nat) : keepsTo f l (k + 1) = (keepsTo f l k && f k (l.getD k 0).toNat (l.getD (k + 1) 0).toNat) := by
  unfold keepsTo; rw [List.range_succ, List.all_append]; simp
theorem keepsTo_le {f : Nat → Nat → Nat → Bool} {l : List Int} {k m : Nat} (h : k ≤ m) (hk : keepsTo f l k = false) : keepsTo f l m = false := by
  unfold keepsTo at hk ⊢
  rw [List.all_eq_false] at hk ⊢
  obtain ⟨x, h1, h2⟩ := hk
  exact ⟨x, List.mem_range.2 (by have := List.mem_range.1 h1; omega), h2⟩
noncomputable def keepsR (T : Treaty) (l : List Int) (R : List Int) : Bool := keepsTo (leadsF T R) l T.legs.length
/-- the first reading in which a line agrees -/
noncomputable def agreesF (T : Treaty) (l : List Int) : Option (List Int) := (readingsL T).find? (keepsR T l)

def AgreesG (w : World) (T : Treaty) (l : List Int) (e : Ending) (w' : World) : Prop :=
  Aft w w' ∧ ((agreesF T l = none ∧ e = .returned (.tuple #[.slice none 0 0, .int .i64 7])) ∨ (∃ R v, agreesF T l = some R ∧ e = .returned (.tuple #[v, .int .i64 0]) ∧ w'.ownsRow w.heap.size 3 1 v R.length (R.map (Value.int .i64))))

theorem find_at {T : Treaty} {l : List Int} {k : Nat} (hk : k < prodN (lensOf T)) (h1 : ∀ i, i < k → keepsR T l (dig (lensOf T) i) = false) (h2 : keepsR T l (dig (lensOf T) k) = true) : agreesF T l = some (dig (lensOf T) k) := by
  unfold agreesF readingsL
  rw [List.find?_eq_some_iff_getElem]
  refine ⟨h2, k, by simpa using hk, by simp, fun j hj => ?_⟩
  simpa using h1 j hj
theorem find_none {T : Treaty} {l : List Int} (h1 : ∀ i, i < prodN (lensOf T) → keepsR T l (dig (lensOf T) i) = false) : agreesF T l = none := by
  unfold agreesF readingsL
  rw [List.find?_eq_none]
  intro x hx
  obtain ⟨i, hi, rfl⟩ := List.mem_map.1 hx
  simp [h1 i (List.mem_range.1 hi)]

/-- Between two rounds of Agrees. -/
structure AgrI (w : World) (T : Treaty) (a1 a2 a3 a4 : Option Addr) (c1 c2 c3 c4 : Nat) (Al : Option Addr) (l : List Int) (cl S k : Nat) (W : World) : Prop where
  aft : Aft w W
  box : Blk W w.heap.size 27 #[.int .i64 T.places, .slice a1 T.ways.length c1, .slice a2 T.words.length c2, .slice a3 T.starts.length c3, .slice a4 T.legs.length c4]
  line : Blk W (w.heap.size + 1) 24 #[.slice Al l.length cl]
  box2 : Blk W S 27 #[.int .i64 T.places, .slice a1 T.ways.length c1, .slice a2 T.words.length c2, .slice a3 T.starts.length c3, .slice a4 T.legs.length c4]
  r4 : ∃ c, Blk W (w.heap.size + 2) 24 #[c]
  r5 : ∃ c, Blk W (w.heap.size + 3) 38 #[c]
  none : ∀ i, i < k → keepsR T l (dig (lensOf T) i) = false
/-- A round has returned. -/
structure AgrX (w : World) (T : Treaty) (l : List Int) (S : Nat) (W : World) : Prop where
  aft : Aft w W
  out : ∃ R v, agreesF T l = some R ∧ Blk W (w.heap.size + 2) 24 #[v] ∧ Blk W (w.heap.size + 3) 38 #[.int .i64 0] ∧ W.ownsRow (S + 4) 3 1 v R.length (R.map (Value.int .i64))
theorem AgrI.three {w : World} {T : Treaty} {a1 a2 a3 a4 : Option Addr} {c1 c2 c3 c4 : Nat} {Al : Option Addr} {l : List Int} {cl S : Nat} (hS : w.heap.size + 3 < S) : Three (S + 1) (fun k W => AgrI w T a1 a2 a3 a4 c1 c2 c3 c4 Al l cl S k W) := by
  rintro k W W' r ⟨h1, h2, h3, h4, ⟨c, h5⟩, ⟨c', h6⟩, h7⟩ hg hr1 hr2
  exact ⟨h1.grown hg (fun k e => by cases e; omega), h2.grown hg (fun e => by cases e; omega), h3.grown hg (fun e => by cases e; omega), h4.grown hg (fun e => by cases e; omega), ⟨c, h5.grown hg (fun e => by cases e; omega)⟩, ⟨c', h6.grown hg (fun e => by cases e; omega)⟩, h7⟩
theorem AgrX.three {w : World} {T : Treaty} {l : List Int} {S : Nat} (hS : w.heap.size + 3 < S) (c : Code) : Three (S + 1) (fun (_ : Unit) W => c = .ret ∧ AgrX w T l S W) := by
  rintro _ W W' r ⟨h0, h1, R, v, h2, h3, h4, h5⟩ hg hr1 hr2
  exact ⟨h0, h1.grown hg (fun k e => by cases e; omega), R, v, h2, h3.grown hg (fun e => by cases e; omega), h4.grown hg (fun e => by cases e; omega), own_kept h5 hg (by omega)⟩

set_option maxRecDepth 100000 in
set_option maxHeartbeats 2000000 in
theorem agrees_good (w : World) (T : Treaty) (a1 a2 a3 a4 : Option Addr) (c1 c2 c3 c4 : Nat) (l : List Int) (Al : Option Addr) (cl : Nat) (hT : TRep w T a1 a2 a3 a4) (hA : Ints w Al l) (hc : checkE T = 0) (hli : linedB T l = true) (hst : hasB T.starts (l.getD 0 0) = true) :
    Calls Tryz.prog 23 #[.agg #[.int .i64 T.places, .slice a1 T.ways.length c1, .slice a2 T.words.length c2, .slice a3 T.starts.length c3, .slice a4 T.legs.length c4], .slice Al l.length cl] w (AgreesG w T l) := by
  have hal := hA.len
  have ok := checkE_ok hc
  have HC := Lib.hid hc
  have HT := Lib.hid hT
  have HL := Lib.hid hli
  obtain ⟨hlen, hL2⟩ := linedB_iff.1 hli
  have HLL := Lib.hid hL2
  have HAI := Lib.hid hA
  have hpos : 0 < l.length := by omega
  obtain ⟨n0, hn0, hn0p, hn0d⟩ := int_bool hL2 hpos
  have hn1 : l.getD 0 0 = n0 := by rw [List.getD_eq_getElem?_getD, List.getElem?_eq_getElem hpos, Option.getD_some, hn0]
  rw [hn1] at hst
  have HS := Lib.hid hst
  have HN0 := Lib.hid hn0
  have h0l : (0 : Int) < (l.length : Int) := by omega
  have HCK : Hid (∀ W, Aft w W → Calls Tryz.prog 37 #[.agg #[.int .i64 T.places, .slice a1 T.ways.length c1, .slice a2 T.words.length c2, .slice a3 T.starts.length c3, .slice a4 T.legs.length c4]] W fun e w' => e = .returned (.int .i64 (checkE T)) ∧ Aft W w') := Lib.hid fun W ha => check_any T a1 a2 a3 a4 c1 c2 c3 c4 W (HT.out.aft ha)
  rw [HC.out] at HCK
  have HLI := Lib.hid (fun (W : World) (h : Aft w W) => lined_any W T a1 a2 a3 a4 c1 c2 c3 c4 l Al cl (hA.aft h) ok.p1 ok.p2 ok.nlegs)
  rw [HL.out] at HLI
  have HLN := Lib.hid hlen
  have OK := Lib.hid ok
  clear hc hT hA hli hst hn0 hn1 hn0d hL2 hlen ok
  refine (callsIn_wide (n := 5)).1 ?_
  refine callsIn_of_wp_marks Tryz.func23 rfl trivial ?_ rfl
  simp only [Tryz.ntmps23, List.size_toArray, List.length_cons, List.length_nil, Nat.reduceAdd, Nat.reduceSub, Array.replicate_succ, Array.replicate_zero, List.push_toArray, List.append_toArray, List.nil_append, List.cons_append]
  refine wpIn_wide.2 ?_
  have hA0 : Aft w ((((w.alloc (.cells #[.int .i64 T.places, .slice a1 T.ways.length c1, .slice a2 T.words.length c2, .slice a3 T.starts.length c3, .slice a4 T.legs.length c4] 27)).alloc (.cells #[.slice Al l.length cl] 24)).alloc (.cells #[.slice none 0 0] 24)).alloc (.cells #[.int .i64 0] 38)) := (((Aft.alloc w _).then_alloc _).then_alloc _).then_alloc _
  have hb0 := (((Blk.new w 27 #[.int .i64 T.places, .slice a1 T.ways.length c1, .slice a2 T.words.length c2, .slice a3 T.starts.length c3, .slice a4 T.legs.length c4]).alloc (.cells #[.slice Al l.length cl] 24)).alloc (.cells #[.slice none 0 0] 24)).alloc (.cells #[.int .i64 0] 38)
  have hl0 := ((Blk.new (w.alloc (.cells #[.int .i64 T.places, .slice a1 T.ways.length c1, .slice a2 T.words.length c2, .slice a3 T.starts.length c3, .slice a4 T.legs.length c4] 27)) 24 #[.slice Al l.length cl]).alloc (.cells #[.slice none 0 0] 24)).alloc (.cells #[.int .i64 0] 38)
  have hr0 := (Blk.new ((w.alloc (.cells #[.int .i64 T.places, .slice a1 T.ways.length c1, .slice a2 T.words.length c2, .slice a3 T.starts.length c3, .slice a4 T.legs.length c4] 27)).alloc (.cells #[.slice Al l.length cl] 24)) 24 #[.slice none 0 0]).alloc (.cells #[.int .i64 0] 38)
  have hs0 := Blk.new (((w.alloc (.cells #[.int .i64 T.places, .slice a1 T.ways.length c1, .slice a2 T.words.length c2, .slice a3 T.starts.length c3, .slice a4 T.legs.length c4] 27)).alloc (.cells #[.slice Al l.length cl] 24)).alloc (.cells #[.slice none 0 0] 24)) 38 #[.int .i64 0]
  simp only [World.size_alloc] at hl0 hr0 hs0
  have HA0 := Lib.hid hA0
  have HB0 := Lib.hid hb0
  have HL0 := Lib.hid hl0
  have HR0 := Lib.hid hr0
  have HS0 := Lib.hid hs0
  clear hA0 hb0 hl0 hr0 hs0
  go_wp2_with fail
  refine wp_scope_straight ?_
  go_wp2_with (first
      | (go_at_call 37; refine (HCK.out _ HA0.out).mono ?_; rintro e w1 ⟨rfl, ha1⟩; have hb1 := HB0.out.aft ha1; have hlt1 := hb1.lt; obtain ⟨k0, k1, k2, k3, k4⟩ := box_cells hb1; have hl1 := HL0.out.aft ha1; have kl : w1.cell? ⟨w.heap.size + 1, 0, none⟩ = some (.slice Al l.length cl) := hl1.cell 0; have hlt1' := hl1.lt; have HA1 := Lib.hid ha1; clear ha1)
      | (go_at_call 68; refine (HLI.out _ (HA0.out.trans HA1.out)).mono ?_; rintro e w2 ⟨rfl, ha2⟩; have HA2 := Lib.hid (HA1.out.trans ha2); clear ha2))
  obtain ⟨bl, ol, rfl, hbl, hcl⟩ := (HAI.out.aft (HA0.out.trans HA2.out)).at hpos
  have cL : w2.drew.cell? ⟨bl, ol, none⟩ = some (.int .i64 n0) := by have := hcl 0 hpos; rw [HN0.out] at this; exact this
  have k32 : w2.drew.cell? ⟨w.heap.size, 3, none⟩ = some (.slice a3 T.starts.length c3) := (box_cells (HB0.out.aft HA2.out).drew).2.2.2.1
  have kl2 : w2.drew.cell? ⟨w.heap.size + 1, 0, none⟩ = some (.slice (some ⟨bl, ol, none⟩) l.length cl) := (HL0.out.aft HA2.out).drew.cell 0
  have HCT := Lib.hid (show Calls Tryz.prog 60 #[.slice a3 T.starts.length c3, .int .i64 n0] w2.drew (fun e w' => e = .returned (.bool true) ∧ w' = w2.drew) from (contains_any a3 T.starts c3 n0 w2.drew ((HT.out.starts.aft (HA0.out.trans HA2.out)).aft (Aft.drew _))).mono fun _ _ ⟨h1, h2⟩ => ⟨by rw [h1, HS.out], h2.symm⟩)
  clear hcl k0 k1 k2 k3 k4 kl hl1
  refine wp_region_tail 7 (by kernel_rfl) (by kernel_rfl) ?_
  simp only [List.take_succ_cons, List.take_zero, List.drop_succ_cons, List.drop_zero]
  repeat (first | go_big_quiet_skip | (go_big_quiet_want; go_big_quiet_op; go_big_quiet_on))
  (go_big_quiet_want; go_big_quiet_op; refine ⟨_, HCT.out, ?_⟩; go_big_quiet_on)
  repeat (first | go_big_quiet_skip | (go_big_quiet_want; go_big_quiet_op; go_big_quiet_on))
  refine wpQuiet_nil ?_
  have HA3 := Lib.hid (HA2.out.then_drew)
  have hb3 := HB0.out.aft HA3.out
  have hlt3 := hb3.lt
  obtain ⟨k0, k1, k2, k3, k4⟩ := box_cells hb3
  clear HA2 cL k32 kl2 HCT hb1 hlt1 hlt1' HA1
  generalize w2.drew = w3 at *
  go_wp2_with fail
  refine wp_label ?_
  go_upto_block 1 with (go_at_call 48; refine (readings_any T a1 a2 a3 a4 c1 c2 c3 c4 _).mono ?_; rintro e w4 ⟨rfl, rfl⟩)
  have hA4 : Aft w (w3.alloc (.cells #[.int .i64 T.places, .slice a1 T.ways.length c1, .slice a2 T.words.length c2, .slice a3 T.starts.length c3, .slice a4 T.legs.length c4] 27)) := (HA0.out.trans HA3.out).then_alloc _
  have hb4 := hb3.alloc (.cells #[.int .i64 T.places, .slice a1 T.ways.length c1, .slice a2 T.words.length c2, .slice a3 T.starts.length c3, .slice a4 T.legs.length c4] 27)
  have hl4 := (HL0.out.aft HA3.out).alloc (.cells #[.int .i64 T.places, .slice a1 T.ways.length c1, .slice a2 T.words.length c2, .slice a3 T.starts.length c3, .slice a4 T.legs.length c4] 27)
  have hr4 := (HR0.out.aft HA3.out).alloc (.cells #[.int .i64 T.places, .slice a1 T.ways.length c1, .slice a2 T.words.length c2, .slice a3 T.starts.length c3, .slice a4 T.legs.length c4] 27)
  have hs4 := (HS0.out.aft HA3.out).alloc (.cells #[.int .i64 T.places, .slice a1 T.ways.length c1, .slice a2 T.words.length c2, .slice a3 T.starts.length c3, .slice a4 T.legs.length c4] 27)
  have he4 := Blk.new w3 27 #[.int .i64 T.places, .slice a1 T.ways.length c1, .slice a2 T.words.length c2, .slice a3 T.starts.length c3, .slice a4 T.legs.length c4]
  have hz4 : (w3.alloc (.cells #[.int .i64 T.places, .slice a1 T.ways.length c1, .slice a2 T.words.length c2, .slice a3 T.starts.length c3, .slice a4 T.legs.length c4] 27)).heap.size = w3.heap.size + 1 := by simp
  have hS3 : w.heap.size + 3 < w3.heap.size := (HS0.out.aft HA3.out).lt
  clear k0 k1 k2 k3 k4 hb3
  generalize (w3.alloc (.cells #[.int .i64 T.places, .slice a1 T.ways.length c1, .slice a2 T.words.length c2, .slice a3 T.starts.length c3, .slice a4 T.legs.length c4] 27)) = w4 at *
  generalize w3.heap.size = S at *
  have HI0 : Hid (AgrI w T a1 a2 a3 a4 c1 c2 c3 c4 (some ⟨bl, ol, none⟩) l cl S 0 w4) := Lib.hid ⟨hA4, hb4, hl4, he4, ⟨_, hr4⟩, ⟨_, hs4⟩, fun i hi => by omega⟩
  clear hA4 hb4 hl4 he4 hr4 hs4
  refine wp_block ?_
  refine (wpIn_wide (n := 5)).1 ?_
  refine wpIn_range3 (gf := 106) (lb := #[.pointer (some ⟨S, 0, none⟩)]) rfl (fun args w => by simp [go_sem]) (iter109 _ S _ T a2 c2 OK.out) (fun k W0 W v r o h hr => h.put hr o)
    (fun k W => AgrI w T a1 a2 a3 a4 c1 c2 c3 c4 (some ⟨bl, ol, none⟩) l cl S k W) (fun c W => c = .ret ∧ AgrX w T l S W) (by rw [hz4]; exact AgrI.three hS3) (fun c => by rw [hz4]; exact AgrX.three hS3 c) (fun k W h => ⟨(box_cells h.box2).2.2.1, (HT.out.aft h.aft).words⟩) HI0.out
    (fun v => { tmps := #[.agg #[.int .i64 T.places, .slice a1 T.ways.length c1, .slice a2 T.words.length c2, .slice a3 T.starts.length c3, .slice a4 T.legs.length c4], .slice (some ⟨bl, ol, none⟩) l.length cl, .pointer (some ⟨w.heap.size, 0, none⟩), .pointer (some ⟨w.heap.size + 1, 0, none⟩), .pointer (some ⟨w.heap.size + 1 + 1, 0, none⟩), .pointer (some ⟨w.heap.size + 1 + 1 + 1, 0, none⟩), .int .i64 0, v, undef, undef, .agg #[.int .i64 T.places, .slice a1 T.ways.length c1, .slice a2 T.words.length c2, .slice a3 T.starts.length c3, .slice a4 T.legs.length c4], .int .i64 0, .bool false, .int .i64 0, .bool false, undef, .bool false, .agg #[.int .i64 T.places, .slice a1 T.ways.length c1, .slice a2 T.words.length c2, .slice a3 T.starts.length c3, .slice a4 T.legs.length c4], .slice (some ⟨bl, ol, none⟩) l.length cl, .bool true, .bool false, .bool false, .pointer (some ⟨w.heap.size, 3, none⟩), .slice a3 T.starts.length c3, .slice (some ⟨bl, ol, none⟩) l.length cl, .pointer (some ⟨bl, ol, none⟩), .int .i64 n0, .bool true, .bool false, .agg #[.int .i64 T.places, .slice a1 T.ways.length c1, .slice a2 T.words.length c2, .slice a3 T.starts.length c3, .slice a4 T.legs.length c4], .func (.func 106) #[] #[.pointer (some ⟨S, 0, none⟩)], v, undef, undef, undef, undef, undef, undef, undef, undef, undef, undef, undef, undef, undef, undef, undef, undef, undef, undef, undef, undef, undef, undef, undef, undef], defers := [] }) ?assign ?body ?done ?stop
  case assign =>
    intro l v W K hK
    gi_wp2_with fail
    exact hK
  case body =>
    intro ll k v W0 W hk hI ha hB hv
    have hdl : (dig (lensOf T) k).length ≤ 6 := by rw [dig_len]; simp only [lensOf, List.length_map]; exact OK.out.nwords
    obtain ⟨AR, cR, rfl, _, hir⟩ := own_ints hv (by omega)
    have hTW := HT.out.aft (hI.aft.trans ha)
    have hro := readOk_iff.2 (dig_ok _ _ OK.out.lens hk)
    have HOP := Lib.hid (opened_any W T a1 a2 a3 a4 c1 c2 c3 c4 (dig (lensOf T) k) AR cR hTW hir OK.out hro)
    have HFD := Lib.hid (fun h => find_at (l := l) hk hI.none h)
    have HNO : Hid (keepsR T l (dig (lensOf T) k) = false → ∀ i, i < k + 1 → keepsR T l (dig (lensOf T) i) = false) := Lib.hid fun h i hi => by
      by_cases e : i = k
      · rw [e]; exact h
      · exact hI.none i (by omega)
    have HII := Lib.hid hI
    have HV : Hid (W.ownsRow W0.heap.size 3 1 (.slice AR (dig (lensOf T) k).length cR) (dig (lensOf T) k).length ((dig (lensOf T) k).map (Value.int .i64))) := Lib.hid hv
    have HAA := Lib.hid ha
    have hbW := hI.box.aft ha
    obtain ⟨k0, k1, k2, k3, k4⟩ := box_cells hbW
    have hltW := hbW.lt
    have HBW := Lib.hid hbW
    clear hTW hro hI hv ha hir hbW
    unfold keepsR at HFD HNO
    generalize hRR : dig (lensOf T) k = R at *
    clear hRR
    refine wpIn_block ?_
    refine wpIn_seq_k fun K1 H1 => ?_
    refine wpIn_region_of_list (by kernel_rfl) ?_
    go_wp2_with (go_at_call 49; refine HOP.out.mono ?_; rintro e w5 ⟨D, cs, rfl, hD, ha5, hbD, hgD⟩; have hd5 := hgD.desk hbD; have HD5 := Lib.hid hd5; have HA5 := Lib.hid ha5; have hb5 := HBW.out.aft ha5; have hlt5 := hb5.lt; obtain ⟨m0, m1, m2, m3, m4⟩ := box_cells hb5; clear hbD hgD hd5 ha5 HOP)
    change K1 _ _
    refine H1 _ _ ?_
    clear H1
    have hl5 : w5.cell? ⟨w.heap.size + 1, 0, none⟩ = some (.slice (some ⟨bl, ol, none⟩) l.length cl) := ((HII.out.line.aft HAA.out).aft HA5.out).cell 0
    have hl5' := ((HII.out.line.aft HAA.out).aft HA5.out).lt
    have hnl := OK.out.nlegs
    gi_wp2_with fail
    gi_loopw [38] (fun i wr => ∃ j m : Nat, i = .int .i64 j ∧ j ≤ T.legs.length ∧ keepsTo (leadsF T R) l j = true ∧ wr = w5.drewN m) (fun i _ => T.legs.length - (intOf i).toNat)
    case atStart => exact ⟨0, 0, rfl, by omega, rfl, rfl⟩
    case round =>
      obtain ⟨j, m, rfl, hj, hke, rfl⟩ := hrel
      have HKE := Lib.hid hke
      clear hke
      by_cases hjl : j < T.legs.length
      · have hk1 : j < l.length := by have := HLN.out; omega
        have hk2 : j + 1 < l.length := by have := HLN.out; omega
        obtain ⟨x, hx, hxp, hxd⟩ := int_bool HLL.out hk1
        obtain ⟨y, hy, hyp, hyd⟩ := int_bool HLL.out hk2
        have hsu := keepsTo_succ (leadsF T R) l j
        rw [hxd, hyd] at hsu
        have HSU := Lib.hid hsu
        have hai := HAI.out.aft (HII.out.aft.trans (HAA.out.trans HA5.out))
        obtain ⟨b', o', e, _, hcl⟩ := hai.at hk1
        cases e
        have cx : w5.cell? ⟨bl, ol + j, none⟩ = some (.int .i64 x) := by have := hcl j hk1; rwa [hx] at this
        have cy : w5.cell? ⟨bl, ol + (j + 1), none⟩ = some (.int .i64 y) := by have := hcl (j + 1) hk2; rwa [hy] at this
        have hdk := HD5.out.aft (Aft.drewN w5 m).then_drew
        have hp12 := OK.out.p2
        have hca := can_any D T a1 a2 a3 a4 c1 c2 c3 c4 (leadsF T R) j x y (w5.drewN m).drew hdk (by omega) (by omega) (by omega) (by omega) (by omega) (by omega)
        simp only [Int.toNat_natCast] at hca
        have i1 : (0 : Int) ≤ (j : Int) ∧ (j : Int) < (l.length : Int) := by omega
        have i2 : (0 : Int) ≤ ((j + 1 : Nat) : Int) ∧ ((j + 1 : Nat) : Int) < (l.length : Int) := by omega
        have w1' : IntKind.i64.wrap ((j : Int) + 1) = ((j + 1 : Nat) : Int) := by rw [IntWalk.i64_in _ (by omega)]; omega
        clear hsu hx hy hxd hyd hcl hai hdk hxp hyp hp12
        cases hf : leadsF T R j x y
        all_goals
          rw [hf] at hca HSU
          have HCA := Lib.hid (hca.mono (R' := fun e w'' => e = .returned _ ∧ w'' = (w5.drewN m).drew) fun _ _ ⟨h1, h2⟩ => ⟨h1, h2.symm⟩)
          clear hf hca
          have cx' : (w5.drewN m).drew.cell? ⟨bl, ol + j, none⟩ = some (.int .i64 x) := cx
          have cy' : (w5.drewN m).drew.cell? ⟨bl, ol + (j + 1), none⟩ = some (.int .i64 y) := cy
          have cl' : (w5.drewN m).drew.cell? ⟨w.heap.size + 1, 0, none⟩ = some (.slice (some ⟨bl, ol, none⟩) l.length cl) := hl5
          gi_wp2_with fail
          refine wpIn_region_tail' 12 (by kernel_rfl) (by kernel_rfl) (by kernel_rfl) ?_
          simp only [List.take_succ_cons, List.take_zero, List.drop_succ_cons, List.drop_zero]
          repeat (first | go_big_quiet_skip | (go_big_quiet_want; go_big_quiet_op; go_big_quiet_on))
          (go_big_quiet_want; go_big_quiet_op; refine ⟨_, HCA.out, ?_⟩; go_big_quiet_on)
          repeat (first | go_big_quiet_skip | (go_big_quiet_want; go_big_quiet_op; go_big_quiet_on))
          refine wpQuiet_nil ?_
          clear cx' cy' cl' HCA w1' i1 i2
          go_wp2_with fail
          refine OnlyN.normal ?_
          gi_wp2_with fail
        · change Kept3 w4.heap.size W (w5.drewN m).drew ∧ AgrI w T a1 a2 a3 a4 c1 c2 c3 c4 (some ⟨bl, ol, none⟩) l cl S (k + 1) (w5.drewN m).drew
          have hA7 := HA5.out.trans ((Aft.drewN w5 m).then_drew)
          have hA8 := HAA.out.trans hA7
          have hsz := HAA.out.size
          obtain ⟨v4, h4⟩ := HII.out.r4
          obtain ⟨v5, h5⟩ := HII.out.r5
          rw [hz4] at hB ⊢
          exact ⟨Kept3.of_aft hA7 (by omega), HII.out.aft.trans hA8, HII.out.box.aft hA8, HII.out.line.aft hA8, HII.out.box2.aft hA8, ⟨v4, h4.aft hA8⟩, ⟨v5, h5.aft hA8⟩, HNO.out (keepsTo_le (k := j + 1) (by omega) (by rw [HSU.out]; simp))⟩
        · exact ⟨⟨j + 1, m + 1, by go_num, by omega, by rw [HSU.out, HKE.out]; rfl, rfl⟩, by simp [intOf]; omega⟩
      · obtain rfl : j = T.legs.length := by omega
        obtain ⟨v4, h4⟩ := HII.out.r4
        obtain ⟨v5, h5⟩ := HII.out.r5
        have hA7 := HA5.out.trans (Aft.drewN w5 m)
        have hA8 := HAA.out.trans hA7
        have g4 := h4.aft hA8
        have g5 := h5.aft hA8
        have q4 : (w5.drewN m).cell? ⟨w.heap.size + 1 + 1, 0, none⟩ = some v4 := g4.cell 0
        have q5 : (w5.drewN m).cell? ⟨w.heap.size + 1 + 1 + 1, 0, none⟩ = some v5 := g5.cell 0
        have z4 : (w5.drewN m).frozen? ⟨w.heap.size + 1 + 1, 0, none⟩ = false := g4.frozen 0
        have z5 : (w5.drewN m).frozen? ⟨w.heap.size + 1 + 1 + 1, 0, none⟩ = false := g5.frozen 0
        have HG4 := Lib.hid g4
        have HG5 := Lib.hid g5
        have HA8 := Lib.hid hA8
        have HA7 := Lib.hid hA7
        clear g4 g5 hA8 hA7 h4 h5
        gi_wp2_with fail
        change Kept3 w4.heap.size W (((w5.drewN m).setCell ⟨w.heap.size + 2, 0, none⟩ (.slice AR R.length cR)).setCell ⟨w.heap.size + 3, 0, none⟩ (.int .i64 0)) ∧ Code.ret = .ret ∧ AgrX w T l S (((w5.drewN m).setCell ⟨w.heap.size + 2, 0, none⟩ (.slice AR R.length cR)).setCell ⟨w.heap.size + 3, 0, none⟩ (.int .i64 0))
        have hsz := HAA.out.size
        rw [hz4] at hB ⊢
        refine ⟨((Kept3.of_aft HA7.out (by omega)).setCell (.inl (by show w.heap.size + 2 < S + 1; omega)) _).setCell (.inl (by show w.heap.size + 3 < S + 1; omega)) _, rfl, ?_⟩
        refine ⟨((HII.out.aft.trans HA8.out).then_setCell (p := ⟨w.heap.size + 2, 0, none⟩) (by show w.heap.size ≤ w.heap.size + 2; omega) _).then_setCell (p := ⟨w.heap.size + 3, 0, none⟩) (by show w.heap.size ≤ w.heap.size + 3; omega) _,
          R, .slice AR R.length cR, HFD.out HKE.out, (HG4.out.store 0 _).far (by show w.heap.size + 2 ≠ w.heap.size + 3; omega) _, (HG5.out.far (by show w.heap.size + 3 ≠ w.heap.size + 2; omega) _).store 0 _, ?_⟩
        exact own_kept (own_kept (World.ownsRow.mono (own_aft HV.out HA7.out) (by omega)) (grownBy_setCell' (w5.drewN m) (w.heap.size + 2) _) (by omega)) (grownBy_setCell' _ (w.heap.size + 3) _) (by omega)
  case done =>
    intro D W hD hI hK
    obtain ⟨v4, h4⟩ := hI.r4
    obtain ⟨v5, h5⟩ := hI.r5
    have q4 : W.cell? ⟨w.heap.size + 1 + 1, 0, none⟩ = some v4 := h4.cell 0
    have q5 : W.cell? ⟨w.heap.size + 1 + 1 + 1, 0, none⟩ = some v5 := h5.cell 0
    have z4 : W.frozen? ⟨w.heap.size + 1 + 1, 0, none⟩ = false := h4.frozen 0
    have z5 : W.frozen? ⟨w.heap.size + 1 + 1 + 1, 0, none⟩ = false := h5.frozen 0
    have HA := Lib.hid hI.aft
    have HNN := Lib.hid (find_none hI.none)
    have HG4 := Lib.hid h4
    have HG5 := Lib.hid h5
    have HKD := Lib.hid hK
    have hDz : D = S + 1 := by omega
    clear hI h4 h5 hK hD
    go_wp2_with fail
    have hX4 := (HG4.out.store 0 (.slice none 0 0)).far (p := ⟨w.heap.size + 3, 0, none⟩) (by show w.heap.size + 2 ≠ w.heap.size + 3; omega) (.int .i64 7)
    have hX5 := (HG5.out.far (p := ⟨w.heap.size + 2, 0, none⟩) (by show w.heap.size + 3 ≠ w.heap.size + 2; omega) (.slice none 0 0)).store 0 (.int .i64 7)
    have hKX : ((W.setCell ⟨w.heap.size + 2, 0, none⟩ (.slice none 0 0)).setCell ⟨w.heap.size + 3, 0, none⟩ (.int .i64 7)).heap[D]? = some (.deferred (some [])) := (Below.heap_setCell _ _ _ D (by show D ≠ w.heap.size + 3; omega)).trans ((Below.heap_setCell _ _ _ D (by show D ≠ w.heap.size + 2; omega)).trans HKD.out)
    have hAX := ((HA.out.then_setCell (p := ⟨w.heap.size + 2, 0, none⟩) (by show w.heap.size ≤ w.heap.size + 2; omega) (.slice none 0 0)).then_setCell (p := ⟨w.heap.size + 3, 0, none⟩) (by show w.heap.size ≤ w.heap.size + 3; omega) (.int .i64 7)).grown (grownBy_putObj' _ D (.deferred none)) (fun k e => by cases e; omega)
    have y4 := (hX4.grown (grownBy_putObj' _ D (.deferred none)) (fun e => by cases e; omega)).cell 0
    have y5 := (hX5.grown (grownBy_putObj' _ D (.deferred none)) (fun e => by cases e; omega)).cell 0
    refine ⟨by simp, .inl ⟨_, _, rfl, run_takeDeferred hKX, ?_⟩⟩
    refine ⟨.tuple #[.slice none 0 0, .int .i64 7], ?_, ⟨hAX, .inl ⟨HNN.out, rfl⟩⟩⟩
    clear hX4 hX5 hKX hAX
    generalize (((W.setCell ⟨w.heap.size + 2, 0, none⟩ (.slice none 0 0)).setCell ⟨w.heap.size + 3, 0, none⟩ (.int .i64 7)).putObj D (.deferred none)) = X at *
    have y4' : X.cell? ⟨w.heap.size + 1 + 1, 0, none⟩ = some (.slice none 0 0) := y4
    have y5' : X.cell? ⟨w.heap.size + 1 + 1 + 1, 0, none⟩ = some (.int .i64 7) := y5
    simp [results, Tryz.results23, go_sem, y4', y5']
  case stop =>
    rintro D c W hD ⟨rfl, hX⟩ hK
    have hDz : D = S + 1 := by omega
    refine wpIn_ret ?_
    obtain ⟨ha, R, v, h1, h2, h3, h4⟩ := hX
    have hAX := ha.grown (grownBy_putObj' W D (.deferred none)) (fun k e => by cases e; omega)
    have y4 := (h2.grown (grownBy_putObj' W D (.deferred none)) (fun e => by cases e; omega)).cell 0
    have y5 := (h3.grown (grownBy_putObj' W D (.deferred none)) (fun e => by cases e; omega)).cell 0
    have hown := own_kept h4 (grownBy_putObj' W D (.deferred none)) (by omega)
    refine ⟨by simp, .inl ⟨_, _, rfl, run_takeDeferred hK, ?_⟩⟩
    refine ⟨.tuple #[v, .int .i64 0], ?_, ⟨hAX, .inr ⟨R, v, h1, rfl, World.ownsRow.mono hown (by omega)⟩⟩⟩
    have y4' : (W.putObj D (.deferred none)).cell? ⟨w.heap.size + 1 + 1, 0, none⟩ = some v := y4
    have y5' : (W.putObj D (.deferred none)).cell? ⟨w.heap.size + 1 + 1 + 1, 0, none⟩ = some (.int .i64 0) := y5
    clear y4 y5 hown hAX h4 h3 h2 ha
    generalize (W.putObj D (.deferred none)) = X at *
    simp [results, Tryz.results23, go_sem, y4', y5']
end Go.Proofs
end
