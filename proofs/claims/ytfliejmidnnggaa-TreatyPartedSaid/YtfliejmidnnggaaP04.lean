/- Merged by program out of the texts Own2 Own3 Tail Xg Xh Xi Sc Xj Xk Xm. -/
import Derived.Test.YtfliejmidnnggaaP03
import Derived.Maps.AppendAt
import Derived.Deep.Onto
import Derived.StillTailTactics
import Derived.Deep.RegionLaw
section
/- Words for memory: a slice of slices of the call's own. -/
namespace Go.Proofs
open Go.RowKit

theorem ty41 : SliceTy Try.prog 41 24 1 24 := .mk' (z := .slice none 0 0) Try.underlying41 (by kernel_rfl) rfl (by decide)

/-- A slice of slices of numbers, all of its memory of the call's own, no two rows in one block. -/
structure OwnLs (W : World) (base : Nat) (v : Value) (vs : List Value) (ls : List (List Int)) : Prop where
  own : W.ownsRow base 24 1 v ls.length vs
  rows : ∀ i, (h : i < ls.length) → (h' : i < vs.length) → W.ownsRow base 3 1 vs[i] ls[i].length (ls[i].map (Value.int .i64))
  apart : ∀ i, (h : i < vs.length) → ∀ g, vs[i].ownBlock = some g → v.ownBlock ≠ some g ∧ ∀ j, (h' : j < vs.length) → j ≠ i → vs[j].ownBlock ≠ some g

def OwnLists (W : World) (base : Nat) (v : Value) (ls : List (List Int)) : Prop := ∃ vs, OwnLs W base v vs ls

section
variable {W W' : World} {base : Nat} {v : Value} {vs : List Value} {ls : List (List Int)}
theorem OwnLs.len (h : OwnLs W base v vs ls) : vs.length = ls.length := by simpa using h.own.1
theorem OwnLs.nil : OwnLs W base (.slice none 0 0) [] [] := ⟨World.ownsRow_nil _ _ 24 1, fun i h => by simp at h, fun i h => by simp at h⟩
theorem OwnLists.nil : OwnLists W base (.slice none 0 0) [] := ⟨[], OwnLs.nil⟩
theorem OwnLs.aft (h : OwnLs W base v vs ls) (ha : Aft W W') : OwnLs W' base v vs ls :=
  ⟨own_aft h.own ha, fun i hi hi' => own_aft (h.rows i hi hi') ha, h.apart⟩
theorem OwnLists.aft (h : OwnLists W base v ls) (ha : Aft W W') : OwnLists W' base v ls := let ⟨vs, h⟩ := h; ⟨vs, h.aft ha⟩
theorem OwnLs.mono (h : OwnLs W base v vs ls) {b : Nat} (hb : b ≤ base) : OwnLs W b v vs ls :=
  ⟨World.ownsRow.mono h.own hb, fun i hi hi' => World.ownsRow.mono (h.rows i hi hi') hb, h.apart⟩
theorem OwnLists.mono (h : OwnLists W base v ls) {b : Nat} (hb : b ≤ base) : OwnLists W b v ls := let ⟨vs, h⟩ := h; ⟨vs, h.mono hb⟩

/-- What append leaves of it. -/
theorem OwnLs.push (h : OwnLs W base v vs ls) {W2 W3 : World} (ha : Aft W W2) {r v' : Value} {l : List Int} (hr : W2.ownsRow W.heap.size 3 1 r l.length (l.map (Value.int .i64))) (hbase : base ≤ W.heap.size)
    (hown : W3.ownsRow base 24 1 v' (ls.length + 1) (vs ++ [r])) (hg : W2.grownBy W3 v.ownBlock) (hat : v'.ownBlock = v.ownBlock ∨ v'.ownBlock = some W2.heap.size) : OwnLs W3 base v' (vs ++ [r]) (ls ++ [l]) := by
  have hlen := h.len
  have old : ∀ i, (hi : i < vs.length) → ∀ g, vs[i].ownBlock = some g → g < W.heap.size := fun i hi g hg => ((h.rows i (by omega) hi).lt g hg).2
  have vold : ∀ g, v.ownBlock = some g → g < W.heap.size := fun g hg => (h.own.lt g hg).2
  have rnew : ∀ g, r.ownBlock = some g → W.heap.size ≤ g ∧ g < W2.heap.size := fun g hg => hr.lt g hg
  have hs := ha.size
  refine ⟨by simpa using hown, fun i hi hi' => ?_, fun i hi g hgi => ?_⟩
  · by_cases e : i < vs.length
    · rw [List.getElem_append_left e]
      have e' : i < ls.length := by omega
      simp only [List.getElem_append_left e']
      refine (own_aft (h.rows i e' e) ha).kept hg ?_
      cases hb : vs[i].ownBlock with
      | none => left; rfl
      | some g => right; intro e2; exact (h.apart i e g hb).1 e2.symm
    · have e2 : i = vs.length := by simp at hi'; omega
      subst e2
      have e3 : vs.length = ls.length := hlen
      rw [List.getElem_append_right (Nat.le_refl _)]
      simp only [Nat.sub_self, List.getElem_cons_zero]
      have : (ls ++ [l])[vs.length]'hi = l := by simp [e3]
      rw [this]
      refine World.ownsRow.mono (hr.kept hg ?_) hbase
      cases hb : r.ownBlock with
      | none => left; rfl
      | some g => right; intro e2; have := vold g e2.symm; have := (rnew g hb).1; omega
  · by_cases e : i < vs.length
    · rw [List.getElem_append_left e] at hgi
      have hlt := old i e g hgi
      refine ⟨fun e2 => ?_, fun j hj hne => ?_⟩
      · rcases hat with h1 | h1
        · rw [h1] at e2; exact (h.apart i e g hgi).1 e2
        · rw [h1] at e2; cases e2; omega
      · by_cases ej : j < vs.length
        · rw [List.getElem_append_left ej]; exact (h.apart i e g hgi).2 j ej hne
        · have e2 : j = vs.length := by simp at hj; omega
          subst e2
          rw [List.getElem_append_right (Nat.le_refl _)]
          simp only [Nat.sub_self, List.getElem_cons_zero]
          intro e2; have := (rnew g e2).1; omega
    · have e2 : i = vs.length := by simp at hi; omega
      subst e2
      rw [List.getElem_append_right (Nat.le_refl _)] at hgi
      simp only [Nat.sub_self, List.getElem_cons_zero] at hgi
      have := rnew g hgi
      refine ⟨fun e2 => ?_, fun j hj hne => ?_⟩
      · rcases hat with h1 | h1
        · rw [h1] at e2; have := vold g e2; omega
        · rw [h1] at e2; cases e2; omega
      · have ej : j < vs.length := by simp at hj; omega
        rw [List.getElem_append_left ej]
        intro e2; have := old j ej g e2; omega

/-- It reads as a list of lists. -/
theorem OwnLs.lists (h : OwnLs W base v vs ls) (hl : ls.length ≤ 17592186043904) (hr : ∀ l ∈ ls, l.length ≤ 17592186043904) : ∃ A c, v = .slice A ls.length c ∧ ls.length ≤ c ∧ Lists W A ls := by
  rcases h.own.2 with ⟨rfl, h0⟩ | ⟨g, cap, cur, rfl, hg, hh, hc, hm, hs, ht⟩
  · have : ls = [] := List.eq_nil_of_length_eq_zero h0
    subst this
    exact ⟨none, 0, rfl, Nat.le_refl _, by simp, .inl rfl⟩
  · refine ⟨_, cap, rfl, hc, by omega, .inr ⟨g, 0, rfl, (Array.getElem?_eq_some_iff.1 hh).1, fun i hi => ?_⟩⟩
    have hiv : i < vs.length := by rw [h.len]; exact hi
    obtain ⟨A, c, e, _, hi2⟩ := own_ints (h.rows i hi hiv) (hr _ (List.getElem_mem hi))
    refine ⟨[vs[i]], rfl, ⟨A, c, by rw [e], hi2⟩, fun j hj => ?_⟩
    have := h.own.cells (g := g) rfl i vs[i] (by simp [hiv])
    rw [Addr.add_lit] at this
    simp at hj
    subst hj
    simpa using this
theorem OwnLists.lists (h : OwnLists W base v ls) (hl : ls.length ≤ 17592186043904) (hr : ∀ l ∈ ls, l.length ≤ 17592186043904) : ∃ A c, v = .slice A ls.length c ∧ ls.length ≤ c ∧ Lists W A ls := let ⟨_, h⟩ := h; h.lists hl hr
end

/-- append(v, one list) to a slice of slices of the call's own: the new row lies in a block just laid. -/
theorem wpList_app_list {w : World} {ops : Array Oper} {rest : List Oper} {o : Oper} {a : Act} {Q : Exit → Act → World → Prop}
    (hgd : o.guard = none) (s x : Operand) (ho : o.op = .call { callee := .builtin .append, args := #[s, x], argTypes := #[41, 41] })
    {base : Nat} {v : Value} {vs : List Value} {ls : List (List Int)} {W : World} (h : OwnLs W base v vs ls) (hbase : base ≤ W.heap.size) (hs : a.eval s = v)
    {r : Value} {l : List Int} {c : Nat} {b : Nat} (hx : a.eval x = .slice (some ⟨b, 0, none⟩) 1 c) (hb : w.cell? ⟨b, 0, none⟩ = some r) (h1 : r.oneCell' = true)
    (ha : Aft W w) (hr : w.ownsRow W.heap.size 3 1 r l.length (l.map (Value.int .i64))) (hl : ls.length ≤ 1000000)
    (hn : ∀ v' vs' w', OwnLs w' base v' vs' (ls ++ [l]) → w.grownBy w' v.ownBlock → wpList Try.prog ops Q rest (a.put o.dst v') w') : wpList Try.prog ops Q (o :: rest) a w := by
  obtain ⟨ht, ⟨i, z, hi, hz, hsize, hby, hzs⟩, hsz⟩ := ty41
  refine wpList_append_own_at (w := w) hgd s x 41 ho base 24 i z 1 24 ht hi hz hsize hby hzs hsz v ls.length vs hs (own_aft h.own ha) ⟨b, 0, none⟩ 1 c [r] hx rfl (fun j u hj => ?_) (fun u hu => by rw [List.mem_singleton] at hu; subst hu; exact h1)
    (by unfold maxLen; omega) (by omega) (Nat.le_trans hbase ha.size) fun v' w' h2 h3 _ h5 => hn v' _ w' (h.push ha hr hbase h2 h3 h5) h3
  match j, hj with
  | 0, hj => simp at hj; subst hj; rw [Addr.add_lit]; simpa using hb

/-- The same at a step of a region that draws its order. -/
theorem step_app_list {w : World} {ops : Array Oper} {o : Oper} {a : Act} {K : Act → World → Prop} {Q : Exit → Act → World → Prop} {E : Prop}
    (hgd : o.guard = none) (s x : Operand) (ho : o.op = .call { callee := .builtin .append, args := #[s, x], argTypes := #[41, 41] })
    {base : Nat} {v : Value} {vs : List Value} {ls : List (List Int)} {W : World} (h : OwnLs W base v vs ls) (hbase : base ≤ W.heap.size) (hs : a.eval s = v)
    {r : Value} {l : List Int} {c : Nat} {b : Nat} (hx : a.eval x = .slice (some ⟨b, 0, none⟩) 1 c) (hb : w.cell? ⟨b, 0, none⟩ = some r) (h1 : r.oneCell' = true)
    (ha : Aft W w) (hr : w.ownsRow W.heap.size 3 1 r l.length (l.map (Value.int .i64))) (hl : ls.length ≤ 1000000)
    (hn : ∀ v' vs' w', OwnLs w' base v' vs' (ls ++ [l]) → w.grownBy w' v.ownBlock → K (a.put o.dst v') w') :
    if Region.wanted o (yielded ops a.tmps) = true then Oper.wp Try.prog o a w K Q else E := by
  have hw : Region.wanted o (yielded ops a.tmps) = true := by simp [Region.wanted, hgd]
  rw [if_pos hw]
  obtain ⟨ht, ⟨i, z, hi, hz, hsize, hby, hzs⟩, hsz⟩ := ty41
  obtain ⟨v', w', hr', h2, h3, _, h5⟩ := run_append_own_at (P := Try.prog) w base 41 o.type 24 i z 1 24 ht hi hz hsize hby hzs hsz v ls.length vs (own_aft h.own ha) ⟨b, 0, none⟩ 1 c [r] rfl (fun j u hj => by
      match j, hj with
      | 0, hj => simp at hj; subst hj; rw [Addr.add_lit]; simpa using hb) (fun u hu => by rw [List.mem_singleton] at hu; subst hu; exact h1) (by unfold maxLen; omega) (by omega) (Nat.le_trans hbase ha.size)
  unfold Oper.wp execOp
  simp only [ho, resolve, invoke, builtin, Sem.run_bind, Sem.run_pure, Result.andThen_ok, List.map_toArray, List.map_cons, List.map_nil, hs, hx, hr', Oper.upon]
  exact hn v' _ w' (h.push ha hr hbase h2 h3 h5) h3

/-- The same, with the blocks told. -/
theorem step_app_list2 {w : World} {ops : Array Oper} {o : Oper} {a : Act} {K : Act → World → Prop} {Q : Exit → Act → World → Prop} {E : Prop}
    (hgd : o.guard = none) (s x : Operand) (ho : o.op = .call { callee := .builtin .append, args := #[s, x], argTypes := #[41, 41] })
    {base : Nat} {v : Value} {vs : List Value} {ls : List (List Int)} {W : World} (h : OwnLs W base v vs ls) (hbase : base ≤ W.heap.size) (hs : a.eval s = v)
    {r : Value} {l : List Int} {c : Nat} {b : Nat} (hx : a.eval x = .slice (some ⟨b, 0, none⟩) 1 c) (hb : w.cell? ⟨b, 0, none⟩ = some r) (h1 : r.oneCell' = true)
    (ha : Aft W w) (hr : w.ownsRow W.heap.size 3 1 r l.length (l.map (Value.int .i64))) (hl : ls.length ≤ 1000000)
    (hn : ∀ v' w', OwnLs w' base v' (vs ++ [r]) (ls ++ [l]) → w.grownBy w' v.ownBlock → (v'.ownBlock = v.ownBlock ∨ v'.ownBlock = some w.heap.size) → K (a.put o.dst v') w') :
    if Region.wanted o (yielded ops a.tmps) = true then Oper.wp Try.prog o a w K Q else E := by
  have hw : Region.wanted o (yielded ops a.tmps) = true := by simp [Region.wanted, hgd]
  rw [if_pos hw]
  obtain ⟨ht, ⟨i, z, hi, hz, hsize, hby, hzs⟩, hsz⟩ := ty41
  obtain ⟨v', w', hr', h2, h3, _, h5⟩ := run_append_own_at (P := Try.prog) w base 41 o.type 24 i z 1 24 ht hi hz hsize hby hzs hsz v ls.length vs (own_aft h.own ha) ⟨b, 0, none⟩ 1 c [r] rfl (fun j u hj => by
      match j, hj with
      | 0, hj => simp at hj; subst hj; rw [Addr.add_lit]; simpa using hb) (fun u hu => by rw [List.mem_singleton] at hu; subst hu; exact h1) (by unfold maxLen; omega) (by omega) (Nat.le_trans hbase ha.size)
  unfold Oper.wp execOp
  simp only [ho, resolve, invoke, builtin, Sem.run_bind, Sem.run_pure, Result.andThen_ok, List.map_toArray, List.map_cons, List.map_nil, hs, hx, hr', Oper.upon]
  exact hn v' w' (h.push ha hr hbase h2 h3 h5) h3 h5

theorem own_cell1 {w : World} {base : Nat} {v : Value} {l : List Int} (h : w.ownsRow base 3 1 v l.length (l.map (Value.int .i64))) : v.oneCell' = true := by
  rcases h.2 with ⟨rfl, _⟩ | ⟨g, cap, cur, rfl, _⟩ <;> rfl
end Go.Proofs
end

section
/- Words for memory: append of one number to a list of the call's own. -/
namespace Go.Proofs
open Go.RowKit

theorem keep_grown {W W' w' : World} {row : Option Nat} {b i : Nat} {x : Value} (ha : Aft W W') (hg : W'.grownBy w' row) (hb : b < W.heap.size) (hne : some b ≠ row) (h : W.cell? ⟨b, i, none⟩ = some x) : w'.cell? ⟨b, i, none⟩ = some x := by
  obtain ⟨u, rfl⟩ := ha
  exact (cell_grown hg (Nat.lt_of_lt_of_le hb (W.lat_size u)) hne).trans ((World.lat_cell _ _ _ _ hb).trans h)
theorem keep_grown_z {W W' w' : World} {row : Option Nat} {b i : Nat} {x : Bool} (ha : Aft W W') (hg : W'.grownBy w' row) (hb : b < W.heap.size) (hne : some b ≠ row) (h : W.frozen? ⟨b, i, none⟩ = x) : w'.frozen? ⟨b, i, none⟩ = x := by
  obtain ⟨u, rfl⟩ := ha
  exact (frozen_grown hg (Nat.lt_of_lt_of_le hb (W.lat_size u)) hne).trans ((World.lat_frozen _ _ _ _ hb).trans h)
theorem cell_new1 (w : World) (v : Value) (t : TypeId) : (w.alloc (.cells #[v] t)).cell? ⟨w.heap.size, 0, none⟩ = some v := by simp

/-- append(v, y) to a list of the call's own. -/
theorem wpList_push {w : World} {ops : Array Oper} {rest : List Oper} {o : Oper} {a : Act} {Q : Exit → Act → World → Prop}
    (hgd : o.guard = none) (s x : Operand) (ho : o.op = .call { callee := .builtin .append, args := #[s, x], argTypes := #[24, 24] })
    {base : Nat} {v : Value} {l : List Int} (hown : w.ownsRow base 3 1 v l.length (l.map (Value.int .i64))) (hbase : base ≤ w.heap.size) (hs : a.eval s = v)
    {y : Int} {c : Nat} {b : Nat} (hx : a.eval x = .slice (some ⟨b, 0, none⟩) 1 c) (hb : w.cell? ⟨b, 0, none⟩ = some (.int .i64 y)) (hl : l.length ≤ 1000000)
    (hn : ∀ v' w', w'.ownsRow base 3 1 v' (l ++ [y]).length ((l ++ [y]).map (Value.int .i64)) → w.grownBy w' v.ownBlock → wpList Try.prog ops Q rest (a.put o.dst v') w') : wpList Try.prog ops Q (o :: rest) a w := by
  refine wpList_app_at ty24 hgd s x ho hbase hs hown hx (news := [.int .i64 y]) rfl (by intro h; cases h) (fun ad e j u h => ?_) (one_int y) (by omega) (by decide) fun v' w' h1 h2 => hn v' w' (by simpa using h1) h2
  cases e
  match j, h with
  | 0, h => simp at h; subst h; rw [Addr.add_lit]; simpa using hb

/-- The same at a step of a region that draws its order. -/
theorem step_push {w : World} {ops : Array Oper} {o : Oper} {a : Act} {K : Act → World → Prop} {Q : Exit → Act → World → Prop} {E : Prop}
    (hgd : o.guard = none) (s x : Operand) (ho : o.op = .call { callee := .builtin .append, args := #[s, x], argTypes := #[24, 24] })
    {base : Nat} {v : Value} {l : List Int} (hown : w.ownsRow base 3 1 v l.length (l.map (Value.int .i64))) (hbase : base ≤ w.heap.size) (hs : a.eval s = v)
    {y : Int} {c : Nat} {b : Nat} (hx : a.eval x = .slice (some ⟨b, 0, none⟩) 1 c) (hb : w.cell? ⟨b, 0, none⟩ = some (.int .i64 y)) (hl : l.length ≤ 1000000)
    (hn : ∀ v' w', w'.ownsRow base 3 1 v' (l ++ [y]).length ((l ++ [y]).map (Value.int .i64)) → w.grownBy w' v.ownBlock → K (a.put o.dst v') w') :
    if Region.wanted o (yielded ops a.tmps) = true then Oper.wp Try.prog o a w K Q else E := by
  have hw : Region.wanted o (yielded ops a.tmps) = true := by simp [Region.wanted, hgd]
  rw [if_pos hw]
  obtain ⟨ht, ⟨i, z, hi, hz, hsize, hby, hzs⟩, hsz⟩ := ty24
  obtain ⟨v', w', hr', h2, h3, _, _⟩ := run_append_own_at (P := Try.prog) w base 24 o.type 3 i z 1 8 ht hi hz hsize hby hzs hsz v l.length _ hown ⟨b, 0, none⟩ 1 c [.int .i64 y] rfl (fun j u hj => by
      match j, hj with
      | 0, hj => simp at hj; subst hj; rw [Addr.add_lit]; simpa using hb) (one_int y) (by unfold maxLen; omega) (by omega) hbase
  unfold Oper.wp execOp
  simp only [ho, resolve, invoke, builtin, Sem.run_bind, Sem.run_pure, Result.andThen_ok, List.map_toArray, List.map_cons, List.map_nil, hs, hx, hr', Oper.upon]
  exact hn v' w' (by simpa using h2) h3
end Go.Proofs
end

section
/- A region that draws its order and ends in a store, by the quick step of a quiet walk. -/
namespace Go

theorem Oper.still_of_quiet {P : Program} {o : Oper} {a : Act} {w : World} {K : Act → Prop} (h : o.quiet P a (fun w' => w' = w) K) : o.still P a w K := by
  obtain ⟨v, h1, h2⟩ := h
  have h3 := h1 w rfl
  unfold Oper.quietAt at h3
  unfold Oper.still
  generalize (execOp a.eval o).run P w = r at *
  cases r with
  | ok n w' =>
    cases n <;> simp only [Oper.quietUpon] at h3 <;> simp only [Oper.stillUpon]
    case value u => obtain ⟨e1, e2⟩ := h3; exact ⟨e1, by rw [e2]; exact h2⟩
    case skip => obtain ⟨e1, e2⟩ := h3; exact ⟨e1, by rw [← e2]; exact h2⟩
    case enter f args => obtain ⟨e1, hc⟩ := h3; exact ⟨e1, v, hc, h2⟩
  | halt x w' => simp only [Oper.quietUpon] at h3

theorem wpStill_of_quiet {P : Program} {ops : Array Oper} {w : World} {Q : Act → Prop} : ∀ (l : List Oper) (a : Act), wpQuiet P ops (fun w' => w' = w) Q l a → wpStill P ops w Q l a
  | [], _, h => h
  | o :: rest, a, h => by
    unfold wpQuiet at h
    unfold wpStill
    split
    · rename_i hw
      rw [if_pos hw] at h
      exact Oper.still_mono (fun a' h' => wpStill_of_quiet rest a' h') (Oper.still_of_quiet h)
    · rename_i hw
      rw [if_neg hw] at h
      exact wpStill_of_quiet rest _ h

theorem wp_region_tail {P : Program} {id : Nat} {Q : Exit → Act → World → Prop} {a : Act} {w : World} {l : List Oper} (n : Nat) (hm : P.follows .mixedOrders = true) (hB : Region.lexTailB .any l.toArray n = true)
    (h : wpQuiet P l.toArray (fun w' => w' = w.drew) (fun a' => wpList P l.toArray Q (l.drop n) a' w.drew) (l.take n) a) : (Code.region id l.toArray true).wp P Q a w :=
  wp_region_still_tail n hm hB (wpStill_of_quiet _ _ h)

end Go
end

section
/- Walks: a deck of numbers. -/
namespace Go.Proofs
open Go.RowKit

/-- A slice reads as bytes. -/
def Bytes (w : World) (A : Option Addr) (l : List Int) : Prop :=
  l.length ≤ 9223372036854775807 ∧ (l = [] ∨ ∃ b o, A = some ⟨b, o, none⟩ ∧ b < w.heap.size ∧ ∀ i, (h : i < l.length) → w.cell? ⟨b, o + i, none⟩ = some (.int .u8 l[i]) ∧ 0 ≤ l[i] ∧ l[i] ≤ 255)
theorem Bytes.aft {w w' : World} {A : Option Addr} {l : List Int} (h : Bytes w A l) (ha : Aft w w') : Bytes w' A l := by
  obtain ⟨u, rfl⟩ := ha
  refine ⟨h.1, h.2.imp id ?_⟩
  rintro ⟨b, o, e, hb, hc⟩
  exact ⟨b, o, e, Nat.lt_of_lt_of_le hb (World.lat_size _ _), fun i hi => ⟨(World.lat_cell _ _ _ _ hb).trans (hc i hi).1, (hc i hi).2⟩⟩

/-- A deck lies in block d, over bytes of an older world; no more than m numbers were dealt. -/
def DeckAt (w0 : World) (d : Nat) (A : Option Addr) (l : List Int) (c m : Nat) (w : World) : Prop :=
  Bytes w0 A l ∧ w0.heap.size ≤ d ∧ Aft w0 w ∧ ∃ q s : Nat, Blk w d 123 #[.slice A l.length c, .int .i64 q, .int .u32 s] ∧ q ≤ m ∧ s < 4294967296

section
variable {w0 : World} {d : Nat} {A : Option Addr} {l : List Int} {c m : Nat} {w w' : World}
theorem DeckAt.aft (h : DeckAt w0 d A l c m w) (ha : Aft w w') : DeckAt w0 d A l c m w' := by
  obtain ⟨h1, h2, h3, q, s, h4, h5, h6⟩ := h
  exact ⟨h1, h2, h3.trans ha, q, s, h4.aft ha, h5, h6⟩
theorem DeckAt.more (h : DeckAt w0 d A l c m w) {m' : Nat} (hm : m ≤ m') : DeckAt w0 d A l c m' w := by
  obtain ⟨h1, h2, h3, q, s, h4, h5, h6⟩ := h
  exact ⟨h1, h2, h3, q, s, h4, by omega, h6⟩
theorem DeckAt.lt (h : DeckAt w0 d A l c m w) : d < w.heap.size := by
  obtain ⟨h1, h2, h3, q, s, h4, h5, h6⟩ := h
  exact h4.lt
end

theorem DeckAt.put {w0 : World} {d : Nat} {A : Option Addr} {l : List Int} {c m : Nat} {w : World} {q s : Nat} (h : DeckAt w0 d A l c m w) (hb : Blk w d 123 #[.slice A l.length c, .int .i64 q, .int .u32 s]) (hq : q ≤ m)
    {x : Int} (h0 : 0 ≤ x) (h1 : x < 4294967296) :
    DeckAt w0 d A l c (m + 1) ((w.setCell ⟨d, 1, none⟩ (.int .i64 (q + 1))).setCell ⟨d, 2, none⟩ (.int .u32 x)).drew.drew := by
  obtain ⟨h1', h2, h3, -⟩ := h
  obtain ⟨y, rfl⟩ := Int.eq_ofNat_of_zero_le h0
  exact ⟨h1', h2, ((h3.then_setCell h2 _).then_setCell h2 _).then_drew.then_drew, q + 1, y, ((hb.store 1 _).store 2 _).drew.drew, by omega, by omega⟩

theorem only_put {w : World} {d : Nat} (u v : Value) : w.grownBy ((w.setCell ⟨d, 1, none⟩ u).setCell ⟨d, 2, none⟩ v).drew.drew (some d) := by
  have h1 : w.grownBy (w.setCell ⟨d, 1, none⟩ u) (some d) := only_setCell (only_refl w (some d)) (p := ⟨d, 1, none⟩) (.inl rfl) u
  have h2 : w.grownBy ((w.setCell ⟨d, 1, none⟩ u).setCell ⟨d, 2, none⟩ v) (some d) := only_setCell h1 (p := ⟨d, 2, none⟩) (.inl rfl) v
  exact only_drew (only_drew h2)

/-- What a deck's deal leaves. -/
def Dealt (w0 : World) (d : Nat) (A : Option Addr) (l : List Int) (c m : Nat) (n : Int) (w : World) (e : Ending) (w' : World) : Prop :=
  ∃ x : Int, e = .returned (.int .i64 x) ∧ 0 ≤ x ∧ (x < n ∨ n ≤ 1 ∧ x = 0) ∧ DeckAt w0 d A l c (m + 1) w' ∧ w.grownBy w' (some d)

set_option maxRecDepth 100000 in
set_option maxHeartbeats 2000000 in
theorem draw_any (w0 : World) (d : Nat) (A : Option Addr) (l : List Int) (c m : Nat) (n : Int) (w : World) (hd : DeckAt w0 d A l c m w) (hm : m ≤ 1000000) (hn : -1000000 ≤ n) (hn' : n ≤ 1000000) :
    Calls Try.prog 33 #[.pointer (some ⟨d, 0, none⟩), .int .i64 n] w (Dealt w0 d A l c m n w) := by
  have HD := Lib.hid hd
  obtain ⟨h1, h2, h3, q, s, h4, h5, h6⟩ := hd
  have hl := h1.1
  by_cases hn1 : n ≤ 1
  · go_enter Try.func33, Try.ntmps33
    go_wp2_with fail
    go_ret
    exact ⟨0, rfl, by omega, .inr ⟨hn1, rfl⟩, HD.out.more (by omega), only_refl _ _⟩
  · have k0 : w.cell? ⟨d, 0, none⟩ = some (.slice A l.length c) := h4.cell 0
    have k1 : w.cell? ⟨d, 1, none⟩ = some (.int .i64 q) := h4.cell 1
    have k2 : w.cell? ⟨d, 2, none⟩ = some (.int .u32 s) := h4.cell 2
    have hdn : decide (n ≤ 1) = false := by simpa using hn1
    by_cases hl0 : l.length = 0
    · have hb : ((l.length : Int) == 0) = true := by simp [hl0]
      have hb2 : (l.length == 0) = true := by simp [hl0]
      go_enter Try.func33, Try.ntmps33
      go_wp2_with fail
      go_ret
      exact ⟨0, rfl, by omega, .inl (by omega), HD.out.more (by omega), only_refl _ _⟩
    · have hb : ((l.length : Int) == 0) = false := by rw [beq_eq_false_iff_ne]; omega
      have hb2 : (l.length == 0) = false := by simpa using hl0
      have hlp : 0 < l.length := by omega
      have hql : q % l.length < l.length := Nat.mod_lt _ hlp
      obtain ⟨b, o, rfl, hbl, hcl⟩ := (h1.aft h3).2.resolve_left (fun e => by rw [e] at hl0; exact hl0 rfl)
      obtain ⟨cB, g2, g3⟩ := hcl (q % l.length) hql
      obtain ⟨y, hy⟩ := Int.eq_ofNat_of_zero_le g2
      have hy255 : y ≤ 255 := by rw [hy] at g3; omega
      rw [hy] at cB
      clear hcl hy g2 g3 h1 h2 h3
      have HB := Lib.hid h4
      have fz1 := h4.frozen 1
      have fz2 := h4.frozen 2
      clear h4
      obtain ⟨r, hr⟩ : ∃ r, q % l.length = r := ⟨_, rfl⟩
      have t1 : ((q : Int).tmod (l.length : Int)) = (r : Int) := by rw [← hr, Int.tmod_eq_emod_of_nonneg (by omega)]; simp
      rw [hr] at cB hql
      have i1 : (0 : Int) ≤ (r : Int) ∧ (r : Int) < (l.length : Int) := by omega
      obtain ⟨z, hz⟩ : ∃ z, ((q : Int).tdiv (l.length : Int)) = z := ⟨_, rfl⟩
      have cB1 : w.drew.cell? ⟨b, o + r, none⟩ = some (.int .u8 y) := cB
      have k01 : w.drew.cell? ⟨d, 0, none⟩ = some (.slice (some ⟨b, o, none⟩) l.length c) := k0
      have k11 : w.drew.cell? ⟨d, 1, none⟩ = some (.int .i64 q) := k1
      clear hr
      go_enter Try.func33, Try.ntmps33
      go_wp2_with fail
      refine wp_region_tail 17 (by kernel_rfl) (by kernel_rfl) ?_
      simp only [List.take_succ_cons, List.take_zero, List.drop_succ_cons, List.drop_zero]
      repeat (first | go_big_quiet_skip | (go_big_quiet_want; go_big_quiet_op; go_big_quiet_on))
      refine wpQuiet_nil ?_
      have k02 : w.drew.drew.cell? ⟨d, 0, none⟩ = some (.slice (some ⟨b, o, none⟩) l.length c) := k0
      have k12 : w.drew.drew.cell? ⟨d, 1, none⟩ = some (.int .i64 q) := k1
      have k22 : w.drew.drew.cell? ⟨d, 2, none⟩ = some (.int .u32 s) := k2
      have f12 : w.drew.drew.frozen? ⟨d, 1, none⟩ = false := fz1
      have f22 : w.drew.drew.frozen? ⟨d, 2, none⟩ = false := fz2
      clear k01 k11 cB cB1
      go_wp2_with fail
      refine wp_region_tail 11 (by kernel_rfl) (by kernel_rfl) ?_
      simp only [List.take_succ_cons, List.take_zero, List.drop_succ_cons, List.drop_zero]
      repeat (first | go_big_quiet_skip | (go_big_quiet_want; go_big_quiet_op; go_big_quiet_on))
      refine wpQuiet_nil ?_
      obtain ⟨u, hu, hu1, hu2⟩ : ∃ u : Int, wrap64 z % 4294967296 = u ∧ 0 ≤ u ∧ u < 4294967296 := ⟨_, rfl, by omega, by omega⟩
      rw [hu]
      clear hu hz t1 i1
      go_wp2_with fail
      · go_ret
        exact ⟨_, rfl, Int.emod_nonneg _ (by omega), .inl (Int.emod_lt_of_pos _ (by omega)), HD.out.put HB.out h5 (by omega) (by omega), only_put _ _⟩
      · go_ret
        exact ⟨_, rfl, Int.emod_nonneg _ (by omega), .inl (Int.emod_lt_of_pos _ (by omega)), HD.out.put HB.out h5 (by omega) (by omega), only_put _ _⟩
      · go_ret
        exact ⟨_, rfl, Int.emod_nonneg _ (by omega), .inl (Int.emod_lt_of_pos _ (by omega)), HD.out.put HB.out h5 (by omega) (by omega), only_put _ _⟩

theorem DeckAt.dealt {w0 : World} {d : Nat} {A : Option Addr} {l : List Int} {c m : Nat} {w' : World} (h : DeckAt w0 d A l c m w') : Aft w0 w' := h.2.2.1

/-- What a deck deals between two numbers. -/
def DealtB (w0 : World) (d : Nat) (A : Option Addr) (l : List Int) (c m : Nat) (a b : Int) (w : World) (e : Ending) (w' : World) : Prop :=
  ∃ x : Int, e = .returned (.int .i64 x) ∧ a ≤ x ∧ x ≤ b ∧ DeckAt w0 d A l c (m + 1) w' ∧ w.grownBy w' (some d)

set_option maxRecDepth 100000 in
set_option maxHeartbeats 2000000 in
theorem between_any (w0 : World) (d : Nat) (A : Option Addr) (l : List Int) (c m : Nat) (a b : Int) (w : World) (hd : DeckAt w0 d A l c m w) (hm : m ≤ 1000000) (ha : -1000 ≤ a) (hab : a ≤ b) (hb : b ≤ 1000) :
    Calls Try.prog 32 #[.pointer (some ⟨d, 0, none⟩), .int .i64 a, .int .i64 b] w (DealtB w0 d A l c m a b w) := by
  have HD := Lib.hid hd
  obtain ⟨n, hn⟩ : ∃ n : Int, b - a + 1 = n := ⟨_, rfl⟩
  have HC := Lib.hid (draw_any w0 d A l c m n w hd hm (by omega) (by omega))
  clear hd
  go_enter Try.func32, Try.ntmps32
  go_wp2_with ((have hq := HC.out); refine Calls.mono hq ?_; clear hq; rintro e w' ⟨x, rfl, h1, h2, h3, h4⟩)
  go_ret
  exact ⟨_, rfl, by omega, by omega, h3, h4⟩

set_option maxRecDepth 100000 in
set_option maxHeartbeats 2000000 in
theorem coin_any (w0 : World) (d : Nat) (A : Option Addr) (l : List Int) (c m : Nat) (n : Int) (w : World) (hd : DeckAt w0 d A l c m w) (hm : m ≤ 1000000) (hn : -1000000 ≤ n) (hn' : n ≤ 1000000) :
    Calls Try.prog 96 #[.pointer (some ⟨d, 0, none⟩), .int .i64 n] w (fun e w' => ∃ b : Bool, e = .returned (.bool b) ∧ DeckAt w0 d A l c (m + 1) w' ∧ w.grownBy w' (some d)) := by
  have HC := Lib.hid (draw_any w0 d A l c m n w hd hm hn hn')
  clear hd
  go_enter Try.func96, Try.ntmps96
  go_wp2_with ((have hq := HC.out); refine Calls.mono hq ?_; clear hq; rintro e w' ⟨x, rfl, h1, h2, h3, h4⟩)
  go_ret
  exact ⟨_, rfl, h3, h4⟩

set_option maxRecDepth 100000 in
set_option maxHeartbeats 2000000 in
theorem of_any (A : Option Addr) (l : List Int) (c : Nat) (w : World) (h : Bytes w A l) :
    Calls Try.prog 24 #[.slice A l.length c] w (fun e w' => e = .returned (.pointer (some ⟨w.heap.size, 0, none⟩)) ∧ DeckAt w w.heap.size A l c 0 w') := by
  have HD := Lib.hid h
  clear h
  go_enter Try.func24, Try.ntmps24
  go_wp2_with fail
  go_ret
  exact ⟨rfl, HD.out, Nat.le_refl _, .alloc _ _, 0, 9, Blk.new _ _ _, Nat.le_refl _, by decide⟩
end Go.Proofs
end

section
/- Walks: some numbers out of a deck. -/
namespace Go.Proofs
open Go.RowKit

theorem only_grown {a w w' : World} {row row' : Option Nat} (h : a.grownBy w row) (hg : w.grownBy w' row') (hr : ∀ k, row' = some k → a.heap.size ≤ k) : a.grownBy w' row :=
  ⟨hg.os.trans h.os, hg.tape.trans h.tape, hg.output.trans h.output, Nat.le_trans h.size hg.size, fun k hk hne => (hg.block k (Nat.lt_of_lt_of_le hk h.size) (fun e => by have := hr k e.symm; omega)).trans (h.block k hk hne)⟩

theorem DeckAt.grown {w0 : World} {d : Nat} {A : Option Addr} {l : List Int} {c m : Nat} {w w' : World} {row : Option Nat} (h : DeckAt w0 d A l c m w) (hg : w.grownBy w' row) (hr : ∀ k, row = some k → d < k) : DeckAt w0 d A l c m w' := by
  obtain ⟨h1, h2, h3, q, s, h4, h5, h6⟩ := h
  exact ⟨h1, h2, h3.grown hg (fun k e => by have := hr k e; omega), q, s, h4.grown hg (fun e => by have := hr d e.symm; omega), h5, h6⟩

theorem rises_snoc : ∀ {l : List Int} {y : Int}, risesB l = true → (∀ x ∈ l, x < y) → risesB (l ++ [y]) = true
  | [], _, _, _ => rfl
  | [a], y, _, h => by simp [risesB, h a (by simp)]
  | a :: b :: r, y, h, h2 => by
    simp only [risesB, Bool.and_eq_true, List.cons_append] at h ⊢
    exact ⟨h.1, rises_snoc (l := b :: r) h.2 fun x hx => h2 x (by simp at hx ⊢; exact .inr hx)⟩

/-- What some(d, e, k) answers: a list of its own of numbers under e. -/
def SomeR (w0 : World) (d : Nat) (A : Option Addr) (l : List Int) (c m e : Nat) (w : World) (en : Ending) (w' : World) : Prop :=
  ∃ v, ∃ ns : List Int, en = .returned v ∧ w'.ownsRow w.heap.size 3 1 v ns.length (ns.map (Value.int .i64)) ∧ ns.length ≤ e ∧ (∀ x ∈ ns, 0 ≤ x ∧ x < e) ∧ risesB ns = true ∧ DeckAt w0 d A l c (m + e) w' ∧ w.grownBy w' (some d)

set_option maxRecDepth 100000 in
set_option maxHeartbeats 2000000 in
theorem some_any (w0 : World) (d : Nat) (A : Option Addr) (l : List Int) (c m e : Nat) (once : Int) (w : World) (hd : DeckAt w0 d A l c m w) (hm : m ≤ 900000) (he : e ≤ 1000) (ho : -1000 ≤ once) (ho' : once ≤ 1000) :
    Calls Try.prog 42 #[.pointer (some ⟨d, 0, none⟩), .int .i64 e, .int .i64 once] w (SomeR w0 d A l c m e w) := by
  have HD := Lib.hid hd
  have hdl := hd.lt
  clear hd
  go_enter Try.func42, Try.ntmps42
  go_wp2_with fail
  go_loopw [7, 10] (fun v i wr => ∃ k : Nat, ∃ ns : List Int, i = .int .i64 k ∧ k ≤ e ∧ ns.length ≤ k ∧ (∀ x ∈ ns, 0 ≤ x ∧ x < k) ∧ risesB ns = true ∧ DeckAt w0 d A l c (m + k) wr ∧ w.grownBy wr (some d) ∧ wr.ownsRow w.heap.size 3 1 v ns.length (ns.map (Value.int .i64))) (fun _ i _ => e - (intOf i).toNat)
  case atStart => exact ⟨0, [], rfl, by omega, by simp, by simp, rfl, HD.out, only_refl _ _, World.ownsRow_nil _ _ 3 1⟩
  case round =>
    obtain ⟨k, ns, rfl, hk, hn, hns, hri, hdk, hg, hown⟩ := hrel
    by_cases hke : k < e
    · have HC := Lib.hid (coin_any w0 d A l c (m + k) once wr hdk (by omega) (by omega) (by omega))
      have HO := Lib.hid hown
      have HG := Lib.hid hg
      clear hown hdk hg
      go_wp2_with (first
        | (go_at_call 96; (have hq := HC.out); refine Calls.mono hq ?_; clear hq; rintro en w5 ⟨b, rfl, h3, h4⟩
           have HO5 := Lib.hid (HO.out.kept h4 (by
             rcases hob : u7.ownBlock with _ | g
             · exact .inl rfl
             · refine .inr fun e2 => ?_
               cases e2
               have := own_ge HO.out _ hob
               omega))
           have HG5 := Lib.hid (World.grownBy.trans HG.out h4)
           have HD5 := Lib.hid h3
           clear h3 h4 HC)
        | (at_builtin; refine wpList_push rfl _ _ rfl (own_aft HO5.out (Aft.alloc _ _)) (Nat.le_trans HG5.out.size (Aft.alloc _ _).size) rfl rfl (cell_new1 _ _ _) (by omega) ?_; intro v' w6 hown6 hg6))
      · have hlt : ∀ g, u7.ownBlock = some g → w.heap.size ≤ g := own_ge HO5.out
        refine ⟨⟨k + 1, ns ++ [(k : Int)], by go_num, by omega, by simp; omega, fun x hx => ?_, rises_snoc hri (fun x hx => (hns x hx).2), (HD5.out.aft (Aft.alloc _ _)).grown hg6 (fun g hg => by have := hlt g hg; omega), only_grown (only_aft HG5.out (Aft.alloc _ _)) hg6 hlt, hown6⟩, by simp [intOf]; omega⟩
        rcases List.mem_append.1 hx with h | h
        · have := hns x h; omega
        · rw [List.mem_singleton] at h; omega
      · exact ⟨⟨k + 1, ns, by go_num, by omega, by omega, fun x hx => by have := hns x hx; omega, hri, HD5.out, HG5.out, HO5.out⟩, by simp [intOf]; omega⟩
    · obtain rfl : k = e := by omega
      go_wp2_with fail
      go_ret
      exact ⟨_, ns, rfl, hown, hn, hns, hri, hdk, hg⟩
end Go.Proofs
end

section
/- Walks: a reading out of a deck. -/
namespace Go.Proofs
open Go.RowKit

/-- A treaty that stands whatever the deck in block d deals. -/
def TRepF (d : Nat) (w : World) (T : Treaty) (a1 a2 a3 a4 : Option Addr) : Prop := ∀ w', w.grownBy w' (some d) → TRep w' T a1 a2 a3 a4
theorem TRepF.grown {d : Nat} {w w' : World} {T : Treaty} {a1 a2 a3 a4 : Option Addr} (h : TRepF d w T a1 a2 a3 a4) (hg : w.grownBy w' (some d)) : TRepF d w' T a1 a2 a3 a4 := fun w'' h2 => h w'' (hg.trans h2)
theorem TRepF.rep {d : Nat} {w : World} {T : Treaty} {a1 a2 a3 a4 : Option Addr} (h : TRepF d w T a1 a2 a3 a4) : TRep w T a1 a2 a3 a4 := h w (only_refl _ _)

/-- Numbers that are those of meanings. -/
def InWords (T : Treaty) (ns : List Int) : Prop := ∀ k, (h : k < ns.length) → (h' : k < T.words.length) → 0 ≤ ns[k] ∧ ns[k] < T.words[k].length
theorem InWords.push {T : Treaty} {ns : List Int} (h : InWords T ns) {x : Int} (hk : ns.length < T.words.length) (h0 : 0 ≤ x) (h1 : x < T.words[ns.length].length) : InWords T (ns ++ [x]) := fun k hk2 hk3 => by
  by_cases e : k < ns.length
  · rw [List.getElem_append_left e]; exact h k e hk3
  · have : k = ns.length := by simp at hk2; omega
    subst this
    simp only [List.getElem_concat_length]
    exact ⟨h0, h1⟩

/-- What Read answers: a list of its own, one number a word. -/
def Read26R (w0 : World) (d : Nat) (A : Option Addr) (l : List Int) (c m : Nat) (T : Treaty) (w : World) (en : Ending) (w' : World) : Prop :=
  ∃ v, ∃ ns : List Int, en = .returned v ∧ w'.ownsRow w.heap.size 3 1 v ns.length (ns.map (Value.int .i64)) ∧ ns.length = T.words.length ∧ InWords T ns ∧ DeckAt w0 d A l c (m + T.words.length) w' ∧ w.grownBy w' (some d)

set_option maxRecDepth 100000 in
set_option maxHeartbeats 2000000 in
theorem read26_any (w0 : World) (d : Nat) (A : Option Addr) (l : List Int) (c m : Nat) (T : Treaty) (a1 a2 a3 a4 : Option Addr) (c1 c2 c3 c4 : Nat) (w : World) (hd : DeckAt w0 d A l c m w) (hT : TRepF d w T a1 a2 a3 a4) (hm : m ≤ 900000) (hwn : T.words.length ≤ 1000)
    (hwl : ∀ x ∈ T.words, 1 ≤ x.length ∧ x.length ≤ 1000) :
    Calls Try.prog 26 #[.pointer (some ⟨d, 0, none⟩), .agg #[.int .i64 T.places, .slice a1 T.ways.length c1, .slice a2 T.words.length c2, .slice a3 T.starts.length c3, .slice a4 T.legs.length c4]] w (Read26R w0 d A l c m T w) := by
  have HD := Lib.hid hd
  have HT := Lib.hid hT
  have HW := Lib.hid hwl
  have hdl := hd.lt
  clear hd hT hwl
  go_enter Try.func26, Try.ntmps26
  go_wp2_with fail
  go_loopw [5, 11] (fun v i wr => ∃ k : Nat, ∃ ns : List Int, i = .int .i64 k ∧ k ≤ T.words.length ∧ ns.length = k ∧ InWords T ns ∧ DeckAt w0 d A l c (m + k) wr ∧ w.grownBy wr (some d) ∧ wr.ownsRow w.heap.size 3 1 v ns.length (ns.map (Value.int .i64))) (fun _ i _ => T.words.length - (intOf i).toNat)
  case atStart => exact ⟨0, [], rfl, by omega, by simp, fun k h => by simp at h, HD.out.aft (Aft.alloc _ _), only_aft (only_refl _ _) (Aft.alloc _ _), World.ownsRow_nil _ _ 3 1⟩
  case round =>
    obtain ⟨k, ns, rfl, hk, hn, hin, hdk, hg, hown⟩ := hrel
    by_cases hlk : k < T.words.length
    · obtain ⟨bw, ow, rfl, hbw, hc⟩ := (HT.out wr hg).words.at hlk
      obtain ⟨vs, h1, ⟨A', c', rfl, -⟩, h2⟩ := hc k hlk
      have cA : wr.cell? ⟨bw, ow + k, none⟩ = some (.slice A' T.words[k].length c') := by have := h2 0 (by simp); simpa using this
      have hlen := HW.out _ (List.getElem_mem hlk)
      clear hc h1 h2
      have HI : Hid (∀ x : Int, 0 ≤ x → x < T.words[k].length → InWords T (ns ++ [x])) := Lib.hid fun x g0 g1 => by subst hn; exact hin.push hlk g0 g1
      generalize T.words[k].length = n at cA hlen HI
      have i1 : (0 : Int) ≤ (k : Int) ∧ (k : Int) < (T.words.length : Int) := by omega
      have HC := Lib.hid (draw_any w0 d A l c (m + k) n wr hdk (by omega) (by omega) (by omega))
      have HO := Lib.hid hown
      have HG := Lib.hid hg
      clear hown hdk hg
      go_wp2_with (first
        | (go_at_call 33; (have hq := HC.out); refine Calls.mono hq ?_; clear hq; rintro en w5 ⟨x, rfl, h0, h1, h3, h4⟩
           have HO5 := Lib.hid (HO.out.kept h4 (by
             rcases hob : u5.ownBlock with _ | g
             · exact .inl rfl
             · refine .inr fun e2 => ?_
               cases e2
               have := own_ge HO.out _ hob
               omega))
           have HG5 := Lib.hid (World.grownBy.trans HG.out h4)
           have HD5 := Lib.hid h3
           clear h3 h4 HC)
        | (at_builtin; refine wpList_push rfl _ _ rfl (own_aft HO5.out (Aft.alloc _ _)) (Nat.le_trans HG5.out.size (Aft.alloc _ _).size) rfl rfl (cell_new1 _ _ _) (by omega) ?_; intro v' w6 hown6 hg6))
      have hin2 := HI.out x h0 (by omega)
      have hlt : ∀ g, u5.ownBlock = some g → w.heap.size ≤ g := own_ge HO5.out
      exact ⟨⟨k + 1, ns ++ [x], by go_num, by omega, by simp; omega, hin2, (HD5.out.aft (Aft.alloc _ _)).grown hg6 (fun g hg => by have := hlt g hg; omega), only_grown (only_aft HG5.out (Aft.alloc _ _)) hg6 hlt, hown6⟩, by simp [intOf]; omega⟩
    · obtain rfl : k = T.words.length := by omega
      go_wp2_with fail
      go_ret
      exact ⟨_, ns, rfl, hown, hn, hin, hdk, hg⟩
end Go.Proofs
end

section
/- A call at a step of a region that draws its order. -/
namespace Go.Proofs
open Go.RowKit

theorem run_enters {f : Nat} {fn : Func} (h : Try.prog.funcs[f]? = some fn) (hn : (fn.name == "runtime.NumGoroutine") = false) (hb : fn.body.isNone = false) (args : Array Value) (w : World) :
    (callFunc f args).run Try.prog w = .ok (.enter f args) w := by
  unfold callFunc
  have h1 : ¬ fn.name = "runtime.NumGoroutine" := by simpa using hn
  have h2 : ¬ fn.body = none := by intro e; rw [e] at hb; cases hb
  simp [go_sem, h, h1, h2]

/-- A call of two arguments at a step of a region that draws its order. -/
theorem step_call2 {f : Nat} {fn : Func} (hf : Try.prog.funcs[f]? = some fn) (hn : (fn.name == "runtime.NumGoroutine") = false) (hb : fn.body.isNone = false) {w : World} {ops : Array Oper} {o : Oper} {a : Act} {K : Act → World → Prop} {Q : Exit → Act → World → Prop} {E : Prop}
    (hgd : o.guard = none) (x y : Operand) {t1 t2 : TypeId} (ho : o.op = .call { callee := .value (.func f), args := #[x, y], argTypes := #[t1, t2] })
    {vx vy : Value} (hx : a.eval x = vx) (hy : a.eval y = vy) {R : Ending → World → Prop} (hc : Calls Try.prog f #[vx, vy] w R)
    (h : ∀ e w', R e w' → ∃ v, e = .returned v ∧ K (a.put o.dst v) w') :
    if Region.wanted o (yielded ops a.tmps) = true then Oper.wp Try.prog o a w K Q else E := by
  have hw : Region.wanted o (yielded ops a.tmps) = true := by simp [Region.wanted, hgd]
  rw [if_pos hw]
  unfold Oper.wp
  have hrun : (execOp a.eval o).run Try.prog w = .ok (.enter f #[vx, vy]) w := by
    unfold execOp
    simp only [ho, resolve, invoke, Sem.run_bind, List.map_toArray, List.map_cons, List.map_nil, hx, hy]
    simp [go_sem]
    exact run_enters hf hn hb _ _
  rw [hrun, Oper.upon_enter]
  refine hc.mono ?_
  intro e w' hr
  obtain ⟨v, rfl, hk⟩ := h e w' hr
  exact hk

end Go.Proofs
end

section
/- Walks: a line out of a deck. -/
namespace Go.Proofs
open Go.RowKit

/-- A list of numbers that a deck dealt for places. -/
def GoneL (T : Treaty) (ns : List Int) : Prop := ∃ s rest, ns = s :: rest ∧ s ∈ T.starts ∧ ∀ x ∈ rest, 0 ≤ x ∧ (x < T.places ∨ T.places ≤ 1 ∧ x = 0)
theorem GoneL.push {T : Treaty} {ns : List Int} (h : GoneL T ns) {x : Int} (h0 : 0 ≤ x) (h1 : x < T.places ∨ T.places ≤ 1 ∧ x = 0) : GoneL T (ns ++ [x]) := by
  obtain ⟨s, rest, rfl, h2, h3⟩ := h
  refine ⟨s, rest ++ [x], rfl, h2, fun y hy => ?_⟩
  rcases List.mem_append.1 hy with h | h
  · exact h3 y h
  · rw [List.mem_singleton] at h; subst h; exact ⟨h0, h1⟩

def GoneR (w0 : World) (d : Nat) (A : Option Addr) (l : List Int) (c m : Nat) (T : Treaty) (w : World) (en : Ending) (w' : World) : Prop :=
  ∃ v, ∃ ns : List Int, en = .returned v ∧ w'.ownsRow w.heap.size 3 1 v ns.length (ns.map (Value.int .i64)) ∧ ns.length = 1 + T.legs.length ∧ GoneL T ns ∧ DeckAt w0 d A l c (m + 1 + T.legs.length) w' ∧ w.grownBy w' (some d)

theorem own_lone {w : World} {base : Nat} (hb : base ≤ w.heap.size) (x : Int) : (w.alloc (.cells #[.int .i64 x] 3)).ownsRow base 3 1 (.slice (some ⟨w.heap.size, 0, none⟩) 1 1) [x].length ([x].map (Value.int .i64)) :=
  blk_own hb (Blk.new _ _ _) ⟨by simp, fun i hi => by simp at hi; subst hi; simp⟩ rfl (by simp) (by decide)

set_option maxRecDepth 100000 in
set_option maxHeartbeats 2000000 in
theorem gone_any (w0 : World) (d : Nat) (A : Option Addr) (l : List Int) (c m : Nat) (T : Treaty) (a1 a2 a3 a4 : Option Addr) (c1 c2 c3 c4 : Nat) (w : World) (hd : DeckAt w0 d A l c m w) (hT : TRepF d w T a1 a2 a3 a4) (hm : m ≤ 900000)
    (hp0 : -1000 ≤ T.places) (hp : T.places ≤ 1000) (hs1 : 1 ≤ T.starts.length) (hs : T.starts.length ≤ 1000) (hll : T.legs.length ≤ 1000) :
    Calls Try.prog 41 #[.pointer (some ⟨d, 0, none⟩), .agg #[.int .i64 T.places, .slice a1 T.ways.length c1, .slice a2 T.words.length c2, .slice a3 T.starts.length c3, .slice a4 T.legs.length c4]] w (GoneR w0 d A l c m T w) := by
  have HD := Lib.hid hd
  have HT := Lib.hid hT
  have hdl := hd.lt
  clear hd hT
  have HC := Lib.hid (draw_any w0 d A l c m T.starts.length (w.alloc (.cells #[.int .i64 T.places, .slice a1 T.ways.length c1, .slice a2 T.words.length c2, .slice a3 T.starts.length c3, .slice a4 T.legs.length c4] 27)).drew (HD.out.aft ((Aft.alloc _ _).then_drew)) (by omega) (by omega) (by omega))
  have HA : Hid (w.grownBy (w.alloc (.cells #[.int .i64 T.places, .slice a1 T.ways.length c1, .slice a2 T.words.length c2, .slice a3 T.starts.length c3, .slice a4 T.legs.length c4] 27)).drew (some d)) := Lib.hid (only_drew (only_aft (only_refl _ _) (Aft.alloc _ _)))
  have HK : ∀ i, Hid ((w.alloc (.cells #[.int .i64 T.places, .slice a1 T.ways.length c1, .slice a2 T.words.length c2, .slice a3 T.starts.length c3, .slice a4 T.legs.length c4] 27)).drew.cell? ⟨w.heap.size, i, none⟩ = (#[.int .i64 T.places, .slice a1 T.ways.length c1, .slice a2 T.words.length c2, .slice a3 T.starts.length c3, .slice a4 T.legs.length c4])[i]?) := fun i => Lib.hid ((Blk.new w 27 _).drew.cell i)
  have k3 : (w.alloc (.cells #[.int .i64 T.places, .slice a1 T.ways.length c1, .slice a2 T.words.length c2, .slice a3 T.starts.length c3, .slice a4 T.legs.length c4] 27)).drew.cell? ⟨w.heap.size, 3, none⟩ = some (.slice a3 T.starts.length c3) := (HK 3).out
  have HB : Hid (Blk (w.alloc (.cells #[.int .i64 T.places, .slice a1 T.ways.length c1, .slice a2 T.words.length c2, .slice a3 T.starts.length c3, .slice a4 T.legs.length c4] 27)).drew w.heap.size 27 #[.int .i64 T.places, .slice a1 T.ways.length c1, .slice a2 T.words.length c2, .slice a3 T.starts.length c3, .slice a4 T.legs.length c4]) := Lib.hid (Blk.new w 27 _).drew
  have hz : w.heap.size < (w.alloc (.cells #[.int .i64 T.places, .slice a1 T.ways.length c1, .slice a2 T.words.length c2, .slice a3 T.starts.length c3, .slice a4 T.legs.length c4] 27)).drew.heap.size := by simp
  go_enter Try.func41, Try.ntmps41
  go_wp2_with fail
  go_region_law (refine step_call2 Try.func33 (by kernel_rfl) (by kernel_rfl) rfl _ _ rfl rfl rfl HC.out ?_
                 rintro en w5 ⟨x, rfl, h0, h1, h3, h4⟩
                 refine ⟨_, rfl, ?_⟩
                 obtain ⟨r, rfl⟩ := Int.eq_ofNat_of_zero_le h0
                 have hr : r < T.starts.length := by omega
                 have HG5 := Lib.hid (World.grownBy.trans HA.out h4)
                 have HB5 := Lib.hid (HB.out.grown h4 (fun e => by cases e; omega))
                 have k9 : w5.cell? ⟨w.heap.size, 3, none⟩ = some (.slice a3 T.starts.length c3) := HB5.out.cell 3
                 obtain ⟨b, o, ea, hbl, hcl⟩ := (HT.out w5 HG5.out).starts.at hr
                 subst ea
                 have k10 : w5.cell? ⟨b, o + r, none⟩ = some (.int .i64 T.starts[r]) := hcl r hr
                 have i1 : (0 : Int) ≤ (r : Int) ∧ (r : Int) < (T.starts.length : Int) := by omega
                 have k94 : w5.cell? ⟨w.heap.size, 4, none⟩ = some (.slice a4 T.legs.length c4) := HB5.out.cell 4
                 have hz5 : w.heap.size < w5.heap.size := HB5.out.lt
                 have HD5 := Lib.hid h3
                 clear h3 h4 hcl)
  all_goals
    have HS0 := Lib.hid (List.getElem_mem hr)
    generalize T.starts[r] = y at *
    have k95 : (w5.alloc (.cells #[.int .i64 y] 3)).cell? ⟨w.heap.size, 4, none⟩ = some (.slice a4 T.legs.length c4) := (HB5.out.alloc _).cell 4
    have HO1 := Lib.hid (own_lone (w := w5) (base := w.heap.size + 1) hz5 y)
    have HB1 := Lib.hid (HB5.out.alloc (.cells #[.int .i64 y] 3))
    have HD1 := Lib.hid (HD5.out.aft (Aft.alloc w5 (.cells #[.int .i64 y] 3)))
    have HG1 := Lib.hid (only_aft HG5.out (Aft.alloc w5 (.cells #[.int .i64 y] 3)))
    clear k9 k10 k94 i1 HD5 HG5 HB5
    generalize (w5.alloc (.cells #[.int .i64 y] 3)) = w1 at *
    go_wp2_with fail
    go_loopw [5, 19] (fun v i wr => ∃ k : Nat, ∃ ns : List Int, i = .int .i64 k ∧ k ≤ T.legs.length ∧ ns.length = 1 + k ∧ GoneL T ns ∧ DeckAt w0 d A l c (m + 1 + k) wr ∧ w.grownBy wr (some d) ∧ Blk wr w.heap.size 27 #[.int .i64 T.places, .slice a1 T.ways.length c1, .slice a2 T.words.length c2, .slice (some ⟨b, o, none⟩) T.starts.length c3, .slice a4 T.legs.length c4] ∧ wr.ownsRow (w.heap.size + 1) 3 1 v ns.length (ns.map (Value.int .i64))) (fun _ i _ => T.legs.length - (intOf i).toNat)
    case atStart => exact ⟨0, [y], rfl, by omega, by simp, ⟨y, [], rfl, HS0.out, by simp⟩, HD1.out, HG1.out, HB1.out, HO1.out⟩
    case round =>
      obtain ⟨k, ns, rfl, hk, hn, hgl, hdk, hg, hbk, hown⟩ := hrel
      by_cases hlk : k < T.legs.length
      · have HC2 := Lib.hid (draw_any w0 d A l c (m + 1 + k) T.places wr hdk (by omega) (by omega) (by omega))
        have HO := Lib.hid hown
        have HG := Lib.hid hg
        have HBK := Lib.hid hbk
        have kp : wr.cell? ⟨w.heap.size, 0, none⟩ = some (.int .i64 T.places) := hbk.cell 0
        clear hown hdk hg hbk
        go_wp2_with (first
          | (go_at_call 33; (have hq := HC2.out); refine Calls.mono hq ?_; clear hq; rintro en w5 ⟨x, rfl, h0, h1, h3, h4⟩
             have HO5 := Lib.hid (HO.out.kept h4 (by
               rcases hob : u5.ownBlock with _ | g
               · exact .inl rfl
               · refine .inr fun e2 => ?_
                 cases e2
                 have := own_ge HO.out _ hob
                 omega))
             have HG5 := Lib.hid (World.grownBy.trans HG.out h4)
             have HB5 := Lib.hid (HBK.out.grown h4 (fun e => by cases e; omega))
             have HD5 := Lib.hid h3
             clear h3 h4 HC2)
          | (at_builtin; refine wpList_push rfl _ _ rfl (own_aft HO5.out (Aft.alloc _ _)) (Nat.le_trans HB5.out.lt (Aft.alloc _ _).size) rfl rfl (cell_new1 _ _ _) (by omega) ?_; intro v' w6 hown6 hg6))
        have hlt : ∀ g, u5.ownBlock = some g → w.heap.size + 1 ≤ g := own_ge HO5.out
        exact ⟨⟨k + 1, ns ++ [x], by go_num, by omega, by simp; omega, hgl.push h0 h1, (HD5.out.aft (Aft.alloc _ _)).grown hg6 (fun g hg => by have := hlt g hg; omega), only_grown (only_aft HG5.out (Aft.alloc _ _)) hg6 (fun g hg => by have := hlt g hg; omega),
          (HB5.out.alloc _).grown hg6 (fun e => by have := hlt _ e.symm; omega), hown6⟩, by simp [intOf]; omega⟩
      · obtain rfl : k = T.legs.length := by omega
        go_wp2_with fail
        go_ret
        exact ⟨_, ns, rfl, World.ownsRow.mono hown (by omega), hn, hgl, hdk, hg⟩
end Go.Proofs
end

section
/- Walks: slices of records, cloned. -/
namespace Go.Proofs
open Go.RowKit

section
variable {α : Type} {enc : α → List Value} {sz : Nat}
theorem flat_len (hs : ∀ x, (enc x).length = sz) : ∀ l : List α, (l.flatMap enc).length = l.length * sz
  | [] => by simp
  | x :: r => by rw [List.flatMap_cons, List.length_append, hs, flat_len hs r, List.length_cons, Nat.succ_mul]; omega
theorem flat_get (hs : ∀ x, (enc x).length = sz) : ∀ (l : List α) (i j : Nat) (hi : i < l.length), j < sz → (l.flatMap enc)[i * sz + j]? = (enc l[i])[j]?
  | x :: r, 0, j, hi, hj => by
    rw [List.flatMap_cons, List.getElem?_append_left (by rw [hs]; omega)]
    simp
  | x :: r, i + 1, j, hi, hj => by
    rw [List.flatMap_cons, List.getElem?_append_right (by rw [hs, Nat.succ_mul]; omega), hs]
    have : (i + 1) * sz + j - sz = i * sz + j := by rw [Nat.succ_mul]; omega
    rw [this, flat_get hs r i j (by simpa using hi) hj]
    simp

/-- What is owned reads as a list of records. -/
theorem own_rows {R : World → α → List Value → Prop} (hR : ∀ w x, R w x (enc x)) (hs : ∀ x, (enc x).length = sz) (_hz : 0 < sz) {w : World} {base : Nat} {e : TypeId} {v : Value} {l : List α}
    (h : w.ownsRow base e sz v l.length (l.flatMap enc)) (hl : l.length * sz ≤ 17592186043904) : ∃ A c, v = .slice A l.length c ∧ l.length ≤ c ∧ RowsP w A sz R l := by
  rcases h.2 with ⟨rfl, h0⟩ | ⟨g, cap, cur, rfl, hg, hh, hc, hm, hs', ht⟩
  · have : l = [] := List.eq_nil_of_length_eq_zero h0
    subst this
    exact ⟨none, 0, rfl, Nat.le_refl _, .nil⟩
  · refine ⟨_, cap, rfl, hc, hl, .inr ⟨g, 0, rfl, (Array.getElem?_eq_some_iff.1 hh).1, fun i hi => ⟨enc l[i], hs _, hR _ _, fun j hj => ?_⟩⟩⟩
    have hj' : j < sz := by rw [hs] at hj; exact hj
    have := h.cells (g := g) rfl (i * sz + j) (enc l[i])[j] (by rw [flat_get hs l i j hi hj', List.getElem?_eq_getElem hj])
    rw [Addr.add_lit] at this
    simpa [Nat.add_assoc] using this

theorem rows_src {R : World → α → List Value → Prop} (hR : ∀ w x vs, R w x vs → vs = enc x) (hs : ∀ x, (enc x).length = sz) (hz : 0 < sz) {w : World} {A : Option Addr} {l : List α} (h : RowsP w A sz R l) :
    ∀ ad, A = some ad → ∀ j u, (l.flatMap enc)[j]? = some u → w.cell? (ad.add j) = some u := by
  intro ad e j u hj
  have hlt : j < l.length * sz := by have := (List.getElem?_eq_some_iff.1 hj).1; rwa [flat_len hs] at this
  have hi : j / sz < l.length := Nat.div_lt_of_lt_mul (by rwa [Nat.mul_comm] at hlt)
  obtain ⟨b, o, e2, _, hc⟩ := h.at hi
  rw [e] at e2; cases e2
  obtain ⟨vs, h1, h2, h3⟩ := hc (j / sz) hi
  have := hR _ _ _ h2
  subst this
  have hr : j % sz < sz := Nat.mod_lt _ hz
  have hjj : j / sz * sz + j % sz = j := by rw [Nat.mul_comm]; exact Nat.div_add_mod j sz
  rw [← hjj, flat_get hs l _ _ hi hr] at hj
  have hk : j % sz < (enc l[j / sz]).length := by rw [hs]; exact hr
  have h4 := h3 (j % sz) (by simpa using hk)
  rw [List.getElem?_eq_getElem hk] at hj
  cases hj
  rw [Addr.add_lit]
  have h5 : o + j / sz * sz + j % sz = o + j := by omega
  rw [← h5]
  simpa using h4
theorem rows_nil {R : World → α → List Value → Prop} {w : World} {A : Option Addr} {l : List α} (h : RowsP w A sz R l) (e : A = none) : l.length = 0 := by
  rcases Nat.eq_zero_or_pos l.length with h0 | h0
  · exact h0
  · obtain ⟨b, o, e2, _⟩ := h.at h0
    rw [e] at e2; cases e2
end

def encWay (x : Way) : List Value := [.int .i64 x.a, .int .i64 x.b, .int .i64 x.kind]
def encLeg (x : Leg) : List Value := [.int .i64 x.word, .int .i64 x.other]
theorem ty22 : SliceTy Try.prog 22 86 3 24 := .mk' (z := .agg #[.int .i64 0, .int .i64 0, .int .i64 0]) Try.underlying22 (by kernel_rfl) rfl (by decide)
theorem ty25 : SliceTy Try.prog 25 83 2 16 := .mk' (z := .agg #[.int .i64 0, .int .i64 0]) Try.underlying25 (by kernel_rfl) rfl (by decide)

/-- Records in memory of the call's own. -/
def OwnRows {α : Type} (e : TypeId) (sz : Nat) (enc : α → List Value) (w0 : World) (l : List α) (en : Ending) (w' : World) : Prop := ∃ v, en = .returned v ∧ w'.ownsRow w0.heap.size e sz v l.length (l.flatMap enc) ∧ Aft w0 w'

theorem cloneWays (A : Option Addr) (l : List Way) (c : Nat) (w : World) (hA : RowsP w A 3 WayR l) (hl : l.length ≤ 100000) :
    Calls Try.prog 46 #[.slice A l.length c] w (OwnRows 86 3 encWay w l) := by
  go_enter Try.func46, Try.ntmps46
  go_wp2_with (at_builtin; refine wpList_app ty22 rfl _ _ rfl (Aft.refl w) rfl (World.ownsRow_nil w _ 86 3) rfl (by rw [flat_len (sz := 3) (fun _ => rfl)]) (rows_nil hA) (rows_src (enc := encWay) (fun _ _ _ h => h) (fun _ => rfl) (by decide) hA) (fun u hu => by obtain ⟨x, _, hx⟩ := List.mem_flatMap.1 hu; simp [encWay] at hx; rcases hx with rfl | rfl | rfl <;> rfl) (by omega) (by decide) ?_; intro v' w1 hown' hgrow haft)
  go_ret
  exact ⟨_, rfl, by simpa using hown', haft⟩

theorem cloneLegs (A : Option Addr) (l : List Leg) (c : Nat) (w : World) (hA : RowsP w A 2 LegR l) (hl : l.length ≤ 100000) :
    Calls Try.prog 47 #[.slice A l.length c] w (OwnRows 83 2 encLeg w l) := by
  go_enter Try.func47, Try.ntmps47
  go_wp2_with (at_builtin; refine wpList_app ty25 rfl _ _ rfl (Aft.refl w) rfl (World.ownsRow_nil w _ 83 2) rfl (by rw [flat_len (sz := 2) (fun _ => rfl)]) (rows_nil hA) (rows_src (enc := encLeg) (fun _ _ _ h => h) (fun _ => rfl) (by decide) hA) (fun u hu => by obtain ⟨x, _, hx⟩ := List.mem_flatMap.1 hu; simp [encLeg] at hx; rcases hx with rfl | rfl <;> rfl) (by omega) (by decide) ?_; intro v' w1 hown' hgrow haft)
  go_ret
  exact ⟨_, rfl, by simpa using hown', haft⟩
end Go.Proofs
end

section
/- Words for memory: what stands as long as some blocks are as they are. -/
namespace Go.Proofs
open Go.RowKit

/-- P rests on the blocks S alone. -/
def Sup (W : World) (S : Nat → Prop) (P : World → Prop) : Prop :=
  (∀ k, S k → k < W.heap.size) ∧ ∀ W' : World, (∀ k, S k → W'.heap[k]? = W.heap[k]?) → W.heap.size ≤ W'.heap.size → P W'

section
variable {W W' : World} {S S' : Nat → Prop} {P P' : World → Prop}
theorem Sup.self (h : Sup W S P) : P W := h.2 W (fun _ _ => rfl) (Nat.le_refl _)
theorem Sup.grown (h : Sup W S P) {row : Option Nat} (hg : W.grownBy W' row) (hr : ∀ k, row = some k → ¬ S k) : Sup W' S P :=
  ⟨fun k hk => Nat.lt_of_lt_of_le (h.1 k hk) hg.size, fun W'' h1 h2 => h.2 W'' (fun k hk => (h1 k hk).trans (hg.block k (h.1 k hk) (fun e => hr k e.symm hk))) (Nat.le_trans hg.size h2)⟩
theorem Sup.aft (h : Sup W S P) (ha : Aft W W') : Sup W' S P := h.grown (only_of_aft ha none) (fun _ e => by cases e)
theorem Sup.and (h : Sup W S P) (h' : Sup W S' P') : Sup W (fun k => S k ∨ S' k) (fun W => P W ∧ P' W) :=
  ⟨fun k hk => hk.elim (h.1 k) (h'.1 k), fun W' h1 h2 => ⟨h.2 W' (fun k hk => h1 k (.inl hk)) h2, h'.2 W' (fun k hk => h1 k (.inr hk)) h2⟩⟩
theorem Sup.mono (h : Sup W S P) (hp : ∀ W', P W' → P' W') : Sup W S P' := ⟨h.1, fun W' h1 h2 => hp W' (h.2 W' h1 h2)⟩
theorem Sup.wide (h : Sup W S P) (hs : ∀ k, S k → S' k) (hl : ∀ k, S' k → k < W.heap.size) : Sup W S' P := ⟨hl, fun W' h1 h2 => h.2 W' (fun k hk => h1 k (hs k hk)) h2⟩
/-- It stands in every world that differs in one block alone, if that is none of its own. -/
theorem Sup.firm (h : Sup W S P) {d : Nat} (hd : ¬ S d) : ∀ W', W.grownBy W' (some d) → P W' := fun _ hg => (h.grown hg (fun k e => by cases e; exact hd)).self

theorem RowsP.sup {α : Type} {sz : Nat} {R : World → α → List Value → Prop} {A : Option Addr} {l : List α} (h : RowsP W A sz R l) (S : Nat → Prop) (hS1 : ∀ k, S k → k < W.heap.size)
    (hS : ∀ x ∈ l, ∀ vs, R W x vs → Sup W S (fun W' => R W' x vs)) : Sup W (fun k => S k ∨ (l ≠ [] ∧ ∃ o, A = some ⟨k, o, none⟩)) (fun W' => RowsP W' A sz R l) := by
  obtain ⟨h0, h | ⟨b, o, rfl, hb, hc⟩⟩ := h
  · subst h
    exact ⟨fun k hk => hk.elim (hS1 k) (fun e => absurd rfl e.1), fun W' _ _ => ⟨h0, .inl rfl⟩⟩
  · refine ⟨fun k hk => hk.elim (hS1 k) (fun ⟨_, o, e⟩ => by cases e; exact hb), fun W' h1 h2 => ⟨h0, .inr ⟨b, o, rfl, Nat.lt_of_lt_of_le hb h2, fun i hi => ?_⟩⟩⟩
    have hne : l ≠ [] := fun e => by subst e; simp at hi
    obtain ⟨vs, g1, g2, g3⟩ := hc i hi
    exact ⟨vs, g1, (hS _ (List.getElem_mem hi) vs g2).2 W' (fun k hk => h1 k (.inl hk)) h2, fun j hj => (World.cell?_of_block (h1 b (.inr ⟨hne, o, rfl⟩))).trans (g3 j hj)⟩
theorem Ints.sup {A : Option Addr} {l : List Int} (h : Ints W A l) : Sup W (fun k => l ≠ [] ∧ ∃ o, A = some ⟨k, o, none⟩) (fun W' => Ints W' A l) := by
  have := RowsP.sup h (fun _ => False) (fun _ h => h.elim) (fun x _ vs hv => ⟨fun _ h => h.elim, fun _ _ _ => hv⟩)
  exact this.wide (fun k hk => hk.elim (fun h => h.elim) id) (fun k hk => this.1 k (.inr hk))
end
end Go.Proofs
end
