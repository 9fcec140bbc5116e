/- Own texts, merged: Aln Mln Uni Ins0 Req Fou Awb Awc. -/
import Derived.Test.YtobpdobneocckaaGreatDoorH14
import Derived.Shelf.Spec.SlicesInsertGrow
import Derived.Shelf.Slices.SearchI
import Derived.Shelf.Slices.Empties
import Derived.Deep.OwnRows
import Derived.BigGuard
import Derived.Lib.BufferWrite
set_option linter.unusedSimpArgs false
set_option linter.unusedVariables false
section
/- Plain: the lines of all readings, each once, in their order. -/
namespace Go.Proofs

/-- One line comes before another one. -/
def lexB : List Int → List Int → Bool
  | a :: x, b :: y => if a = b then lexB x y else decide (a < b)
  | _, _ => false
theorem lexB_irrefl : ∀ l, lexB l l = false
  | [] => rfl
  | a :: x => by unfold lexB; rw [if_pos rfl]; exact lexB_irrefl x
theorem lexB_trans : ∀ {x y z : List Int}, lexB x y = true → lexB y z = true → lexB x z = true
  | [], _, _, h, _ => by cases h
  | _ :: _, [], _, h, _ => by cases h
  | _ :: _, _ :: _, [], _, h => by cases h
  | a :: x, b :: y, c :: z, h1, h2 => by
    unfold lexB at h1 h2 ⊢
    by_cases e1 : a = b
    · subst e1
      rw [if_pos rfl] at h1
      by_cases e2 : a = c
      · rw [if_pos e2] at h2 ⊢; exact lexB_trans h1 h2
      · rw [if_neg e2] at h2 ⊢; exact h2
    · rw [if_neg e1] at h1
      have h1' := of_decide_eq_true h1
      by_cases e2 : b = c
      · subst e2; rw [if_neg e1]; exact h1
      · rw [if_neg e2] at h2
        have h2' := of_decide_eq_true h2
        rw [if_neg (by omega)]
        exact decide_eq_true (by omega)
theorem lexB_asymm {x y : List Int} (h : lexB x y = true) : lexB y x = false := by
  cases h2 : lexB y x with
  | false => rfl
  | true => have := lexB_trans h h2; rw [lexB_irrefl] at this; cases this
theorem lexB_total : ∀ {x y : List Int}, x.length = y.length → lexB x y = false → lexB y x = false → x = y
  | [], [], _, _, _ => rfl
  | [], _ :: _, h, _, _ => by simp at h
  | _ :: _, [], h, _, _ => by simp at h
  | a :: x, b :: y, h, h1, h2 => by
    unfold lexB at h1 h2
    by_cases e : a = b
    · subst e
      rw [if_pos rfl] at h1 h2
      rw [lexB_total (by simpa using h) h1 h2]
    · rw [if_neg e] at h1
      rw [if_neg (Ne.symm e)] at h2
      have h1' := of_decide_eq_false h1
      have h2' := of_decide_eq_false h2
      omega
def SortedL (l : List (List Int)) : Prop := l.Pairwise fun x y => lexB x y = true
theorem SortedL.nodup {l : List (List Int)} (h : SortedL l) : l.Nodup := List.Pairwise.imp (fun h e => by subst e; rw [lexB_irrefl] at h; cases h) h
theorem sorted_unique {l m : List (List Int)} (h1 : SortedL l) (h2 : SortedL m) (h : ∀ x, x ∈ l ↔ x ∈ m) : l = m :=
  List.Perm.eq_of_pairwise (fun a b _ _ h1 h2 => by rw [lexB_asymm h1] at h2; cases h2) h1 h2 ((List.perm_ext_iff_of_nodup h1.nodup h2.nodup).2 h)

/-- A line is put where it belongs. -/
def insL (l : List Int) : List (List Int) → List (List Int)
  | [] => [l]
  | x :: r => if lexB x l = true then x :: insL l r else if lexB l x = true then l :: x :: r else x :: r
theorem mem_insL {n : Nat} {l : List Int} (hl : l.length = n) : ∀ {out : List (List Int)}, (∀ x ∈ out, x.length = n) → ∀ y, y ∈ insL l out ↔ y = l ∨ y ∈ out
  | [], _, y => by simp [insL]
  | x :: r, h, y => by
    unfold insL
    split
    · rw [List.mem_cons, mem_insL hl (fun z hz => h z (List.mem_cons_of_mem _ hz)), List.mem_cons]
      constructor
      · rintro (h | h | h)
        · exact .inr (.inl h)
        · exact .inl h
        · exact .inr (.inr h)
      · rintro (h | h | h)
        · exact .inr (.inl h)
        · exact .inl h
        · exact .inr (.inr h)
    · rename_i h1
      split
      · simp
      · rename_i h2
        have e : x = l := lexB_total ((h x (List.mem_cons_self)).trans hl.symm) (by simpa using h1) (by simpa using h2)
        subst e
        simp
theorem sorted_insL {n : Nat} {l : List Int} (hl : l.length = n) : ∀ {out : List (List Int)}, (∀ x ∈ out, x.length = n) → SortedL out → SortedL (insL l out)
  | [], _, _ => List.pairwise_singleton _ _
  | x :: r, h, hs => by
    obtain ⟨h1, h2⟩ := List.pairwise_cons.1 hs
    unfold insL
    split
    · rename_i hx
      refine List.pairwise_cons.2 ⟨fun y hy => ?_, sorted_insL hl (fun z hz => h z (List.mem_cons_of_mem _ hz)) h2⟩
      rcases (mem_insL hl (fun z hz => h z (List.mem_cons_of_mem _ hz)) y).1 hy with rfl | hy
      · exact hx
      · exact h1 y hy
    · split
      · rename_i hx
        refine List.pairwise_cons.2 ⟨fun y hy => ?_, hs⟩
        rcases List.mem_cons.1 hy with rfl | hy
        · exact hx
        · exact lexB_trans hx (h1 y hy)
      · exact hs
/-- All of some lines, each once, in their order. -/
def allIn (ls : List (List Int)) : List (List Int) := ls.foldl (fun out l => insL l out) []
theorem allIn_snoc (ls : List (List Int)) (l : List Int) : allIn (ls ++ [l]) = insL l (allIn ls) := by unfold allIn; rw [List.foldl_append]; rfl
theorem allIn_spec {n : Nat} (ls : List (List Int)) (h : ∀ x ∈ ls, x.length = n) : SortedL (allIn ls) ∧ ∀ y, y ∈ allIn ls ↔ y ∈ ls := by
  have key : ∀ k, k ≤ ls.length → SortedL (allIn (ls.take k)) ∧ ∀ y, y ∈ allIn (ls.take k) ↔ y ∈ ls.take k := by
    intro k
    induction k with
    | zero => intro _; exact ⟨List.Pairwise.nil, fun y => by simp [allIn]⟩
    | succ k ih =>
      intro hk
      obtain ⟨h1, h2⟩ := ih (by omega)
      have ht : ls.take (k + 1) = ls.take k ++ [ls[k]] := List.take_succ_eq_append_getElem (by omega)
      have hlk := h _ (List.getElem_mem (show k < ls.length by omega))
      have hall : ∀ x ∈ allIn (ls.take k), x.length = n := fun x hx => h x (List.mem_of_mem_take ((h2 x).1 hx))
      rw [ht, allIn_snoc]
      refine ⟨sorted_insL hlk hall h1, fun y => ?_⟩
      rw [mem_insL hlk hall, h2, List.mem_append, List.mem_singleton, Or.comm]
  have := key ls.length (Nat.le_refl _)
  rwa [List.take_length] at this

theorem linesFrom_cons {T : Treaty} {f : Nat → Nat → Nat → Bool} (k leg a : Nat) : ∀ l ∈ linesFrom T f k leg a, ∃ r, l = (a : Int) :: r := by
  intro l hl
  cases k with
  | zero => simp [linesFrom] at hl; exact ⟨[], hl⟩
  | succ k =>
    unfold linesFrom at hl
    rw [List.mem_flatMap] at hl
    obtain ⟨b, _, h⟩ := hl
    by_cases hf : f leg a b = true
    · rw [if_pos hf, List.mem_map] at h
      obtain ⟨l', _, rfl⟩ := h
      exact ⟨l', rfl⟩
    · rw [if_neg hf] at h; cases h
theorem linesFrom_sorted {T : Treaty} {f : Nat → Nat → Nat → Bool} : ∀ (k leg a : Nat), SortedL (linesFrom T f k leg a)
  | 0, leg, a => by unfold linesFrom; exact List.pairwise_singleton _ _
  | k + 1, leg, a => by
    unfold linesFrom SortedL
    rw [List.pairwise_flatMap]
    refine ⟨fun b _ => ?_, ?_⟩
    · split
      · rw [List.pairwise_map]
        exact (linesFrom_sorted k (leg + 1) b).imp fun h => by unfold lexB; rw [if_pos rfl]; exact h
      · exact List.Pairwise.nil
    · refine (List.pairwise_lt_range (n := T.places.toNat)).imp fun {b c} hbc x hx y hy => ?_
      split at hx
      · split at hy
        · rw [List.mem_map] at hx hy
          obtain ⟨x', hx', rfl⟩ := hx
          obtain ⟨y', hy', rfl⟩ := hy
          obtain ⟨rx, rfl⟩ := linesFrom_cons _ _ _ _ hx'
          obtain ⟨ry, rfl⟩ := linesFrom_cons _ _ _ _ hy'
          unfold lexB
          rw [if_pos rfl]
          unfold lexB
          rw [if_neg (by omega)]
          exact decide_eq_true (by omega)
        · cases hy
      · cases hx
theorem linesL_sorted {T : Treaty} (hs : T.starts.Pairwise (fun x y => x < y)) (hp : ∀ x ∈ T.starts, 0 ≤ x) (f : Nat → Nat → Nat → Bool) : SortedL (linesL T f) := by
  unfold linesL SortedL
  rw [List.pairwise_flatMap]
  refine ⟨fun s _ => linesFrom_sorted _ _ _, ?_⟩
  refine List.Pairwise.imp_of_mem (fun {s t} hs' ht' hst x hx y hy => ?_) hs
  obtain ⟨rx, rfl⟩ := linesFrom_cons _ _ _ _ hx
  obtain ⟨ry, rfl⟩ := linesFrom_cons _ _ _ _ hy
  have := hp s hs'
  have := hp t ht'
  unfold lexB
  rw [if_neg (by omega)]
  exact decide_eq_true (by omega)


/-- The lines of all readings. -/
noncomputable def unionL (T : Treaty) : List (List Int) := (readingsL T).flatMap fun R => linesL T (leadsF T R)
noncomputable def allL (T : Treaty) : List (List Int) := allIn (unionL T)
noncomputable def allE (T : Treaty) : Int := if checkE T = 0 then (if (allL T).length ≤ 200 then 0 else 11) else checkE T
noncomputable def allX (T : Treaty) : List (List Int) := if allE T = 0 then allL T else []
end Go.Proofs
end

section
/- Plain: which lines are listed; in which reading a line agrees first. -/
namespace Go.Proofs

theorem keepsTo_iff {f : Nat → Nat → Nat → Bool} {l : List Int} {k : Nat} : keepsTo f l k = true ↔ ∀ i, i < k → f i (l.getD i 0).toNat (l.getD (i + 1) 0).toNat = true := by
  unfold keepsTo
  simp only [List.all_eq_true, List.mem_range]
theorem mem_linesFrom {T : Treaty} {f : Nat → Nat → Nat → Bool} : ∀ (k leg a : Nat) (l : List Int), l ∈ linesFrom T f k leg a ↔ ∃ r, l = (a : Int) :: r ∧ r.length = k ∧ (∀ x ∈ r, 0 ≤ x ∧ x < T.places) ∧ ∀ i, i < k → f (leg + i) (l.getD i 0).toNat (l.getD (i + 1) 0).toNat = true
  | 0, leg, a, l => by
    unfold linesFrom
    rw [List.mem_singleton]
    constructor
    · rintro rfl
      exact ⟨[], rfl, rfl, by simp, fun i hi => absurd hi (Nat.not_lt_zero _)⟩
    · rintro ⟨r, rfl, hr, -, -⟩
      rw [List.eq_nil_of_length_eq_zero hr]
  | k + 1, leg, a, l => by
    unfold linesFrom
    rw [List.mem_flatMap]
    constructor
    · rintro ⟨b, hb, h⟩
      have hb' := List.mem_range.1 hb
      by_cases hf : f leg a b = true
      · rw [if_pos hf, List.mem_map] at h
        obtain ⟨l', h', rfl⟩ := h
        obtain ⟨r, rfl, hr, hx, hk⟩ := (mem_linesFrom k (leg + 1) b l').1 h'
        refine ⟨(b : Int) :: r, rfl, by simp [hr], fun x hx' => ?_, fun i hi => ?_⟩
        · rcases List.mem_cons.1 hx' with rfl | hx'
          · omega
          · exact hx x hx'
        · cases i with
          | zero => simpa using hf
          | succ i =>
            have := hk i (by omega)
            rw [show leg + (i + 1) = leg + 1 + i by omega]
            simpa using this
      · rw [if_neg hf] at h; cases h
    · rintro ⟨r, rfl, hr, hx, hk⟩
      match r, hr with
      | y :: r, hr =>
        have hy := hx y List.mem_cons_self
        obtain ⟨b, rfl⟩ := Int.eq_ofNat_of_zero_le hy.1
        refine ⟨b, List.mem_range.2 (by omega), ?_⟩
        have hf : f leg a b = true := by have := hk 0 (by omega); simpa using this
        rw [if_pos hf, List.mem_map]
        refine ⟨(b : Int) :: r, (mem_linesFrom k (leg + 1) b _).2 ⟨r, rfl, by simpa using hr, fun x hx' => hx x (List.mem_cons_of_mem _ hx'), fun i hi => ?_⟩, rfl⟩
        have := hk (i + 1) (by omega)
        rw [show leg + (i + 1) = leg + 1 + i by omega] at this
        simpa using this
theorem mem_linesL {T : Treaty} (hs : ∀ x ∈ T.starts, 0 ≤ x ∧ x < T.places) {f : Nat → Nat → Nat → Bool} {l : List Int} : l ∈ linesL T f ↔ linedB T l = true ∧ hasB T.starts (l.getD 0 0) = true ∧ keepsTo f l T.legs.length = true := by
  unfold linesL
  rw [List.mem_flatMap, linedB_iff, hasB_iff, keepsTo_iff]
  constructor
  · rintro ⟨s, hsm, h⟩
    have hb := hs s hsm
    obtain ⟨r, rfl, hr, hx, hk⟩ := (mem_linesFrom _ _ _ _).1 h
    have es : ((s.toNat : Nat) : Int) = s := Int.toNat_of_nonneg hb.1
    refine ⟨⟨by simp [hr], fun x hx' => ?_⟩, by simpa [es] using hsm, fun i hi => by have := hk i hi; rwa [Nat.zero_add] at this⟩
    rcases List.mem_cons.1 hx' with rfl | hx'
    · rw [es]; exact hb
    · exact hx x hx'
  · rintro ⟨⟨hl, hx⟩, hst, hk⟩
    match l, hl with
    | s :: r, hl =>
      have hsm : s ∈ T.starts := by simpa using hst
      have hb := hs s hsm
      have es : ((s.toNat : Nat) : Int) = s := Int.toNat_of_nonneg hb.1
      refine ⟨s, hsm, (mem_linesFrom _ _ _ _).2 ⟨r, by rw [es], by simpa using hl, fun x hx' => hx x (List.mem_cons_of_mem _ hx'), fun i hi => ?_⟩⟩
      rw [Nat.zero_add]
      exact hk i hi
theorem unionL_len {T : Treaty} : ∀ l ∈ unionL T, l.length = T.legs.length + 1 := fun l hl => by
  unfold unionL at hl
  obtain ⟨R, _, h⟩ := List.mem_flatMap.1 hl
  unfold linesL at h
  obtain ⟨s, _, h⟩ := List.mem_flatMap.1 h
  exact linesFrom_len _ _ _ l h
theorem allL_spec (T : Treaty) : SortedL (allL T) ∧ ∀ y, y ∈ allL T ↔ y ∈ unionL T := allIn_spec _ unionL_len
theorem starts_rise {T : Treaty} (ok : TOk T) : T.starts.Pairwise (fun x y => x < y) := by
  have h := ok.rstarts
  revert h
  generalize T.starts = l
  intro h
  rw [List.pairwise_iff_getElem]
  have step : ∀ k, (hk : k + 1 < l.length) → l[k] < l[k + 1] := fun k hk => by
    apply Decidable.byContradiction
    intro hn
    have := risesB_false l k hk (by omega)
    rw [this] at h; cases h
  intro i j hi hj hij
  obtain ⟨d, rfl⟩ : ∃ d, j = i + 1 + d := ⟨j - (i + 1), by omega⟩
  clear hij
  induction d with
  | zero => exact step i hj
  | succ d ih =>
    have h1 := ih (by omega)
    have h2 := step (i + 1 + d) (by omega)
    have e : l[i + 1 + (d + 1)] = l[i + 1 + d + 1] := rfl
    rw [e]
    omega
theorem linesL_ok {T : Treaty} (ok : TOk T) (f : Nat → Nat → Nat → Bool) : SortedL (linesL T f) := linesL_sorted (starts_rise ok) (fun x hx => (ok.starts x hx).1) f
end Go.Proofs
end

section
/- The law on readings: what the program's functions and the reference's answer, in the same words. -/
namespace Go.Proofs
open Go.RowKit

def AllU (w : World) (T : Treaty) (e : Ending) (w' : World) : Prop :=
  Aft w w' ∧ ∃ A c, e = .returned (.tuple #[.slice A (allX T).length c, .int .i64 (allE T)]) ∧ Lists w' A (allX T)
end Go.Proofs
end

section
/- Where the library's slices.Insert and slices.BinarySearch lie. -/
namespace Go.Proofs
open Go.RowKit Go.Shelf
set_option maxRecDepth 100000
def renIns : Go.Shelf.Ren := ⟨fun | 21 => 97 | 27 => 139 | 28 => 140 | 35 => 162 | 39 => 100 | 25 => 96 | 31 => 137 | 32 => 138 | 37 => 122 | n => n, fun | 22 => 24 | 40 => 166 | n => n, fun n => n⟩
theorem layIns : Lays2.n21 Tryz.prog renIns := {
  mixed := by kernel_rfl
  f21 := Tryz.func97.trans (congrArg some (by kernel_rfl))
  f27 := Tryz.func139.trans (congrArg some (by kernel_rfl))
  f28 := Tryz.func140.trans (congrArg some (by kernel_rfl))
  f35 := Tryz.func162.trans (congrArg some (by kernel_rfl))
  f39 := Tryz.func100.trans (congrArg some (by kernel_rfl))
  t0 := Tryz.underlying0
  a0 := Tryz.isAgg0
  z0 := Tryz.sizeOf0
  v0 := Tryz.zeroValue0
  t3 := Tryz.underlying3
  a3 := Tryz.isAgg3
  z3 := Tryz.sizeOf3
  v3 := Tryz.zeroValue3
  t4 := Tryz.underlying4
  a4 := Tryz.isAgg4
  z4 := Tryz.sizeOf4
  v4 := Tryz.zeroValue4
  t22 := Tryz.underlying24
  a22 := Tryz.isAgg24
  z22 := Tryz.sizeOf24
  v22 := Tryz.zeroValue24
  i3 := by kernel_rfl }
theorem laySearch : Lays2.n25 Tryz.prog renIns := {
  mixed := by kernel_rfl
  f25 := Tryz.func96.trans (congrArg some (by kernel_rfl))
  f31 := Tryz.func137.trans (congrArg some (by kernel_rfl))
  f32 := Tryz.func138.trans (congrArg some (by kernel_rfl))
  f37 := Tryz.func122.trans (congrArg some (by kernel_rfl))
  t0 := Tryz.underlying0
  a0 := Tryz.isAgg0
  z0 := Tryz.sizeOf0
  v0 := Tryz.zeroValue0
  t3 := Tryz.underlying3
  a3 := Tryz.isAgg3
  z3 := Tryz.sizeOf3
  v3 := Tryz.zeroValue3
  t4 := Tryz.underlying4
  a4 := Tryz.isAgg4
  z4 := Tryz.sizeOf4
  v4 := Tryz.zeroValue4
  t22 := Tryz.underlying24
  a22 := Tryz.isAgg24
  z22 := Tryz.sizeOf24
  v22 := Tryz.zeroValue24
  t40 := Tryz.underlying166
  a40 := Tryz.isAgg166
  z40 := Tryz.sizeOf166
  v40 := Tryz.zeroValue166 }
end Go.Proofs
end

section
/- Walks: equal of two treaties of the same contents. -/
namespace Go.Proofs
open Go.RowKit
attribute [local go_sem] Oper.semAt_some

theorem eqB_self {α : Type} [DecidableEq α] (l : List α) : eqB l l = true := decide_eq_true rfl

end Go.Proofs
end

section
/- Walks: the treaty of example 1. -/
namespace Go.Proofs
open Go.RowKit

theorem rows_blk {α : Type} {R : World → α → List Value → Prop} {w : World} {b : Nat} {t : TypeId} {cs : Array Value} {sz : Nat} {l : List α} (hb : Blk w b t cs) (hl : l.length * sz ≤ 17592186043904)
    (h : ∀ i, (hi : i < l.length) → ∃ vs : List Value, vs.length = sz ∧ R w l[i] vs ∧ ∀ j, (hj : j < vs.length) → cs[i * sz + j]? = some vs[j]) : RowsP w (some ⟨b, 0, none⟩) sz R l := by
  refine ⟨hl, .inr ⟨b, 0, rfl, hb.lt, fun i hi => ?_⟩⟩
  obtain ⟨vs, h1, h2, h3⟩ := h i hi
  refine ⟨vs, h1, h2, fun j hj => ?_⟩
  rw [Nat.zero_add]
  exact (hb.cell _).trans (h3 j hj)
theorem ints_blk {w : World} {b : Nat} {t : TypeId} {l : List Int} (hb : Blk w b t (l.map (Value.int .i64)).toArray) (hl : l.length ≤ 17592186043904) : Ints w (some ⟨b, 0, none⟩) l :=
  rows_blk hb (by omega) fun i hi => ⟨[.int .i64 l[i]], rfl, rfl, fun j hj => by
    have : j = 0 := by simp at hj; omega
    subst this
    simp [hi]⟩

/-- What Four answers: the treaty; its legs in a block that can be written apart from the rest. -/
def FourR (w : World) (e : Ending) (w' : World) : Prop :=
  ∃ b1 b2 b3 L c1 c2 c3 c4, e = .returned (.agg #[.int .i64 4, .slice (some ⟨b1, 0, none⟩) 4 c1, .slice (some ⟨b2, 0, none⟩) 2 c2, .slice (some ⟨b3, 0, none⟩) 1 c3, .slice (some ⟨L, 0, none⟩) 2 c4]) ∧ Aft w w' ∧ w.heap.size ≤ L ∧
    Blk w' L 70 #[.int .i64 0, .int .i64 (-1), .int .i64 1, .int .i64 (-1)] ∧
    ∀ w'', w'.grownBy w'' (some L) → RowsP w'' (some ⟨b1, 0, none⟩) 3 WayR T4.ways ∧ RowsP w'' (some ⟨b2, 0, none⟩) 1 WordR T4.words ∧ Ints w'' (some ⟨b3, 0, none⟩) T4.starts

theorem four_final (w X : World) (hX : X = (((((((((((((w.alloc (.cells #[.int .i64 4, .slice (some ⟨w.heap.size + 1, 0, none⟩) 4 4, .slice (some ⟨w.heap.size + 1 + 1 + 1 + 1 + 1 + 1 + 1 + 1 + 1 + 1, 0, none⟩) 2 2, .slice (some ⟨w.heap.size + 1 + 1 + 1 + 1 + 1 + 1 + 1 + 1 + 1 + 1 + 1, 0, none⟩) 1 1, .slice (some ⟨w.heap.size + 1 + 1 + 1 + 1 + 1 + 1 + 1 + 1 + 1 + 1 + 1 + 1, 0, none⟩) 2 2] 27)).alloc (.cells #[.int .i64 0, .int .i64 1, .int .i64 0, .int .i64 1, .int .i64 2, .int .i64 0, .int .i64 1, .int .i64 3, .int .i64 1, .int .i64 2, .int .i64 3, .int .i64 2] 65)).alloc (.cells #[.int .i64 0] 3)).alloc (.cells #[.int .i64 1, .int .i64 2] 3)).alloc (.cells #[.int .i64 1] 3)).alloc (.cells #[.int .i64 3] 3)).alloc (.cells #[.slice (some ⟨w.heap.size + 1 + 1, 0, none⟩) 1 1, .slice (some ⟨w.heap.size + 1 + 1 + 1, 0, none⟩) 2 2, .slice (some ⟨w.heap.size + 1 + 1 + 1 + 1, 0, none⟩) 1 1, .slice (some ⟨w.heap.size + 1 + 1 + 1 + 1 + 1, 0, none⟩) 1 1] 67)).alloc (.cells #[.int .i64 1, .int .i64 2] 3)).alloc (.cells #[.int .i64 3] 3)).alloc (.cells #[.slice (some ⟨w.heap.size + 1 + 1 + 1 + 1 + 1 + 1 + 1, 0, none⟩) 2 2, .slice (some ⟨w.heap.size + 1 + 1 + 1 + 1 + 1 + 1 + 1 + 1, 0, none⟩) 1 1] 67)).alloc (.cells #[.slice (some ⟨w.heap.size + 1 + 1 + 1 + 1 + 1 + 1, 0, none⟩) 2 2, .slice (some ⟨w.heap.size + 1 + 1 + 1 + 1 + 1 + 1 + 1 + 1 + 1, 0, none⟩) 1 1] 68)).alloc (.cells #[.int .i64 0] 3)).alloc (.cells #[.int .i64 0, .int .i64 (-1), .int .i64 1, .int .i64 (-1)] 70))) : FourR w (.returned (.agg #[.int .i64 4, .slice (some ⟨w.heap.size + 1, 0, none⟩) 4 4, .slice (some ⟨w.heap.size + 1 + 1 + 1 + 1 + 1 + 1 + 1 + 1 + 1 + 1, 0, none⟩) 2 2, .slice (some ⟨w.heap.size + 1 + 1 + 1 + 1 + 1 + 1 + 1 + 1 + 1 + 1 + 1, 0, none⟩) 1 1, .slice (some ⟨w.heap.size + 1 + 1 + 1 + 1 + 1 + 1 + 1 + 1 + 1 + 1 + 1 + 1, 0, none⟩) 2 2])) X := by
  have hsz : X.heap.size = w.heap.size + 13 := by rw [hX]; simp
  have hA : Aft w X := by
    rw [hX]
    exact (((((((((((((Aft.alloc w _).then_alloc _).then_alloc _).then_alloc _).then_alloc _).then_alloc _).then_alloc _).then_alloc _).then_alloc _).then_alloc _).then_alloc _).then_alloc _).then_alloc _)
  have B1 : Blk X (w.heap.size + 1) 65 #[.int .i64 0, .int .i64 1, .int .i64 0, .int .i64 1, .int .i64 2, .int .i64 0, .int .i64 1, .int .i64 3, .int .i64 1, .int .i64 2, .int .i64 3, .int .i64 2] := by
    have h := Blk.new (w.alloc (.cells #[.int .i64 4, .slice (some ⟨w.heap.size + 1, 0, none⟩) 4 4, .slice (some ⟨w.heap.size + 1 + 1 + 1 + 1 + 1 + 1 + 1 + 1 + 1 + 1, 0, none⟩) 2 2, .slice (some ⟨w.heap.size + 1 + 1 + 1 + 1 + 1 + 1 + 1 + 1 + 1 + 1 + 1, 0, none⟩) 1 1, .slice (some ⟨w.heap.size + 1 + 1 + 1 + 1 + 1 + 1 + 1 + 1 + 1 + 1 + 1 + 1, 0, none⟩) 2 2] 27)) 65 #[.int .i64 0, .int .i64 1, .int .i64 0, .int .i64 1, .int .i64 2, .int .i64 0, .int .i64 1, .int .i64 3, .int .i64 1, .int .i64 2, .int .i64 3, .int .i64 2]
    simp only [World.size_alloc] at h
    rw [hX]
    exact (((((((((((h.alloc _).alloc _).alloc _).alloc _).alloc _).alloc _).alloc _).alloc _).alloc _).alloc _).alloc _)
  have B2 : Blk X (w.heap.size + 2) 3 #[.int .i64 0] := by
    have h := Blk.new ((w.alloc (.cells #[.int .i64 4, .slice (some ⟨w.heap.size + 1, 0, none⟩) 4 4, .slice (some ⟨w.heap.size + 1 + 1 + 1 + 1 + 1 + 1 + 1 + 1 + 1 + 1, 0, none⟩) 2 2, .slice (some ⟨w.heap.size + 1 + 1 + 1 + 1 + 1 + 1 + 1 + 1 + 1 + 1 + 1, 0, none⟩) 1 1, .slice (some ⟨w.heap.size + 1 + 1 + 1 + 1 + 1 + 1 + 1 + 1 + 1 + 1 + 1 + 1, 0, none⟩) 2 2] 27)).alloc (.cells #[.int .i64 0, .int .i64 1, .int .i64 0, .int .i64 1, .int .i64 2, .int .i64 0, .int .i64 1, .int .i64 3, .int .i64 1, .int .i64 2, .int .i64 3, .int .i64 2] 65)) 3 #[.int .i64 0]
    simp only [World.size_alloc] at h
    rw [hX]
    exact ((((((((((h.alloc _).alloc _).alloc _).alloc _).alloc _).alloc _).alloc _).alloc _).alloc _).alloc _)
  have B3 : Blk X (w.heap.size + 3) 3 #[.int .i64 1, .int .i64 2] := by
    have h := Blk.new (((w.alloc (.cells #[.int .i64 4, .slice (some ⟨w.heap.size + 1, 0, none⟩) 4 4, .slice (some ⟨w.heap.size + 1 + 1 + 1 + 1 + 1 + 1 + 1 + 1 + 1 + 1, 0, none⟩) 2 2, .slice (some ⟨w.heap.size + 1 + 1 + 1 + 1 + 1 + 1 + 1 + 1 + 1 + 1 + 1, 0, none⟩) 1 1, .slice (some ⟨w.heap.size + 1 + 1 + 1 + 1 + 1 + 1 + 1 + 1 + 1 + 1 + 1 + 1, 0, none⟩) 2 2] 27)).alloc (.cells #[.int .i64 0, .int .i64 1, .int .i64 0, .int .i64 1, .int .i64 2, .int .i64 0, .int .i64 1, .int .i64 3, .int .i64 1, .int .i64 2, .int .i64 3, .int .i64 2] 65)).alloc (.cells #[.int .i64 0] 3)) 3 #[.int .i64 1, .int .i64 2]
    simp only [World.size_alloc] at h
    rw [hX]
    exact (((((((((h.alloc _).alloc _).alloc _).alloc _).alloc _).alloc _).alloc _).alloc _).alloc _)
  have B4 : Blk X (w.heap.size + 4) 3 #[.int .i64 1] := by
    have h := Blk.new ((((w.alloc (.cells #[.int .i64 4, .slice (some ⟨w.heap.size + 1, 0, none⟩) 4 4, .slice (some ⟨w.heap.size + 1 + 1 + 1 + 1 + 1 + 1 + 1 + 1 + 1 + 1, 0, none⟩) 2 2, .slice (some ⟨w.heap.size + 1 + 1 + 1 + 1 + 1 + 1 + 1 + 1 + 1 + 1 + 1, 0, none⟩) 1 1, .slice (some ⟨w.heap.size + 1 + 1 + 1 + 1 + 1 + 1 + 1 + 1 + 1 + 1 + 1 + 1, 0, none⟩) 2 2] 27)).alloc (.cells #[.int .i64 0, .int .i64 1, .int .i64 0, .int .i64 1, .int .i64 2, .int .i64 0, .int .i64 1, .int .i64 3, .int .i64 1, .int .i64 2, .int .i64 3, .int .i64 2] 65)).alloc (.cells #[.int .i64 0] 3)).alloc (.cells #[.int .i64 1, .int .i64 2] 3)) 3 #[.int .i64 1]
    simp only [World.size_alloc] at h
    rw [hX]
    exact ((((((((h.alloc _).alloc _).alloc _).alloc _).alloc _).alloc _).alloc _).alloc _)
  have B5 : Blk X (w.heap.size + 5) 3 #[.int .i64 3] := by
    have h := Blk.new (((((w.alloc (.cells #[.int .i64 4, .slice (some ⟨w.heap.size + 1, 0, none⟩) 4 4, .slice (some ⟨w.heap.size + 1 + 1 + 1 + 1 + 1 + 1 + 1 + 1 + 1 + 1, 0, none⟩) 2 2, .slice (some ⟨w.heap.size + 1 + 1 + 1 + 1 + 1 + 1 + 1 + 1 + 1 + 1 + 1, 0, none⟩) 1 1, .slice (some ⟨w.heap.size + 1 + 1 + 1 + 1 + 1 + 1 + 1 + 1 + 1 + 1 + 1 + 1, 0, none⟩) 2 2] 27)).alloc (.cells #[.int .i64 0, .int .i64 1, .int .i64 0, .int .i64 1, .int .i64 2, .int .i64 0, .int .i64 1, .int .i64 3, .int .i64 1, .int .i64 2, .int .i64 3, .int .i64 2] 65)).alloc (.cells #[.int .i64 0] 3)).alloc (.cells #[.int .i64 1, .int .i64 2] 3)).alloc (.cells #[.int .i64 1] 3)) 3 #[.int .i64 3]
    simp only [World.size_alloc] at h
    rw [hX]
    exact (((((((h.alloc _).alloc _).alloc _).alloc _).alloc _).alloc _).alloc _)
  have B6 : Blk X (w.heap.size + 6) 67 #[.slice (some ⟨w.heap.size + 1 + 1, 0, none⟩) 1 1, .slice (some ⟨w.heap.size + 1 + 1 + 1, 0, none⟩) 2 2, .slice (some ⟨w.heap.size + 1 + 1 + 1 + 1, 0, none⟩) 1 1, .slice (some ⟨w.heap.size + 1 + 1 + 1 + 1 + 1, 0, none⟩) 1 1] := by
    have h := Blk.new ((((((w.alloc (.cells #[.int .i64 4, .slice (some ⟨w.heap.size + 1, 0, none⟩) 4 4, .slice (some ⟨w.heap.size + 1 + 1 + 1 + 1 + 1 + 1 + 1 + 1 + 1 + 1, 0, none⟩) 2 2, .slice (some ⟨w.heap.size + 1 + 1 + 1 + 1 + 1 + 1 + 1 + 1 + 1 + 1 + 1, 0, none⟩) 1 1, .slice (some ⟨w.heap.size + 1 + 1 + 1 + 1 + 1 + 1 + 1 + 1 + 1 + 1 + 1 + 1, 0, none⟩) 2 2] 27)).alloc (.cells #[.int .i64 0, .int .i64 1, .int .i64 0, .int .i64 1, .int .i64 2, .int .i64 0, .int .i64 1, .int .i64 3, .int .i64 1, .int .i64 2, .int .i64 3, .int .i64 2] 65)).alloc (.cells #[.int .i64 0] 3)).alloc (.cells #[.int .i64 1, .int .i64 2] 3)).alloc (.cells #[.int .i64 1] 3)).alloc (.cells #[.int .i64 3] 3)) 67 #[.slice (some ⟨w.heap.size + 1 + 1, 0, none⟩) 1 1, .slice (some ⟨w.heap.size + 1 + 1 + 1, 0, none⟩) 2 2, .slice (some ⟨w.heap.size + 1 + 1 + 1 + 1, 0, none⟩) 1 1, .slice (some ⟨w.heap.size + 1 + 1 + 1 + 1 + 1, 0, none⟩) 1 1]
    simp only [World.size_alloc] at h
    rw [hX]
    exact ((((((h.alloc _).alloc _).alloc _).alloc _).alloc _).alloc _)
  have B7 : Blk X (w.heap.size + 7) 3 #[.int .i64 1, .int .i64 2] := by
    have h := Blk.new (((((((w.alloc (.cells #[.int .i64 4, .slice (some ⟨w.heap.size + 1, 0, none⟩) 4 4, .slice (some ⟨w.heap.size + 1 + 1 + 1 + 1 + 1 + 1 + 1 + 1 + 1 + 1, 0, none⟩) 2 2, .slice (some ⟨w.heap.size + 1 + 1 + 1 + 1 + 1 + 1 + 1 + 1 + 1 + 1 + 1, 0, none⟩) 1 1, .slice (some ⟨w.heap.size + 1 + 1 + 1 + 1 + 1 + 1 + 1 + 1 + 1 + 1 + 1 + 1, 0, none⟩) 2 2] 27)).alloc (.cells #[.int .i64 0, .int .i64 1, .int .i64 0, .int .i64 1, .int .i64 2, .int .i64 0, .int .i64 1, .int .i64 3, .int .i64 1, .int .i64 2, .int .i64 3, .int .i64 2] 65)).alloc (.cells #[.int .i64 0] 3)).alloc (.cells #[.int .i64 1, .int .i64 2] 3)).alloc (.cells #[.int .i64 1] 3)).alloc (.cells #[.int .i64 3] 3)).alloc (.cells #[.slice (some ⟨w.heap.size + 1 + 1, 0, none⟩) 1 1, .slice (some ⟨w.heap.size + 1 + 1 + 1, 0, none⟩) 2 2, .slice (some ⟨w.heap.size + 1 + 1 + 1 + 1, 0, none⟩) 1 1, .slice (some ⟨w.heap.size + 1 + 1 + 1 + 1 + 1, 0, none⟩) 1 1] 67)) 3 #[.int .i64 1, .int .i64 2]
    simp only [World.size_alloc] at h
    rw [hX]
    exact (((((h.alloc _).alloc _).alloc _).alloc _).alloc _)
  have B8 : Blk X (w.heap.size + 8) 3 #[.int .i64 3] := by
    have h := Blk.new ((((((((w.alloc (.cells #[.int .i64 4, .slice (some ⟨w.heap.size + 1, 0, none⟩) 4 4, .slice (some ⟨w.heap.size + 1 + 1 + 1 + 1 + 1 + 1 + 1 + 1 + 1 + 1, 0, none⟩) 2 2, .slice (some ⟨w.heap.size + 1 + 1 + 1 + 1 + 1 + 1 + 1 + 1 + 1 + 1 + 1, 0, none⟩) 1 1, .slice (some ⟨w.heap.size + 1 + 1 + 1 + 1 + 1 + 1 + 1 + 1 + 1 + 1 + 1 + 1, 0, none⟩) 2 2] 27)).alloc (.cells #[.int .i64 0, .int .i64 1, .int .i64 0, .int .i64 1, .int .i64 2, .int .i64 0, .int .i64 1, .int .i64 3, .int .i64 1, .int .i64 2, .int .i64 3, .int .i64 2] 65)).alloc (.cells #[.int .i64 0] 3)).alloc (.cells #[.int .i64 1, .int .i64 2] 3)).alloc (.cells #[.int .i64 1] 3)).alloc (.cells #[.int .i64 3] 3)).alloc (.cells #[.slice (some ⟨w.heap.size + 1 + 1, 0, none⟩) 1 1, .slice (some ⟨w.heap.size + 1 + 1 + 1, 0, none⟩) 2 2, .slice (some ⟨w.heap.size + 1 + 1 + 1 + 1, 0, none⟩) 1 1, .slice (some ⟨w.heap.size + 1 + 1 + 1 + 1 + 1, 0, none⟩) 1 1] 67)).alloc (.cells #[.int .i64 1, .int .i64 2] 3)) 3 #[.int .i64 3]
    simp only [World.size_alloc] at h
    rw [hX]
    exact ((((h.alloc _).alloc _).alloc _).alloc _)
  have B9 : Blk X (w.heap.size + 9) 67 #[.slice (some ⟨w.heap.size + 1 + 1 + 1 + 1 + 1 + 1 + 1, 0, none⟩) 2 2, .slice (some ⟨w.heap.size + 1 + 1 + 1 + 1 + 1 + 1 + 1 + 1, 0, none⟩) 1 1] := by
    have h := Blk.new (((((((((w.alloc (.cells #[.int .i64 4, .slice (some ⟨w.heap.size + 1, 0, none⟩) 4 4, .slice (some ⟨w.heap.size + 1 + 1 + 1 + 1 + 1 + 1 + 1 + 1 + 1 + 1, 0, none⟩) 2 2, .slice (some ⟨w.heap.size + 1 + 1 + 1 + 1 + 1 + 1 + 1 + 1 + 1 + 1 + 1, 0, none⟩) 1 1, .slice (some ⟨w.heap.size + 1 + 1 + 1 + 1 + 1 + 1 + 1 + 1 + 1 + 1 + 1 + 1, 0, none⟩) 2 2] 27)).alloc (.cells #[.int .i64 0, .int .i64 1, .int .i64 0, .int .i64 1, .int .i64 2, .int .i64 0, .int .i64 1, .int .i64 3, .int .i64 1, .int .i64 2, .int .i64 3, .int .i64 2] 65)).alloc (.cells #[.int .i64 0] 3)).alloc (.cells #[.int .i64 1, .int .i64 2] 3)).alloc (.cells #[.int .i64 1] 3)).alloc (.cells #[.int .i64 3] 3)).alloc (.cells #[.slice (some ⟨w.heap.size + 1 + 1, 0, none⟩) 1 1, .slice (some ⟨w.heap.size + 1 + 1 + 1, 0, none⟩) 2 2, .slice (some ⟨w.heap.size + 1 + 1 + 1 + 1, 0, none⟩) 1 1, .slice (some ⟨w.heap.size + 1 + 1 + 1 + 1 + 1, 0, none⟩) 1 1] 67)).alloc (.cells #[.int .i64 1, .int .i64 2] 3)).alloc (.cells #[.int .i64 3] 3)) 67 #[.slice (some ⟨w.heap.size + 1 + 1 + 1 + 1 + 1 + 1 + 1, 0, none⟩) 2 2, .slice (some ⟨w.heap.size + 1 + 1 + 1 + 1 + 1 + 1 + 1 + 1, 0, none⟩) 1 1]
    simp only [World.size_alloc] at h
    rw [hX]
    exact (((h.alloc _).alloc _).alloc _)
  have B10 : Blk X (w.heap.size + 10) 68 #[.slice (some ⟨w.heap.size + 1 + 1 + 1 + 1 + 1 + 1, 0, none⟩) 2 2, .slice (some ⟨w.heap.size + 1 + 1 + 1 + 1 + 1 + 1 + 1 + 1 + 1, 0, none⟩) 1 1] := by
    have h := Blk.new ((((((((((w.alloc (.cells #[.int .i64 4, .slice (some ⟨w.heap.size + 1, 0, none⟩) 4 4, .slice (some ⟨w.heap.size + 1 + 1 + 1 + 1 + 1 + 1 + 1 + 1 + 1 + 1, 0, none⟩) 2 2, .slice (some ⟨w.heap.size + 1 + 1 + 1 + 1 + 1 + 1 + 1 + 1 + 1 + 1 + 1, 0, none⟩) 1 1, .slice (some ⟨w.heap.size + 1 + 1 + 1 + 1 + 1 + 1 + 1 + 1 + 1 + 1 + 1 + 1, 0, none⟩) 2 2] 27)).alloc (.cells #[.int .i64 0, .int .i64 1, .int .i64 0, .int .i64 1, .int .i64 2, .int .i64 0, .int .i64 1, .int .i64 3, .int .i64 1, .int .i64 2, .int .i64 3, .int .i64 2] 65)).alloc (.cells #[.int .i64 0] 3)).alloc (.cells #[.int .i64 1, .int .i64 2] 3)).alloc (.cells #[.int .i64 1] 3)).alloc (.cells #[.int .i64 3] 3)).alloc (.cells #[.slice (some ⟨w.heap.size + 1 + 1, 0, none⟩) 1 1, .slice (some ⟨w.heap.size + 1 + 1 + 1, 0, none⟩) 2 2, .slice (some ⟨w.heap.size + 1 + 1 + 1 + 1, 0, none⟩) 1 1, .slice (some ⟨w.heap.size + 1 + 1 + 1 + 1 + 1, 0, none⟩) 1 1] 67)).alloc (.cells #[.int .i64 1, .int .i64 2] 3)).alloc (.cells #[.int .i64 3] 3)).alloc (.cells #[.slice (some ⟨w.heap.size + 1 + 1 + 1 + 1 + 1 + 1 + 1, 0, none⟩) 2 2, .slice (some ⟨w.heap.size + 1 + 1 + 1 + 1 + 1 + 1 + 1 + 1, 0, none⟩) 1 1] 67)) 68 #[.slice (some ⟨w.heap.size + 1 + 1 + 1 + 1 + 1 + 1, 0, none⟩) 2 2, .slice (some ⟨w.heap.size + 1 + 1 + 1 + 1 + 1 + 1 + 1 + 1 + 1, 0, none⟩) 1 1]
    simp only [World.size_alloc] at h
    rw [hX]
    exact ((h.alloc _).alloc _)
  have B11 : Blk X (w.heap.size + 11) 3 #[.int .i64 0] := by
    have h := Blk.new (((((((((((w.alloc (.cells #[.int .i64 4, .slice (some ⟨w.heap.size + 1, 0, none⟩) 4 4, .slice (some ⟨w.heap.size + 1 + 1 + 1 + 1 + 1 + 1 + 1 + 1 + 1 + 1, 0, none⟩) 2 2, .slice (some ⟨w.heap.size + 1 + 1 + 1 + 1 + 1 + 1 + 1 + 1 + 1 + 1 + 1, 0, none⟩) 1 1, .slice (some ⟨w.heap.size + 1 + 1 + 1 + 1 + 1 + 1 + 1 + 1 + 1 + 1 + 1 + 1, 0, none⟩) 2 2] 27)).alloc (.cells #[.int .i64 0, .int .i64 1, .int .i64 0, .int .i64 1, .int .i64 2, .int .i64 0, .int .i64 1, .int .i64 3, .int .i64 1, .int .i64 2, .int .i64 3, .int .i64 2] 65)).alloc (.cells #[.int .i64 0] 3)).alloc (.cells #[.int .i64 1, .int .i64 2] 3)).alloc (.cells #[.int .i64 1] 3)).alloc (.cells #[.int .i64 3] 3)).alloc (.cells #[.slice (some ⟨w.heap.size + 1 + 1, 0, none⟩) 1 1, .slice (some ⟨w.heap.size + 1 + 1 + 1, 0, none⟩) 2 2, .slice (some ⟨w.heap.size + 1 + 1 + 1 + 1, 0, none⟩) 1 1, .slice (some ⟨w.heap.size + 1 + 1 + 1 + 1 + 1, 0, none⟩) 1 1] 67)).alloc (.cells #[.int .i64 1, .int .i64 2] 3)).alloc (.cells #[.int .i64 3] 3)).alloc (.cells #[.slice (some ⟨w.heap.size + 1 + 1 + 1 + 1 + 1 + 1 + 1, 0, none⟩) 2 2, .slice (some ⟨w.heap.size + 1 + 1 + 1 + 1 + 1 + 1 + 1 + 1, 0, none⟩) 1 1] 67)).alloc (.cells #[.slice (some ⟨w.heap.size + 1 + 1 + 1 + 1 + 1 + 1, 0, none⟩) 2 2, .slice (some ⟨w.heap.size + 1 + 1 + 1 + 1 + 1 + 1 + 1 + 1 + 1, 0, none⟩) 1 1] 68)) 3 #[.int .i64 0]
    simp only [World.size_alloc] at h
    rw [hX]
    exact (h.alloc _)
  have B12 : Blk X (w.heap.size + 12) 70 #[.int .i64 0, .int .i64 (-1), .int .i64 1, .int .i64 (-1)] := by
    have h := Blk.new ((((((((((((w.alloc (.cells #[.int .i64 4, .slice (some ⟨w.heap.size + 1, 0, none⟩) 4 4, .slice (some ⟨w.heap.size + 1 + 1 + 1 + 1 + 1 + 1 + 1 + 1 + 1 + 1, 0, none⟩) 2 2, .slice (some ⟨w.heap.size + 1 + 1 + 1 + 1 + 1 + 1 + 1 + 1 + 1 + 1 + 1, 0, none⟩) 1 1, .slice (some ⟨w.heap.size + 1 + 1 + 1 + 1 + 1 + 1 + 1 + 1 + 1 + 1 + 1 + 1, 0, none⟩) 2 2] 27)).alloc (.cells #[.int .i64 0, .int .i64 1, .int .i64 0, .int .i64 1, .int .i64 2, .int .i64 0, .int .i64 1, .int .i64 3, .int .i64 1, .int .i64 2, .int .i64 3, .int .i64 2] 65)).alloc (.cells #[.int .i64 0] 3)).alloc (.cells #[.int .i64 1, .int .i64 2] 3)).alloc (.cells #[.int .i64 1] 3)).alloc (.cells #[.int .i64 3] 3)).alloc (.cells #[.slice (some ⟨w.heap.size + 1 + 1, 0, none⟩) 1 1, .slice (some ⟨w.heap.size + 1 + 1 + 1, 0, none⟩) 2 2, .slice (some ⟨w.heap.size + 1 + 1 + 1 + 1, 0, none⟩) 1 1, .slice (some ⟨w.heap.size + 1 + 1 + 1 + 1 + 1, 0, none⟩) 1 1] 67)).alloc (.cells #[.int .i64 1, .int .i64 2] 3)).alloc (.cells #[.int .i64 3] 3)).alloc (.cells #[.slice (some ⟨w.heap.size + 1 + 1 + 1 + 1 + 1 + 1 + 1, 0, none⟩) 2 2, .slice (some ⟨w.heap.size + 1 + 1 + 1 + 1 + 1 + 1 + 1 + 1, 0, none⟩) 1 1] 67)).alloc (.cells #[.slice (some ⟨w.heap.size + 1 + 1 + 1 + 1 + 1 + 1, 0, none⟩) 2 2, .slice (some ⟨w.heap.size + 1 + 1 + 1 + 1 + 1 + 1 + 1 + 1 + 1, 0, none⟩) 1 1] 68)).alloc (.cells #[.int .i64 0] 3)) 70 #[.int .i64 0, .int .i64 (-1), .int .i64 1, .int .i64 (-1)]
    simp only [World.size_alloc] at h
    rw [hX]
    exact h
  clear hX
  refine ⟨w.heap.size + 1, w.heap.size + 10, w.heap.size + 11, w.heap.size + 12, _, _, _, _, rfl, hA, by omega, B12, fun w2 hg => ?_⟩
  have C1 := B1.grown hg (fun e => by injection e with e; omega)
  have C2 := B2.grown hg (fun e => by injection e with e; omega)
  have C3 := B3.grown hg (fun e => by injection e with e; omega)
  have C4 := B4.grown hg (fun e => by injection e with e; omega)
  have C5 := B5.grown hg (fun e => by injection e with e; omega)
  have C6 := B6.grown hg (fun e => by injection e with e; omega)
  have C7 := B7.grown hg (fun e => by injection e with e; omega)
  have C8 := B8.grown hg (fun e => by injection e with e; omega)
  have C9 := B9.grown hg (fun e => by injection e with e; omega)
  have C10 := B10.grown hg (fun e => by injection e with e; omega)
  have C11 := B11.grown hg (fun e => by injection e with e; omega)
  have I2 : Ints w2 (some ⟨w.heap.size + 2, 0, none⟩) [0] := ints_blk (t := 3) (by exact C2) (by decide)
  have I3 : Ints w2 (some ⟨w.heap.size + 3, 0, none⟩) [1, 2] := ints_blk (t := 3) (by exact C3) (by decide)
  have I4 : Ints w2 (some ⟨w.heap.size + 4, 0, none⟩) [1] := ints_blk (t := 3) (by exact C4) (by decide)
  have I5 : Ints w2 (some ⟨w.heap.size + 5, 0, none⟩) [3] := ints_blk (t := 3) (by exact C5) (by decide)
  have I7 : Ints w2 (some ⟨w.heap.size + 7, 0, none⟩) [1, 2] := ints_blk (t := 3) (by exact C7) (by decide)
  have I8 : Ints w2 (some ⟨w.heap.size + 8, 0, none⟩) [3] := ints_blk (t := 3) (by exact C8) (by decide)
  have M6 : RowsP w2 (some ⟨w.heap.size + 6, 0, none⟩) 2 MeanR [⟨[0], [1, 2]⟩, ⟨[1], [3]⟩] := rows_blk C6 (by decide) fun i hi => by
    match i, hi with
    | 0, _ => exact ⟨[.slice (some ⟨w.heap.size + 2, 0, none⟩) 1 1, .slice (some ⟨w.heap.size + 3, 0, none⟩) 2 2], rfl, ⟨_, 1, _, 2, rfl, I2, I3⟩, fun j hj => by match j, hj with | 0, _ => rfl | 1, _ => rfl⟩
    | 1, _ => exact ⟨[.slice (some ⟨w.heap.size + 4, 0, none⟩) 1 1, .slice (some ⟨w.heap.size + 5, 0, none⟩) 1 1], rfl, ⟨_, 1, _, 1, rfl, I4, I5⟩, fun j hj => by match j, hj with | 0, _ => rfl | 1, _ => rfl⟩
  have M9 : RowsP w2 (some ⟨w.heap.size + 9, 0, none⟩) 2 MeanR [⟨[1, 2], [3]⟩] := rows_blk C9 (by decide) fun i hi => by
    match i, hi with
    | 0, _ => exact ⟨[.slice (some ⟨w.heap.size + 7, 0, none⟩) 2 2, .slice (some ⟨w.heap.size + 8, 0, none⟩) 1 1], rfl, ⟨_, 2, _, 1, rfl, I7, I8⟩, fun j hj => by match j, hj with | 0, _ => rfl | 1, _ => rfl⟩
  refine ⟨rows_blk C1 (by decide) fun i hi => ?_, rows_blk C10 (by decide) fun i hi => ?_, ints_blk (t := 3) (by exact C11) (by decide)⟩
  · match i, hi with
    | 0, _ => exact ⟨[.int .i64 0, .int .i64 1, .int .i64 0], rfl, rfl, fun j hj => by match j, hj with | 0, _ => rfl | 1, _ => rfl | 2, _ => rfl⟩
    | 1, _ => exact ⟨[.int .i64 1, .int .i64 2, .int .i64 0], rfl, rfl, fun j hj => by match j, hj with | 0, _ => rfl | 1, _ => rfl | 2, _ => rfl⟩
    | 2, _ => exact ⟨[.int .i64 1, .int .i64 3, .int .i64 1], rfl, rfl, fun j hj => by match j, hj with | 0, _ => rfl | 1, _ => rfl | 2, _ => rfl⟩
    | 3, _ => exact ⟨[.int .i64 2, .int .i64 3, .int .i64 2], rfl, rfl, fun j hj => by match j, hj with | 0, _ => rfl | 1, _ => rfl | 2, _ => rfl⟩
  · match i, hi with
    | 0, _ => exact ⟨[.slice (some ⟨w.heap.size + 6, 0, none⟩) 2 2], rfl, ⟨_, 2, rfl, M6⟩, fun j hj => by match j, hj with | 0, _ => rfl⟩
    | 1, _ => exact ⟨[.slice (some ⟨w.heap.size + 9, 0, none⟩) 1 1], rfl, ⟨_, 1, rfl, M9⟩, fun j hj => by match j, hj with | 0, _ => rfl⟩

set_option maxRecDepth 100000 in
set_option maxHeartbeats 2000000 in
theorem four_any (w : World) : Calls Tryz.prog 34 #[] w (FourR w) := by
  go_enter Tryz.func34, Tryz.ntmps34
  go_wp2_with fail
  refine bodyPost_ret (v := .agg #[.int .i64 4, .slice (some ⟨w.heap.size + 1, 0, none⟩) 4 4, .slice (some ⟨w.heap.size + 1 + 1 + 1 + 1 + 1 + 1 + 1 + 1 + 1 + 1, 0, none⟩) 2 2, .slice (some ⟨w.heap.size + 1 + 1 + 1 + 1 + 1 + 1 + 1 + 1 + 1 + 1 + 1, 0, none⟩) 1 1, .slice (some ⟨w.heap.size + 1 + 1 + 1 + 1 + 1 + 1 + 1 + 1 + 1 + 1 + 1 + 1, 0, none⟩) 2 2]) (by simp [results, Tryz.results34, go_sem]) rfl ?_
  exact four_final w _ rfl
end Go.Proofs
end

section
/- Walks: what the program asks of itself before it holds anything: the contracts. -/
namespace Go.Proofs
open Go.RowKit

theorem al1 (w : World) (t : TypeId) (cs : Array Value) : Blk (w.alloc (.cells cs t)) w.heap.size t cs := Blk.new w t cs
theorem al2 (w : World) (x : Obj) (t : TypeId) (cs : Array Value) : Blk ((w.alloc x).alloc (.cells cs t)) (w.heap.size + 1) t cs := by
  have h := Blk.new (w.alloc x) t cs
  rwa [World.size_alloc] at h
theorem al3 (w : World) (x y : Obj) (t : TypeId) (cs : Array Value) : Blk (((w.alloc x).alloc y).alloc (.cells cs t)) (w.heap.size + 1 + 1) t cs := by
  have h := al2 (w.alloc x) y t cs
  rwa [World.size_alloc] at h
theorem al4 (w : World) (x y z : Obj) (t : TypeId) (cs : Array Value) : Blk ((((w.alloc x).alloc y).alloc z).alloc (.cells cs t)) (w.heap.size + 1 + 1 + 1) t cs := by
  have h := al3 (w.alloc x) y z t cs
  rwa [World.size_alloc] at h
theorem al5 (w : World) (x y z u : Obj) (t : TypeId) (cs : Array Value) : Blk (((((w.alloc x).alloc y).alloc z).alloc u).alloc (.cells cs t)) (w.heap.size + 1 + 1 + 1 + 1) t cs := by
  have h := al4 (w.alloc x) y z u t cs
  rwa [World.size_alloc] at h
theorem lists_blk {w : World} {b : Nat} {cs : Array Value} {l : List (List Int)} (hb : Blk w b 24 cs) (hl : l.length ≤ 17592186043904)
    (h : ∀ i, (hi : i < l.length) → ∃ A c, cs[i]? = some (.slice A l[i].length c) ∧ Ints w A l[i]) : Lists w (some ⟨b, 0, none⟩) l := by
  refine rows_blk hb (by omega) fun i hi => ?_
  obtain ⟨A, c, h1, h2⟩ := h i hi
  refine ⟨[.slice A l[i].length c], rfl, ⟨A, c, rfl, h2⟩, fun j hj => ?_⟩
  have : j = 0 := by simp at hj; omega
  subst this
  simpa using h1

section
variable {W : World} {b1 b2 b3 L c1 c2 c3 c4 : Nat}
theorem aw15 (hT : TRep W T4 (some ⟨b1, 0, none⟩) (some ⟨b2, 0, none⟩) (some ⟨b3, 0, none⟩) (some ⟨L, 0, none⟩)) {g : Nat} (hg : Blk W g 3 #[.int .i64 0, .int .i64 0]) : Calls Tryz.prog 31 #[.agg #[.int .i64 4, .slice (some ⟨b1, 0, none⟩) 4 c1, .slice (some ⟨b2, 0, none⟩) 2 c2, .slice (some ⟨b3, 0, none⟩) 1 c3, .slice (some ⟨L, 0, none⟩) 2 c4], .slice (some ⟨g, 0, none⟩) 2 2] W fun e w' => Aft W w' ∧ ∃ A c, e = .returned (.tuple #[.slice A 2 c, .int .i64 0]) ∧ Lists w' A [[0, 1, 3], [0, 2, 3]] := by
  refine (lines_any W T4 _ _ _ _ c1 c2 c3 c4 [0, 0] _ 2 hT (ints_blk (t := 3) (l := [0, 0]) (by exact hg) (by decide))).mono ?_
  rintro e w' ⟨ha, h | h⟩
  · exact (h.1 linesE400).elim
  · obtain ⟨_, v, rfl, hv⟩ := h
    rw [lines400] at hv
    obtain ⟨A, c, rfl, _, hl⟩ := hv.lists (by decide) (by decide)
    exact ⟨ha, A, c, rfl, hl⟩
theorem aw15b (hT : TRep W T4 (some ⟨b1, 0, none⟩) (some ⟨b2, 0, none⟩) (some ⟨b3, 0, none⟩) (some ⟨L, 0, none⟩)) {g : Nat} (hg : Blk W g 3 #[.int .i64 1, .int .i64 0]) : Calls Tryz.prog 31 #[.agg #[.int .i64 4, .slice (some ⟨b1, 0, none⟩) 4 c1, .slice (some ⟨b2, 0, none⟩) 2 c2, .slice (some ⟨b3, 0, none⟩) 1 c3, .slice (some ⟨L, 0, none⟩) 2 c4], .slice (some ⟨g, 0, none⟩) 2 2] W fun e w' => Aft W w' ∧ ∃ A c, e = .returned (.tuple #[.slice A 0 c, .int .i64 0]) := by
  refine (lines_any W T4 _ _ _ _ c1 c2 c3 c4 [1, 0] _ 2 hT (ints_blk (t := 3) (l := [1, 0]) (by exact hg) (by decide))).mono ?_
  rintro e w' ⟨ha, h | h⟩
  · exact (h.1 linesE410).elim
  · obtain ⟨_, v, rfl, hv⟩ := h
    rw [lines410] at hv
    obtain ⟨A, c, rfl, _, hl⟩ := hv.lists (by decide) (by decide)
    exact ⟨ha, A, c, rfl⟩
theorem aw43 (hT : TRep W T4 (some ⟨b1, 0, none⟩) (some ⟨b2, 0, none⟩) (some ⟨b3, 0, none⟩) (some ⟨L, 0, none⟩))  : Calls Tryz.prog 12 #[.agg #[.int .i64 4, .slice (some ⟨b1, 0, none⟩) 4 c1, .slice (some ⟨b2, 0, none⟩) 2 c2, .slice (some ⟨b3, 0, none⟩) 1 c3, .slice (some ⟨L, 0, none⟩) 2 c4]] W fun e w' => Aft W w' ∧ ∃ A c, e = .returned (.tuple #[.slice A 1 c, .int .i64 0]) ∧ Lists w' A [[0, 0]] := by
  refine (readingsX_any W T4 _ _ _ _ c1 c2 c3 c4 hT).mono ?_
  rintro e w' ⟨ha, h | h⟩
  · exact (h.1 chk4).elim
  · obtain ⟨_, v, rfl, hv⟩ := h
    rw [read4] at hv
    obtain ⟨A, c, rfl, _, hl⟩ := hv.lists (by decide) (by decide)
    exact ⟨ha, A, c, rfl, hl⟩
theorem aw45 (hT : TRep W T4 (some ⟨b1, 0, none⟩) (some ⟨b2, 0, none⟩) (some ⟨b3, 0, none⟩) (some ⟨L, 0, none⟩))  : Calls Tryz.prog 17 #[.agg #[.int .i64 4, .slice (some ⟨b1, 0, none⟩) 4 c1, .slice (some ⟨b2, 0, none⟩) 2 c2, .slice (some ⟨b3, 0, none⟩) 1 c3, .slice (some ⟨L, 0, none⟩) 2 c4]] W fun e w' => Aft W w' ∧ ∃ A c, e = .returned (.tuple #[.slice A 3 c, .int .i64 0]) ∧ Lists w' A [[0], [1, 2], [3]] := by
  refine (ends_good W T4 _ _ _ _ c1 c2 c3 c4 hT chk4).mono ?_
  rintro e w' ⟨ha, h | h⟩
  · exact (h.1 endsOk4).elim
  · obtain ⟨_, v, rfl, hv⟩ := h
    rw [ends4] at hv
    obtain ⟨A, c, rfl, _, hl⟩ := hv.lists (by decide) (by decide)
    exact ⟨ha, A, c, rfl, hl⟩
theorem aw21 (hT : TRep W T4 (some ⟨b1, 0, none⟩) (some ⟨b2, 0, none⟩) (some ⟨b3, 0, none⟩) (some ⟨L, 0, none⟩)) {g : Nat} (hg : Blk W g 3 #[.int .i64 0, .int .i64 1, .int .i64 3]) : Calls Tryz.prog 23 #[.agg #[.int .i64 4, .slice (some ⟨b1, 0, none⟩) 4 c1, .slice (some ⟨b2, 0, none⟩) 2 c2, .slice (some ⟨b3, 0, none⟩) 1 c3, .slice (some ⟨L, 0, none⟩) 2 c4], .slice (some ⟨g, 0, none⟩) 3 3] W fun e w' => Aft W w' ∧ ∃ A c, e = .returned (.tuple #[.slice A 2 c, .int .i64 0]) ∧ Ints w' A [0, 0] := by
  refine (agrees_good W T4 _ _ _ _ c1 c2 c3 c4 [0, 1, 3] _ 3 hT (ints_blk (t := 3) (l := [0, 1, 3]) (by exact hg) (by decide)) chk4 lin4 st4).mono ?_
  rintro e w' ⟨ha, h | ⟨R, v, h, rfl, hv⟩⟩
  · rw [agr4] at h; cases h.1
  · rw [agr4] at h
    cases h
    obtain ⟨A, c, rfl, _, hl⟩ := own_ints hv (by decide)
    exact ⟨ha, A, c, rfl, hl⟩
theorem aw18 (hT : TRep W T4 (some ⟨b1, 0, none⟩) (some ⟨b2, 0, none⟩) (some ⟨b3, 0, none⟩) (some ⟨L, 0, none⟩)) {g k : Nat} (hg : Blk W g 3 #[.int .i64 1, .int .i64 0]) (hk : Blk W k 3 #[.int .i64 0, .int .i64 1, .int .i64 3]) : Calls Tryz.prog 24 #[.agg #[.int .i64 4, .slice (some ⟨b1, 0, none⟩) 4 c1, .slice (some ⟨b2, 0, none⟩) 2 c2, .slice (some ⟨b3, 0, none⟩) 1 c3, .slice (some ⟨L, 0, none⟩) 2 c4], .slice (some ⟨g, 0, none⟩) 2 2, .slice (some ⟨k, 0, none⟩) 3 3] W fun e w' => Aft W w' ∧ ∃ A c, e = .returned (.tuple #[.slice A 1 c, .int .i64 0]) ∧ Ints w' A [0] := by
  refine (breaks_any W T4 _ _ _ _ c1 c2 c3 c4 [1, 0] _ 2 [0, 1, 3] _ 3 hT (ints_blk (t := 3) (l := [1, 0]) (by exact hg) (by decide)) (ints_blk (t := 3) (l := [0, 1, 3]) (by exact hk) (by decide))).mono ?_
  rintro e w' ⟨ha, h | h⟩
  · exact (h.1 brkE4).elim
  · obtain ⟨_, v, rfl, hv⟩ := h
    rw [brk4] at hv
    obtain ⟨A, c, rfl, _, hl⟩ := own_ints hv (by decide)
    exact ⟨ha, A, c, rfl, hl⟩
theorem aw27 (hT : TRep W T4 (some ⟨b1, 0, none⟩) (some ⟨b2, 0, none⟩) (some ⟨b3, 0, none⟩) (some ⟨L, 0, none⟩)) {g : Nat} (hg : Blk W g 3 #[.int .i64 1, .int .i64 0]) : Calls Tryz.prog 43 #[.agg #[.int .i64 4, .slice (some ⟨b1, 0, none⟩) 4 c1, .slice (some ⟨b2, 0, none⟩) 2 c2, .slice (some ⟨b3, 0, none⟩) 1 c3, .slice (some ⟨L, 0, none⟩) 2 c4], .slice (some ⟨g, 0, none⟩) 2 2] W fun e w' => Aft W w' ∧ ∃ A c, e = .returned (.tuple #[.slice A 1 c, .int .i64 0]) ∧ Ints w' A [0] ∧ ∀ b o, A = some ⟨b, o, none⟩ → W.heap.size ≤ b := by
  refine (yield_any W T4 _ _ _ _ c1 c2 c3 c4 [1, 0] _ 2 hT (ints_blk (t := 3) (l := [1, 0]) (by exact hg) (by decide))).mono ?_
  rintro e w' ⟨ha, h | h⟩
  · exact (h.1 rE410).elim
  · obtain ⟨_, v, rfl, hv⟩ := h
    rw [yl4] at hv
    obtain ⟨A, c, rfl, _, hl⟩ := own_ints hv (by decide)
    exact ⟨ha, A, c, rfl, hl, fun b o e => by subst e; exact (hv.lt b rfl).1⟩
theorem aw30 (hT : TRep W T4 (some ⟨b1, 0, none⟩) (some ⟨b2, 0, none⟩) (some ⟨b3, 0, none⟩) (some ⟨L, 0, none⟩)) {g k1 k2 k3 k : Nat} (hg : Blk W g 3 #[.int .i64 1, .int .i64 0]) (h1 : Blk W k1 3 #[.int .i64 0, .int .i64 3, .int .i64 3, .int .i64 3]) (h2 : Blk W k2 3 #[.int .i64 1, .int .i64 1, .int .i64 1, .int .i64 1]) (h3 : Blk W k3 3 #[.int .i64 2, .int .i64 2, .int .i64 2, .int .i64 1]) (hk : Blk W k 24 #[.slice (some ⟨k1, 0, none⟩) 4 4, .slice (some ⟨k2, 0, none⟩) 4 4, .slice (some ⟨k3, 0, none⟩) 4 4]) :
    Calls Tryz.prog 44 #[.agg #[.int .i64 4, .slice (some ⟨b1, 0, none⟩) 4 c1, .slice (some ⟨b2, 0, none⟩) 2 c2, .slice (some ⟨b3, 0, none⟩) 1 c3, .slice (some ⟨L, 0, none⟩) 2 c4], .slice (some ⟨g, 0, none⟩) 2 2, .slice (some ⟨k, 0, none⟩) 3 3] W fun e w' => Aft W w' ∧ e = .returned (.tuple #[.int .i64 1, .int .i64 0]) := by
  have hF : Lists W (some ⟨k, 0, none⟩) F4 := lists_blk hk (by decide) fun i hi => by
    match i, hi with
    | 0, _ => exact ⟨_, 4, rfl, ints_blk (t := 3) (l := [0, 3, 3, 3]) (by exact h1) (by decide)⟩
    | 1, _ => exact ⟨_, 4, rfl, ints_blk (t := 3) (l := [1, 1, 1, 1]) (by exact h2) (by decide)⟩
    | 2, _ => exact ⟨_, 4, rfl, ints_blk (t := 3) (l := [2, 2, 2, 1]) (by exact h3) (by decide)⟩
  refine (proves_any W T4 _ _ _ _ c1 c2 c3 c4 [1, 0] _ 2 F4 _ 3 hT (ints_blk (t := 3) (l := [1, 0]) (by exact hg) (by decide)) hF).mono ?_
  rintro e w' ⟨ha, h⟩
  rw [prN4, prE4] at h
  exact ⟨ha, h⟩
theorem aw38 (hT : TRep W T5 (some ⟨b1, 0, none⟩) (some ⟨b2, 0, none⟩) (some ⟨b3, 0, none⟩) (some ⟨L, 0, none⟩)) : Calls Tryz.prog 38 #[.agg #[.int .i64 4, .slice (some ⟨b1, 0, none⟩) 4 c1, .slice (some ⟨b2, 0, none⟩) 2 c2, .slice (some ⟨b3, 0, none⟩) 1 c3, .slice (some ⟨L, 0, none⟩) 2 c4]] W fun e w' => Aft W w' ∧ ∃ A c, e = .returned (.tuple #[.slice A 2 c, .int .i64 1, .int .i64 0]) ∧ Ints w' A [0, 0] := by
  refine (fewest_any W T5 _ _ _ _ c1 c2 c3 c4 hT).mono ?_
  rintro e w' ⟨ha, h | h⟩
  · exact (h.1 chk5).elim
  · obtain ⟨_, v, rfl, hv⟩ := h
    rw [few5] at hv ⊢
    obtain ⟨A, c, rfl, _, hl⟩ := own_ints hv (by decide)
    exact ⟨ha, A, c, rfl, hl⟩
theorem aw17a {A : Option Addr} {c k1 k2 k : Nat} (hA : Lists W A [[0, 1, 3], [0, 2, 3]]) (h1 : Blk W k1 3 #[.int .i64 0, .int .i64 1, .int .i64 3]) (h2 : Blk W k2 3 #[.int .i64 0, .int .i64 2, .int .i64 3]) (hk : Blk W k 24 #[.slice (some ⟨k1, 0, none⟩) 3 3, .slice (some ⟨k2, 0, none⟩) 3 3]) :
    Calls Tryz.prog 14 #[.slice A 2 c, .slice (some ⟨k, 0, none⟩) 2 2] W fun e w' => e = .returned (.bool true) ∧ Aft W w' :=
  equalAll_any W A _ [[0, 1, 3], [0, 2, 3]] [[0, 1, 3], [0, 2, 3]] c 2 hA (lists_blk hk (by decide) fun i hi => by
    match i, hi with
    | 0, _ => exact ⟨_, 3, rfl, ints_blk (t := 3) (l := [0, 1, 3]) (by exact h1) (by decide)⟩
    | 1, _ => exact ⟨_, 3, rfl, ints_blk (t := 3) (l := [0, 2, 3]) (by exact h2) (by decide)⟩)
theorem aw17b {A : Option Addr} {c k1 k : Nat} (hA : Lists W A [[0, 0]]) (h1 : Blk W k1 3 #[.int .i64 0, .int .i64 0]) (hk : Blk W k 24 #[.slice (some ⟨k1, 0, none⟩) 2 2]) :
    Calls Tryz.prog 14 #[.slice A 1 c, .slice (some ⟨k, 0, none⟩) 1 1] W fun e w' => e = .returned (.bool true) ∧ Aft W w' :=
  equalAll_any W A _ [[0, 0]] [[0, 0]] c 1 hA (lists_blk hk (by decide) fun i hi => by
    match i, hi with
    | 0, _ => exact ⟨_, 2, rfl, ints_blk (t := 3) (l := [0, 0]) (by exact h1) (by decide)⟩)
theorem aw17c {A : Option Addr} {c k1 k2 k3 k : Nat} (hA : Lists W A [[0], [1, 2], [3]]) (h1 : Blk W k1 3 #[.int .i64 0]) (h2 : Blk W k2 3 #[.int .i64 1, .int .i64 2]) (h3 : Blk W k3 3 #[.int .i64 3]) (hk : Blk W k 24 #[.slice (some ⟨k1, 0, none⟩) 1 1, .slice (some ⟨k2, 0, none⟩) 2 2, .slice (some ⟨k3, 0, none⟩) 1 1]) :
    Calls Tryz.prog 14 #[.slice A 3 c, .slice (some ⟨k, 0, none⟩) 3 3] W fun e w' => e = .returned (.bool true) ∧ Aft W w' :=
  equalAll_any W A _ [[0], [1, 2], [3]] [[0], [1, 2], [3]] c 3 hA (lists_blk hk (by decide) fun i hi => by
    match i, hi with
    | 0, _ => exact ⟨_, 1, rfl, ints_blk (t := 3) (l := [0]) (by exact h1) (by decide)⟩
    | 1, _ => exact ⟨_, 2, rfl, ints_blk (t := 3) (l := [1, 2]) (by exact h2) (by decide)⟩
    | 2, _ => exact ⟨_, 1, rfl, ints_blk (t := 3) (l := [3]) (by exact h3) (by decide)⟩)
end
end Go.Proofs
end

section
/- Walks: what the program asks of itself before it holds anything. -/
namespace Go.Proofs
open Go.RowKit

structure Aw (w : World) (b1 b2 b3 L c1 c2 c3 c4 D : Nat) (X : World) : Prop where
  aft : Aft w X
  base : w.heap.size ≤ L
  far : L < D
  rows : ∀ Z, X.grownBy Z (some L) → RowsP Z (some ⟨b1, 0, none⟩) 3 WayR T4.ways ∧ RowsP Z (some ⟨b2, 0, none⟩) 1 WordR T4.words ∧ Ints Z (some ⟨b3, 0, none⟩) T4.starts
  legs : Blk X L 70 #[.int .i64 0, .int .i64 (-1), .int .i64 1, .int .i64 (-1)]
  box : Blk X D 27 #[.int .i64 4, .slice (some ⟨b1, 0, none⟩) 4 c1, .slice (some ⟨b2, 0, none⟩) 2 c2, .slice (some ⟨b3, 0, none⟩) 1 c3, .slice (some ⟨L, 0, none⟩) 2 c4]
section
variable {w X Y : World} {b1 b2 b3 L c1 c2 c3 c4 D : Nat}
theorem Aw.start (h : Aft w X) (h2 : w.heap.size ≤ L) (h3 : Blk X L 70 #[.int .i64 0, .int .i64 (-1), .int .i64 1, .int .i64 (-1)]) (h4 : ∀ Z, X.grownBy Z (some L) → RowsP Z (some ⟨b1, 0, none⟩) 3 WayR T4.ways ∧ RowsP Z (some ⟨b2, 0, none⟩) 1 WordR T4.words ∧ Ints Z (some ⟨b3, 0, none⟩) T4.starts) :
    Aw w b1 b2 b3 L c1 c2 c3 c4 X.heap.size (X.alloc (.cells #[.int .i64 4, .slice (some ⟨b1, 0, none⟩) 4 c1, .slice (some ⟨b2, 0, none⟩) 2 c2, .slice (some ⟨b3, 0, none⟩) 1 c3, .slice (some ⟨L, 0, none⟩) 2 c4] 27)) :=
  ⟨h.then_alloc _, h2, h3.lt, fun Z hz => h4 Z ((only_of_aft (Aft.alloc _ _) _).trans hz), h3.alloc _, Blk.new _ _ _⟩
theorem Aw.next (h : Aw w b1 b2 b3 L c1 c2 c3 c4 D X) (ha : Aft X Y) : Aw w b1 b2 b3 L c1 c2 c3 c4 D Y := ⟨h.aft.trans ha, h.base, h.far, fun Z hz => h.rows Z ((only_of_aft ha _).trans hz), h.legs.aft ha, h.box.aft ha⟩
theorem legs_blk {l : List Leg} {b : Nat} {cs : Array Value} (hb : Blk X b 70 cs) (hl : l.length * 2 ≤ 17592186043904) (h : ∀ i, (hi : i < l.length) → cs[i * 2]? = some (.int .i64 l[i].word) ∧ cs[i * 2 + 1]? = some (.int .i64 l[i].other)) : RowsP X (some ⟨b, 0, none⟩) 2 LegR l :=
  rows_blk hb hl fun i hi => ⟨[.int .i64 l[i].word, .int .i64 l[i].other], rfl, rfl, fun j hj => by match j, hj with | 0, _ => exact (h i hi).1 | 1, _ => exact (h i hi).2⟩
theorem Aw.rep (h : Aw w b1 b2 b3 L c1 c2 c3 c4 D X) : TRep X T4 (some ⟨b1, 0, none⟩) (some ⟨b2, 0, none⟩) (some ⟨b3, 0, none⟩) (some ⟨L, 0, none⟩) :=
  ⟨(h.rows X (only_refl _ _)).1, (h.rows X (only_refl _ _)).2.1, (h.rows X (only_refl _ _)).2.2, legs_blk h.legs (by decide) fun i hi => by match i, hi with | 0, _ => exact ⟨rfl, rfl⟩ | 1, _ => exact ⟨rfl, rfl⟩⟩
theorem setc (X : World) (L i : Nat) (v : Value) : X.grownBy (X.setCell ⟨L, i, none⟩ v) (some L) := Go.Lib.grownBy_setCell X L i v
theorem Aw.rep5 (h : Aw w b1 b2 b3 L c1 c2 c3 c4 D X) : TRep (X.setCell ⟨L, 1, none⟩ (.int .i64 1)) T5 (some ⟨b1, 0, none⟩) (some ⟨b2, 0, none⟩) (some ⟨b3, 0, none⟩) (some ⟨L, 0, none⟩) :=
  ⟨(h.rows _ (setc X L 1 _)).1, (h.rows _ (setc X L 1 _)).2.1, (h.rows _ (setc X L 1 _)).2.2, legs_blk (h.legs.store 1 _) (by decide) fun i hi => by match i, hi with | 0, _ => exact ⟨rfl, rfl⟩ | 1, _ => exact ⟨rfl, rfl⟩⟩
theorem Aw.aft5 (h : Aw w b1 b2 b3 L c1 c2 c3 c4 D X) (v : Value) : Aft w (X.setCell ⟨L, 1, none⟩ v) := h.aft.then_setCell (by exact h.base) v
theorem Aw.cells (h : Blk X D 27 #[.int .i64 4, .slice (some ⟨b1, 0, none⟩) 4 c1, .slice (some ⟨b2, 0, none⟩) 2 c2, .slice (some ⟨b3, 0, none⟩) 1 c3, .slice (some ⟨L, 0, none⟩) 2 c4]) :
    X.cell? ⟨D, 0, none⟩ = some (.int .i64 4) ∧ X.cell? ⟨D, 1, none⟩ = some (.slice (some ⟨b1, 0, none⟩) 4 c1) ∧ X.cell? ⟨D, 2, none⟩ = some (.slice (some ⟨b2, 0, none⟩) 2 c2) ∧ X.cell? ⟨D, 3, none⟩ = some (.slice (some ⟨b3, 0, none⟩) 1 c3) ∧ X.cell? ⟨D, 4, none⟩ = some (.slice (some ⟨L, 0, none⟩) 2 c4) :=
  ⟨h.cell 0, h.cell 1, h.cell 2, h.cell 3, h.cell 4⟩
theorem hwL {A : Option Addr} {n : Nat} (h : L < n) (hf : ∀ b o, A = some ⟨b, o, none⟩ → n ≤ b) : ∀ b o, A = some ⟨b, o, none⟩ → some b ≠ some L := fun b o e h2 => by have := hf b o e; cases h2; omega
theorem aw20 {A A' : Option Addr} {c c' : Nat} (l : List Int) (hA : Ints X A l) (hA' : Ints X A' l) :
    Calls Tryz.prog 27 #[.slice A l.length c, .slice A' l.length c'] X fun e w' => e = .returned (.bool true) ∧ Aft X w' := by
  refine (kitEqual_int A A' l l c c' X hA hA').mono ?_
  rintro e w' ⟨rfl, ha⟩
  exact ⟨by simp [eqB], ha⟩
end

set_option maxRecDepth 100000 in
set_option maxHeartbeats 4000000 in
theorem awake_any (w : World) : Calls Tryz.prog 9 #[] w fun e w' => e = .returned (.bool true) ∧ Aft w w' := by
  go_enter Tryz.func9, Tryz.ntmps9
  go_upto_region 2 with (first
    | (go_at_call 34; refine (four_any _).mono ?_; rintro e x ⟨b1, b2, b3, L, c1, c2, c3, c4, rfl, ha1, hL, hbL, hst⟩; have HS := Lib.hid (Aw.start (c1 := c1) (c2 := c2) (c3 := c3) (c4 := c4) ha1 hL hbL hst); clear ha1 hL hbL hst))
  have hb := HS.out.box
  generalize hx2 : (x.alloc (Obj.cells #[Value.int IntKind.i64 4, Value.slice (some { block := b1, off := 0 }) 4 c1, Value.slice (some { block := b2, off := 0 }) 2 c2, Value.slice (some { block := b3, off := 0 }) 1 c3, Value.slice (some { block := L, off := 0 }) 2 c4] 27)) = x2 at *
  clear hx2
  generalize x.heap.size = D at *
  have hlt := hb.lt
  obtain ⟨k0, k1, k2, k3, k4⟩ := Aw.cells hb
  clear hb
  go_upto_region 8 with (first
    | (go_at_call 31; refine (aw15 (HS.out.next (Aft.alloc _ _)).rep (al1 _ _ _)).mono ?_; rintro e x ⟨ha, A1, d1, rfl, hl⟩; have HL1 := Lib.hid hl; clear hl; have HS := Lib.hid (HS.out.next ((Aft.alloc _ _).trans ha)); have hb := HS.out.box; clear hlt k0 k1 k2 k3 k4; have hlt := hb.lt; obtain ⟨k0, k1, k2, k3, k4⟩ := Aw.cells hb; clear hb ha)
    | (go_at_call 31; refine (aw15b (HS.out.next (Aft.alloc _ _)).rep (al1 _ _ _)).mono ?_; rintro e x ⟨ha, A2, d2, rfl⟩; have HL1 := Lib.hid (HL1.out.aft ((Aft.alloc _ _).trans ha)); have HS := Lib.hid (HS.out.next ((Aft.alloc _ _).trans ha)); have hb := HS.out.box; clear hlt k0 k1 k2 k3 k4; have hlt := hb.lt; obtain ⟨k0, k1, k2, k3, k4⟩ := Aw.cells hb; clear hb ha)
    | (go_at_call 12; refine (aw43 HS.out.rep).mono ?_; rintro e x ⟨ha, A3, d3, rfl, hl⟩; have HL3 := Lib.hid hl; clear hl;have HL1 := Lib.hid (HL1.out.aft ha); have HS := Lib.hid (HS.out.next ha); have hb := HS.out.box; clear hlt k0 k1 k2 k3 k4; have hlt := hb.lt; obtain ⟨k0, k1, k2, k3, k4⟩ := Aw.cells hb; clear hb ha)
    | (go_at_call 17; refine (aw45 HS.out.rep).mono ?_; rintro e x ⟨ha, A4, d4, rfl, hl⟩; have HL4 := Lib.hid hl; clear hl;have HL1 := Lib.hid (HL1.out.aft ha); have HL3 := Lib.hid (HL3.out.aft ha); have HS := Lib.hid (HS.out.next ha); have hb := HS.out.box; clear hlt k0 k1 k2 k3 k4; have hlt := hb.lt; obtain ⟨k0, k1, k2, k3, k4⟩ := Aw.cells hb; clear hb ha)
    | (go_at_call 23; refine (aw21 (HS.out.next (Aft.alloc _ _)).rep (al1 _ _ _)).mono ?_; rintro e x ⟨ha, A5, d5, rfl, hl⟩; have HL5 := Lib.hid hl; clear hl;have HL1 := Lib.hid (HL1.out.aft ((Aft.alloc _ _).trans ha)); have HL3 := Lib.hid (HL3.out.aft ((Aft.alloc _ _).trans ha)); have HL4 := Lib.hid (HL4.out.aft ((Aft.alloc _ _).trans ha)); have HS := Lib.hid (HS.out.next ((Aft.alloc _ _).trans ha)); have hb := HS.out.box; clear hlt k0 k1 k2 k3 k4; have hlt := hb.lt; obtain ⟨k0, k1, k2, k3, k4⟩ := Aw.cells hb; clear hb ha)
    | (go_at_call 24; refine (aw18 (HS.out.next (Aft.then_alloc (Aft.alloc _ _) _)).rep ((al1 _ _ _).alloc _) (al2 _ _ _ _)).mono ?_; rintro e x ⟨ha, A6, d6, rfl, hl⟩; have HL6 := Lib.hid hl; clear hl;have HL1 := Lib.hid (HL1.out.aft ((Aft.then_alloc (Aft.alloc _ _) _).trans ha)); have HL3 := Lib.hid (HL3.out.aft ((Aft.then_alloc (Aft.alloc _ _) _).trans ha)); have HL4 := Lib.hid (HL4.out.aft ((Aft.then_alloc (Aft.alloc _ _) _).trans ha)); have HL5 := Lib.hid (HL5.out.aft ((Aft.then_alloc (Aft.alloc _ _) _).trans ha)); have HS := Lib.hid (HS.out.next ((Aft.then_alloc (Aft.alloc _ _) _).trans ha)); have hb := HS.out.box; clear hlt k0 k1 k2 k3 k4; have hlt := hb.lt; obtain ⟨k0, k1, k2, k3, k4⟩ := Aw.cells hb; clear hb ha))
  clear hlt k0 k1 k2 k3 k4
  apply wp_region_lit
  (repeat (first | go_big_skip | go_big_want | go_big_move | go_big_op | go_step | go_upon | go_back))
  go_at_call 14
  refine (aw17a (HL1.out.aft (Aft.then_alloc (Aft.then_alloc (Aft.alloc _ _) _) _)) (((al1 _ _ _).alloc _).alloc _) ((al2 _ _ _ _).alloc _) (al3 _ _ _ _ _)).mono ?_
  rintro e x ⟨rfl, ha⟩
  dsimp only
  have HL3 := Lib.hid (HL3.out.aft ((Aft.then_alloc (Aft.then_alloc (Aft.alloc _ _) _) _).trans ha))
  have HL4 := Lib.hid (HL4.out.aft ((Aft.then_alloc (Aft.then_alloc (Aft.alloc _ _) _) _).trans ha))
  have HL5 := Lib.hid (HL5.out.aft ((Aft.then_alloc (Aft.then_alloc (Aft.alloc _ _) _) _).trans ha))
  have HL6 := Lib.hid (HL6.out.aft ((Aft.then_alloc (Aft.then_alloc (Aft.alloc _ _) _) _).trans ha))
  have HS := Lib.hid (HS.out.next ((Aft.then_alloc (Aft.then_alloc (Aft.alloc _ _) _) _).trans ha))
  clear ha
  (repeat (first | go_big_skip | go_big_want | go_big_move | go_big_op | go_step | go_upon | go_back))
  go_at_call 14
  refine (aw17b (HL3.out.aft (Aft.then_alloc (Aft.alloc _ _) _)) ((al1 _ _ _).alloc _) (al2 _ _ _ _)).mono ?_
  rintro e x ⟨rfl, ha⟩
  dsimp only
  have HL4 := Lib.hid (HL4.out.aft ((Aft.then_alloc (Aft.alloc _ _) _).trans ha))
  have HL5 := Lib.hid (HL5.out.aft ((Aft.then_alloc (Aft.alloc _ _) _).trans ha))
  have HL6 := Lib.hid (HL6.out.aft ((Aft.then_alloc (Aft.alloc _ _) _).trans ha))
  have HS := Lib.hid (HS.out.next ((Aft.then_alloc (Aft.alloc _ _) _).trans ha))
  clear ha
  (repeat (first | go_big_skip | go_big_want | go_big_move | go_big_op | go_step | go_upon | go_back))
  go_at_call 14
  refine (aw17c (HL4.out.aft (Aft.then_alloc (Aft.then_alloc (Aft.then_alloc (Aft.alloc _ _) _) _) _)) ((((al1 _ _ _).alloc _).alloc _).alloc _) (((al2 _ _ _ _).alloc _).alloc _) ((al3 _ _ _ _ _).alloc _) (al4 _ _ _ _ _ _)).mono ?_
  rintro e x ⟨rfl, ha⟩
  dsimp only
  have HL5 := Lib.hid (HL5.out.aft ((Aft.then_alloc (Aft.then_alloc (Aft.then_alloc (Aft.alloc _ _) _) _) _).trans ha))
  have HL6 := Lib.hid (HL6.out.aft ((Aft.then_alloc (Aft.then_alloc (Aft.then_alloc (Aft.alloc _ _) _) _) _).trans ha))
  have HS := Lib.hid (HS.out.next ((Aft.then_alloc (Aft.then_alloc (Aft.then_alloc (Aft.alloc _ _) _) _) _).trans ha))
  clear ha
  (repeat (first | go_big_skip | go_big_want | go_big_move | go_big_op | go_step | go_upon | go_back))
  go_at_call 27
  refine (aw20 [0, 0] (HL5.out.aft (Aft.alloc _ _)) (ints_blk (l := [0, 0]) (t := 3) (by exact (al1 _ _ _)) (by decide))).mono ?_
  rintro e x ⟨rfl, ha⟩
  dsimp only
  have HL6 := Lib.hid (HL6.out.aft ((Aft.alloc _ _).trans ha))
  have HS := Lib.hid (HS.out.next ((Aft.alloc _ _).trans ha))
  clear ha
  (repeat (first | go_big_skip | go_big_want | go_big_move | go_big_op | go_step | go_upon | go_back))
  go_at_call 27
  refine (aw20 [0] (HL6.out.aft (Aft.alloc _ _)) (ints_blk (l := [0]) (t := 3) (by exact (al1 _ _ _)) (by decide))).mono ?_
  rintro e x ⟨rfl, ha⟩
  dsimp only
  have HS := Lib.hid (HS.out.next ((Aft.alloc _ _).trans ha))
  clear ha
  have hb := HS.out.box
  have hlt := hb.lt
  obtain ⟨k0, k1, k2, k3, k4⟩ := Aw.cells hb
  clear hb
  (repeat (first | go_big_skip | go_big_want | go_big_move | go_big_op | go_step | go_upon | go_back))
  go_at_call 43
  refine (aw27 (HS.out.next (Aft.alloc _ _)).rep (al1 _ _ _)).mono ?_
  rintro e x ⟨ha, A7, d7, rfl, hl, hfar⟩
  dsimp only
  have HL7 := Lib.hid hl
  have HF7 := Lib.hid (hwL (Nat.lt_of_lt_of_le HS.out.legs.lt (Aft.alloc _ _).size) hfar)
  have HS := Lib.hid (HS.out.next ((Aft.alloc _ _).trans ha))
  clear hl hfar ha hlt k0 k1 k2 k3 k4
  have hb := HS.out.box
  have hlt := hb.lt
  obtain ⟨k0, k1, k2, k3, k4⟩ := Aw.cells hb
  clear hb
  (repeat (first | go_big_skip | go_big_want | go_big_move | go_big_op | go_step | go_upon | go_back))
  go_at_call 44
  refine (aw30 (HS.out.next (Aft.then_alloc (Aft.then_alloc (Aft.then_alloc (Aft.then_alloc (Aft.alloc _ _) _) _) _) _)).rep (((((al1 _ _ _).alloc _).alloc _).alloc _).alloc _) ((((al2 _ _ _ _).alloc _).alloc _).alloc _) (((al3 _ _ _ _ _).alloc _).alloc _) ((al4 _ _ _ _ _ _).alloc _) (al5 _ _ _ _ _ _ _)).mono ?_
  rintro e x ⟨ha, rfl⟩
  dsimp only
  have HL7 := Lib.hid (HL7.out.aft ((Aft.then_alloc (Aft.then_alloc (Aft.then_alloc (Aft.then_alloc (Aft.alloc _ _) _) _) _) _).trans ha))
  have HS := Lib.hid (HS.out.next ((Aft.then_alloc (Aft.then_alloc (Aft.then_alloc (Aft.then_alloc (Aft.alloc _ _) _) _) _) _).trans ha))
  clear ha hlt k0 k1 k2 k3 k4
  have hb := HS.out.box
  have hlt := hb.lt
  obtain ⟨k0, k1, k2, k3, k4⟩ := Aw.cells hb
  clear hb
  have hf := HS.out.legs.frozen 1
  have hc1 : x.cell? ⟨L, 1, none⟩ = some (.int .i64 (-1)) := HS.out.legs.cell 1
  have hl2 := HS.out.legs.lt
  have hn1 : ¬ L = D := by have := HS.out.far; omega
  have hn2 : ¬ D = L := fun e => hn1 e.symm
  (repeat (first | go_big_skip | go_big_want | go_big_move | go_big_op | go_step | go_upon | go_back))
  go_at_call 38
  refine (aw38 HS.out.rep5).mono ?_
  rintro e y ⟨ha, A9, d9, rfl, hl⟩
  dsimp only
  have HL9 := Lib.hid hl
  have HL7 := Lib.hid ((Go.Proofs.Ints.grown HL7.out (setc x L 1 (.int .i64 1)) HF7.out).aft ha)
  have HA := Lib.hid ((HS.out.aft5 (.int .i64 1)).trans ha)
  clear hl ha hlt k0 k1 k2 k3 k4 hf hc1 hl2 hn1 hn2
  (repeat (first | go_big_skip | go_big_want | go_big_move | go_big_op | go_step | go_upon | go_back))
  go_at_call 27
  refine (aw20 [0] (HL7.out.aft (Aft.alloc _ _)) (ints_blk (l := [0]) (t := 3) (by exact (al1 _ _ _)) (by decide))).mono ?_
  rintro e z ⟨rfl, ha⟩
  dsimp only
  have HL9 := Lib.hid (HL9.out.aft ((Aft.alloc _ _).trans ha))
  have HA := Lib.hid (HA.out.trans ((Aft.alloc _ _).trans ha))
  clear ha
  (repeat (first | go_big_skip | go_big_want | go_big_move | go_big_op | go_step | go_upon | go_back))
  go_at_call 27
  refine (aw20 [0, 0] (HL9.out.aft (Aft.alloc _ _)) (ints_blk (l := [0, 0]) (t := 3) (by exact (al1 _ _ _)) (by decide))).mono ?_
  rintro e z2 ⟨rfl, ha⟩
  dsimp only
  have HA := Lib.hid (HA.out.trans ((Aft.alloc _ _).trans ha))
  clear ha
  (repeat (first | go_big_skip | go_big_want | go_big_move | go_big_op | go_step | go_upon | go_back))
  refine bodyPost_ret (v := .bool true) (by simp [results, Tryz.results9, go_sem]) rfl ?_
  exact ⟨rfl, HA.out⟩
end Go.Proofs
end
