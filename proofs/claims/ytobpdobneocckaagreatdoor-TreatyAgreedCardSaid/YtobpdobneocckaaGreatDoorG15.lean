/- Own texts, merged: Lwp0 Aln Mln Uni Tol0 Tln Own5 Rbf Tol Mps Pal0 Ral0 Pal1 Srt0. -/
import Derived.Test.YtobpdobneocckaaGreatDoorG14
import Derived.BigGuard
import Derived.Shelf.Slices.Cells
import Derived.Deep.CutRange
import Derived.Shelf.Strconv.Itoa3
import Derived.Shelf.Strings.OnBuilder
import Derived.Lib.ItoaNum
import Derived.Lib.Join
import Derived.Maps.OwnSet
import Derived.StringKeys
import Derived.Laws.CopyOwn
import Derived.Shelf.SlLaysF
set_option linter.unusedSimpArgs false
set_option linter.unusedVariables false
section
/- The law on lines: what the program's functions and the reference's answer, in the same words. -/
namespace Go.Proofs
open Go.RowKit

noncomputable def brkX (T : Treaty) (R l : List Int) : List Int := if breaksE T R l = 0 then brkTo (leadsF T R) l T.legs.length else []
noncomputable def agrE (T : Treaty) (l : List Int) : Int := if checkE T = 0 then (if linedB T l = true then (if hasB T.starts (l.getD 0 0) = true then (match agreesF T l with | none => 7 | some _ => 0) else 7) else 2) else checkE T
noncomputable def agrX (T : Treaty) (l : List Int) : List Int := if agrE T l = 0 then (agreesF T l).getD [] else []

def BreaksU (w : World) (T : Treaty) (R l : List Int) (e : Ending) (w' : World) : Prop :=
  Aft w w' ∧ ∃ A c, e = .returned (.tuple #[.slice A (brkX T R l).length c, .int .i64 (breaksE T R l)]) ∧ Ints w' A (brkX T R l)
theorem brkTo_len (f : Nat → Nat → Nat → Bool) (l : List Int) (k : Nat) : (brkTo f l k).length ≤ k := by
  unfold brkTo
  rw [List.length_map]
  exact Nat.le_trans (List.length_filter_le _ _) (by simp)
theorem breaksR_uni {w w' : World} {T : Treaty} {R l : List Int} {e : Ending} (hl : T.legs.length ≤ 1000) (h : BreaksR w T R l e w') : BreaksU w T R l e w' := by
  obtain ⟨ha, ⟨h1, rfl⟩ | ⟨h1, v, rfl, hown⟩⟩ := h
  · have : brkX T R l = [] := by unfold brkX; rw [if_neg h1]
    rw [BreaksU, this]
    exact ⟨ha, none, 0, rfl, RowsP.nil⟩
  · have hx : brkX T R l = brkTo (leadsF T R) l T.legs.length := by unfold brkX; rw [if_pos h1]
    have := brkTo_len (leadsF T R) l T.legs.length
    obtain ⟨A, c, rfl, _, hi⟩ := own_ints hown (by omega)
    rw [BreaksU, hx, h1]
    exact ⟨ha, A, c, rfl, hi⟩
def AgreesU (w : World) (T : Treaty) (l : List Int) (e : Ending) (w' : World) : Prop :=
  Aft w w' ∧ ∃ A c, e = .returned (.tuple #[.slice A (agrX T l).length c, .int .i64 (agrE T l)]) ∧ Ints w' A (agrX T l)
theorem agreesU_err {w w' : World} {T : Treaty} {l : List Int} {e : Ending} {E : Int} (hE : agrE T l = E) (h0 : E ≠ 0) (h : e = .returned (.tuple #[.slice none 0 0, .int .i64 E]) ∧ Aft w w') : AgreesU w T l e w' := by
  have hx : agrX T l = [] := by unfold agrX; rw [if_neg (by rw [hE]; exact h0)]
  rw [AgreesU, hx, hE]
  exact ⟨h.2, none, 0, h.1, RowsP.nil⟩
theorem agreesU_some {w w' : World} {T : Treaty} {l : List Int} {R : List Int} {A : Option Addr} {c : Nat} {e : Ending} (hE : agrE T l = 0) (hR : agreesF T l = some R) (he : e = .returned (.tuple #[.slice A R.length c, .int .i64 0])) (ha : Aft w w') (hi : Ints w' A R) : AgreesU w T l e w' := by
  have hx : agrX T l = R := by unfold agrX; rw [if_pos hE, hR]; rfl
  rw [AgreesU, hx, hE]
  exact ⟨ha, A, c, he, hi⟩
theorem agrE_bad {T : Treaty} {l : List Int} (h : checkE T ≠ 0 ∨ linedB T l = false) : agrE T l = (if checkE T = 0 then 2 else checkE T) := by
  unfold agrE
  by_cases hc : checkE T = 0
  · rw [if_pos hc, if_pos hc, if_neg (by rw [h.resolve_left (fun h => h hc)]; decide)]
  · rw [if_neg hc, if_neg hc]
theorem agrE_seven {T : Treaty} {l : List Int} (hc : checkE T = 0) (hl : linedB T l = true) (h : hasB T.starts (l.getD 0 0) = false ∨ agreesF T l = none) : agrE T l = 7 := by
  unfold agrE
  rw [if_pos hc, if_pos hl]
  rcases h with h | h
  · rw [if_neg (by rw [h]; decide)]
  · split
    · rw [h]
    · rfl
theorem agrE_zero {T : Treaty} {l R : List Int} (hc : checkE T = 0) (hl : linedB T l = true) (hs : hasB T.starts (l.getD 0 0) = true) (h : agreesF T l = some R) : agrE T l = 0 := by
  unfold agrE
  rw [if_pos hc, if_pos hl, if_pos hs, h]

variable {T : Treaty} {a1 a2 a3 a4 : Option Addr} {c1 c2 c3 c4 : Nat}
theorem agrees_uni (w : World) (l : List Int) (Al : Option Addr) (cl : Nat) (hT : TRep w T a1 a2 a3 a4) (hA : Ints w Al l) (hw : T.words.length ≤ 1000) : Calls Tryz.prog 23 #[.agg #[.int .i64 T.places, .slice a1 T.ways.length c1, .slice a2 T.words.length c2, .slice a3 T.starts.length c3, .slice a4 T.legs.length c4], .slice Al l.length cl] w (AgreesU w T l) := by
  by_cases hc : checkE T = 0
  · by_cases hl : linedB T l = true
    · by_cases hs : hasB T.starts (l.getD 0 0) = true
      · refine (agrees_good w T a1 a2 a3 a4 c1 c2 c3 c4 l Al cl hT hA hc hl hs).mono fun e w' he => ?_
        obtain ⟨ha, ⟨h1, rfl⟩ | ⟨R, v, h2, rfl, hown⟩⟩ := he
        · exact agreesU_err (agrE_seven hc hl (.inr h1)) (by decide) ⟨rfl, ha⟩
        · have hlen := ((mem_readings (checkE_ok hc)).1 (List.mem_of_find?_eq_some h2)).1
          obtain ⟨A, c, rfl, _, hi⟩ := own_ints hown (by omega)
          exact agreesU_some (agrE_zero hc hl hs h2) h2 rfl ha hi
      · have hs' : hasB T.starts (l.getD 0 0) = false := by simpa using hs
        exact (agrees_start w T a1 a2 a3 a4 c1 c2 c3 c4 l Al cl hT hA hc hl hs').mono fun e w' he => agreesU_err (agrE_seven hc hl (.inl hs')) (by decide) he
    · have hl' : linedB T l = false := by simpa using hl
      exact (agrees_lined w T a1 a2 a3 a4 c1 c2 c3 c4 l Al cl hT hA hc hl').mono fun e w' he => agreesU_err ((agrE_bad (.inr hl')).trans (if_pos hc)) (by decide) he
  · exact (agrees_check w T a1 a2 a3 a4 c1 c2 c3 c4 l Al cl hT hA hc).mono fun e w' he => agreesU_err ((agrE_bad (.inl hc)).trans (if_neg hc)) hc he
end Go.Proofs
end

section
/- Plain: the lines of all readings, each once, in their order. -/
namespace Go.Proofs

/-- One line comes before another one. -/
def lexB : List Int → List Int → Bool
  | a :: x, b :: y => if a = b then lexB x y else decide (a < b)
  | _, _ => false
theorem lexB_irrefl : ∀ l, lexB l l = false
  | [] => rfl
  | a :: x => by unfold lexB; rw [if_pos rfl]; exact lexB_irrefl x
theorem lexB_trans : ∀ {x y z : List Int}, lexB x y = true → lexB y z = true → lexB x z = true
  | [], _, _, h, _ => by cases h
  | _ :: _, [], _, h, _ => by cases h
  | _ :: _, _ :: _, [], _, h => by cases h
  | a :: x, b :: y, c :: z, h1, h2 => by
    unfold lexB at h1 h2 ⊢
    by_cases e1 : a = b
    · subst e1
      rw [if_pos rfl] at h1
      by_cases e2 : a = c
      · rw [if_pos e2] at h2 ⊢; exact lexB_trans h1 h2
      · rw [if_neg e2] at h2 ⊢; exact h2
    · rw [if_neg e1] at h1
      have h1' := of_decide_eq_true h1
      by_cases e2 : b = c
      · subst e2; rw [if_neg e1]; exact h1
      · rw [if_neg e2] at h2
        have h2' := of_decide_eq_true h2
        rw [if_neg (by omega)]
        exact decide_eq_true (by omega)
theorem lexB_asymm {x y : List Int} (h : lexB x y = true) : lexB y x = false := by
  cases h2 : lexB y x with
  | false => rfl
  | true => have := lexB_trans h h2; rw [lexB_irrefl] at this; cases this
theorem lexB_total : ∀ {x y : List Int}, x.length = y.length → lexB x y = false → lexB y x = false → x = y
  | [], [], _, _, _ => rfl
  | [], _ :: _, h, _, _ => by simp at h
  | _ :: _, [], h, _, _ => by simp at h
  | a :: x, b :: y, h, h1, h2 => by
    unfold lexB at h1 h2
    by_cases e : a = b
    · subst e
      rw [if_pos rfl] at h1 h2
      rw [lexB_total (by simpa using h) h1 h2]
    · rw [if_neg e] at h1
      rw [if_neg (Ne.symm e)] at h2
      have h1' := of_decide_eq_false h1
      have h2' := of_decide_eq_false h2
      omega
def SortedL (l : List (List Int)) : Prop := l.Pairwise fun x y => lexB x y = true
theorem SortedL.nodup {l : List (List Int)} (h : SortedL l) : l.Nodup := List.Pairwise.imp (fun h e => by subst e; rw [lexB_irrefl] at h; cases h) h
theorem sorted_unique {l m : List (List Int)} (h1 : SortedL l) (h2 : SortedL m) (h : ∀ x, x ∈ l ↔ x ∈ m) : l = m :=
  List.Perm.eq_of_pairwise (fun a b _ _ h1 h2 => by rw [lexB_asymm h1] at h2; cases h2) h1 h2 ((List.perm_ext_iff_of_nodup h1.nodup h2.nodup).2 h)

/-- A line is put where it belongs. -/
def insL (l : List Int) : List (List Int) → List (List Int)
  | [] => [l]
  | x :: r => if lexB x l = true then x :: insL l r else if lexB l x = true then l :: x :: r else x :: r
theorem mem_insL {n : Nat} {l : List Int} (hl : l.length = n) : ∀ {out : List (List Int)}, (∀ x ∈ out, x.length = n) → ∀ y, y ∈ insL l out ↔ y = l ∨ y ∈ out
  | [], _, y => by simp [insL]
  | x :: r, h, y => by
    unfold insL
    split
    · rw [List.mem_cons, mem_insL hl (fun z hz => h z (List.mem_cons_of_mem _ hz)), List.mem_cons]
      constructor
      · rintro (h | h | h)
        · exact .inr (.inl h)
        · exact .inl h
        · exact .inr (.inr h)
      · rintro (h | h | h)
        · exact .inr (.inl h)
        · exact .inl h
        · exact .inr (.inr h)
    · rename_i h1
      split
      · simp
      · rename_i h2
        have e : x = l := lexB_total ((h x (List.mem_cons_self)).trans hl.symm) (by simpa using h1) (by simpa using h2)
        subst e
        simp
theorem sorted_insL {n : Nat} {l : List Int} (hl : l.length = n) : ∀ {out : List (List Int)}, (∀ x ∈ out, x.length = n) → SortedL out → SortedL (insL l out)
  | [], _, _ => List.pairwise_singleton _ _
  | x :: r, h, hs => by
    obtain ⟨h1, h2⟩ := List.pairwise_cons.1 hs
    unfold insL
    split
    · rename_i hx
      refine List.pairwise_cons.2 ⟨fun y hy => ?_, sorted_insL hl (fun z hz => h z (List.mem_cons_of_mem _ hz)) h2⟩
      rcases (mem_insL hl (fun z hz => h z (List.mem_cons_of_mem _ hz)) y).1 hy with rfl | hy
      · exact hx
      · exact h1 y hy
    · split
      · rename_i hx
        refine List.pairwise_cons.2 ⟨fun y hy => ?_, hs⟩
        rcases List.mem_cons.1 hy with rfl | hy
        · exact hx
        · exact lexB_trans hx (h1 y hy)
      · exact hs
/-- All of some lines, each once, in their order. -/
def allIn (ls : List (List Int)) : List (List Int) := ls.foldl (fun out l => insL l out) []
theorem allIn_snoc (ls : List (List Int)) (l : List Int) : allIn (ls ++ [l]) = insL l (allIn ls) := by unfold allIn; rw [List.foldl_append]; rfl
theorem allIn_spec {n : Nat} (ls : List (List Int)) (h : ∀ x ∈ ls, x.length = n) : SortedL (allIn ls) ∧ ∀ y, y ∈ allIn ls ↔ y ∈ ls := by
  have key : ∀ k, k ≤ ls.length → SortedL (allIn (ls.take k)) ∧ ∀ y, y ∈ allIn (ls.take k) ↔ y ∈ ls.take k := by
    intro k
    induction k with
    | zero => intro _; exact ⟨List.Pairwise.nil, fun y => by simp [allIn]⟩
    | succ k ih =>
      intro hk
      obtain ⟨h1, h2⟩ := ih (by omega)
      have ht : ls.take (k + 1) = ls.take k ++ [ls[k]] := List.take_succ_eq_append_getElem (by omega)
      have hlk := h _ (List.getElem_mem (show k < ls.length by omega))
      have hall : ∀ x ∈ allIn (ls.take k), x.length = n := fun x hx => h x (List.mem_of_mem_take ((h2 x).1 hx))
      rw [ht, allIn_snoc]
      refine ⟨sorted_insL hlk hall h1, fun y => ?_⟩
      rw [mem_insL hlk hall, h2, List.mem_append, List.mem_singleton, Or.comm]
  have := key ls.length (Nat.le_refl _)
  rwa [List.take_length] at this

theorem linesFrom_cons {T : Treaty} {f : Nat → Nat → Nat → Bool} (k leg a : Nat) : ∀ l ∈ linesFrom T f k leg a, ∃ r, l = (a : Int) :: r := by
  intro l hl
  cases k with
  | zero => simp [linesFrom] at hl; exact ⟨[], hl⟩
  | succ k =>
    unfold linesFrom at hl
    rw [List.mem_flatMap] at hl
    obtain ⟨b, _, h⟩ := hl
    by_cases hf : f leg a b = true
    · rw [if_pos hf, List.mem_map] at h
      obtain ⟨l', _, rfl⟩ := h
      exact ⟨l', rfl⟩
    · rw [if_neg hf] at h; cases h
theorem linesFrom_sorted {T : Treaty} {f : Nat → Nat → Nat → Bool} : ∀ (k leg a : Nat), SortedL (linesFrom T f k leg a)
  | 0, leg, a => by unfold linesFrom; exact List.pairwise_singleton _ _
  | k + 1, leg, a => by
    unfold linesFrom SortedL
    rw [List.pairwise_flatMap]
    refine ⟨fun b _ => ?_, ?_⟩
    · split
      · rw [List.pairwise_map]
        exact (linesFrom_sorted k (leg + 1) b).imp fun h => by unfold lexB; rw [if_pos rfl]; exact h
      · exact List.Pairwise.nil
    · refine (List.pairwise_lt_range (n := T.places.toNat)).imp fun {b c} hbc x hx y hy => ?_
      split at hx
      · split at hy
        · rw [List.mem_map] at hx hy
          obtain ⟨x', hx', rfl⟩ := hx
          obtain ⟨y', hy', rfl⟩ := hy
          obtain ⟨rx, rfl⟩ := linesFrom_cons _ _ _ _ hx'
          obtain ⟨ry, rfl⟩ := linesFrom_cons _ _ _ _ hy'
          unfold lexB
          rw [if_pos rfl]
          unfold lexB
          rw [if_neg (by omega)]
          exact decide_eq_true (by omega)
        · cases hy
      · cases hx
theorem linesL_sorted {T : Treaty} (hs : T.starts.Pairwise (fun x y => x < y)) (hp : ∀ x ∈ T.starts, 0 ≤ x) (f : Nat → Nat → Nat → Bool) : SortedL (linesL T f) := by
  unfold linesL SortedL
  rw [List.pairwise_flatMap]
  refine ⟨fun s _ => linesFrom_sorted _ _ _, ?_⟩
  refine List.Pairwise.imp_of_mem (fun {s t} hs' ht' hst x hx y hy => ?_) hs
  obtain ⟨rx, rfl⟩ := linesFrom_cons _ _ _ _ hx
  obtain ⟨ry, rfl⟩ := linesFrom_cons _ _ _ _ hy
  have := hp s hs'
  have := hp t ht'
  unfold lexB
  rw [if_neg (by omega)]
  exact decide_eq_true (by omega)


/-- The lines of all readings. -/
noncomputable def unionL (T : Treaty) : List (List Int) := (readingsL T).flatMap fun R => linesL T (leadsF T R)
noncomputable def allL (T : Treaty) : List (List Int) := allIn (unionL T)
noncomputable def allE (T : Treaty) : Int := if checkE T = 0 then (if (allL T).length ≤ 200 then 0 else 11) else checkE T
noncomputable def allX (T : Treaty) : List (List Int) := if allE T = 0 then allL T else []
end Go.Proofs
end

section
/- Plain: which lines are listed; in which reading a line agrees first. -/
namespace Go.Proofs

theorem keepsTo_iff {f : Nat → Nat → Nat → Bool} {l : List Int} {k : Nat} : keepsTo f l k = true ↔ ∀ i, i < k → f i (l.getD i 0).toNat (l.getD (i + 1) 0).toNat = true := by
  unfold keepsTo
  simp only [List.all_eq_true, List.mem_range]
theorem mem_linesFrom {T : Treaty} {f : Nat → Nat → Nat → Bool} : ∀ (k leg a : Nat) (l : List Int), l ∈ linesFrom T f k leg a ↔ ∃ r, l = (a : Int) :: r ∧ r.length = k ∧ (∀ x ∈ r, 0 ≤ x ∧ x < T.places) ∧ ∀ i, i < k → f (leg + i) (l.getD i 0).toNat (l.getD (i + 1) 0).toNat = true
  | 0, leg, a, l => by
    unfold linesFrom
    rw [List.mem_singleton]
    constructor
    · rintro rfl
      exact ⟨[], rfl, rfl, by simp, fun i hi => absurd hi (Nat.not_lt_zero _)⟩
    · rintro ⟨r, rfl, hr, -, -⟩
      rw [List.eq_nil_of_length_eq_zero hr]
  | k + 1, leg, a, l => by
    unfold linesFrom
    rw [List.mem_flatMap]
    constructor
    · rintro ⟨b, hb, h⟩
      have hb' := List.mem_range.1 hb
      by_cases hf : f leg a b = true
      · rw [if_pos hf, List.mem_map] at h
        obtain ⟨l', h', rfl⟩ := h
        obtain ⟨r, rfl, hr, hx, hk⟩ := (mem_linesFrom k (leg + 1) b l').1 h'
        refine ⟨(b : Int) :: r, rfl, by simp [hr], fun x hx' => ?_, fun i hi => ?_⟩
        · rcases List.mem_cons.1 hx' with rfl | hx'
          · omega
          · exact hx x hx'
        · cases i with
          | zero => simpa using hf
          | succ i =>
            have := hk i (by omega)
            rw [show leg + (i + 1) = leg + 1 + i by omega]
            simpa using this
      · rw [if_neg hf] at h; cases h
    · rintro ⟨r, rfl, hr, hx, hk⟩
      match r, hr with
      | y :: r, hr =>
        have hy := hx y List.mem_cons_self
        obtain ⟨b, rfl⟩ := Int.eq_ofNat_of_zero_le hy.1
        refine ⟨b, List.mem_range.2 (by omega), ?_⟩
        have hf : f leg a b = true := by have := hk 0 (by omega); simpa using this
        rw [if_pos hf, List.mem_map]
        refine ⟨(b : Int) :: r, (mem_linesFrom k (leg + 1) b _).2 ⟨r, rfl, by simpa using hr, fun x hx' => hx x (List.mem_cons_of_mem _ hx'), fun i hi => ?_⟩, rfl⟩
        have := hk (i + 1) (by omega)
        rw [show leg + (i + 1) = leg + 1 + i by omega] at this
        simpa using this
theorem mem_linesL {T : Treaty} (hs : ∀ x ∈ T.starts, 0 ≤ x ∧ x < T.places) {f : Nat → Nat → Nat → Bool} {l : List Int} : l ∈ linesL T f ↔ linedB T l = true ∧ hasB T.starts (l.getD 0 0) = true ∧ keepsTo f l T.legs.length = true := by
  unfold linesL
  rw [List.mem_flatMap, linedB_iff, hasB_iff, keepsTo_iff]
  constructor
  · rintro ⟨s, hsm, h⟩
    have hb := hs s hsm
    obtain ⟨r, rfl, hr, hx, hk⟩ := (mem_linesFrom _ _ _ _).1 h
    have es : ((s.toNat : Nat) : Int) = s := Int.toNat_of_nonneg hb.1
    refine ⟨⟨by simp [hr], fun x hx' => ?_⟩, by simpa [es] using hsm, fun i hi => by have := hk i hi; rwa [Nat.zero_add] at this⟩
    rcases List.mem_cons.1 hx' with rfl | hx'
    · rw [es]; exact hb
    · exact hx x hx'
  · rintro ⟨⟨hl, hx⟩, hst, hk⟩
    match l, hl with
    | s :: r, hl =>
      have hsm : s ∈ T.starts := by simpa using hst
      have hb := hs s hsm
      have es : ((s.toNat : Nat) : Int) = s := Int.toNat_of_nonneg hb.1
      refine ⟨s, hsm, (mem_linesFrom _ _ _ _).2 ⟨r, by rw [es], by simpa using hl, fun x hx' => hx x (List.mem_cons_of_mem _ hx'), fun i hi => ?_⟩⟩
      rw [Nat.zero_add]
      exact hk i hi
theorem unionL_len {T : Treaty} : ∀ l ∈ unionL T, l.length = T.legs.length + 1 := fun l hl => by
  unfold unionL at hl
  obtain ⟨R, _, h⟩ := List.mem_flatMap.1 hl
  unfold linesL at h
  obtain ⟨s, _, h⟩ := List.mem_flatMap.1 h
  exact linesFrom_len _ _ _ l h
theorem allL_spec (T : Treaty) : SortedL (allL T) ∧ ∀ y, y ∈ allL T ↔ y ∈ unionL T := allIn_spec _ unionL_len
theorem starts_rise {T : Treaty} (ok : TOk T) : T.starts.Pairwise (fun x y => x < y) := by
  have h := ok.rstarts
  revert h
  generalize T.starts = l
  intro h
  rw [List.pairwise_iff_getElem]
  have step : ∀ k, (hk : k + 1 < l.length) → l[k] < l[k + 1] := fun k hk => by
    apply Decidable.byContradiction
    intro hn
    have := risesB_false l k hk (by omega)
    rw [this] at h; cases h
  intro i j hi hj hij
  obtain ⟨d, rfl⟩ : ∃ d, j = i + 1 + d := ⟨j - (i + 1), by omega⟩
  clear hij
  induction d with
  | zero => exact step i hj
  | succ d ih =>
    have h1 := ih (by omega)
    have h2 := step (i + 1 + d) (by omega)
    have e : l[i + 1 + (d + 1)] = l[i + 1 + d + 1] := rfl
    rw [e]
    omega
theorem linesL_ok {T : Treaty} (ok : TOk T) (f : Nat → Nat → Nat → Bool) : SortedL (linesL T f) := linesL_sorted (starts_rise ok) (fun x hx => (ok.starts x hx).1) f
end Go.Proofs
end

section
/- The law on readings: what the program's functions and the reference's answer, in the same words. -/
namespace Go.Proofs
open Go.RowKit

noncomputable def redX (T : Treaty) : List (List Int) := if checkE T = 0 then readK T (prodN (lensOf T)) else []
def ReadingsU (w : World) (T : Treaty) (e : Ending) (w' : World) : Prop :=
  Aft w w' ∧ ∃ A c, e = .returned (.tuple #[.slice A (redX T).length c, .int .i64 (checkE T)]) ∧ Lists w' A (redX T)
theorem readK_sub {T : Treaty} {k : Nat} {R : List Int} (h : R ∈ readK T k) : R ∈ readingsL T := by
  unfold readK at h
  exact List.mem_of_mem_take (List.mem_filter.1 h).1
theorem readingsR_uni {w w' : World} {T : Treaty} {e : Ending} (h : ReadingsR w T e w') : ReadingsU w T e w' := by
  obtain ⟨ha, ⟨h1, rfl⟩ | ⟨h1, v, rfl, hown⟩⟩ := h
  · have : redX T = [] := by unfold redX; rw [if_neg h1]
    rw [ReadingsU, this]
    exact ⟨ha, none, 0, rfl, lists_nil _⟩
  · have hx : redX T = readK T (prodN (lensOf T)) := by unfold redX; rw [if_pos h1]
    have ok := checkE_ok h1
    have hl := readK_len T (prodN (lensOf T))
    have hm := (readings_many ok).1
    rw [readingsL_len] at hm
    have hw := ok.nwords
    obtain ⟨A, c, rfl, _, hi⟩ := hown.lists (by omega) (fun l hl' => by have := ((mem_readings ok).1 (readK_sub hl')).1; omega)
    rw [ReadingsU, hx, h1]
    exact ⟨ha, A, c, rfl, hi⟩
/-- whether some line is somewhere behind each number of legs -/
noncomputable def endsAllB (T : Treaty) : Bool := (List.range (T.legs.length + 1)).all fun leg => decide (endRow T leg ≠ [])
theorem endsAllB_iff {T : Treaty} : endsAllB T = true ↔ ∀ leg, leg ≤ T.legs.length → endRow T leg ≠ [] := by
  unfold endsAllB
  simp only [List.all_eq_true, List.mem_range, decide_eq_true_eq]
  exact ⟨fun h leg hl => h leg (by omega), fun h leg hl => h leg (by omega)⟩
noncomputable def endE (T : Treaty) : Int := if checkE T = 0 then (if endsAllB T = true then 0 else 7) else checkE T
noncomputable def endX (T : Treaty) : List (List Int) := if endE T = 0 then endRows T (T.legs.length + 1) else []
def EndsU (w : World) (T : Treaty) (e : Ending) (w' : World) : Prop :=
  Aft w w' ∧ ∃ A c, e = .returned (.tuple #[.slice A (endX T).length c, .int .i64 (endE T)]) ∧ Lists w' A (endX T)
theorem endRow_len (T : Treaty) (leg : Nat) : (endRow T leg).length ≤ T.places.toNat := by
  unfold endRow
  rw [List.length_map]
  exact Nat.le_trans (List.length_filter_le _ _) (by simp)
theorem endsU_err {w w' : World} {T : Treaty} {e : Ending} {E : Int} (hE : endE T = E) (h0 : E ≠ 0) (h : e = .returned (.tuple #[.slice none 0 0, .int .i64 E])) (ha : Aft w w') : EndsU w T e w' := by
  have hx : endX T = [] := by unfold endX; rw [if_neg (by rw [hE]; exact h0)]
  rw [EndsU, hx, hE]
  exact ⟨ha, none, 0, h, lists_nil _⟩
theorem endsU_own {w w' : World} {T : Treaty} {e : Ending} {v : Value} {b : Nat} (ok : TOk T) (hE : endE T = 0) (h : e = .returned (.tuple #[v, .int .i64 0])) (hown : OwnLists w' b v (endRows T (T.legs.length + 1))) (ha : Aft w w') : EndsU w T e w' := by
  have hx : endX T = endRows T (T.legs.length + 1) := by unfold endX; rw [if_pos hE]
  have hn := ok.nlegs
  have hp := ok.p2
  obtain ⟨A, c, rfl, _, hi⟩ := hown.lists (by rw [endRows_len]; omega) (fun l hl => by
    unfold endRows at hl
    obtain ⟨leg, _, rfl⟩ := List.mem_map.1 hl
    have := endRow_len T leg
    omega)
  rw [EndsU, hx, hE]
  exact ⟨ha, A, c, h, hi⟩
theorem endsG_uni {w w' : World} {T : Treaty} {e : Ending} (hc : checkE T = 0) (h : EndsG w T e w') : EndsU w T e w' := by
  obtain ⟨ha, ⟨h1, rfl⟩ | ⟨h1, v, rfl, hown⟩⟩ := h
  · refine endsU_err (E := 7) ?_ (by decide) rfl ha
    unfold endE
    rw [if_pos hc, if_neg (fun h => h1 (endsAllB_iff.1 h))]
  · refine endsU_own (checkE_ok hc) ?_ rfl hown ha
    unfold endE
    rw [if_pos hc, if_pos (endsAllB_iff.2 h1)]
end Go.Proofs
end

section
/- Where the library's strconv.Itoa and strings.Join lie. -/
namespace Go.Proofs
open Go.RowKit Go.Shelf
set_option maxRecDepth 100000
def renItoa : Go.Shelf.Ren := ⟨fun | 171 => 117 | 243 => 146 | 246 => 165 | 283 => 173 | 284 => 174 | 285 => 175 | 286 => 176 | 129 => 159 | 317 => 180 | 318 => 181 | 319 => 182 | 320 => 183 | 337 => 184 | 338 => 185 | n => n, fun | 3 => 3 | 9 => 9 | 2 => 2 | 4 => 4 | 171 => 209 | 0 => 0 | 53 => 199 | 37 => 45 | 5 => 5 | 173 => 211 | 212 => 220 | 51 => 118 | 20 => 20 | 213 => 221 | 46 => 166 | 232 => 222 | 233 => 223 | n => n, fun | 17 => 0 | 18 => 2 | 19 => 3 | n => n⟩
theorem layItoa : Lays.n171 Tryz.prog renItoa := {
  mixed := by kernel_rfl
  f129 := Tryz.func159.trans (congrArg some (by kernel_rfl))
  f171 := Tryz.func117.trans (congrArg some (by kernel_rfl))
  f243 := Tryz.func146.trans (congrArg some (by kernel_rfl))
  f246 := Tryz.func165.trans (congrArg some (by kernel_rfl))
  f283 := Tryz.func173.trans (congrArg some (by kernel_rfl))
  f284 := Tryz.func174.trans (congrArg some (by kernel_rfl))
  f285 := Tryz.func175.trans (congrArg some (by kernel_rfl))
  f286 := Tryz.func176.trans (congrArg some (by kernel_rfl))
  f317 := Tryz.func180.trans (congrArg some (by kernel_rfl))
  f318 := Tryz.func181.trans (congrArg some (by kernel_rfl))
  f319 := Tryz.func182.trans (congrArg some (by kernel_rfl))
  f320 := Tryz.func183.trans (congrArg some (by kernel_rfl))
  f337 := Tryz.func184.trans (congrArg some (by kernel_rfl))
  f338 := Tryz.func185.trans (congrArg some (by kernel_rfl))
  t0 := Tryz.underlying0
  a0 := Tryz.isAgg0
  z0 := Tryz.sizeOf0
  v0 := Tryz.zeroValue0
  t2 := Tryz.underlying2
  a2 := Tryz.isAgg2
  z2 := Tryz.sizeOf2
  v2 := Tryz.zeroValue2
  t3 := Tryz.underlying3
  a3 := Tryz.isAgg3
  z3 := Tryz.sizeOf3
  v3 := Tryz.zeroValue3
  t4 := Tryz.underlying4
  a4 := Tryz.isAgg4
  z4 := Tryz.sizeOf4
  v4 := Tryz.zeroValue4
  t5 := Tryz.underlying5
  a5 := Tryz.isAgg5
  z5 := Tryz.sizeOf5
  v5 := Tryz.zeroValue5
  t9 := Tryz.underlying9
  a9 := Tryz.isAgg9
  z9 := Tryz.sizeOf9
  v9 := Tryz.zeroValue9
  t20 := Tryz.underlying20
  a20 := Tryz.isAgg20
  z20 := Tryz.sizeOf20
  v20 := Tryz.zeroValue20
  t37 := Tryz.underlying45
  a37 := Tryz.isAgg45
  z37 := Tryz.sizeOf45
  v37 := Tryz.zeroValue45
  t46 := Tryz.underlying166
  a46 := Tryz.isAgg166
  z46 := Tryz.sizeOf166
  v46 := Tryz.zeroValue166
  t51 := Tryz.underlying118
  a51 := Tryz.isAgg118
  z51 := Tryz.sizeOf118
  v51 := Tryz.zeroValue118
  t53 := Tryz.underlying199
  a53 := Tryz.isAgg199
  z53 := Tryz.sizeOf199
  v53 := Tryz.zeroValue199
  t171 := Tryz.underlying209
  a171 := Tryz.isAgg209
  z171 := Tryz.sizeOf209
  v171 := Tryz.zeroValue209
  t173 := Tryz.underlying211
  a173 := Tryz.isAgg211
  z173 := Tryz.sizeOf211
  v173 := Tryz.zeroValue211
  t212 := Tryz.underlying220
  a212 := Tryz.isAgg220
  z212 := Tryz.sizeOf220
  v212 := Tryz.zeroValue220
  t213 := Tryz.underlying221
  a213 := Tryz.isAgg221
  z213 := Tryz.sizeOf221
  t232 := Tryz.underlying222
  a232 := Tryz.isAgg222
  z232 := Tryz.sizeOf222
  v232 := Tryz.zeroValue222
  t233 := Tryz.underlying223
  a233 := Tryz.isAgg223
  z233 := Tryz.sizeOf223
  v233 := Tryz.zeroValue223
  g17 := by kernel_rfl
  g18 := by kernel_rfl
  g19 := by kernel_rfl }
def renJoin : Go.Shelf.Ren := ⟨fun | 156 => 118 | 165 => 147 | 166 => 148 | 169 => 149 | 240 => 166 | 241 => 167 | 276 => 177 | 277 => 178 | n => n, fun | 31 => 161 | 9 => 9 | 3 => 3 | 4 => 4 | 0 => 0 | 20 => 20 | 72 => 184 | 76 => 187 | 70 => 182 | 37 => 45 | 75 => 186 | 127 => 203 | 164 => 213 | 5 => 5 | 80 => 189 | n => n, fun n => n⟩
theorem layJoin : Lays.n156 Tryz.prog renJoin := {
  mixed := by kernel_rfl
  f156 := Tryz.func118.trans (congrArg some (by kernel_rfl))
  f165 := Tryz.func147.trans (congrArg some (by kernel_rfl))
  f166 := Tryz.func148.trans (congrArg some (by kernel_rfl))
  f169 := Tryz.func149.trans (congrArg some (by kernel_rfl))
  f240 := Tryz.func166.trans (congrArg some (by kernel_rfl))
  f241 := Tryz.func167.trans (congrArg some (by kernel_rfl))
  f276 := Tryz.func177.trans (congrArg some (by kernel_rfl))
  f277 := Tryz.func178.trans (congrArg some (by kernel_rfl))
  t0 := Tryz.underlying0
  a0 := Tryz.isAgg0
  z0 := Tryz.sizeOf0
  v0 := Tryz.zeroValue0
  t3 := Tryz.underlying3
  a3 := Tryz.isAgg3
  z3 := Tryz.sizeOf3
  v3 := Tryz.zeroValue3
  t4 := Tryz.underlying4
  a4 := Tryz.isAgg4
  z4 := Tryz.sizeOf4
  v4 := Tryz.zeroValue4
  t9 := Tryz.underlying9
  a9 := Tryz.isAgg9
  z9 := Tryz.sizeOf9
  v9 := Tryz.zeroValue9
  t20 := Tryz.underlying20
  a20 := Tryz.isAgg20
  z20 := Tryz.sizeOf20
  v20 := Tryz.zeroValue20
  t31 := Tryz.underlying161
  a31 := Tryz.isAgg161
  z31 := Tryz.sizeOf161
  v31 := Tryz.zeroValue161
  t37 := Tryz.underlying45
  a37 := Tryz.isAgg45
  z37 := Tryz.sizeOf45
  v37 := Tryz.zeroValue45
  t70 := Tryz.underlying182
  a70 := Tryz.isAgg182
  z70 := Tryz.sizeOf182
  v70 := Tryz.zeroValue182
  t72 := Tryz.underlying184
  a72 := Tryz.isAgg184
  z72 := Tryz.sizeOf184
  v72 := Tryz.zeroValue184
  t75 := Tryz.underlying186
  a75 := Tryz.isAgg186
  z75 := Tryz.sizeOf186
  v75 := Tryz.zeroValue186
  t76 := Tryz.underlying187
  a76 := Tryz.isAgg187
  z76 := Tryz.sizeOf187
  v76 := Tryz.zeroValue187
  t127 := Tryz.underlying203
  a127 := Tryz.isAgg203
  z127 := Tryz.sizeOf203
  v127 := Tryz.zeroValue203
  t164 := Tryz.underlying213
  a164 := Tryz.isAgg213
  z164 := Tryz.sizeOf213
  v164 := Tryz.zeroValue213 }
theorem extraJoin : Builder.Extra Tryz.prog renJoin := {
  sizeBuilder := by kernel_rfl
  liesBuilder := by kernel_rfl
  t5 := Tryz.underlying5
  a5 := Tryz.isAgg5
  z5 := Tryz.sizeOf5
  v5 := Tryz.zeroValue5
  infoByte := by kernel_rfl
  cellsByte := by kernel_rfl
  sizeByte := by kernel_rfl
  neB5 := by decide }
end Go.Proofs
end

section
/- Plain: a line told by its numbers with blanks between. -/
namespace Go.Proofs
open Go

def toldL (l : List Int) : List UInt8 := Lib.join (l.map fun x => Lib.decDigits x.toNat) [32]
theorem decD_ne (u : Nat) : ∀ c ∈ Lib.decDigits u, c ≠ 32 := by
  induction u using Nat.strongRecOn with
  | ind u ih =>
    intro c hc
    rw [Lib.decDigits] at hc
    have key : ∀ d, d < 10 → UInt8.ofNat (48 + d) ≠ 32 := fun d hd e => by
      have := congrArg UInt8.toNat e
      rw [UInt8.toNat_ofNat', Nat.mod_eq_of_lt (by omega)] at this
      have h32 : (32 : UInt8).toNat = 32 := rfl
      omega
    split at hc
    · rename_i h
      rw [List.mem_singleton] at hc
      rw [hc]; exact key u h
    · rename_i h
      rw [List.mem_append, List.mem_singleton] at hc
      rcases hc with hc | hc
      · exact ih (u / 10) (by omega) c hc
      · rw [hc]; exact key _ (by omega)
theorem decD_len {u : Nat} (h : u < 100) : (Lib.decDigits u).length ≤ 2 := by
  rw [Lib.decDigits]
  split
  · simp
  · rw [Lib.decDigits, dif_pos (by omega)]; simp
theorem ofNat_inj {a b : Nat} (ha : a < 256) (hb : b < 256) (h : UInt8.ofNat a = UInt8.ofNat b) : a = b := by
  have := congrArg UInt8.toNat h
  rwa [UInt8.toNat_ofNat', UInt8.toNat_ofNat', Nat.mod_eq_of_lt ha, Nat.mod_eq_of_lt hb] at this
theorem decD_inj {u v : Nat} (hu : u < 100) (hv : v < 100) (h : Lib.decDigits u = Lib.decDigits v) : u = v := by
  by_cases h1 : u < 10
  · by_cases h2 : v < 10
    · rw [Lib.decDigits_one h1, Lib.decDigits_one h2] at h
      have := ofNat_inj (by omega) (by omega) (List.cons.inj h).1
      omega
    · rw [Lib.decDigits_one h1, Lib.decDigits_two h2 hv] at h
      have := congrArg List.length h
      simp at this
  · by_cases h2 : v < 10
    · rw [Lib.decDigits_two h1 hu, Lib.decDigits_one h2] at h
      have := congrArg List.length h
      simp at this
    · rw [Lib.decDigits_two h1 hu, Lib.decDigits_two h2 hv] at h
      have e1 := ofNat_inj (by omega) (by omega) (List.cons.inj h).1
      have e2 := ofNat_inj (by omega) (by omega) (List.cons.inj (List.cons.inj h).2).1
      omega
theorem cut_blank {t t' : List UInt8} (ht : t = [] ∨ ∃ r, t = 32 :: r) (ht' : t' = [] ∨ ∃ r, t' = 32 :: r) : ∀ {p q : List UInt8}, (∀ c ∈ p, c ≠ 32) → (∀ c ∈ q, c ≠ 32) → p ++ t = q ++ t' → p = q ∧ t = t'
  | [], [], _, _, h => ⟨rfl, h⟩
  | [], c :: q, _, hq, h => by
    rcases ht with rfl | ⟨r, rfl⟩
    · simp at h
    · exact absurd (List.cons.inj h).1.symm (hq c (by simp))
  | c :: p, [], hp, _, h => by
    rcases ht' with rfl | ⟨r, rfl⟩
    · simp at h
    · exact absurd (List.cons.inj h).1 (hp c (by simp))
  | c :: p, d :: q, hp, hq, h => by
    obtain ⟨e1, e2⟩ := List.cons.inj h
    obtain ⟨e3, e4⟩ := cut_blank ht ht' (fun x hx => hp x (by simp [hx])) (fun x hx => hq x (by simp [hx])) e2
    exact ⟨by rw [e1, e3], e4⟩
theorem tail_shape (r : List (List UInt8)) : Lib.joinTail [32] r = [] ∨ ∃ s, Lib.joinTail [32] r = 32 :: s := by
  cases r with
  | nil => exact .inl rfl
  | cons x r => exact .inr ⟨x ++ Lib.joinTail [32] r, by simp [Lib.joinTail]⟩
theorem tail_inj : ∀ {l l' : List Int}, (∀ x ∈ l, 0 ≤ x ∧ x < 100) → (∀ x ∈ l', 0 ≤ x ∧ x < 100) → Lib.joinTail [32] (l.map fun x => Lib.decDigits x.toNat) = Lib.joinTail [32] (l'.map fun x => Lib.decDigits x.toNat) → l = l'
  | [], [], _, _, _ => rfl
  | [], x :: l, _, _, h => by simp [Lib.joinTail] at h
  | x :: l, [], _, _, h => by simp [Lib.joinTail] at h
  | x :: l, y :: l', hl, hl', h => by
    have e : ∀ (z : Int) (k : List Int), Lib.joinTail [32] ((z :: k).map fun x => Lib.decDigits x.toNat) = 32 :: (Lib.decDigits z.toNat ++ Lib.joinTail [32] (k.map fun x => Lib.decDigits x.toNat)) := fun z k => by simp [Lib.joinTail]
    rw [e, e] at h
    obtain ⟨h1, h2⟩ := cut_blank (tail_shape _) (tail_shape _) (decD_ne _) (decD_ne _) (List.cons.inj h).2
    have hx := hl x (by simp)
    have hy := hl' y (by simp)
    have := decD_inj (u := x.toNat) (v := y.toNat) (by omega) (by omega) h1
    have hxy : x = y := by omega
    rw [hxy, tail_inj (fun z hz => hl z (by simp [hz])) (fun z hz => hl' z (by simp [hz])) h2]
/-- Two lines told alike are one. -/
theorem told_inj {l l' : List Int} (hl : ∀ x ∈ l, 0 ≤ x ∧ x < 100) (hl' : ∀ x ∈ l', 0 ≤ x ∧ x < 100) (h0 : l ≠ []) (h0' : l' ≠ []) (h : toldL l = toldL l') : l = l' := by
  rcases l with _ | ⟨x, l⟩
  · exact absurd rfl h0
  rcases l' with _ | ⟨y, l'⟩
  · exact absurd rfl h0'
  unfold toldL at h
  rw [List.map_cons, List.map_cons, Lib.join_cons, Lib.join_cons] at h
  obtain ⟨h1, h2⟩ := cut_blank (tail_shape _) (tail_shape _) (decD_ne _) (decD_ne _) h
  have hx := hl x (by simp)
  have hy := hl' y (by simp)
  have := decD_inj (u := x.toNat) (v := y.toNat) (by omega) (by omega) h1
  have hxy : x = y := by omega
  rw [hxy, tail_inj (fun z hz => hl z (by simp [hz])) (fun z hz => hl' z (by simp [hz])) h2]
theorem tail_len : ∀ (l : List Int), (∀ x ∈ l, 0 ≤ x ∧ x < 100) → (Lib.joinTail [32] (l.map fun x => Lib.decDigits x.toNat)).length ≤ 3 * l.length
  | [], _ => by simp [Lib.joinTail]
  | x :: l, h => by
    have ih := tail_len l fun z hz => h z (by simp [hz])
    have hx := h x (by simp)
    have := decD_len (u := x.toNat) (by omega)
    have e : Lib.joinTail [32] ((x :: l).map fun x => Lib.decDigits x.toNat) = 32 :: (Lib.decDigits x.toNat ++ Lib.joinTail [32] (l.map fun x => Lib.decDigits x.toNat)) := by simp [Lib.joinTail]
    rw [e, List.length_cons, List.length_append, List.length_cons]
    omega
theorem told_len {l : List Int} (h : ∀ x ∈ l, 0 ≤ x ∧ x < 100) : (toldL l).length ≤ 3 * l.length := by
  rcases l with _ | ⟨x, l⟩
  · simp [toldL, Lib.join_nil]
  · unfold toldL
    rw [List.map_cons, Lib.join_cons, List.length_append, List.length_cons]
    have := tail_len l fun z hz => h z (by simp [hz])
    have hx := h x (by simp)
    have := decD_len (u := x.toNat) (by omega)
    omega
end Go.Proofs
end

section
/- Own lists whose rows lie in memory that stands. -/
namespace Go.Proofs
open Go.RowKit

theorem opens_lines {T : Treaty} {f : Nat → Nat → Nat → Bool} : opens T f = false ↔ linesL T f = [] := by
  unfold opens linesL
  rw [List.any_eq_false, List.flatMap_eq_nil_iff]
  refine forall_congr' fun s => forall_congr' fun _ => ?_
  rw [← linesFrom_nil]
  simp
end Go.Proofs
end

section
/- Walks: the reference's before. -/
namespace Go.Proofs
open Go.RowKit
attribute [local go_sem] Oper.semAt_some

theorem lexB_from {x y : List Int} {k : Nat} (h : x.length = y.length) (hk : k < x.length) (he : ∀ i, i < k → x.getD i 0 = y.getD i 0) : lexB x y = lexB (x.drop k) (y.drop k) := by
  induction k generalizing x y with
  | zero => rfl
  | succ k ih =>
    match x, y, h with
    | [], [], _ => simp at hk
    | a :: x, b :: y, h =>
      have e0 : a = b := by have := he 0 (by omega); simpa using this
      subst e0
      rw [lexB, if_pos rfl, List.drop_succ_cons, List.drop_succ_cons]
      exact ih (by simpa using h) (by simpa using hk) fun i hi => by have := he (i + 1) (by omega); simpa using this
theorem lexB_at {x y : List Int} {k : Nat} (h : x.length = y.length) (hk : k < x.length) (he : ∀ i, i < k → x.getD i 0 = y.getD i 0) (hne : x.getD k 0 ≠ y.getD k 0) : lexB x y = decide (x.getD k 0 < y.getD k 0) := by
  rw [lexB_from h hk he]
  have hk' : k < y.length := by omega
  have e1 : x.getD k 0 = x[k] := by rw [List.getD_eq_getElem?_getD, List.getElem?_eq_getElem hk]; rfl
  have e2 : y.getD k 0 = y[k] := by rw [List.getD_eq_getElem?_getD, List.getElem?_eq_getElem hk']; rfl
  rw [e1, e2] at hne ⊢
  rw [List.drop_eq_getElem_cons hk, List.drop_eq_getElem_cons hk', lexB, if_neg hne]
theorem lexB_same {x y : List Int} (h : x.length = y.length) (he : ∀ i, i < x.length → x.getD i 0 = y.getD i 0) : lexB x y = false := by
  have : x = y := by
    refine List.ext_getElem h fun i h1 h2 => ?_
    have := he i h1
    rwa [List.getD_eq_getElem?_getD, List.getElem?_eq_getElem h1, List.getD_eq_getElem?_getD, List.getElem?_eq_getElem h2] at this
  rw [this, lexB_irrefl]

end Go.Proofs
end

section
/- Walks: told. -/
namespace Go.Proofs
open Go.RowKit
attribute [local go_sem] Oper.semAt_some
theorem ty161 : SliceTy Tryz.prog 161 9 1 16 := .mk' (z := .string ⟨#[]⟩) Tryz.underlying161 (by kernel_rfl) rfl (by decide)
def strOf (x : Int) : Value := .string ⟨(Lib.decDigits x.toNat).toArray⟩
theorem itoa_any (W : World) (x : Int) (h0 : 0 ≤ x) (h1 : x < 100) : Calls Tryz.prog 117 #[.int .i64 x] W fun e w' => e = .returned (strOf x) ∧ w' = W := by
  obtain ⟨i, rfl⟩ := Int.eq_ofNat_of_zero_le h0
  exact Any.strconv_Itoa_small layItoa i (by omega) W
theorem join_any (W : World) (b : Nat) {v : Value} {l : List Int} (hv : W.ownsRow b 9 1 v l.length (l.map strOf)) (h0 : l ≠ []) (hl : l.length ≤ 100) (hx : ∀ x ∈ l, 0 ≤ x ∧ x < 100) : Calls Tryz.prog 118 #[v, .string ⟨#[32]⟩] W fun e w' => e = .returned (.string ⟨(toldL l).toArray⟩) ∧ Aft W w' := by
  rcases hv.2 with ⟨_, h⟩ | ⟨g, cap, cur, rfl, hg, hh, hc, hm, hs, ht⟩
  · exact absurd (List.eq_nil_of_length_eq_zero h) h0
  · have e1 : (l.map fun x => (⟨(Lib.decDigits x.toNat).toArray⟩ : ByteArray)).map (·.data.toList) = l.map fun x => Lib.decDigits x.toNat := by
      rw [List.map_map]
      exact List.map_congr_left fun x _ => by simp
    have hlt : g < W.heap.size := (Array.getElem?_eq_some_iff.1 hh).1
    have := Any.strings_Join layJoin extraJoin g 0 cap (l.map fun x => (⟨(Lib.decDigits x.toNat).toArray⟩ : ByteArray)) ⟨#[32]⟩ W (fun j x hj => by
      have hj' : (l.map strOf)[j]? = some (.string x) := by
        rw [List.getElem?_map] at hj ⊢
        obtain ⟨y, hy, rfl⟩ := Option.map_eq_some_iff.1 hj
        rw [hy]; rfl
      have := hv.cells (g := g) rfl j _ hj'
      rw [Addr.add_lit] at this
      exact this) hlt (by rw [List.length_map]; omega) (by rw [List.length_map]; omega) (by
        rw [e1]
        have := told_len hx
        unfold toldL at this
        show (Lib.join _ [32]).length ≤ _
        omega)
    rw [e1, List.length_map] at this
    exact this.mono fun e w' ⟨h1, h2⟩ => ⟨h1, Aft.of_below h2⟩

set_option maxRecDepth 100000 in
set_option maxHeartbeats 4000000 in
theorem told_any (w : World) (l : List Int) (A : Option Addr) (c : Nat) (hA : Ints w A l) (h0 : l ≠ []) (hl : l.length ≤ 100) (hx : ∀ x ∈ l, 0 ≤ x ∧ x < 100) :
    Calls Tryz.prog 57 #[.slice A l.length c] w fun e w' => e = .returned (.string ⟨(toldL l).toArray⟩) ∧ Aft w w' := by
  have HA := Lib.hid hA
  have HX := Lib.hid hx
  have H0 := Lib.hid h0
  have HTK : Hid (∀ k, (hk : k < l.length) → (l.take (k + 1)).map strOf = (l.take k).map strOf ++ [strOf l[k]]) := Lib.hid fun k hk => by rw [List.take_succ_eq_append_getElem hk, List.map_append]; rfl
  have HS0 : Hid (w.ownsRow w.heap.size 9 1 (.slice none 0 0) 0 ((l.take 0).map strOf)) := Lib.hid (World.ownsRow_nil _ _ 9 1)
  clear hA hx h0
  go_enter Tryz.func57, Tryz.ntmps57
  (repeat (first | go_big_skip | go_big_want | go_big_move | go_big_op | go_step | go_upon | go_back))
  go_loopw [3, 8] (fun v i wr => ∃ k : Nat, i = .int .i64 k ∧ k ≤ l.length ∧ Aft w wr ∧ wr.ownsRow w.heap.size 9 1 v k ((l.take k).map strOf)) (fun _ i _ => l.length - (intOf i).toNat)
  case atStart => exact ⟨0, rfl, by omega, Aft.refl _, HS0.out⟩
  case round =>
    obtain ⟨k, rfl, hk, ha, hown⟩ := hrel
    have HW := Lib.hid ha
    have HO := Lib.hid hown
    obtain ⟨sA, sc, rfl⟩ := own_slice2 hown
    have hsz := ha.size
    clear ha hown HS0
    by_cases hkn : k < l.length
    · have hdec : decide (k < l.length) = true := decide_eq_true hkn
      obtain ⟨b, o, e1, hb, hc⟩ := (HA.out.aft HW.out).at hkn
      subst e1
      have hc1 := hc k hkn
      clear hc
      have ik : (0 : Int) ≤ (k : Int) ∧ (k : Int) < (l.length : Int) := by omega
      have hlk := HX.out l[k] (List.getElem_mem hkn)
      have HT := HTK.out k hkn
      obtain ⟨y, hy⟩ : ∃ y, l[k] = y := ⟨_, rfl⟩
      rw [hy] at hc1 hlk HT
      have hit := itoa_any wr y hlk.1 hlk.2
      obtain ⟨s, hs⟩ : ∃ s, strOf y = .string s := ⟨_, rfl⟩
      rw [hs] at HT hit
      have HIT := Lib.hid hit
      have HTT := Lib.hid HT
      clear HT hy HTK hs hit
      (repeat (first | go_big_skip | go_big_want | go_big_move | go_big_op | go_step | go_upon | go_back))
      go_at_call 117
      refine HIT.out.mono ?_
      rintro e w5 ⟨rfl, rfl⟩
      dsimp only
      go_upto_region 6 with (at_builtin; go_loud (refine wpList_app1 ty161 rfl _ _ rfl (Nat.le_trans hsz (Aft.alloc _ _).size) rfl (own_aft HO.out (Aft.alloc _ _)) rfl (Blk.new _ _ _) rfl (fun u hu => by rw [List.mem_singleton] at hu; subst hu; rfl) (by omega) (by decide) ?_; intro v' w6 hown6 hg6 hat6; have HA6 := Lib.hid ((HW.out.then_alloc _).grown hg6 (fun q e => (HO.out.lt q e).1)); have HO6 := Lib.hid hown6; clear hown6 hg6 hat6))
      (repeat (first | go_big_skip | go_big_want | go_big_move | go_big_op | go_step | go_upon | go_back))
      exact ⟨⟨k + 1, by go_num, by omega, HA6.out, by rw [HTT.out]; exact HO6.out⟩, by simp [intOf]; omega⟩
    · have hdec : decide (k < l.length) = false := decide_eq_false hkn
      obtain rfl : k = l.length := by omega
      have HJ := Lib.hid (join_any wr w.heap.size (l := l) (by have := HO.out; rwa [List.take_length] at this) H0.out hl HX.out)
      (repeat (first | go_big_skip | go_big_want | go_big_move | go_big_op | go_step | go_upon | go_back))
      go_at_call 118
      refine HJ.out.mono ?_
      rintro e w5 ⟨rfl, ha5⟩
      dsimp only
      (repeat (first | go_big_skip | go_big_want | go_big_move | go_big_op | go_step | go_upon | go_back))
      go_ret
      exact ⟨rfl, HW.out.trans ha5⟩
end Go.Proofs
end

section
/- A set of lines in a map of the call's own, keyed by their told text. -/
namespace Go.Proofs
open Go.RowKit Go.Maps Go.WideMaps

def LineN (l : List Int) : Prop := l ≠ [] ∧ l.length ≤ 100 ∧ ∀ x ∈ l, 0 ≤ x ∧ x < 100
def toldV (l : List Int) : Value := .string ⟨(toldL l).toArray⟩
theorem LineN.inj {l l' : List Int} (h : LineN l) (h' : LineN l') (e : toldL l = toldL l') : l = l' := told_inj h.2.2 h'.2.2 h.1 h'.1 e
theorem LineN.key {l : List Int} (h : LineN l) : keyOf Tryz.prog 9 (toldV l) = some (.string (toldL l)) := by
  have := told_len h.2.2
  have h2 := h.2.1
  have := keyOf_string_mk (P := Tryz.prog) (k := 9) Tryz.underlying9 (s := ⟨(toldL l).toArray⟩) (by show (toldL l).toArray.size ≤ maxLen; rw [List.size_toArray]; unfold maxLen; omega)
  exact this
/-- The set of the lines S, in block b. -/
def SetM (W : World) (b n : Nat) (S : List (List Int)) : Prop :=
  ∃ D : DataW Unit, W.ownsMap Tryz.prog 9 (plainElem Tryz.prog 4) b n D ∧ ∀ l, LineN l → D.atKey (.string (toldL l)) (.lit (.bool false)) = .lit (.bool (decide (l ∈ S)))
theorem SetM.made (W : World) : SetM (W.alloc (.map #[] 0)) W.heap.size 0 [] := ⟨_, World.ownsMap_made _ _ _ _, fun l _ => by simp [WideAt.atKey_nil, DataW.atKey]⟩
theorem SetM.kept {W W' : World} {b n : Nat} {S : List (List Int)} (h : SetM W b n S) {row : Option Nat} (hg : W.grownBy W' row) (hne : some b ≠ row) : SetM W' b n S := let ⟨D, h1, h2⟩ := h; ⟨D, h1.kept hg hne, h2⟩
theorem SetM.aft {W W' : World} {b n : Nat} {S : List (List Int)} (h : SetM W b n S) (ha : Aft W W') : SetM W' b n S := h.kept (only_aft (only_refl W none) ha) (by simp)
theorem SetM.look {W : World} {b n : Nat} {S : List (List Int)} (h : SetM W b n S) {l : List Int} (hl : LineN l) : (Instr.lookup 104 (.map (some b)) (toldV l) false).run Tryz.prog W = .ok (.bool (decide (l ∈ S))) W := by
  obtain ⟨D, h1, h2⟩ := h
  obtain ⟨v, ps, hrun, hv⟩ := h1.lookup (string_keyed Tryz.underlying9) (e := 4) (t := 104) Tryz.underlying104 (Tryz.zeroValue4 W) (plainElem_bool Tryz.underlying4 false) hl.key
  rw [h2 l hl] at hv
  have hv' : v = .bool (decide (l ∈ S)) := by
    unfold plainElem at hv
    cases v <;> simp_all [Tryz.underlying4]
  rw [hrun, hv']
theorem SetM.put {W : World} {b n : Nat} {S : List (List Int)} (h : SetM W b n S) {l : List Int} (hl : LineN l) (hn : n < 1000000) : ∃ w', (Instr.mapUpdate 104 (.map (some b)) (toldV l) (.bool true)).run Tryz.prog W = .ok () w' ∧ SetM w' b (n + 1) (S ++ [l]) ∧ W.grownBy w' (some b) := by
  obtain ⟨D, h1, h2⟩ := h
  obtain ⟨w', hrun, h3, h4⟩ := h1.update (string_keyed Tryz.underlying9) (e := 4) (t := 104) Tryz.underlying104 (by unfold maxLen; omega) hl.key (plainElem_bool Tryz.underlying4 true)
  refine ⟨w', hrun, ⟨_, h3, fun l' hl' => ?_⟩, h4⟩
  by_cases e : l' = l
  · subst e
    rw [atKey_put_same h1.isMap (by trivial)]
    simp
  · rw [atKey_put_other (fun e' => e (hl'.inj hl (by injection e'))), h2 l' hl']
    have : decide (l' ∈ S ++ [l]) = decide (l' ∈ S) := by simp [e]
    rw [this]
end Go.Proofs
end

section
/- Plain: the program's All: each line once, as they come, then in order. -/
namespace Go.Proofs
open Go

structure AMI (T : Treaty) (k : Nat) (M : List (List Int)) (k2 : Nat) (S : List (List Int)) : Prop where
  nd : S.Nodup
  few : S.length ≤ 200 + k2
  sub : ∀ y ∈ S, y ∈ unionL T
  done : ∀ i, i < k → ∀ y ∈ linesL T (leadsF T ((readingsL T).getD i [])), y ∈ S
  here : ∀ j, j < k2 → M.getD j [] ∈ S
theorem AMI.start (T : Treaty) : AMI T 0 [] 0 [] := ⟨List.Pairwise.nil, by simp, by simp, fun i hi => absurd hi (Nat.not_lt_zero _), fun i hi => absurd hi (Nat.not_lt_zero _)⟩
theorem AMI.into {T : Treaty} {k : Nat} {M S : List (List Int)} (h : AMI T k M 0 S) (M' : List (List Int)) : AMI T k M' 0 S := ⟨h.nd, h.few, h.sub, h.done, fun i hi => absurd hi (Nat.not_lt_zero _)⟩
theorem AMI.has {T : Treaty} {k k2 : Nat} {M S : List (List Int)} (h : AMI T k M k2 S) {l : List Int} (hl : M.getD k2 [] = l) (hm : l ∈ S) : AMI T k M (k2 + 1) S :=
  ⟨h.nd, by have := h.few; omega, h.sub, h.done, fun j hj => by
    by_cases e : j = k2
    · rw [e, hl]; exact hm
    · exact h.here j (by omega)⟩
theorem AMI.put {T : Treaty} {k k2 : Nat} {M S : List (List Int)} (h : AMI T k M k2 S) {l : List Int} (hl : M.getD k2 [] = l) (hm : l ∉ S) (hu : l ∈ unionL T) : AMI T k M (k2 + 1) (S ++ [l]) := by
  refine ⟨?_, ?_, fun y hy => ?_, fun i hi y hy => List.mem_append.2 (.inl (h.done i hi y hy)), fun j hj => ?_⟩
  · rw [List.nodup_append]
    exact ⟨h.nd, List.pairwise_singleton _ _, fun a ha b hb e => hm (by rw [List.mem_singleton] at hb; rw [← hb, ← e]; exact ha)⟩
  · have := h.few; simp; omega
  · rcases List.mem_append.1 hy with hy | hy
    · exact h.sub y hy
    · rw [List.mem_singleton.1 hy]; exact hu
  · by_cases e : j = k2
    · rw [e, hl]; simp
    · exact List.mem_append.2 (.inl (h.here j (by omega)))
theorem AMI.next {T : Treaty} (ok : TOk T) {k : Nat} {M S : List (List Int)} (h : AMI T k M M.length S) (hM : M = (linesL T (leadsF T ((readingsL T).getD k []))).take 201) (hS : S.length ≤ 200) : AMI T (k + 1) [] 0 S := by
  have hnd : M.Nodup := by
    rw [hM]
    exact (linesL_ok ok _).nodup.sublist (List.take_sublist _ _)
  have hin : ∀ y ∈ M, y ∈ S := fun y hy => by
    obtain ⟨j, hj, rfl⟩ := List.getElem_of_mem hy
    have := h.here j hj
    rwa [List.getD_eq_getElem?_getD, List.getElem?_eq_getElem hj] at this
  have hle : M.length ≤ 200 := Nat.le_trans (hnd.length_le_of_subset hin) hS
  have hall : (linesL T (leadsF T ((readingsL T).getD k []))).take 201 = linesL T (leadsF T ((readingsL T).getD k [])) := by
    rw [hM, List.length_take] at hle
    exact List.take_of_length_le (by omega)
  refine ⟨h.nd, by omega, h.sub, fun i hi y hy => ?_, fun i hi => absurd hi (Nat.not_lt_zero _)⟩
  by_cases e : i = k
  · subst e
    rw [← hall, ← hM] at hy
    exact hin y hy
  · exact h.done i (by omega) y hy
theorem AMI.all {T : Treaty} {M S L : List (List Int)} {k2 : Nat} (h : AMI T (readingsL T).length M k2 S) (hp : L.Perm S) (hs : SortedL L) : allL T = L := by
  refine sorted_unique (allL_spec T).1 hs fun y => ?_
  rw [(allL_spec T).2, hp.mem_iff]
  refine ⟨fun hy => ?_, h.sub y⟩
  unfold unionL at hy
  obtain ⟨R, hR, hy⟩ := List.mem_flatMap.1 hy
  obtain ⟨i, hi, rfl⟩ := List.getElem_of_mem hR
  refine h.done i hi y ?_
  rw [List.getD_eq_getElem?_getD, List.getElem?_eq_getElem hi]
  exact hy
theorem unionL_n {T : Treaty} (ok : TOk T) {l : List Int} (h : l ∈ unionL T) : LineN l := by
  unfold unionL at h
  obtain ⟨R, _, hl⟩ := List.mem_flatMap.1 h
  have hlin := ((mem_linesL ok.starts).1 hl).1
  obtain ⟨hlen, hx⟩ := linedB_iff.1 hlin
  have hn := ok.nlegs
  have hp := ok.p2
  refine ⟨fun e => by rw [e] at hlen; simp at hlen, by omega, fun x hx' => ?_⟩
  have := hx x hx'
  omega
end Go.Proofs
end

section
/- For the reference's All: a line is put into a list of lines of the call's own. -/
namespace Go.Proofs
open Go.RowKit



theorem ints_grown {w w' : World} {A : Option Addr} {l : List Int} {row : Option Nat} (h : Ints w A l) (hg : w.grownBy w' row) (hr : ∀ b o, A = some ⟨b, o, none⟩ → some b ≠ row) : Ints w' A l := by
  refine ⟨h.1, ?_⟩
  rcases h.2 with h | ⟨b, o, rfl, hb, hc⟩
  · exact .inl h
  · refine .inr ⟨b, o, rfl, Nat.lt_of_lt_of_le hb hg.size, fun i hi => ?_⟩
    obtain ⟨vs, h1, h2, h3⟩ := hc i hi
    exact ⟨vs, h1, h2, fun j hj => (World.cell?_of_block (hg.block b hb (hr b o rfl))).trans (h3 j hj)⟩
end Go.Proofs
end

section
/- For the program's All: the list under way, and a row of the list of a reading's lines. -/
namespace Go.Proofs
open Go.RowKit

/-- The list under way: its rows lie in other blocks than it does, all of them from base on. -/
structure OutB (W : World) (base : Nat) (L : List (List Int)) (v : Value) : Prop where
  ex : ∃ vs, W.ownsRow base 24 1 v L.length vs ∧ ∀ i, (hi : i < L.length) → ∃ A c, vs[i]? = some (.slice A L[i].length c) ∧ Ints W A L[i] ∧ ∀ b o, A = some ⟨b, o, none⟩ → base ≤ b ∧ v.ownBlock ≠ some b
theorem OutB.nil (W : World) (base : Nat) : OutB W base [] (.slice none 0 0) := ⟨[], World.ownsRow_nil _ _ 24 1, fun i hi => absurd hi (Nat.not_lt_zero _)⟩
theorem OutB.kept {W W' : World} {base : Nat} {L : List (List Int)} {v : Value} (h : OutB W base L v) {row : Option Nat} (hg : W.grownBy W' row) (hr : ∀ k, row = some k → k < base) : OutB W' base L v := by
  obtain ⟨vs, h1, h2⟩ := h
  refine ⟨vs, own_kept' h1 hg hr, fun i hi => ?_⟩
  obtain ⟨A, c, e1, e2, e3⟩ := h2 i hi
  exact ⟨A, c, e1, ints_grown e2 hg (fun b o e h => by have := (e3 b o e).1; have := hr b h.symm; omega), e3⟩
theorem OutB.aft {W W' : World} {base : Nat} {L : List (List Int)} {v : Value} (h : OutB W base L v) (ha : Aft W W') : OutB W' base L v := h.kept (only_aft (only_refl W none) ha) (fun _ e => by cases e)
theorem OutB.slice {W : World} {base : Nat} {L : List (List Int)} {v : Value} (h : OutB W base L v) : ∃ A c, v = .slice A L.length c := let ⟨_, h1, _⟩ := h; own_slice2 h1
theorem OutB.ge {W : World} {base : Nat} {L : List (List Int)} {v : Value} (h : OutB W base L v) : ∀ g, v.ownBlock = some g → base ≤ g ∧ g < W.heap.size := fun g hg => let ⟨_, h1, _⟩ := h; h1.lt g hg
theorem OutB.push {W w6 : World} {base : Nat} {L : List (List Int)} {v v' : Value} {vs : List Value} {l : List Int} {Al : Option Addr} {cl : Nat} (h1 : W.ownsRow base 24 1 v L.length vs)
    (h2 : ∀ i, (hi : i < L.length) → ∃ A c, vs[i]? = some (.slice A L[i].length c) ∧ Ints W A L[i] ∧ ∀ b o, A = some ⟨b, o, none⟩ → base ≤ b ∧ v.ownBlock ≠ some b) (hne : ∀ x ∈ L, x ≠ []) (hl : l ≠ []) (hil : Ints W Al l)
    (hlb : ∀ b o, Al = some ⟨b, o, none⟩ → base ≤ b ∧ v.ownBlock ≠ some b) (hg6 : W.grownBy w6 v.ownBlock) (hat : v'.ownBlock = v.ownBlock ∨ v'.ownBlock = some W.heap.size)
    (hown6 : w6.ownsRow base 24 1 v' (L.length + 1) (vs ++ [.slice Al l.length cl])) : OutB w6 base (L ++ [l]) v' := by
  have hvl : vs.length = L.length := by simpa using h1.1
  have keep : ∀ (A : Option Addr) (x : List Int), x ≠ [] → Ints W A x → (∀ b o, A = some ⟨b, o, none⟩ → base ≤ b ∧ v.ownBlock ≠ some b) → Ints w6 A x ∧ ∀ b o, A = some ⟨b, o, none⟩ → base ≤ b ∧ v'.ownBlock ≠ some b := fun A x hx hi hb => by
    refine ⟨ints_grown hi hg6 fun b o e h => (hb b o e).2 h.symm, fun b o e => ⟨(hb b o e).1, fun hv => ?_⟩⟩
    rcases hat with h | h
    · rw [h] at hv; exact (hb b o e).2 hv
    · rw [hv] at h
      injection h with h
      obtain ⟨b', o', e', hlt, -⟩ := hi.at (k := 0) (by rcases x with _ | ⟨a, x⟩; exact absurd rfl hx; simp)
      rw [e] at e'
      cases e'
      omega
  have hlen : (L ++ [l]).length = L.length + 1 := by simp
  refine ⟨vs ++ [.slice Al l.length cl], by rw [hlen]; exact hown6, fun i hi => ?_⟩
  by_cases h : i < L.length
  · obtain ⟨A, c, e1, e2, e3⟩ := h2 i h
    have eL : (L ++ [l])[i] = L[i] := List.getElem_append_left h
    have hk := keep A L[i] (hne _ (List.getElem_mem _)) e2 e3
    rw [eL]
    exact ⟨A, c, by rw [List.getElem?_append_left (by omega)]; exact e1, hk.1, hk.2⟩
  · obtain rfl : i = L.length := by omega
    have eL : (L ++ [l])[L.length] = l := by simp
    have hk := keep Al l hl hil hlb
    rw [eL]
    exact ⟨Al, cl, by rw [List.getElem?_append_right (by omega), hvl]; simp, hk.1, hk.2⟩
theorem ints_blocks {w w' : World} {A : Option Addr} {l : List Int} (h : Ints w A l) (hs : w.heap.size ≤ w'.heap.size) (hb : ∀ b o, A = some ⟨b, o, none⟩ → w'.heap[b]? = w.heap[b]?) : Ints w' A l := by
  refine ⟨h.1, ?_⟩
  rcases h.2 with h | ⟨b, o, rfl, hb', hc⟩
  · exact .inl h
  · refine .inr ⟨b, o, rfl, Nat.lt_of_lt_of_le hb' hs, fun i hi => ?_⟩
    obtain ⟨vs, h1, h2, h3⟩ := hc i hi
    exact ⟨vs, h1, h2, fun j hj => (World.cell?_of_block (hb b o rfl)).trans (h3 j hj)⟩
/-- A row of an own list of lists, and where it lies. -/
theorem OwnLs.row_at {W : World} {base : Nat} {v : Value} {vs : List Value} {ls : List (List Int)} (h : OwnLs W base v vs ls) {i : Nat} (hi : i < ls.length) (hr : ls[i].length ≤ 1000) :
    ∃ g c A d, v = .slice (some ⟨g, 0, none⟩) ls.length c ∧ base ≤ g ∧ g < W.heap.size ∧ W.cell? ⟨g, i, none⟩ = some (.slice A ls[i].length d) ∧ Ints W A ls[i] ∧ ∀ b o, A = some ⟨b, o, none⟩ → base ≤ b ∧ b < W.heap.size := by
  have hiv : i < vs.length := by rw [h.len]; exact hi
  rcases h.own.2 with ⟨rfl, h0⟩ | ⟨g, cap, cur, rfl, hg, hh, hc, hm, hs, ht⟩
  · omega
  · have hrow := h.rows i hi hiv
    obtain ⟨A, d, e, _, hi2⟩ := own_ints hrow (by omega)
    refine ⟨g, cap, A, d, rfl, hg, (Array.getElem?_eq_some_iff.1 hh).1, ?_, hi2, fun b o e' => ?_⟩
    · have := h.own.cells (g := g) rfl i vs[i] (List.getElem?_eq_getElem hiv)
      rw [Addr.add_lit] at this
      rw [← e]
      simpa using this
    · subst e'
      exact hrow.lt b (by rw [e]; rfl)

/-- What stands while the lines of a reading are looked through. -/
structure AllK (w : World) (T : Treaty) (a1 a2 a3 a4 : Option Addr) (c1 c2 c3 c4 : Nat) (S bM bE : Nat) (W wr : World) : Prop where
  kept : Kept3 (S + 4) W wr
  aft : Aft w wr
  box : Blk wr w.heap.size 27 #[.int .i64 T.places, .slice a1 T.ways.length c1, .slice a2 T.words.length c2, .slice a3 T.starts.length c3, .slice a4 T.legs.length c4]
  r2 : ∃ c, Blk wr (w.heap.size + 1) 37 #[c]
  r3 : ∃ c, Blk wr (w.heap.size + 2) 38 #[c]
  mapc : Blk wr (S + 1) 104 #[.map (some S)]
  box2 : Blk wr (S + 3) 27 #[.int .i64 T.places, .slice a1 T.ways.length c1, .slice a2 T.words.length c2, .slice a3 T.starts.length c3, .slice a4 T.legs.length c4]
  size : bE ≤ wr.heap.size
theorem AllK.grow {w : World} {T : Treaty} {a1 a2 a3 a4 : Option Addr} {c1 c2 c3 c4 : Nat} {S bM bE : Nat} {W wr wr' : World} (h : AllK w T a1 a2 a3 a4 c1 c2 c3 c4 S bM bE W wr) (hS : w.heap.size + 2 < S) (hW : S + 7 ≤ W.heap.size) {row : Option Nat} (hg : wr.grownBy wr' row)
    (hr : ∀ g, row = some g → g = S ∨ g = S + 2 ∨ S + 7 ≤ g) : AllK w T a1 a2 a3 a4 c1 c2 c3 c4 S bM bE W wr' := by
  obtain ⟨h1, h2, h3, ⟨c, h4⟩, ⟨c', h5⟩, h6, h7, h8⟩ := h
  have hs := h1.size
  exact ⟨h1.trans (Kept3.of_grown hg (by omega) (fun g e => by have := hr g e; omega)), h2.grown hg (fun g e => by have := hr g e; omega), h3.grown hg (fun e => by have := hr _ e.symm; omega),
    ⟨c, h4.grown hg (fun e => by have := hr _ e.symm; omega)⟩, ⟨c', h5.grown hg (fun e => by have := hr _ e.symm; omega)⟩, h6.grown hg (fun e => by have := hr _ e.symm; omega), h7.grown hg (fun e => by have := hr _ e.symm; omega), Nat.le_trans h8 hg.size⟩
theorem AllK.later {w : World} {T : Treaty} {a1 a2 a3 a4 : Option Addr} {c1 c2 c3 c4 : Nat} {S bM bE : Nat} {W wr wr' : World} (h : AllK w T a1 a2 a3 a4 c1 c2 c3 c4 S bM bE W wr) (hS : w.heap.size + 2 < S) (hW : S + 7 ≤ W.heap.size) (ha : Aft wr wr') : AllK w T a1 a2 a3 a4 c1 c2 c3 c4 S bM bE W wr' :=
  h.grow hS hW (only_aft (only_refl wr none) ha) (fun _ e => by cases e)

/-- The blocks of a list that has been handed over stand. -/
def RowsK (bM : Nat) (w6 wr : World) : Prop := ∀ b, bM ≤ b → b < w6.heap.size → wr.heap[b]? = w6.heap[b]?
theorem RowsK.refl (bM : Nat) (w6 : World) : RowsK bM w6 w6 := fun _ _ _ => rfl
theorem RowsK.grow {bM : Nat} {w6 wr wr' : World} (h : RowsK bM w6 wr) (hs : w6.heap.size ≤ wr.heap.size) {row : Option Nat} (hg : wr.grownBy wr' row) (hr : ∀ g, row = some g → g < bM ∨ w6.heap.size ≤ g) : RowsK bM w6 wr' := fun b h1 h2 =>
  (hg.block b (by omega) (fun e => by have := hr b e.symm; omega)).trans (h b h1 h2)
theorem RowsK.later {bM : Nat} {w6 wr wr' : World} (h : RowsK bM w6 wr) (hs : w6.heap.size ≤ wr.heap.size) (ha : Aft wr wr') : RowsK bM w6 wr' := h.grow hs (only_aft (only_refl wr none) ha) (fun _ e => by cases e)

/-- The loop over the lines of a reading. -/
structure AllL (w : World) (T : Treaty) (a1 a2 a3 a4 : Option Addr) (c1 c2 c3 c4 : Nat) (S k bM : Nat) (M : List (List Int)) (W w6 wr : World) (j : Nat) (L : List (List Int)) (v : Value) : Prop where
  base : AllK w T a1 a2 a3 a4 c1 c2 c3 c4 S bM w6.heap.size W wr
  rows : RowsK bM w6 wr
  cell : Blk wr (S + 2) 37 #[v]
  out : OutB wr (S + 7) L v
  far : ∀ g, v.ownBlock = some g → g < bM ∨ w6.heap.size ≤ g
  set : SetM wr S L.length L
  ami : AMI T k M j L
theorem AllL.later {w : World} {T : Treaty} {a1 a2 a3 a4 : Option Addr} {c1 c2 c3 c4 : Nat} {S k bM : Nat} {M : List (List Int)} {W w6 wr wr' : World} {j : Nat} {L : List (List Int)} {v : Value} (h : AllL w T a1 a2 a3 a4 c1 c2 c3 c4 S k bM M W w6 wr j L v) (hS : w.heap.size + 2 < S) (hW : S + 7 ≤ W.heap.size) (ha : Aft wr wr') :
    AllL w T a1 a2 a3 a4 c1 c2 c3 c4 S k bM M W w6 wr' j L v :=
  ⟨h.base.later hS hW ha, h.rows.later h.base.size ha, h.cell.aft ha, h.out.aft ha, h.far, h.set.aft ha, h.ami⟩
/-- A line that is there already. -/
theorem AllL.has {w : World} {T : Treaty} {a1 a2 a3 a4 : Option Addr} {c1 c2 c3 c4 : Nat} {S k bM : Nat} {M : List (List Int)} {W w6 wr : World} {j : Nat} {L : List (List Int)} {v : Value} (h : AllL w T a1 a2 a3 a4 c1 c2 c3 c4 S k bM M W w6 wr j L v) {l : List Int} (hl : M.getD j [] = l) (hm : l ∈ L) :
    AllL w T a1 a2 a3 a4 c1 c2 c3 c4 S k bM M W w6 wr (j + 1) L v := ⟨h.base, h.rows, h.cell, h.out, h.far, h.set, h.ami.has hl hm⟩

/-- A line that is not. -/
theorem AllL.push {w : World} {T : Treaty} {a1 a2 a3 a4 : Option Addr} {c1 c2 c3 c4 : Nat} {S k bM : Nat} {M : List (List Int)} {W w6 w7 w8 w10 : World} {j : Nat} {L : List (List Int)} {v v' : Value} (h : AllL w T a1 a2 a3 a4 c1 c2 c3 c4 S k bM M W w6 w7 j L v) (ok : TOk T) (hS : w.heap.size + 2 < S) (hW : S + 7 ≤ W.heap.size) (hbM : S + 7 ≤ bM)
    {l : List Int} (hl : M.getD j [] = l) (hm : l ∉ L) (hu : l ∈ unionL T) {Al : Option Addr} {cl : Nat} (hil : Ints (w8.alloc (.cells #[.slice Al l.length cl] 24)) Al l) (hlb : ∀ b o, Al = some ⟨b, o, none⟩ → bM ≤ b ∧ b < w6.heap.size)
    (hset8 : SetM w8 S (L.length + 1) (L ++ [l])) (hg8 : w7.grownBy w8 (some S)) {vs : List Value} (h1 : (w8.alloc (.cells #[.slice Al l.length cl] 24)).ownsRow (S + 7) 24 1 v L.length vs)
    (h2 : ∀ i, (hi : i < L.length) → ∃ A c, vs[i]? = some (.slice A L[i].length c) ∧ Ints (w8.alloc (.cells #[.slice Al l.length cl] 24)) A L[i] ∧ ∀ b o, A = some ⟨b, o, none⟩ → S + 7 ≤ b ∧ v.ownBlock ≠ some b)
    (hown : w10.ownsRow (S + 7) 24 1 v' (L.length + 1) (vs ++ [.slice Al l.length cl])) (hg10 : (w8.alloc (.cells #[.slice Al l.length cl] 24)).grownBy w10 v.ownBlock)
    (hat : v'.ownBlock = v.ownBlock ∨ v'.ownBlock = some (w8.alloc (.cells #[.slice Al l.length cl] 24)).heap.size) : AllL w T a1 a2 a3 a4 c1 c2 c3 c4 S k bM M W w6 (w10.setCell ⟨S + 2, 0, none⟩ v') (j + 1) (L ++ [l]) v' := by
  have hlen : (L ++ [l]).length = L.length + 1 := by simp
  have hge := h.out.ge
  have hfar := h.far
  have ha9 : Aft w8 (w8.alloc (.cells #[.slice Al l.length cl] 24)) := Aft.alloc _ _
  have hb9 : Blk (w8.alloc (.cells #[.slice Al l.length cl] 24)) (S + 2) 37 #[v] := (h.cell.grown hg8 (fun e => by injection e with e; omega)).alloc _
  have hs8 := h.base.grow hS hW hg8 (fun g e => by cases e; exact .inl rfl)
  have hs9 := hs8.later hS hW ha9
  have hr9 := (h.rows.grow h.base.size hg8 (fun g e => by cases e; omega)).later hs8.size ha9
  have hset9 := hset8.aft ha9
  have hz := h.base.size
  generalize (w8.alloc (.cells #[.slice Al l.length cl] 24)) = w9 at *
  have hs10 := hs9.grow hS hW hg10 (fun g e => by have := (hge g e).1; omega)
  have hr10 := hr9.grow hs9.size hg10 (fun g e => hfar g e)
  have hgS := grownBy_setCell' w10 (S + 2) v'
  refine ⟨hs10.grow hS hW hgS (fun g e => by cases e; exact .inr (.inl rfl)), hr10.grow hs10.size hgS (fun g e => by cases e; omega), (hb9.grown hg10 (fun e => by have := (hge _ e.symm).1; omega)).store 0 v', ?_, ?_, ?_, h.ami.put hl hm hu⟩
  · exact (OutB.push h1 h2 (fun x hx => (unionL_n ok (h.ami.sub x hx)).1) (unionL_n ok hu).1 hil (fun b o e => by
      have := hlb b o e
      exact ⟨by omega, fun hv => by have := hfar b hv; omega⟩) hg10 hat hown).kept hgS (fun g e => by cases e; omega)
  · intro g hg
    rcases hat with e | e
    · rw [e] at hg; exact hfar g hg
    · rw [e] at hg
      injection hg with hg
      have := hs9.size
      exact .inr (by omega)
  · rw [hlen]
    exact (hset9.kept hg10 (fun e => by have := (hge _ e.symm).1; omega)).kept hgS (fun e => by cases e)

end Go.Proofs
end

section
/- Where the library's slices.SortFunc lies. -/
namespace Go.Proofs
open Go.RowKit Go.Shelf
set_option maxRecDepth 100000
def renSort : Go.Shelf.Ren := ⟨fun | 6 => 58 | 15 => 120 | 14 => 119 | 28 => 158 | 29 => 159 | 20 => 150 | 21 => 151 | 22 => 152 | 23 => 153 | 24 => 154 | 25 => 155 | 26 => 156 | 27 => 157 | 46 => 168 | 47 => 169 | 48 => 170 | 49 => 171 | 50 => 172 | 57 => 179 | n => n, fun | 22 => 37 | 24 => 24 | 25 => 51 | 3 => 3 | 39 => 166 | 0 => 0 | 53 => 118 | 55 => 199 | 4 => 4 | 46 => 192 | 45 => 191 | 50 => 145 | 5 => 5 | 9 => 9 | 66 => 204 | 70 => 63 | 76 => 216 | 77 => 217 | n => n, fun n => n⟩
theorem laySort : SlLaysF.n6 Tryz.prog renSort := {
  mixed := by kernel_rfl
  f6 := ⟨Tryz.f58.name, by kernel_rfl, Tryz.func58.trans (congrArg some (by kernel_rfl))⟩
  f14 := ⟨Tryz.f119.name, by kernel_rfl, Tryz.func119.trans (congrArg some (by kernel_rfl))⟩
  f15 := Tryz.func120.trans (congrArg some (by kernel_rfl))
  f20 := ⟨Tryz.f150.name, by kernel_rfl, Tryz.func150.trans (congrArg some (by kernel_rfl))⟩
  f21 := ⟨Tryz.f151.name, by kernel_rfl, Tryz.func151.trans (congrArg some (by kernel_rfl))⟩
  f22 := ⟨Tryz.f152.name, by kernel_rfl, Tryz.func152.trans (congrArg some (by kernel_rfl))⟩
  f23 := ⟨Tryz.f153.name, by kernel_rfl, Tryz.func153.trans (congrArg some (by kernel_rfl))⟩
  f24 := ⟨Tryz.f154.name, by kernel_rfl, Tryz.func154.trans (congrArg some (by kernel_rfl))⟩
  f25 := ⟨Tryz.f155.name, by kernel_rfl, Tryz.func155.trans (congrArg some (by kernel_rfl))⟩
  f26 := ⟨Tryz.f156.name, by kernel_rfl, Tryz.func156.trans (congrArg some (by kernel_rfl))⟩
  f27 := ⟨Tryz.f157.name, by kernel_rfl, Tryz.func157.trans (congrArg some (by kernel_rfl))⟩
  f28 := Tryz.func158.trans (congrArg some (by kernel_rfl))
  f29 := Tryz.func159.trans (congrArg some (by kernel_rfl))
  f46 := ⟨Tryz.f168.name, by kernel_rfl, Tryz.func168.trans (congrArg some (by kernel_rfl))⟩
  f47 := Tryz.func169.trans (congrArg some (by kernel_rfl))
  f48 := Tryz.func170.trans (congrArg some (by kernel_rfl))
  f49 := ⟨Tryz.f171.name, by kernel_rfl, Tryz.func171.trans (congrArg some (by kernel_rfl))⟩
  f50 := ⟨Tryz.f172.name, by kernel_rfl, Tryz.func172.trans (congrArg some (by kernel_rfl))⟩
  f57 := ⟨Tryz.f179.name, by kernel_rfl, Tryz.func179.trans (congrArg some (by kernel_rfl))⟩
  t0 := Tryz.underlying0
  a0 := Tryz.isAgg0
  z0 := Tryz.sizeOf0
  v0 := Tryz.zeroValue0
  t3 := Tryz.underlying3
  a3 := Tryz.isAgg3
  z3 := Tryz.sizeOf3
  v3 := Tryz.zeroValue3
  t4 := Tryz.underlying4
  a4 := Tryz.isAgg4
  z4 := Tryz.sizeOf4
  v4 := Tryz.zeroValue4
  t5 := Tryz.underlying5
  a5 := Tryz.isAgg5
  z5 := Tryz.sizeOf5
  v5 := Tryz.zeroValue5
  t9 := Tryz.underlying9
  a9 := Tryz.isAgg9
  z9 := Tryz.sizeOf9
  v9 := Tryz.zeroValue9
  t22 := Tryz.underlying37
  a22 := Tryz.isAgg37
  z22 := Tryz.sizeOf37
  v22 := Tryz.zeroValue37
  a24 := Tryz.isAgg24
  z24 := Tryz.sizeOf24
  t25 := Tryz.underlying51
  a25 := Tryz.isAgg51
  z25 := Tryz.sizeOf51
  v25 := Tryz.zeroValue51
  t39 := Tryz.underlying166
  a39 := Tryz.isAgg166
  z39 := Tryz.sizeOf166
  v39 := Tryz.zeroValue166
  t45 := Tryz.underlying191
  a45 := Tryz.isAgg191
  z45 := Tryz.sizeOf191
  v45 := Tryz.zeroValue191
  t46 := Tryz.underlying192
  a46 := Tryz.isAgg192
  z46 := Tryz.sizeOf192
  v46 := Tryz.zeroValue192
  t50 := Tryz.underlying145
  a50 := Tryz.isAgg145
  z50 := Tryz.sizeOf145
  v50 := Tryz.zeroValue145
  t53 := Tryz.underlying118
  a53 := Tryz.isAgg118
  z53 := Tryz.sizeOf118
  v53 := Tryz.zeroValue118
  t55 := Tryz.underlying199
  a55 := Tryz.isAgg199
  z55 := Tryz.sizeOf199
  v55 := Tryz.zeroValue199
  t66 := Tryz.underlying204
  a66 := Tryz.isAgg204
  z66 := Tryz.sizeOf204
  v66 := Tryz.zeroValue204
  t70 := Tryz.underlying63
  a70 := Tryz.isAgg63
  z70 := Tryz.sizeOf63
  v70 := Tryz.zeroValue63
  t76 := Tryz.underlying216
  a76 := Tryz.isAgg216
  z76 := Tryz.sizeOf216
  v76 := Tryz.zeroValue216
  t77 := Tryz.underlying217
  a77 := Tryz.isAgg217
  z77 := Tryz.sizeOf217
  v77 := Tryz.zeroValue217 }
end Go.Proofs
end
