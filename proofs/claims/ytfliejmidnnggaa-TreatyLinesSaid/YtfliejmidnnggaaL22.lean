/- Own texts, merged: Lwp0 Opn Lwl. -/
import Derived.Test.YtfliejmidnnggaaL15
import Derived.Test.YtfliejmidnnggaaL18
import Derived.Test.YtfliejmidnnggaaL21
import Derived.ProofKit
import Derived.Deep.Slices
import Derived.Deep.Strs
import Derived.ChangeArms
import Derived.OpenShut
import Derived.BigGuard
section
/- The law on lines: what the program's functions and the reference's answer, in the same words. -/
namespace Go.Proofs
open Go.RowKit

noncomputable def lnsX (T : Treaty) (R : List Int) : List (List Int) := if linesE T R = 0 then linesL T (leadsF T R) else []
noncomputable def brkX (T : Treaty) (R l : List Int) : List Int := if breaksE T R l = 0 then brkTo (leadsF T R) l T.legs.length else []
noncomputable def agrE (T : Treaty) (l : List Int) : Int := if checkE T = 0 then (if linedB T l = true then (if hasB T.starts (l.getD 0 0) = true then (match agreesF T l with | none => 7 | some _ => 0) else 7) else 2) else checkE T
noncomputable def agrX (T : Treaty) (l : List Int) : List Int := if agrE T l = 0 then (agreesF T l).getD [] else []

theorem linesL_len2 {T : Treaty} {f : Nat → Nat → Nat → Bool} : ∀ l ∈ linesL T f, l.length = T.legs.length + 1 := by
  intro l hl
  unfold linesL at hl
  rw [List.mem_flatMap] at hl
  obtain ⟨s, _, h⟩ := hl
  exact linesFrom_len _ _ _ l h
def LinesU (w : World) (T : Treaty) (R : List Int) (e : Ending) (w' : World) : Prop :=
  Aft w w' ∧ ∃ A c, e = .returned (.tuple #[.slice A (lnsX T R).length c, .int .i64 (linesE T R)]) ∧ Lists w' A (lnsX T R)
theorem linesR_uni {w w' : World} {T : Treaty} {R : List Int} {e : Ending} (hl : T.legs.length ≤ 1000) (h : LinesR w T R e w') : LinesU w T R e w' := by
  obtain ⟨ha, ⟨h1, rfl⟩ | ⟨h1, v, rfl, hown⟩⟩ := h
  · have : lnsX T R = [] := by unfold lnsX; rw [if_neg h1]
    rw [LinesU, this]
    exact ⟨ha, none, 0, rfl, lists_nil _⟩
  · have hx : lnsX T R = linesL T (leadsF T R) := by unfold lnsX; rw [if_pos h1]
    have hn : (linesL T (leadsF T R)).length ≤ 200 := by
      unfold linesE at h1
      split at h1
      · split at h1
        · assumption
        · exact absurd h1 (by decide)
      · contradiction
    obtain ⟨A, c, rfl, _, hli⟩ := hown.lists (by omega) (fun l hl' => by rw [linesL_len2 l hl']; omega)
    rw [LinesU, hx, h1]
    exact ⟨ha, A, c, rfl, hli⟩
def BreaksU (w : World) (T : Treaty) (R l : List Int) (e : Ending) (w' : World) : Prop :=
  Aft w w' ∧ ∃ A c, e = .returned (.tuple #[.slice A (brkX T R l).length c, .int .i64 (breaksE T R l)]) ∧ Ints w' A (brkX T R l)
theorem brkTo_len (f : Nat → Nat → Nat → Bool) (l : List Int) (k : Nat) : (brkTo f l k).length ≤ k := by
  unfold brkTo
  rw [List.length_map]
  exact Nat.le_trans (List.length_filter_le _ _) (by simp)
theorem breaksR_uni {w w' : World} {T : Treaty} {R l : List Int} {e : Ending} (hl : T.legs.length ≤ 1000) (h : BreaksR w T R l e w') : BreaksU w T R l e w' := by
  obtain ⟨ha, ⟨h1, rfl⟩ | ⟨h1, v, rfl, hown⟩⟩ := h
  · have : brkX T R l = [] := by unfold brkX; rw [if_neg h1]
    rw [BreaksU, this]
    exact ⟨ha, none, 0, rfl, RowsP.nil⟩
  · have hx : brkX T R l = brkTo (leadsF T R) l T.legs.length := by unfold brkX; rw [if_pos h1]
    have := brkTo_len (leadsF T R) l T.legs.length
    obtain ⟨A, c, rfl, _, hi⟩ := own_ints hown (by omega)
    rw [BreaksU, hx, h1]
    exact ⟨ha, A, c, rfl, hi⟩
def AgreesU (w : World) (T : Treaty) (l : List Int) (e : Ending) (w' : World) : Prop :=
  Aft w w' ∧ ∃ A c, e = .returned (.tuple #[.slice A (agrX T l).length c, .int .i64 (agrE T l)]) ∧ Ints w' A (agrX T l)
theorem agreesU_err {w w' : World} {T : Treaty} {l : List Int} {e : Ending} {E : Int} (hE : agrE T l = E) (h0 : E ≠ 0) (h : e = .returned (.tuple #[.slice none 0 0, .int .i64 E]) ∧ Aft w w') : AgreesU w T l e w' := by
  have hx : agrX T l = [] := by unfold agrX; rw [if_neg (by rw [hE]; exact h0)]
  rw [AgreesU, hx, hE]
  exact ⟨h.2, none, 0, h.1, RowsP.nil⟩
theorem agreesU_some {w w' : World} {T : Treaty} {l : List Int} {R : List Int} {A : Option Addr} {c : Nat} {e : Ending} (hE : agrE T l = 0) (hR : agreesF T l = some R) (he : e = .returned (.tuple #[.slice A R.length c, .int .i64 0])) (ha : Aft w w') (hi : Ints w' A R) : AgreesU w T l e w' := by
  have hx : agrX T l = R := by unfold agrX; rw [if_pos hE, hR]; rfl
  rw [AgreesU, hx, hE]
  exact ⟨ha, A, c, he, hi⟩
theorem agrE_bad {T : Treaty} {l : List Int} (h : checkE T ≠ 0 ∨ linedB T l = false) : agrE T l = (if checkE T = 0 then 2 else checkE T) := by
  unfold agrE
  by_cases hc : checkE T = 0
  · rw [if_pos hc, if_pos hc, if_neg (by rw [h.resolve_left (fun h => h hc)]; decide)]
  · rw [if_neg hc, if_neg hc]
theorem agrE_seven {T : Treaty} {l : List Int} (hc : checkE T = 0) (hl : linedB T l = true) (h : hasB T.starts (l.getD 0 0) = false ∨ agreesF T l = none) : agrE T l = 7 := by
  unfold agrE
  rw [if_pos hc, if_pos hl]
  rcases h with h | h
  · rw [if_neg (by rw [h]; decide)]
  · split
    · rw [h]
    · rfl
theorem agrE_zero {T : Treaty} {l R : List Int} (hc : checkE T = 0) (hl : linedB T l = true) (hs : hasB T.starts (l.getD 0 0) = true) (h : agreesF T l = some R) : agrE T l = 0 := by
  unfold agrE
  rw [if_pos hc, if_pos hl, if_pos hs, h]

variable {T : Treaty} {a1 a2 a3 a4 : Option Addr} {c1 c2 c3 c4 : Nat}
theorem agreesRef_uni (w : World) (l : List Int) (Al : Option Addr) (cl : Nat) (hT : TRep w T a1 a2 a3 a4) (hA : Ints w Al l) : Calls Try.prog 22 #[.agg #[.int .i64 T.places, .slice a1 T.ways.length c1, .slice a2 T.words.length c2, .slice a3 T.starts.length c3, .slice a4 T.legs.length c4], .slice Al l.length cl] w (AgreesU w T l) := by
  by_cases h : checkE T ≠ 0 ∨ linedB T l = false
  · refine (agreesRef_bad w T a1 a2 a3 a4 c1 c2 c3 c4 l Al cl hT hA h).mono fun e w' he => ?_
    refine agreesU_err (agrE_bad h) ?_ he
    split
    · decide
    · assumption
  · have hc : checkE T = 0 := Decidable.byContradiction fun hc => h (.inl hc)
    have hl : linedB T l = true := by cases hb : linedB T l with | true => rfl | false => exact absurd (.inr hb) h
    refine (agreesRef_good w T a1 a2 a3 a4 c1 c2 c3 c4 l Al cl hT hA hc hl).mono fun e w' he => ?_
    obtain ⟨ha, ⟨h1, rfl⟩ | ⟨h1, R, A, c, h2, rfl, hi⟩⟩ := he
    · exact agreesU_err (agrE_seven hc hl h1) (by decide) ⟨rfl, ha⟩
    · exact agreesU_some (agrE_zero hc hl h1 h2) h2 rfl ha hi
theorem agrees_uni (w : World) (l : List Int) (Al : Option Addr) (cl : Nat) (hT : TRep w T a1 a2 a3 a4) (hA : Ints w Al l) (hw : T.words.length ≤ 1000) : Calls Try.prog 21 #[.agg #[.int .i64 T.places, .slice a1 T.ways.length c1, .slice a2 T.words.length c2, .slice a3 T.starts.length c3, .slice a4 T.legs.length c4], .slice Al l.length cl] w (AgreesU w T l) := by
  by_cases hc : checkE T = 0
  · by_cases hl : linedB T l = true
    · by_cases hs : hasB T.starts (l.getD 0 0) = true
      · refine (agrees_good w T a1 a2 a3 a4 c1 c2 c3 c4 l Al cl hT hA hc hl hs).mono fun e w' he => ?_
        obtain ⟨ha, ⟨h1, rfl⟩ | ⟨R, v, h2, rfl, hown⟩⟩ := he
        · exact agreesU_err (agrE_seven hc hl (.inr h1)) (by decide) ⟨rfl, ha⟩
        · have hlen := ((mem_readings (checkE_ok hc)).1 (List.mem_of_find?_eq_some h2)).1
          obtain ⟨A, c, rfl, _, hi⟩ := own_ints hown (by omega)
          exact agreesU_some (agrE_zero hc hl hs h2) h2 rfl ha hi
      · have hs' : hasB T.starts (l.getD 0 0) = false := by simpa using hs
        exact (agrees_start w T a1 a2 a3 a4 c1 c2 c3 c4 l Al cl hT hA hc hl hs').mono fun e w' he => agreesU_err (agrE_seven hc hl (.inl hs')) (by decide) he
    · have hl' : linedB T l = false := by simpa using hl
      exact (agrees_lined w T a1 a2 a3 a4 c1 c2 c3 c4 l Al cl hT hA hc hl').mono fun e w' he => agreesU_err ((agrE_bad (.inr hl')).trans (if_pos hc)) (by decide) he
  · exact (agrees_check w T a1 a2 a3 a4 c1 c2 c3 c4 l Al cl hT hA hc).mono fun e w' he => agreesU_err ((agrE_bad (.inl hc)).trans (if_neg hc)) hc he
end Go.Proofs
end

section
/- What comes in as data, told as lists: slices of numbers, of lists, of records; a treaty. -/
namespace Go.Proofs
open Go.RowKit Go.WideShapes Go.ChangeShapes

theorem listTwo {α : Type} {l : List α} (h : l.length = 2) : ∃ a b, l = [a, b] := by
  match l, h with
  | [a, b], _ => exact ⟨a, b, rfl⟩
theorem listThree {α : Type} {l : List α} (h : l.length = 3) : ∃ a b c, l = [a, b, c] := by
  match l, h with
  | [a, b, c], _ => exact ⟨a, b, c, rfl⟩
theorem listOne {α : Type} {l : List α} (h : l.length = 1) : ∃ a, l = [a] := by
  match l, h with
  | [a], _ => exact ⟨a, rfl⟩
theorem listFive {α : Type} {l : List α} (h : l.length = 5) : ∃ a b c d e, l = [a, b, c, d, e] := by
  match l, h with
  | [a, b, c, d, e], _ => exact ⟨a, b, c, d, e, rfl⟩
section
variable {H : Type} {enc : TypeId × Value → H} {W : World} {base : Nat} {spare : Nat → Bool} {held : Bool}

theorem rowsQ_of {α : Type} [Inhabited α] {t e : TypeId} {sz fuel : Nat} {R : World → α → List Value → Prop} {v : Value} {y : DataW H × List MemPlace} (ht : Try.prog.underlying t = some (.slice e)) (hsz : Try.prog.cellsOf e = sz) (hp : 0 < sz)
    (hR : ∀ n cs y, cs.length = sz → DataW.trod enc Try.prog W base spare held n e cs = some y → ∃ x : α, R W x cs) (h : DataW.trod enc Try.prog W base spare held fuel t [v] = some y) :
    ∃ A c, ∃ l : List α, v = .slice A l.length c ∧ RowsQ W A sz R l := by
  rcases Go.Deep.open_slice ht h with ⟨hcs, _⟩ | ⟨a, len, cap, m, n, D, Pl, hcs, _, hl, _, hm, _, hx⟩
  · cases hcs
    exact ⟨none, 0, [], rfl, .inl rfl⟩
  · cases hcs
    have hlm : len ≤ m := by rw [hm]; split <;> omega
    obtain ⟨f, hf⟩ := Go.Deep.choose_lt (n := len) (p := fun i x => ∃ cs', W.cells? base (a.add (i * sz)) sz = some cs' ∧ R W x cs') (fun i hi => by
      obtain ⟨cs', h1, h2⟩ := hx i (by omega)
      rw [hsz] at h1
      obtain ⟨_, hlen, _⟩ := World.cells?_some h1
      obtain ⟨x, hx⟩ := hR _ _ _ hlen h2
      exact ⟨x, cs', h1, hx⟩)
    refine ⟨some a, cap, (List.range len).map f, by simp, ?_⟩
    by_cases h0 : len = 0
    · exact .inl (by rw [h0]; rfl)
    obtain ⟨b, off, spot⟩ := a
    obtain ⟨cs0, h1, -⟩ := hf 0 (by omega)
    obtain ⟨_, hlen, hcell⟩ := World.cells?_some h1
    have h00 := hcell 0 hp
    rw [List.getElem?_eq_getElem (by omega)] at h00
    have hspot : spot = none := by simpa [Addr.add] using World.cell?_spot h00
    subst hspot
    have hb : b < W.heap.size := by
      have := World.block_lt_of_cell? _ _ h00
      simpa [add_plain] using this
    refine .inr ⟨b, off, rfl, hb, fun i hi => ?_⟩
    have hi' : i < len := by simpa using hi
    obtain ⟨cs', h1, h2⟩ := hf i hi'
    obtain ⟨_, hlen, hcell⟩ := World.cells?_some h1
    refine ⟨cs', hlen, by simpa using h2, fun j hj => ?_⟩
    have := hcell j (by omega)
    rw [add_plain, add_plain, List.getElem?_eq_getElem hj] at this
    exact this
theorem intR_of {n : Nat} {cs : List Value} {y : DataW H × List MemPlace} (h : DataW.trod enc Try.prog W base spare held n 3 cs = some y) : ∃ x : Int, IntR W x cs := by
  obtain ⟨x, rfl, _, _⟩ := DataW.trod_int Try.underlying3 h
  exact ⟨x, rfl⟩
theorem intsQ_of {fuel : Nat} {v : Value} {y : DataW H × List MemPlace} (h : DataW.trod enc Try.prog W base spare held fuel 24 [v] = some y) : ∃ A c, ∃ l : List Int, v = .slice A l.length c ∧ IntsQ W A l :=
  rowsQ_of Try.underlying24 (by kernel_rfl) (by decide) (fun _ _ _ _ h => intR_of h) h
theorem listsQ_of {fuel : Nat} {v : Value} {y : DataW H × List MemPlace} (h : DataW.trod enc Try.prog W base spare held fuel 41 [v] = some y) : ∃ A c, ∃ l : List (List Int), v = .slice A l.length c ∧ ListsQ W A l :=
  rowsQ_of Try.underlying41 (by kernel_rfl) (by decide) (fun _ cs _ hl h => by
    obtain ⟨v, rfl⟩ := listOne hl
    obtain ⟨A, c, l, rfl, hi⟩ := intsQ_of h
    exact ⟨l, A, c, rfl, hi⟩) h
instance : Inhabited Way := ⟨⟨0, 0, 0⟩⟩
instance : Inhabited Leg := ⟨⟨0, 0⟩⟩
instance : Inhabited Mean := ⟨⟨[], []⟩⟩
theorem cellsOf3 : Try.prog.cellsOf 3 = 1 := by kernel_rfl
theorem cellsOf22 : Try.prog.cellsOf 22 = 1 := by kernel_rfl
theorem cellsOf23 : Try.prog.cellsOf 23 = 1 := by kernel_rfl
theorem cellsOf24 : Try.prog.cellsOf 24 = 1 := by kernel_rfl
theorem cellsOf27 : Try.prog.cellsOf 27 = 5 := by kernel_rfl
theorem cellsOf25 : Try.prog.cellsOf 25 = 1 := by kernel_rfl
theorem waysQ_of {fuel : Nat} {v : Value} {y : DataW H × List MemPlace} (h : DataW.trod enc Try.prog W base spare held fuel 22 [v] = some y) : ∃ A c, ∃ l : List Way, v = .slice A l.length c ∧ RowsQ W A 3 WayR l :=
  rowsQ_of Try.underlying22 (by kernel_rfl) (by decide) (fun _ cs _ hl h => by
    obtain ⟨xs, n, _, _, _, hxl, hf⟩ := DataW.trod_struct Try.underlying86 h
    obtain ⟨y0, y1, y2, rfl⟩ := listThree hxl
    obtain ⟨v0, v1, v2, rfl⟩ := listThree hl
    have g0 : DataW.trod enc Try.prog W base spare held n 3 [v0] = some y0 := by simpa [Value.cells, cellsOf3, cellsOf22, cellsOf23, cellsOf24, cellsOf25] using hf 0 _ rfl
    have g1 : DataW.trod enc Try.prog W base spare held n 3 [v1] = some y1 := by simpa [Value.cells, cellsOf3, cellsOf22, cellsOf23, cellsOf24, cellsOf25] using hf 1 _ rfl
    have g2 : DataW.trod enc Try.prog W base spare held n 3 [v2] = some y2 := by simpa [Value.cells, cellsOf3, cellsOf22, cellsOf23, cellsOf24, cellsOf25] using hf 2 _ rfl
    obtain ⟨x0, e0, _, _⟩ := DataW.trod_int Try.underlying3 g0
    obtain ⟨x1, e1, _, _⟩ := DataW.trod_int Try.underlying3 g1
    obtain ⟨x2, e2, _, _⟩ := DataW.trod_int Try.underlying3 g2
    cases e0; cases e1; cases e2
    exact ⟨⟨x0, x1, x2⟩, rfl⟩) h
theorem legsQ_of {fuel : Nat} {v : Value} {y : DataW H × List MemPlace} (h : DataW.trod enc Try.prog W base spare held fuel 25 [v] = some y) : ∃ A c, ∃ l : List Leg, v = .slice A l.length c ∧ RowsQ W A 2 LegR l :=
  rowsQ_of Try.underlying25 (by kernel_rfl) (by decide) (fun _ cs _ hl h => by
    obtain ⟨xs, n, _, _, _, hxl, hf⟩ := DataW.trod_struct Try.underlying83 h
    obtain ⟨y0, y1, rfl⟩ := listTwo hxl
    obtain ⟨v0, v1, rfl⟩ := listTwo hl
    have g0 : DataW.trod enc Try.prog W base spare held n 3 [v0] = some y0 := by simpa [Value.cells, cellsOf3, cellsOf22, cellsOf23, cellsOf24, cellsOf25] using hf 0 _ rfl
    have g1 : DataW.trod enc Try.prog W base spare held n 3 [v1] = some y1 := by simpa [Value.cells, cellsOf3, cellsOf22, cellsOf23, cellsOf24, cellsOf25] using hf 1 _ rfl
    obtain ⟨x0, e0, _, _⟩ := DataW.trod_int Try.underlying3 g0
    obtain ⟨x1, e1, _, _⟩ := DataW.trod_int Try.underlying3 g1
    cases e0; cases e1
    exact ⟨⟨x0, x1⟩, rfl⟩) h
theorem meansQ_of {fuel : Nat} {v : Value} {y : DataW H × List MemPlace} (h : DataW.trod enc Try.prog W base spare held fuel 78 [v] = some y) : ∃ A c, ∃ l : List Mean, v = .slice A l.length c ∧ RowsQ W A 2 MeanQ l :=
  rowsQ_of Try.underlying78 (by kernel_rfl) (by decide) (fun _ cs _ hl h => by
    obtain ⟨xs, n, _, _, _, hxl, hf⟩ := DataW.trod_struct Try.underlying80 h
    obtain ⟨y0, y1, rfl⟩ := listTwo hxl
    obtain ⟨v0, v1, rfl⟩ := listTwo hl
    have g0 : DataW.trod enc Try.prog W base spare held n 24 [v0] = some y0 := by simpa [Value.cells, cellsOf3, cellsOf22, cellsOf23, cellsOf24, cellsOf25] using hf 0 _ rfl
    have g1 : DataW.trod enc Try.prog W base spare held n 24 [v1] = some y1 := by simpa [Value.cells, cellsOf3, cellsOf22, cellsOf23, cellsOf24, cellsOf25] using hf 1 _ rfl
    obtain ⟨A0, c0, l0, rfl, i0⟩ := intsQ_of g0
    obtain ⟨A1, c1, l1, rfl, i1⟩ := intsQ_of g1
    exact ⟨⟨l0, l1⟩, A0, c0, A1, c1, rfl, i0, i1⟩) h
theorem wordsQ_of {fuel : Nat} {v : Value} {y : DataW H × List MemPlace} (h : DataW.trod enc Try.prog W base spare held fuel 23 [v] = some y) : ∃ A c, ∃ l : List (List Mean), v = .slice A l.length c ∧ RowsQ W A 1 WordQ l :=
  rowsQ_of Try.underlying23 (by kernel_rfl) (by decide) (fun _ cs _ hl h => by
    obtain ⟨v, rfl⟩ := listOne hl
    obtain ⟨A, c, l, rfl, hi⟩ := meansQ_of h
    exact ⟨l, A, c, rfl, hi⟩) h
theorem array5 {α : Type} {cs : Array α} (h : cs.size = 5) : ∃ c0 c1 c2 c3 c4, cs = #[c0, c1, c2, c3, c4] := by
  obtain ⟨l⟩ := cs
  match l, h with
  | [c0, c1, c2, c3, c4], _ => exact ⟨c0, c1, c2, c3, c4, rfl⟩
set_option maxRecDepth 100000 in
theorem treatyQ_of {r : Reach} {b0 : Nat} {v : Value} {d : DataW H} {p : List MemPlace} (hv : Value.okWide Try.prog W r b0 27 v) (h : DataW.Trod enc Try.prog W base spare held 27 v d p) :
    ∃ T : Treaty, ∃ (a1 a2 a3 a4 : Option Addr) (c1 c2 c3 c4 : Nat), v = .agg #[.int .i64 T.places, .slice a1 T.ways.length c1, .slice a2 T.words.length c2, .slice a3 T.starts.length c3, .slice a4 T.legs.length c4] ∧ TRepQ W T a1 a2 a3 a4 := by
  obtain ⟨cs, rfl, hsz⟩ := okWide_struct Try.underlying27 hv
  obtain ⟨v0, v1, v2, v3, v4, rfl⟩ := array5 (hsz.trans cellsOf27)
  obtain ⟨fuel, hf⟩ := h
  obtain ⟨xs, n, _, _, _, hxl, hf⟩ := DataW.trod_struct Try.underlying27 hf
  obtain ⟨y0, y1, y2, y3, y4, rfl⟩ := listFive hxl
  have g0 : DataW.trod enc Try.prog W base spare held n 3 [v0] = some y0 := by simpa [Value.cells, cellsOf3, cellsOf22, cellsOf23, cellsOf24, cellsOf25] using hf 0 _ rfl
  have g1 : DataW.trod enc Try.prog W base spare held n 22 [v1] = some y1 := by simpa [Value.cells, cellsOf3, cellsOf22, cellsOf23, cellsOf24, cellsOf25] using hf 1 _ rfl
  have g2 : DataW.trod enc Try.prog W base spare held n 23 [v2] = some y2 := by simpa [Value.cells, cellsOf3, cellsOf22, cellsOf23, cellsOf24, cellsOf25] using hf 2 _ rfl
  have g3 : DataW.trod enc Try.prog W base spare held n 24 [v3] = some y3 := by simpa [Value.cells, cellsOf3, cellsOf22, cellsOf23, cellsOf24, cellsOf25] using hf 3 _ rfl
  have g4 : DataW.trod enc Try.prog W base spare held n 25 [v4] = some y4 := by simpa [Value.cells, cellsOf3, cellsOf22, cellsOf23, cellsOf24, cellsOf25] using hf 4 _ rfl
  obtain ⟨x0, e0, _, _⟩ := DataW.trod_int Try.underlying3 g0
  obtain ⟨A1, d1, l1, rfl, i1⟩ := waysQ_of g1
  obtain ⟨A2, d2, l2, rfl, i2⟩ := wordsQ_of g2
  obtain ⟨A3, d3, l3, rfl, i3⟩ := intsQ_of g3
  obtain ⟨A4, d4, l4, rfl, i4⟩ := legsQ_of g4
  cases e0
  exact ⟨⟨x0, l1, l2, l3, l4⟩, A1, A2, A3, A4, d1, d2, d3, d4, rfl, i1, i2, i3, i4⟩
set_option maxRecDepth 100000 in
theorem intsQ_arg {v : Value} {r : Reach} {b0 : Nat} {d : DataW H} {p : List MemPlace} (hv : Value.okWide Try.prog W r b0 24 v) (h : DataW.Trod enc Try.prog W base spare held 24 v d p) : ∃ A c, ∃ l : List Int, v = .slice A l.length c ∧ IntsQ W A l := by
  obtain ⟨a0, len0, cap0, rfl⟩ := okWide_slice Try.underlying24 hv
  obtain ⟨fuel, hf⟩ := h
  exact intsQ_of (by simpa [Value.cells] using hf)
set_option maxRecDepth 100000 in
theorem listsQ_arg {v : Value} {r : Reach} {b0 : Nat} {d : DataW H} {p : List MemPlace} (hv : Value.okWide Try.prog W r b0 41 v) (h : DataW.Trod enc Try.prog W base spare held 41 v d p) : ∃ A c, ∃ l : List (List Int), v = .slice A l.length c ∧ ListsQ W A l := by
  obtain ⟨a0, len0, cap0, rfl⟩ := okWide_slice Try.underlying41 hv
  obtain ⟨fuel, hf⟩ := h
  exact listsQ_of (by simpa [Value.cells] using hf)
end
end Go.Proofs
end

section
/- Walks: the law TreatyLines (3). -/
namespace Go.Proofs
open Go.RowKit

theorem box5 {X : World} {g : Nat} {t : TypeId} {p v1 v2 v3 v4 : Value} (h : Blk X g t #[p, v1, v2, v3, v4]) : X.cell? ⟨g, 0, none⟩ = some p ∧ X.cell? ⟨g, 1, none⟩ = some v1 ∧ X.cell? ⟨g, 2, none⟩ = some v2 ∧ X.cell? ⟨g, 3, none⟩ = some v3 ∧ X.cell? ⟨g, 4, none⟩ = some v4 :=
  ⟨h.cell 0, h.cell 1, h.cell 2, h.cell 3, h.cell 4⟩
theorem lists2 {X : World} {l m : List Int} {A B : Option Addr} {c d : Nat} (h1 : IntsQ X A l) (h2 : IntsQ X B m) : ListsQ (X.alloc (.cells #[.slice A l.length c, .slice B m.length d] 24)) (some ⟨X.heap.size, 0, none⟩) [l, m] :=
  .inr ⟨_, 0, rfl, (al1 _ _ _).lt, fun i hi => by
    match i, hi with
    | 0, _ => exact ⟨[.slice A l.length c], rfl, ⟨A, c, rfl, h1.aft (Aft.alloc _ _)⟩, fun j hj => by match j, hj with | 0, _ => exact (al1 X 24 #[.slice A l.length c, .slice B m.length d]).cell 0⟩
    | 1, _ => exact ⟨[.slice B m.length d], rfl, ⟨B, d, rfl, h2.aft (Aft.alloc _ _)⟩, fun j hj => by match j, hj with | 0, _ => exact (al1 X 24 #[.slice A l.length c, .slice B m.length d]).cell 1⟩⟩

set_option maxRecDepth 100000 in
set_option maxHeartbeats 8000000 in
theorem linesLaw_any (w : World) (T : Treaty) (a1 a2 a3 a4 : Option Addr) (c1 c2 c3 c4 : Nat) (R l : List Int) (AR Al : Option Addr) (cR cl : Nat) (hT : TRepQ w T a1 a2 a3 a4) (hR : IntsQ w AR R) (hl : IntsQ w Al l) :
    Calls Try.prog 3 #[.agg #[.int .i64 T.places, .slice a1 T.ways.length c1, .slice a2 T.words.length c2, .slice a3 T.starts.length c3, .slice a4 T.legs.length c4], .slice AR R.length cR, .slice Al l.length cl] w fun e w' => e = .returned (.bool true) ∧ Aft w w' := by
  have hb := Blk.new w 27 #[.int .i64 T.places, .slice a1 T.ways.length c1, .slice a2 T.words.length c2, .slice a3 T.starts.length c3, .slice a4 T.legs.length c4]
  have HA := Lib.hid (Aft.alloc w (.cells #[.int .i64 T.places, .slice a1 T.ways.length c1, .slice a2 T.words.length c2, .slice a3 T.starts.length c3, .slice a4 T.legs.length c4] 27))
  have HT := Lib.hid (hT.aft HA.out)
  have HR := Lib.hid (hR.aft HA.out)
  have HL := Lib.hid (hl.aft HA.out)
  clear hT hR hl
  go_enter Try.func3, Try.ntmps3
  go_upto_region 1 with fail
  generalize w.alloc (.cells #[.int .i64 T.places, .slice a1 T.ways.length c1, .slice a2 T.words.length c2, .slice a3 T.starts.length c3, .slice a4 T.legs.length c4] 27) = X at *
  generalize w.heap.size = B3 at *
  obtain ⟨k0, k1, k2, k3, k4⟩ := box5 hb
  have HB := Lib.hid hb
  clear hb
  (repeat (first | go_big_skip | go_big_want | go_big_move | go_big_op | go_step | go_upon | go_back))
  go_at_call 8
  refine (short_any _ T a1 a2 a3 a4 c1 c2 c3 c4 6 32 [R, l] (some ⟨X.heap.size, 0, none⟩) 2 (HT.out.aft (Aft.alloc _ _)) (lists2 HR.out HL.out) (by simp) (by decide)).mono ?_
  rintro e y ⟨bb, rfl, hok, ha⟩
  dsimp only
  have hay := (Aft.alloc X (.cells #[.slice AR R.length cR, .slice Al l.length cl] 24)).trans ha
  have HA := Lib.hid (HA.out.trans hay)
  have HT := Lib.hid (HT.out.aft hay)
  have HR := Lib.hid (HR.out.aft hay)
  have HL := Lib.hid (HL.out.aft hay)
  have HB := Lib.hid (HB.out.aft hay)
  have HOK := Lib.hid hok
  clear hok ha hay k0 k1 k2 k3 k4
  cases bb with
  | false =>
    (repeat (first | go_big_skip | go_big_want | go_big_move | go_big_op | go_step | go_upon | go_back))
    go_at_call 9
    refine (awake_any _).mono ?_
    rintro e z ⟨rfl, ha⟩
    dsimp only
    (repeat (first | go_big_skip | go_big_want | go_big_move | go_big_op | go_step | go_upon | go_back))
    go_ret
    exact ⟨rfl, HA.out.trans ha⟩
  | true =>
    have hok := HOK.out rfl
    have HT : Hid (TRep y T a1 a2 a3 a4) := Lib.hid (HT.out.small hok)
    have HR : Hid (Ints y AR R) := Lib.hid (HR.out.small (by have := hok.2.2.2.2.2 R (by simp); omega))
    have HL : Hid (Ints y Al l) := Lib.hid (HL.out.small (by have := hok.2.2.2.2.2 l (by simp); omega))
    obtain ⟨k0, k1, k2, k3, k4⟩ := box5 HB.out
    (repeat (first | go_big_skip | go_big_want | go_big_move | go_big_op | go_step | go_upon | go_back))
    go_at_call 10
    refine (cloneTreaty_any y T a1 a2 a3 a4 c1 c2 c3 c4 HT.out (by have := hok.1; omega) (by have := hok.2.1; omega) (by have := hok.2.2.1; omega) (by have := hok.2.2.2.1; omega) (fun l hl => by have := (hok.2.2.2.2.1 l hl).1; omega)).mono ?_
    rintro e Y1 ⟨d1, d2, d3, d4, f1, f2, f3, f4, S, rfl, -, ha, hsup, -, -⟩
    dsimp only
    have HU := Lib.hid hsup.self
    have HOK := Lib.hid hok
    have HA := Lib.hid (HA.out.trans ha)
    have HT := Lib.hid (HT.out.aft ha)
    have HR := Lib.hid (HR.out.aft ha)
    have HL := Lib.hid (HL.out.aft ha)
    have HB := Lib.hid (HB.out.aft ha)
    clear hok hsup ha k0 k1 k2 k3 k4
    (repeat (first | go_big_skip | go_big_want | go_big_move | go_big_op | go_step | go_upon | go_back))
    go_at_call 11
    refine (kitClone_int AR R cR Y1 HR.out).mono ?_
    rintro e Y2 ⟨vM, rfl, hown, ha⟩
    dsimp only
    obtain ⟨AM, cM, rfl, -, hm⟩ := own_ints hown HR.out.len
    have HM := Lib.hid hm
    have HU := Lib.hid (HU.out.aft ha)
    have HA := Lib.hid (HA.out.trans ha)
    have HT := Lib.hid (HT.out.aft ha)
    have HR := Lib.hid (HR.out.aft ha)
    have HL := Lib.hid (HL.out.aft ha)
    have HB := Lib.hid (HB.out.aft ha)
    clear hown hm ha
    (repeat (first | go_big_skip | go_big_want | go_big_move | go_big_op | go_step | go_upon | go_back))
    go_at_call 11
    refine (kitClone_int Al l cl Y2 HL.out).mono ?_
    rintro e Y3 ⟨vN, rfl, hown, ha⟩
    dsimp only
    obtain ⟨AN, cN, rfl, -, hm⟩ := own_ints hown HL.out.len
    have ha2 := ha.then_alloc (.cells #[.int .i64 T.places, .slice d1 T.ways.length f1, .slice d2 T.words.length f2, .slice d3 T.starts.length f3, .slice d4 T.legs.length f4] 27)
    have HN := Lib.hid (hm.aft (Aft.alloc _ (.cells #[.int .i64 T.places, .slice d1 T.ways.length f1, .slice d2 T.words.length f2, .slice d3 T.starts.length f3, .slice d4 T.legs.length f4] 27)))
    have hb7 := Blk.new Y3 27 #[.int .i64 T.places, .slice d1 T.ways.length f1, .slice d2 T.words.length f2, .slice d3 T.starts.length f3, .slice d4 T.legs.length f4]
    have HM := Lib.hid (HM.out.aft ha2)
    have HU := Lib.hid (HU.out.aft ha2)
    have HA := Lib.hid (HA.out.trans ha2)
    have HT := Lib.hid (HT.out.aft ha2)
    have HR := Lib.hid (HR.out.aft ha2)
    have HL := Lib.hid (HL.out.aft ha2)
    have HB := Lib.hid (HB.out.aft ha2)
    clear hown hm ha ha2
    go_upto_region 4 with fail
    generalize Y3.alloc (.cells #[.int .i64 T.places, .slice d1 T.ways.length f1, .slice d2 T.words.length f2, .slice d3 T.starts.length f3, .slice d4 T.legs.length f4] 27) = Y at *
    generalize Y3.heap.size = B7 at *
    have HB7 := Lib.hid hb7
    clear hb7
    obtain ⟨k0, k1, k2, k3, k4⟩ := box5 HB.out
    (repeat (first | go_big_skip | go_big_want | go_big_move | go_big_op | go_step | go_upon | go_back))
    go_at_call 12
    have hok := HOK.out
    refine (treatyRef_any Y T a1 a2 a3 a4 c1 c2 c3 c4 HT.out (by have := hok.1; omega) (by have := hok.2.1; omega) (by have := hok.2.2.2.1; omega) (by have := hok.2.2.1; omega) (fun l hl => by have := (hok.2.2.2.2.1 l hl).1; omega)).mono ?_
    rintro e Y4 ⟨g1, g2, g3, g4, h1, h2, h3, h4, rfl, ha, hg⟩
    dsimp only
    have ha2 := ha.then_alloc (.cells #[.int .i64 T.places, .slice g1 T.ways.length h1, .slice g2 T.words.length h2, .slice g3 T.starts.length h3, .slice g4 T.legs.length h4] 36)
    have HG := Lib.hid (hg.aft (Aft.alloc _ (.cells #[.int .i64 T.places, .slice g1 T.ways.length h1, .slice g2 T.words.length h2, .slice g3 T.starts.length h3, .slice g4 T.legs.length h4] 36)))
    have hb10 := Blk.new Y4 36 #[.int .i64 T.places, .slice g1 T.ways.length h1, .slice g2 T.words.length h2, .slice g3 T.starts.length h3, .slice g4 T.legs.length h4]
    have HN := Lib.hid (HN.out.aft ha2)
    have HM := Lib.hid (HM.out.aft ha2)
    have HU := Lib.hid (HU.out.aft ha2)
    have HA := Lib.hid (HA.out.trans ha2)
    have HT := Lib.hid (HT.out.aft ha2)
    have HR := Lib.hid (HR.out.aft ha2)
    have HL := Lib.hid (HL.out.aft ha2)
    have HB := Lib.hid (HB.out.aft ha2)
    have HB7 := Lib.hid (HB7.out.aft ha2)
    have HLL : Hid (T.legs.length ≤ 1000 ∧ T.words.length ≤ 1000) := Lib.hid ⟨by have := hok.2.2.2.1; omega, by have := hok.2.1; omega⟩
    clear hok hg ha ha2 k0 k1 k2 k3 k4 HOK
    go_upto_region 5 with fail
    generalize Y4.alloc (.cells #[.int .i64 T.places, .slice g1 T.ways.length h1, .slice g2 T.words.length h2, .slice g3 T.starts.length h3, .slice g4 T.legs.length h4] 36) = Z at *
    generalize Y4.heap.size = B10 at *
    have HB10 := Lib.hid hb10
    clear hb10
    obtain ⟨E1, hE1⟩ : ∃ E, checkE T = E := ⟨_, rfl⟩
    have HCP := Lib.hid (fun (y : World) (hy : Aft Z y) => check_any T d1 d2 d3 d4 f1 f2 f3 f4 y (HU.out.aft hy))
    have HCR := Lib.hid (fun (y : World) (hy : Aft Z y) => checkRef_any y T g1 g2 g3 g4 h1 h2 h3 h4 (HG.out.aft hy))
    rw [hE1] at HCP HCR
    have hne : (E1 != E1) = false := by simp
    clear hE1
    have hmx : Try.prog.follows .mixedOrders = true := by kernel_rfl
    refine wp_region_vals hmx 119 rfl (by kernel_rfl) [.agg #[.int .i64 T.places, .slice d1 T.ways.length f1, .slice d2 T.words.length f2, .slice d3 T.starts.length f3, .slice d4 T.legs.length f4], .int .i64 E1, .agg #[.int .i64 T.places, .slice g1 T.ways.length h1, .slice g2 T.words.length h2, .slice g3 T.starts.length h3, .slice g4 T.legs.length h4], .int .i64 E1, .bool false] rfl (fun X => Aft Z X) (Aft.drew _) ?step ?fin
    case step =>
      intro i' o v ho hv a X hk hX K hK
      match i', ho, hv with
      | 0, ho, hv =>
        cases ho; cases hv
        have e_7 : a.eval (.tmp 7) = .pointer (some ⟨B7, 0, none⟩) := (hk.same 7 (by decide)).trans rfl
        obtain ⟨k0, k1, k2, k3, k4⟩ := box5 (HB7.out.aft hX)
        exact op_val (by simp [go_sem, ev' e_7, k0, k1, k2, k3, k4]) (hK _ hX)
      | 1, ho, hv =>
        cases ho; cases hv
        have e_32 : a.eval (.tmp 32) = .agg #[.int .i64 T.places, .slice d1 T.ways.length f1, .slice d2 T.words.length f2, .slice d3 T.starts.length f3, .slice d4 T.legs.length f4] := hk.at_ 0 _ 32 _ rfl (by decide) _ rfl rfl rfl
        refine op_call1 Try.func13 (by kernel_rfl) (by kernel_rfl) _ rfl e_32 (HCP.out X hX) ?_
        rintro e x6 ⟨rfl, ha⟩
        exact ⟨_, rfl, hK _ (hX.trans ha)⟩
      | 2, ho, hv =>
        cases ho; cases hv
        have e_10 : a.eval (.tmp 10) = .pointer (some ⟨B10, 0, none⟩) := (hk.same 10 (by decide)).trans rfl
        obtain ⟨k0, k1, k2, k3, k4⟩ := box5 (HB10.out.aft hX)
        exact op_val (by simp [go_sem, ev' e_10, k0, k1, k2, k3, k4]) (hK _ hX)
      | 3, ho, hv =>
        cases ho; cases hv
        have e_34 : a.eval (.tmp 34) = .agg #[.int .i64 T.places, .slice g1 T.ways.length h1, .slice g2 T.words.length h2, .slice g3 T.starts.length h3, .slice g4 T.legs.length h4] := hk.at_ 2 _ 34 _ rfl (by decide) _ rfl rfl rfl
        refine op_call1 Try.func14 (by kernel_rfl) (by kernel_rfl) _ rfl e_34 (HCR.out X hX) ?_
        rintro e x6 ⟨rfl, ha⟩
        exact ⟨_, rfl, hK _ (hX.trans ha)⟩
      | 4, ho, hv =>
        cases ho; cases hv
        have e_33 : a.eval (.tmp 33) = .int .i64 E1 := hk.at_ 1 _ 33 _ rfl (by decide) _ rfl rfl rfl
        have e_35 : a.eval (.tmp 35) = .int .i64 E1 := hk.at_ 3 _ 35 _ rfl (by decide) _ rfl rfl rfl
        exact op_val (by simp [go_sem, ev' e_33, ev' e_35, hne]) (hK _ hX)
      | _ + 5, ho, _ => cases ho
    case fin =>
      intro X6 hX6
      simp only [List.zip_cons_cons, List.zip_nil_right, putAll, Act.put, List.setIfInBounds_toArray, List.set_cons_succ, List.set_cons_zero]
      have HZ := Lib.hid hX6
      clear HCP HCR hne hmx hX6
      obtain ⟨E2, hE2⟩ : ∃ E, linesE T R = E := ⟨_, rfl⟩
      obtain ⟨L2, hL2⟩ : ∃ L, lnsX T R = L := ⟨_, rfl⟩
      have HC1 := Lib.hid (fun (y : World) (hy : Aft Z y) => (lines_any y T d1 d2 d3 d4 f1 f2 f3 f4 R AM cM (HU.out.aft hy) (HM.out.aft hy)).mono fun e w' h => linesR_uni HLL.out.1 h)
      have HC2 := Lib.hid (fun (y : World) (hy : Aft Z y) => (linesTopRef (fun w T a1 a2 a3 a4 c1 c2 c3 c4 hT => checkRef_any w T a1 a2 a3 a4 c1 c2 c3 c4 hT) y T g1 g2 g3 g4 h1 h2 h3 h4 R AR cR (HG.out.aft hy) (HR.out.aft hy)).mono fun e w' h => linesR_uni HLL.out.1 h)
      simp only [LinesU, hE2, hL2] at HC1 HC2
      have hne : (E2 != E2) = false := by simp
      clear hE2 hL2
      obtain ⟨k0, k1, k2, k3, k4⟩ := box5 (HB7.out.aft HZ.out)
      (repeat (first | go_big_skip | go_big_want | go_big_move | go_big_op | go_step | go_upon | go_back))
      go_at_call 15
      refine (HC1.out _ HZ.out).mono ?_
      rintro e X7 ⟨ha, A1, e1, rfl, hli⟩
      dsimp only
      have HZ := Lib.hid (HZ.out.trans ha)
      have HL1 := Lib.hid hli
      clear hli ha k0 k1 k2 k3 k4
      obtain ⟨k0, k1, k2, k3, k4⟩ := box5 (HB10.out.aft HZ.out)
      (repeat (first | go_big_skip | go_big_want | go_big_move | go_big_op | go_step | go_upon | go_back))
      go_at_call 16
      refine (HC2.out _ HZ.out).mono ?_
      rintro e X8 ⟨ha, A2, e2, rfl, hli⟩
      dsimp only
      have HZ := Lib.hid (HZ.out.trans ha)
      have HL1 := Lib.hid (HL1.out.aft ha)
      have HL2 := Lib.hid hli
      clear hli ha k0 k1 k2 k3 k4 HC1 HC2
      (repeat (first | go_big_skip | go_big_want | go_big_move | go_big_op | go_step | go_upon | go_back))
      go_at_call 17
      refine (equalAll_any _ A1 A2 L2 L2 e1 e2 HL1.out HL2.out).mono ?_
      rintro e X9 ⟨rfl, ha⟩
      dsimp only
      rw [eqB_self]
      have HZ := Lib.hid (HZ.out.trans ha)
      clear ha hne HL1 HL2
      obtain ⟨E3, hE3⟩ : ∃ E, breaksE T R l = E := ⟨_, rfl⟩
      obtain ⟨L3, hL3⟩ : ∃ L, brkX T R l = L := ⟨_, rfl⟩
      have HC1 := Lib.hid (fun (y : World) (hy : Aft Z y) => (breaks_any y T d1 d2 d3 d4 f1 f2 f3 f4 R AM cM l AN cN (HU.out.aft hy) (HM.out.aft hy) (HN.out.aft hy)).mono fun e w' h => breaksR_uni HLL.out.1 h)
      have HC2 := Lib.hid (fun (y : World) (hy : Aft Z y) => (breaksTopRef (fun w T a1 a2 a3 a4 c1 c2 c3 c4 hT => checkRef_any w T a1 a2 a3 a4 c1 c2 c3 c4 hT) y T g1 g2 g3 g4 h1 h2 h3 h4 R AR cR l Al cl (HG.out.aft hy) (HR.out.aft hy) (HL.out.aft hy)).mono fun e w' h => breaksR_uni HLL.out.1 h)
      simp only [BreaksU, hE3, hL3] at HC1 HC2
      have hne : (E3 != E3) = false := by simp
      clear hE3 hL3
      obtain ⟨k0, k1, k2, k3, k4⟩ := box5 (HB7.out.aft HZ.out)
      (repeat (first | go_big_skip | go_big_want | go_big_move | go_big_op | go_step | go_upon | go_back))
      go_at_call 18
      refine (HC1.out _ HZ.out).mono ?_
      rintro e X10 ⟨ha, A3, e3, rfl, hli⟩
      dsimp only
      have HZ := Lib.hid (HZ.out.trans ha)
      have HL1 := Lib.hid hli
      clear hli ha k0 k1 k2 k3 k4
      obtain ⟨k0, k1, k2, k3, k4⟩ := box5 (HB10.out.aft HZ.out)
      (repeat (first | go_big_skip | go_big_want | go_big_move | go_big_op | go_step | go_upon | go_back))
      go_at_call 19
      refine (HC2.out _ HZ.out).mono ?_
      rintro e X11 ⟨ha, A4, e4, rfl, hli⟩
      dsimp only
      have HZ := Lib.hid (HZ.out.trans ha)
      have HL1 := Lib.hid (HL1.out.aft ha)
      have HL2 := Lib.hid hli
      clear hli ha k0 k1 k2 k3 k4 HC1 HC2
      (repeat (first | go_big_skip | go_big_want | go_big_move | go_big_op | go_step | go_upon | go_back))
      go_at_call 20
      refine (kitEqual_int A3 A4 L3 L3 e3 e4 _ HL1.out HL2.out).mono ?_
      rintro e X12 ⟨rfl, ha⟩
      dsimp only
      rw [eqB_self]
      have HZ := Lib.hid (HZ.out.trans ha)
      clear ha hne HL1 HL2
      obtain ⟨E4, hE4⟩ : ∃ E, agrE T l = E := ⟨_, rfl⟩
      obtain ⟨L4, hL4⟩ : ∃ L, agrX T l = L := ⟨_, rfl⟩
      have HC1 := Lib.hid (fun (y : World) (hy : Aft Z y) => agrees_uni (c1 := f1) (c2 := f2) (c3 := f3) (c4 := f4) y l AN cN ((HU.out.aft hy)) (HN.out.aft hy) HLL.out.2 |>.mono fun e w' h => show (Aft y w' ∧ ∃ A c, e = .returned (.tuple #[.slice A (agrX T l).length c, .int .i64 (agrE T l)]) ∧ Ints w' A (agrX T l)) from h)
      have HC2 := Lib.hid (fun (y : World) (hy : Aft Z y) => agreesRef_uni (c1 := h1) (c2 := h2) (c3 := h3) (c4 := h4) y l Al cl (HG.out.aft hy) (HL.out.aft hy) |>.mono fun e w' h => show (Aft y w' ∧ ∃ A c, e = .returned (.tuple #[.slice A (agrX T l).length c, .int .i64 (agrE T l)]) ∧ Ints w' A (agrX T l)) from h)
      simp only [hE4, hL4] at HC1 HC2
      have hne : (E4 == E4) = true := by simp
      clear hE4 hL4
      obtain ⟨k0, k1, k2, k3, k4⟩ := box5 (HB7.out.aft HZ.out)
      (repeat (first | go_big_skip | go_big_want | go_big_move | go_big_op | go_step | go_upon | go_back))
      go_at_call 21
      refine (HC1.out _ HZ.out).mono ?_
      rintro e X13 ⟨ha, A5, e5, rfl, hli⟩
      dsimp only
      have HZ := Lib.hid (HZ.out.trans ha)
      have HL1 := Lib.hid hli
      clear hli ha k0 k1 k2 k3 k4
      obtain ⟨k0, k1, k2, k3, k4⟩ := box5 (HB10.out.aft HZ.out)
      (repeat (first | go_big_skip | go_big_want | go_big_move | go_big_op | go_step | go_upon | go_back))
      go_at_call 22
      refine (HC2.out _ HZ.out).mono ?_
      rintro e X14 ⟨ha, A6, e6, rfl, hli⟩
      dsimp only
      have HZ := Lib.hid (HZ.out.trans ha)
      have HL1 := Lib.hid (HL1.out.aft ha)
      have HL2 := Lib.hid hli
      clear hli ha k0 k1 k2 k3 k4 HC1 HC2
      (repeat (first | go_big_skip | go_big_want | go_big_move | go_big_op | go_step | go_upon | go_back))
      go_at_call 20
      refine (kitEqual_int A5 A6 L4 L4 e5 e6 _ HL1.out HL2.out).mono ?_
      rintro e X15 ⟨rfl, ha⟩
      dsimp only
      rw [eqB_self]
      have HZ := Lib.hid (HZ.out.trans ha)
      clear ha hne HL1 HL2
      obtain ⟨k0, k1, k2, k3, k4⟩ := box5 (HB7.out.aft HZ.out)
      obtain ⟨m0, m1, m2, m3, m4⟩ := box5 (HB.out.aft HZ.out)
      (repeat (first | go_big_skip | go_big_want | go_big_move | go_big_op | go_step | go_upon | go_back))
      go_at_call 23
      refine (equal_same _ T d1 d2 d3 d4 f1 f2 f3 f4 a1 a2 a3 a4 c1 c2 c3 c4 (HU.out.aft HZ.out) (HT.out.aft HZ.out)).mono ?_
      rintro e X16 ⟨rfl, ha⟩
      dsimp only
      have HZ := Lib.hid (HZ.out.trans ha)
      clear ha k0 k1 k2 k3 k4 m0 m1 m2 m3 m4
      (repeat (first | go_big_skip | go_big_want | go_big_move | go_big_op | go_step | go_upon | go_back))
      go_at_call 20
      refine (kitEqual_int AM AR R R cM cR _ (HM.out.aft HZ.out) (HR.out.aft HZ.out)).mono ?_
      rintro e X17 ⟨rfl, ha⟩
      dsimp only
      rw [eqB_self]
      have HZ := Lib.hid (HZ.out.trans ha)
      clear ha
      (repeat (first | go_big_skip | go_big_want | go_big_move | go_big_op | go_step | go_upon | go_back))
      go_at_call 20
      refine (kitEqual_int AN Al l l cN cl _ (HN.out.aft HZ.out) (HL.out.aft HZ.out)).mono ?_
      rintro e X18 ⟨rfl, ha⟩
      dsimp only
      rw [eqB_self]
      have HZ := Lib.hid (HZ.out.trans ha)
      clear ha
      (repeat (first | go_big_skip | go_big_want | go_big_move | go_big_op | go_step | go_upon | go_back))
      go_at_call 9
      refine (awake_any _).mono ?_
      rintro e X19 ⟨rfl, ha⟩
      dsimp only
      have HZ := Lib.hid (HZ.out.trans ha)
      clear ha
      (repeat (first | go_big_skip | go_big_want | go_big_move | go_big_op | go_step | go_upon | go_back))
      go_ret
      exact ⟨rfl, HA.out.trans HZ.out⟩
end Go.Proofs
end
