/- Own texts, merged: Opn Lyl. -/
import Derived.Test.YtfliejmidnnggaaY22
import Derived.ProofKit
import Derived.Deep.Slices
import Derived.Deep.Strs
import Derived.ChangeArms
import Derived.OpenShut
import Derived.BigGuard
section
/- What comes in as data, told as lists: slices of numbers, of lists, of records; a treaty. -/
namespace Go.Proofs
open Go.RowKit Go.WideShapes Go.ChangeShapes

theorem listTwo {α : Type} {l : List α} (h : l.length = 2) : ∃ a b, l = [a, b] := by
  match l, h with
  | [a, b], _ => exact ⟨a, b, rfl⟩
theorem listThree {α : Type} {l : List α} (h : l.length = 3) : ∃ a b c, l = [a, b, c] := by
  match l, h with
  | [a, b, c], _ => exact ⟨a, b, c, rfl⟩
theorem listOne {α : Type} {l : List α} (h : l.length = 1) : ∃ a, l = [a] := by
  match l, h with
  | [a], _ => exact ⟨a, rfl⟩
theorem listFive {α : Type} {l : List α} (h : l.length = 5) : ∃ a b c d e, l = [a, b, c, d, e] := by
  match l, h with
  | [a, b, c, d, e], _ => exact ⟨a, b, c, d, e, rfl⟩
section
variable {H : Type} {enc : TypeId × Value → H} {W : World} {base : Nat} {spare : Nat → Bool} {held : Bool}

theorem rowsQ_of {α : Type} [Inhabited α] {t e : TypeId} {sz fuel : Nat} {R : World → α → List Value → Prop} {v : Value} {y : DataW H × List MemPlace} (ht : Try.prog.underlying t = some (.slice e)) (hsz : Try.prog.cellsOf e = sz) (hp : 0 < sz)
    (hR : ∀ n cs y, cs.length = sz → DataW.trod enc Try.prog W base spare held n e cs = some y → ∃ x : α, R W x cs) (h : DataW.trod enc Try.prog W base spare held fuel t [v] = some y) :
    ∃ A c, ∃ l : List α, v = .slice A l.length c ∧ RowsQ W A sz R l := by
  rcases Go.Deep.open_slice ht h with ⟨hcs, _⟩ | ⟨a, len, cap, m, n, D, Pl, hcs, _, hl, _, hm, _, hx⟩
  · cases hcs
    exact ⟨none, 0, [], rfl, .inl rfl⟩
  · cases hcs
    have hlm : len ≤ m := by rw [hm]; split <;> omega
    obtain ⟨f, hf⟩ := Go.Deep.choose_lt (n := len) (p := fun i x => ∃ cs', W.cells? base (a.add (i * sz)) sz = some cs' ∧ R W x cs') (fun i hi => by
      obtain ⟨cs', h1, h2⟩ := hx i (by omega)
      rw [hsz] at h1
      obtain ⟨_, hlen, _⟩ := World.cells?_some h1
      obtain ⟨x, hx⟩ := hR _ _ _ hlen h2
      exact ⟨x, cs', h1, hx⟩)
    refine ⟨some a, cap, (List.range len).map f, by simp, ?_⟩
    by_cases h0 : len = 0
    · exact .inl (by rw [h0]; rfl)
    obtain ⟨b, off, spot⟩ := a
    obtain ⟨cs0, h1, -⟩ := hf 0 (by omega)
    obtain ⟨_, hlen, hcell⟩ := World.cells?_some h1
    have h00 := hcell 0 hp
    rw [List.getElem?_eq_getElem (by omega)] at h00
    have hspot : spot = none := by simpa [Addr.add] using World.cell?_spot h00
    subst hspot
    have hb : b < W.heap.size := by
      have := World.block_lt_of_cell? _ _ h00
      simpa [add_plain] using this
    refine .inr ⟨b, off, rfl, hb, fun i hi => ?_⟩
    have hi' : i < len := by simpa using hi
    obtain ⟨cs', h1, h2⟩ := hf i hi'
    obtain ⟨_, hlen, hcell⟩ := World.cells?_some h1
    refine ⟨cs', hlen, by simpa using h2, fun j hj => ?_⟩
    have := hcell j (by omega)
    rw [add_plain, add_plain, List.getElem?_eq_getElem hj] at this
    exact this
theorem intR_of {n : Nat} {cs : List Value} {y : DataW H × List MemPlace} (h : DataW.trod enc Try.prog W base spare held n 3 cs = some y) : ∃ x : Int, IntR W x cs := by
  obtain ⟨x, rfl, _, _⟩ := DataW.trod_int Try.underlying3 h
  exact ⟨x, rfl⟩
theorem intsQ_of {fuel : Nat} {v : Value} {y : DataW H × List MemPlace} (h : DataW.trod enc Try.prog W base spare held fuel 24 [v] = some y) : ∃ A c, ∃ l : List Int, v = .slice A l.length c ∧ IntsQ W A l :=
  rowsQ_of Try.underlying24 (by kernel_rfl) (by decide) (fun _ _ _ _ h => intR_of h) h
theorem listsQ_of {fuel : Nat} {v : Value} {y : DataW H × List MemPlace} (h : DataW.trod enc Try.prog W base spare held fuel 41 [v] = some y) : ∃ A c, ∃ l : List (List Int), v = .slice A l.length c ∧ ListsQ W A l :=
  rowsQ_of Try.underlying41 (by kernel_rfl) (by decide) (fun _ cs _ hl h => by
    obtain ⟨v, rfl⟩ := listOne hl
    obtain ⟨A, c, l, rfl, hi⟩ := intsQ_of h
    exact ⟨l, A, c, rfl, hi⟩) h
instance : Inhabited Way := ⟨⟨0, 0, 0⟩⟩
instance : Inhabited Leg := ⟨⟨0, 0⟩⟩
instance : Inhabited Mean := ⟨⟨[], []⟩⟩
theorem cellsOf3 : Try.prog.cellsOf 3 = 1 := by kernel_rfl
theorem cellsOf22 : Try.prog.cellsOf 22 = 1 := by kernel_rfl
theorem cellsOf23 : Try.prog.cellsOf 23 = 1 := by kernel_rfl
theorem cellsOf24 : Try.prog.cellsOf 24 = 1 := by kernel_rfl
theorem cellsOf27 : Try.prog.cellsOf 27 = 5 := by kernel_rfl
theorem cellsOf25 : Try.prog.cellsOf 25 = 1 := by kernel_rfl
theorem waysQ_of {fuel : Nat} {v : Value} {y : DataW H × List MemPlace} (h : DataW.trod enc Try.prog W base spare held fuel 22 [v] = some y) : ∃ A c, ∃ l : List Way, v = .slice A l.length c ∧ RowsQ W A 3 WayR l :=
  rowsQ_of Try.underlying22 (by kernel_rfl) (by decide) (fun _ cs _ hl h => by
    obtain ⟨xs, n, _, _, _, hxl, hf⟩ := DataW.trod_struct Try.underlying86 h
    obtain ⟨y0, y1, y2, rfl⟩ := listThree hxl
    obtain ⟨v0, v1, v2, rfl⟩ := listThree hl
    have g0 : DataW.trod enc Try.prog W base spare held n 3 [v0] = some y0 := by simpa [Value.cells, cellsOf3, cellsOf22, cellsOf23, cellsOf24, cellsOf25] using hf 0 _ rfl
    have g1 : DataW.trod enc Try.prog W base spare held n 3 [v1] = some y1 := by simpa [Value.cells, cellsOf3, cellsOf22, cellsOf23, cellsOf24, cellsOf25] using hf 1 _ rfl
    have g2 : DataW.trod enc Try.prog W base spare held n 3 [v2] = some y2 := by simpa [Value.cells, cellsOf3, cellsOf22, cellsOf23, cellsOf24, cellsOf25] using hf 2 _ rfl
    obtain ⟨x0, e0, _, _⟩ := DataW.trod_int Try.underlying3 g0
    obtain ⟨x1, e1, _, _⟩ := DataW.trod_int Try.underlying3 g1
    obtain ⟨x2, e2, _, _⟩ := DataW.trod_int Try.underlying3 g2
    cases e0; cases e1; cases e2
    exact ⟨⟨x0, x1, x2⟩, rfl⟩) h
theorem legsQ_of {fuel : Nat} {v : Value} {y : DataW H × List MemPlace} (h : DataW.trod enc Try.prog W base spare held fuel 25 [v] = some y) : ∃ A c, ∃ l : List Leg, v = .slice A l.length c ∧ RowsQ W A 2 LegR l :=
  rowsQ_of Try.underlying25 (by kernel_rfl) (by decide) (fun _ cs _ hl h => by
    obtain ⟨xs, n, _, _, _, hxl, hf⟩ := DataW.trod_struct Try.underlying83 h
    obtain ⟨y0, y1, rfl⟩ := listTwo hxl
    obtain ⟨v0, v1, rfl⟩ := listTwo hl
    have g0 : DataW.trod enc Try.prog W base spare held n 3 [v0] = some y0 := by simpa [Value.cells, cellsOf3, cellsOf22, cellsOf23, cellsOf24, cellsOf25] using hf 0 _ rfl
    have g1 : DataW.trod enc Try.prog W base spare held n 3 [v1] = some y1 := by simpa [Value.cells, cellsOf3, cellsOf22, cellsOf23, cellsOf24, cellsOf25] using hf 1 _ rfl
    obtain ⟨x0, e0, _, _⟩ := DataW.trod_int Try.underlying3 g0
    obtain ⟨x1, e1, _, _⟩ := DataW.trod_int Try.underlying3 g1
    cases e0; cases e1
    exact ⟨⟨x0, x1⟩, rfl⟩) h
theorem meansQ_of {fuel : Nat} {v : Value} {y : DataW H × List MemPlace} (h : DataW.trod enc Try.prog W base spare held fuel 78 [v] = some y) : ∃ A c, ∃ l : List Mean, v = .slice A l.length c ∧ RowsQ W A 2 MeanQ l :=
  rowsQ_of Try.underlying78 (by kernel_rfl) (by decide) (fun _ cs _ hl h => by
    obtain ⟨xs, n, _, _, _, hxl, hf⟩ := DataW.trod_struct Try.underlying80 h
    obtain ⟨y0, y1, rfl⟩ := listTwo hxl
    obtain ⟨v0, v1, rfl⟩ := listTwo hl
    have g0 : DataW.trod enc Try.prog W base spare held n 24 [v0] = some y0 := by simpa [Value.cells, cellsOf3, cellsOf22, cellsOf23, cellsOf24, cellsOf25] using hf 0 _ rfl
    have g1 : DataW.trod enc Try.prog W base spare held n 24 [v1] = some y1 := by simpa [Value.cells, cellsOf3, cellsOf22, cellsOf23, cellsOf24, cellsOf25] using hf 1 _ rfl
    obtain ⟨A0, c0, l0, rfl, i0⟩ := intsQ_of g0
    obtain ⟨A1, c1, l1, rfl, i1⟩ := intsQ_of g1
    exact ⟨⟨l0, l1⟩, A0, c0, A1, c1, rfl, i0, i1⟩) h
theorem wordsQ_of {fuel : Nat} {v : Value} {y : DataW H × List MemPlace} (h : DataW.trod enc Try.prog W base spare held fuel 23 [v] = some y) : ∃ A c, ∃ l : List (List Mean), v = .slice A l.length c ∧ RowsQ W A 1 WordQ l :=
  rowsQ_of Try.underlying23 (by kernel_rfl) (by decide) (fun _ cs _ hl h => by
    obtain ⟨v, rfl⟩ := listOne hl
    obtain ⟨A, c, l, rfl, hi⟩ := meansQ_of h
    exact ⟨l, A, c, rfl, hi⟩) h
theorem array5 {α : Type} {cs : Array α} (h : cs.size = 5) : ∃ c0 c1 c2 c3 c4, cs = #[c0, c1, c2, c3, c4] := by
  obtain ⟨l⟩ := cs
  match l, h with
  | [c0, c1, c2, c3, c4], _ => exact ⟨c0, c1, c2, c3, c4, rfl⟩
set_option maxRecDepth 100000 in
theorem treatyQ_of {r : Reach} {b0 : Nat} {v : Value} {d : DataW H} {p : List MemPlace} (hv : Value.okWide Try.prog W r b0 27 v) (h : DataW.Trod enc Try.prog W base spare held 27 v d p) :
    ∃ T : Treaty, ∃ (a1 a2 a3 a4 : Option Addr) (c1 c2 c3 c4 : Nat), v = .agg #[.int .i64 T.places, .slice a1 T.ways.length c1, .slice a2 T.words.length c2, .slice a3 T.starts.length c3, .slice a4 T.legs.length c4] ∧ TRepQ W T a1 a2 a3 a4 := by
  obtain ⟨cs, rfl, hsz⟩ := okWide_struct Try.underlying27 hv
  obtain ⟨v0, v1, v2, v3, v4, rfl⟩ := array5 (hsz.trans cellsOf27)
  obtain ⟨fuel, hf⟩ := h
  obtain ⟨xs, n, _, _, _, hxl, hf⟩ := DataW.trod_struct Try.underlying27 hf
  obtain ⟨y0, y1, y2, y3, y4, rfl⟩ := listFive hxl
  have g0 : DataW.trod enc Try.prog W base spare held n 3 [v0] = some y0 := by simpa [Value.cells, cellsOf3, cellsOf22, cellsOf23, cellsOf24, cellsOf25] using hf 0 _ rfl
  have g1 : DataW.trod enc Try.prog W base spare held n 22 [v1] = some y1 := by simpa [Value.cells, cellsOf3, cellsOf22, cellsOf23, cellsOf24, cellsOf25] using hf 1 _ rfl
  have g2 : DataW.trod enc Try.prog W base spare held n 23 [v2] = some y2 := by simpa [Value.cells, cellsOf3, cellsOf22, cellsOf23, cellsOf24, cellsOf25] using hf 2 _ rfl
  have g3 : DataW.trod enc Try.prog W base spare held n 24 [v3] = some y3 := by simpa [Value.cells, cellsOf3, cellsOf22, cellsOf23, cellsOf24, cellsOf25] using hf 3 _ rfl
  have g4 : DataW.trod enc Try.prog W base spare held n 25 [v4] = some y4 := by simpa [Value.cells, cellsOf3, cellsOf22, cellsOf23, cellsOf24, cellsOf25] using hf 4 _ rfl
  obtain ⟨x0, e0, _, _⟩ := DataW.trod_int Try.underlying3 g0
  obtain ⟨A1, d1, l1, rfl, i1⟩ := waysQ_of g1
  obtain ⟨A2, d2, l2, rfl, i2⟩ := wordsQ_of g2
  obtain ⟨A3, d3, l3, rfl, i3⟩ := intsQ_of g3
  obtain ⟨A4, d4, l4, rfl, i4⟩ := legsQ_of g4
  cases e0
  exact ⟨⟨x0, l1, l2, l3, l4⟩, A1, A2, A3, A4, d1, d2, d3, d4, rfl, i1, i2, i3, i4⟩
set_option maxRecDepth 100000 in
theorem intsQ_arg {v : Value} {r : Reach} {b0 : Nat} {d : DataW H} {p : List MemPlace} (hv : Value.okWide Try.prog W r b0 24 v) (h : DataW.Trod enc Try.prog W base spare held 24 v d p) : ∃ A c, ∃ l : List Int, v = .slice A l.length c ∧ IntsQ W A l := by
  obtain ⟨a0, len0, cap0, rfl⟩ := okWide_slice Try.underlying24 hv
  obtain ⟨fuel, hf⟩ := h
  exact intsQ_of (by simpa [Value.cells] using hf)
set_option maxRecDepth 100000 in
theorem listsQ_arg {v : Value} {r : Reach} {b0 : Nat} {d : DataW H} {p : List MemPlace} (hv : Value.okWide Try.prog W r b0 41 v) (h : DataW.Trod enc Try.prog W base spare held 41 v d p) : ∃ A c, ∃ l : List (List Int), v = .slice A l.length c ∧ ListsQ W A l := by
  obtain ⟨a0, len0, cap0, rfl⟩ := okWide_slice Try.underlying41 hv
  obtain ⟨fuel, hf⟩ := h
  exact listsQ_of (by simpa [Value.cells] using hf)
end
end Go.Proofs
end

section
/- Walks: the law TreatyYields (6). -/
namespace Go.Proofs
open Go.RowKit

set_option maxRecDepth 100000 in
set_option maxHeartbeats 16000000 in
theorem yieldsLaw_any (w : World) (T : Treaty) (a1 a2 a3 a4 : Option Addr) (c1 c2 c3 c4 : Nat) (R l : List Int) (AR Al : Option Addr) (cR cl : Nat) (F : List (List Int)) (AF : Option Addr) (cF : Nat) (hT : TRepQ w T a1 a2 a3 a4) (hR : IntsQ w AR R) (hl : IntsQ w Al l) (hF : ListsQ w AF F) :
    Calls Try.prog 6 #[.agg #[.int .i64 T.places, .slice a1 T.ways.length c1, .slice a2 T.words.length c2, .slice a3 T.starts.length c3, .slice a4 T.legs.length c4], .slice AR R.length cR, .slice Al l.length cl, .slice AF F.length cF] w fun e w' => e = .returned (.bool true) ∧ Aft w w' := by
  have hb := Blk.new w 27 #[.int .i64 T.places, .slice a1 T.ways.length c1, .slice a2 T.words.length c2, .slice a3 T.starts.length c3, .slice a4 T.legs.length c4]
  have HA := Lib.hid (Aft.alloc w (.cells #[.int .i64 T.places, .slice a1 T.ways.length c1, .slice a2 T.words.length c2, .slice a3 T.starts.length c3, .slice a4 T.legs.length c4] 27))
  have HT := Lib.hid (hT.aft HA.out)
  have HR := Lib.hid (hR.aft HA.out)
  have HL := Lib.hid (hl.aft HA.out)
  have HF := Lib.hid (hF.aft HA.out)
  clear hT hR hl hF
  go_enter Try.func6, Try.ntmps6
  go_upto_region 1 with fail
  generalize w.alloc (.cells #[.int .i64 T.places, .slice a1 T.ways.length c1, .slice a2 T.words.length c2, .slice a3 T.starts.length c3, .slice a4 T.legs.length c4] 27) = X at *
  generalize w.heap.size = B3 at *
  obtain ⟨k0, k1, k2, k3, k4⟩ := boxC hb
  have HB := Lib.hid hb
  clear hb
  (repeat (first | go_big_skip | go_big_want | go_big_move | go_big_op | go_step | go_upon | go_back))
  go_at_call 8
  refine (short_any _ T a1 a2 a3 a4 c1 c2 c3 c4 5 16 [R, l] (some ⟨X.heap.size, 0, none⟩) 2 (HT.out.aft (Aft.alloc _ _)) (listsTwo HR.out HL.out) (by simp) (by decide)).mono ?_
  rintro e y ⟨bb, rfl, hok, ha⟩
  dsimp only
  have hay := (Aft.alloc X (.cells #[.slice AR R.length cR, .slice Al l.length cl] 24)).trans ha
  have HA := Lib.hid (HA.out.trans hay)
  have HT := Lib.hid (HT.out.aft hay)
  have HR := Lib.hid (HR.out.aft hay)
  have HL := Lib.hid (HL.out.aft hay)
  have HF := Lib.hid (HF.out.aft hay)
  have HB := Lib.hid (HB.out.aft hay)
  have HOK := Lib.hid hok
  clear hok ha hay k0 k1 k2 k3 k4
  cases bb with
  | false =>
    (repeat (first | go_big_skip | go_big_want | go_big_move | go_big_op | go_step | go_upon | go_back))
    go_at_call 9
    refine (awake_any _).mono ?_
    rintro e z ⟨rfl, ha⟩
    dsimp only
    (repeat (first | go_big_skip | go_big_want | go_big_move | go_big_op | go_step | go_upon | go_back))
    go_ret
    exact ⟨rfl, HA.out.trans ha⟩
  | true =>
    by_cases h15 : 15 < F.length
    · have hd15 : decide ((15 : Int) < (F.length : Int)) = true := decide_eq_true (by omega)
      (repeat (first | go_big_skip | go_big_want | go_big_move | go_big_op | go_step | go_upon | go_back))
      go_at_call 9
      refine (awake_any _).mono ?_
      rintro e z ⟨rfl, ha⟩
      dsimp only
      (repeat (first | go_big_skip | go_big_want | go_big_move | go_big_op | go_step | go_upon | go_back))
      go_ret
      exact ⟨rfl, HA.out.trans ha⟩
    · have hd15 : decide ((15 : Int) < (F.length : Int)) = false := decide_eq_false (by omega)
      have hF15 : F.length ≤ 15 := by omega
      have HOK := Lib.hid (HOK.out rfl)
      clear h15
      (repeat (first | go_big_skip | go_big_want | go_big_move | go_big_op | go_step | go_upon | go_back))
      clear hd15
      go_loopw [45] (fun i wr => ∃ k : Nat, i = .int .i64 k ∧ k ≤ F.length ∧ wr = y ∧ ∀ m ∈ F.take k, m.length ≤ 15) (fun i _ => F.length - (intOf i).toNat)
      case atStart => exact ⟨0, rfl, by omega, rfl, by simp⟩
      case round =>
        obtain ⟨k, rfl, hk, rfl, hall⟩ := hrel
        have HALL := Lib.hid hall
        clear hall
        by_cases hkn : k < F.length
        · have hdec : decide ((k : Int) < (F.length : Int)) = true := by simp; omega
          have i1 : (0 : Int) ≤ (k : Int) ∧ (k : Int) < (F.length : Int) := by omega
          obtain ⟨bF, oF, rfl, -, hcF⟩ := HF.out.at hkn
          obtain ⟨Ai, ci, x0, -⟩ := hcF k hkn
          have HTK : Hid (F.take (k + 1) = F.take k ++ [F[k]]) := Lib.hid (List.take_succ_eq_append_getElem hkn)
          clear hcF
          generalize F[k] = m at *
          by_cases hm : 15 < m.length
          · have hdm : decide ((15 : Int) < (m.length : Int)) = true := decide_eq_true (by omega)
            clear hm
            (repeat (first | go_big_skip | go_big_want | go_big_move | go_big_op | go_step | go_upon | go_back))
            go_at_call 9
            refine (awake_any _).mono ?_
            rintro e z ⟨rfl, ha⟩
            dsimp only
            (repeat (first | go_big_skip | go_big_want | go_big_move | go_big_op | go_step | go_upon | go_back))
            go_ret
            exact ⟨rfl, HA.out.trans ha⟩
          · have hdm : decide ((15 : Int) < (m.length : Int)) = false := decide_eq_false (by omega)
            have HAL : Hid (∀ x ∈ F.take (k + 1), x.length ≤ 15) := Lib.hid (by
              intro x hx
              rw [HTK.out] at hx
              rcases List.mem_append.1 hx with h | h
              · exact HALL.out x h
              · rw [List.mem_singleton] at h; subst h; omega)
            clear hm
            (repeat (first | go_big_skip | go_big_want | go_big_move | go_big_op | go_step | go_upon | go_back))
            exact ⟨⟨k + 1, by go_num, by omega, by trivial, HAL.out⟩, by simp [intOf]; omega⟩
        · have hdec : decide ((k : Int) < (F.length : Int)) = false := by simp; omega
          have hok := HOK.out
          have hall : ∀ x ∈ F, x.length ≤ 15 := by have := HALL.out; rw [List.take_of_length_le (by omega)] at this; exact this
          have HT : Hid (TRep wr T a1 a2 a3 a4) := Lib.hid (HT.out.small hok)
          have HR : Hid (Ints wr AR R) := Lib.hid (HR.out.small (by have := hok.2.2.2.2.2 R (by simp); omega))
          have HL : Hid (Ints wr Al l) := Lib.hid (HL.out.small (by have := hok.2.2.2.2.2 l (by simp); omega))
          have HF : Hid (Lists wr AF F) := Lib.hid (HF.out.small hF15 hall)
          have HFL : Hid (∀ x ∈ F, x.length ≤ 17592186043904) := Lib.hid fun x hx => by have := hall x hx; omega
          clear hall HALL
          obtain ⟨k0, k1, k2, k3, k4⟩ := boxC HB.out
          (repeat (first | go_big_skip | go_big_want | go_big_move | go_big_op | go_step | go_upon | go_back))
          go_at_call 10
          refine (cloneTreaty_any wr T a1 a2 a3 a4 c1 c2 c3 c4 HT.out (by have := hok.1; omega) (by have := hok.2.1; omega) (by have := hok.2.2.1; omega) (by have := hok.2.2.2.1; omega) (fun l hl => by have := (hok.2.2.2.2.1 l hl).1; omega)).mono ?_
          rintro e Y1 ⟨d1, d2, d3, d4, f1, f2, f3, f4, S, rfl, -, ha, hsup, -, -⟩
          dsimp only
          have HU := Lib.hid hsup.self
          have HA := Lib.hid (HA.out.trans ha)
          have HT := Lib.hid (HT.out.aft ha)
          have HR := Lib.hid (HR.out.aft ha)
          have HL := Lib.hid (HL.out.aft ha)
          have HF := Lib.hid (HF.out.aft ha)
          have HB := Lib.hid (HB.out.aft ha)
          clear hsup ha k0 k1 k2 k3 k4 hok
          (repeat (first | go_big_skip | go_big_want | go_big_move | go_big_op | go_step | go_upon | go_back))
          go_at_call 11
          refine (kitClone_int AR R cR _ HR.out).mono ?_
          rintro e Y2 ⟨vM, rfl, hown, ha⟩
          dsimp only
          obtain ⟨AM, cM, rfl, -, hm⟩ := own_ints hown HR.out.len
          have HM := Lib.hid hm
          have HA := Lib.hid (HA.out.trans ha)
          have HT := Lib.hid (HT.out.aft ha)
          have HR := Lib.hid (HR.out.aft ha)
          have HL := Lib.hid (HL.out.aft ha)
          have HF := Lib.hid (HF.out.aft ha)
          have HB := Lib.hid (HB.out.aft ha)
          have HU := Lib.hid (HU.out.aft ha)
          clear hown hm ha
          (repeat (first | go_big_skip | go_big_want | go_big_move | go_big_op | go_step | go_upon | go_back))
          go_at_call 11
          refine (kitClone_int Al l cl _ HL.out).mono ?_
          rintro e Y3 ⟨vN, rfl, hown, ha⟩
          dsimp only
          obtain ⟨AN, cN, rfl, -, hm⟩ := own_ints hown HL.out.len
          have HN := Lib.hid hm
          have HA := Lib.hid (HA.out.trans ha)
          have HT := Lib.hid (HT.out.aft ha)
          have HR := Lib.hid (HR.out.aft ha)
          have HL := Lib.hid (HL.out.aft ha)
          have HF := Lib.hid (HF.out.aft ha)
          have HB := Lib.hid (HB.out.aft ha)
          have HU := Lib.hid (HU.out.aft ha)
          have HM := Lib.hid (HM.out.aft ha)
          clear hown hm ha
          (repeat (first | go_big_skip | go_big_want | go_big_move | go_big_op | go_step | go_upon | go_back))
          go_at_call 31
          refine (cloneAll_any _ AF F cF HF.out (by omega)).mono ?_
          rintro e Y4 ⟨vK, rfl, hown, ha⟩
          dsimp only
          have hF15b : F.length ≤ 17592186043904 := by omega
          obtain ⟨AK, cK, rfl, -, hm⟩ := hown.lists hF15b HFL.out
          have ha2 := ha.then_alloc (.cells #[.int .i64 T.places, .slice d1 T.ways.length f1, .slice d2 T.words.length f2, .slice d3 T.starts.length f3, .slice d4 T.legs.length f4] 27)
          have HK := Lib.hid (hm.aft (Aft.alloc _ (.cells #[.int .i64 T.places, .slice d1 T.ways.length f1, .slice d2 T.words.length f2, .slice d3 T.starts.length f3, .slice d4 T.legs.length f4] 27)))
          have hb7 := Blk.new Y4 27 #[.int .i64 T.places, .slice d1 T.ways.length f1, .slice d2 T.words.length f2, .slice d3 T.starts.length f3, .slice d4 T.legs.length f4]
          have HA := Lib.hid (HA.out.trans ha2)
          have HT := Lib.hid (HT.out.aft ha2)
          have HR := Lib.hid (HR.out.aft ha2)
          have HL := Lib.hid (HL.out.aft ha2)
          have HF := Lib.hid (HF.out.aft ha2)
          have HB := Lib.hid (HB.out.aft ha2)
          have HU := Lib.hid (HU.out.aft ha2)
          have HM := Lib.hid (HM.out.aft ha2)
          have HN := Lib.hid (HN.out.aft ha2)
          clear hown hm ha ha2 hF15b HFL
          go_upto_region 10 with fail
          generalize Y4.alloc (.cells #[.int .i64 T.places, .slice d1 T.ways.length f1, .slice d2 T.words.length f2, .slice d3 T.starts.length f3, .slice d4 T.legs.length f4] 27) = Y at *
          generalize Y4.heap.size = B7 at *
          have HB7 := Lib.hid hb7
          clear hb7
          obtain ⟨k0, k1, k2, k3, k4⟩ := boxC HB.out
          (repeat (first | go_big_skip | go_big_want | go_big_move | go_big_op | go_step | go_upon | go_back))
          go_at_call 12
          have hok := HOK.out
          refine (treatyRef_any Y T a1 a2 a3 a4 c1 c2 c3 c4 HT.out (by have := hok.1; omega) (by have := hok.2.1; omega) (by have := hok.2.2.2.1; omega) (by have := hok.2.2.1; omega) (fun l hl => by have := (hok.2.2.2.2.1 l hl).1; omega)).mono ?_
          rintro e Y5 ⟨g1, g2, g3, g4, h1, h2, h3, h4, rfl, ha, hg⟩
          dsimp only
          have ha2 := ha.then_alloc (.cells #[.int .i64 T.places, .slice g1 T.ways.length h1, .slice g2 T.words.length h2, .slice g3 T.starts.length h3, .slice g4 T.legs.length h4] 36)
          have HG := Lib.hid (hg.aft (Aft.alloc _ (.cells #[.int .i64 T.places, .slice g1 T.ways.length h1, .slice g2 T.words.length h2, .slice g3 T.starts.length h3, .slice g4 T.legs.length h4] 36)))
          have hb10 := Blk.new Y5 36 #[.int .i64 T.places, .slice g1 T.ways.length h1, .slice g2 T.words.length h2, .slice g3 T.starts.length h3, .slice g4 T.legs.length h4]
          have HA := Lib.hid (HA.out.trans ha2)
          have HT := Lib.hid (HT.out.aft ha2)
          have HR := Lib.hid (HR.out.aft ha2)
          have HL := Lib.hid (HL.out.aft ha2)
          have HF := Lib.hid (HF.out.aft ha2)
          have HB := Lib.hid (HB.out.aft ha2)
          have HU := Lib.hid (HU.out.aft ha2)
          have HM := Lib.hid (HM.out.aft ha2)
          have HN := Lib.hid (HN.out.aft ha2)
          have HK := Lib.hid (HK.out.aft ha2)
          have HB7 := Lib.hid (HB7.out.aft ha2)
          have HLL : Hid (T.legs.length ≤ 1000) := Lib.hid (by have := hok.2.2.2.1; omega)
          clear hok hg ha ha2 k0 k1 k2 k3 k4 HOK
          go_upto_region 11 with fail
          generalize Y5.alloc (.cells #[.int .i64 T.places, .slice g1 T.ways.length h1, .slice g2 T.words.length h2, .slice g3 T.starts.length h3, .slice g4 T.legs.length h4] 36) = Z at *
          generalize Y5.heap.size = B10 at *
          have HB10 := Lib.hid hb10
          have HZ := Lib.hid (Aft.refl Z)
          clear hb10
          obtain ⟨e0, he0⟩ : ∃ E, readE T R = E := ⟨_, rfl⟩
          obtain ⟨n0, hn0⟩ : ∃ N, manyN T R = N := ⟨_, rfl⟩
          obtain ⟨X1, hX1⟩ : ∃ X, yldX T R = X := ⟨_, rfl⟩
          obtain ⟨F1, hF1⟩ : ∃ X, floX T R = X := ⟨_, rfl⟩
          have HC1 := Lib.hid (fun (y : World) (hy : Aft Z y) => manyRef_any y T g1 g2 g3 g4 h1 h2 h3 h4 R AR cR (HG.out.aft hy) (HR.out.aft hy))
          have HC2 := Lib.hid (fun (y : World) (hy : Aft Z y) => (yield_any y T d1 d2 d3 d4 f1 f2 f3 f4 R AM cM (HU.out.aft hy) (HM.out.aft hy)).mono fun e w' h => (yieldR_uni h))
          have HC3 := Lib.hid (fun (y : World) (hy : Aft Z y) => (floorsX_any y T d1 d2 d3 d4 f1 f2 f3 f4 R AM cM (HU.out.aft hy) (HM.out.aft hy)).mono fun e w' h => (floorsR_uni h))
          have HC4 : Hid (e0 = 0 → ∀ (y : World) (_ : Aft Z y) (A : Option Addr) (c : Nat) (_ : Ints y A X1), Calls Try.prog 35 #[.agg #[.int .i64 T.places, .slice g1 T.ways.length h1, .slice g2 T.words.length h2, .slice g3 T.starts.length h3, .slice g4 T.legs.length h4], .slice AR R.length cR, .slice A X1.length c] y fun e w' => Aft y w' ∧ e = .returned (.tuple #[.bool true, .int .i64 0])) := Lib.hid fun h0 y hy A c hA => by
            have hx : X1 = yieldL T (leadsF T R) := by rw [← hX1]; unfold yldX; rw [if_pos (he0.trans h0)]
            have := enoughRefTop_any y T g1 g2 g3 g4 h1 h2 h3 h4 R AR cR X1 A c (HG.out.aft hy) (HR.out.aft hy) hA HLL.out
            unfold EnoughR at this
            rw [hx, (enough_yield (he0.trans h0)).1, (enough_yield (he0.trans h0)).2, ← hx] at this
            exact this
          have HC5 : Hid (e0 = 0 → ∀ (y : World) (_ : Aft Z y) (A : Option Addr) (c : Nat) (_ : Lists y A F1), Calls Try.prog 36 #[.agg #[.int .i64 T.places, .slice g1 T.ways.length h1, .slice g2 T.words.length h2, .slice g3 T.starts.length h3, .slice g4 T.legs.length h4], .slice AR R.length cR, .slice A F1.length c] y fun e w' => Aft y w' ∧ e = .returned (.tuple #[.int .i64 n0, .int .i64 0])) := Lib.hid fun h0 y hy A c hA => by
            have hx : F1 = floorsL T R := by rw [← hF1]; unfold floX; rw [if_pos (he0.trans h0)]
            have hn : n0 = ((yieldL T (leadsF T R)).length : Int) := by rw [← hn0]; unfold manyN; rw [if_pos (he0.trans h0)]
            have := provesRef_any y T g1 g2 g3 g4 h1 h2 h3 h4 R AR cR F1 A c (HG.out.aft hy) (HR.out.aft hy) hA
            unfold ProvesR at this
            rw [hx, provesE_floors (he0.trans h0), provesN_floors (he0.trans h0), ← hx, ← hn] at this
            exact this
          have hq1 : ((X1.length : Int) != n0) = false := by
            have : (X1.length : Int) = n0 := by rw [← hX1, ← hn0]; unfold yldX manyN; split <;> rfl
            simp [this]
          have HF0 : Hid (e0 ≠ 0 → F1.length = 0) := Lib.hid fun h => by rw [← hF1]; unfold floX; rw [if_neg (by rw [he0]; exact h)]; rfl
          obtain ⟨e1, he1⟩ : ∃ E, enoughE T R l = E := ⟨_, rfl⟩
          obtain ⟨b1, hb1⟩ : ∃ B, enoughB T R l = B := ⟨_, rfl⟩
          have HC6 := Lib.hid (fun (y : World) (hy : Aft Z y) => (enough_any y T d1 d2 d3 d4 f1 f2 f3 f4 R AM cM l AN cN (HU.out.aft hy) (HM.out.aft hy) (HN.out.aft hy)).mono fun e w' h => (show Aft y w' ∧ e = .returned (.tuple #[.bool (enoughB T R l), .int .i64 (enoughE T R l)]) from h))
          have HC7 := Lib.hid (fun (y : World) (hy : Aft Z y) => (enoughRefTop_any y T g1 g2 g3 g4 h1 h2 h3 h4 R AR cR l Al cl (HG.out.aft hy) (HR.out.aft hy) (HL.out.aft hy) HLL.out).mono fun e w' h => (show Aft y w' ∧ e = .returned (.tuple #[.bool (enoughB T R l), .int .i64 (enoughE T R l)]) from h))
          obtain ⟨e2, he2⟩ : ∃ E, checkE T = E := ⟨_, rfl⟩
          obtain ⟨n2, hn2⟩ : ∃ N, fewN T = N := ⟨_, rfl⟩
          obtain ⟨X2, hX2⟩ : ∃ X, fewX T = X := ⟨_, rfl⟩
          have HC8 := Lib.hid (fun (y : World) (hy : Aft Z y) => (fewest_any y T d1 d2 d3 d4 f1 f2 f3 f4 (HU.out.aft hy)).mono fun e w' h => (show Aft y w' ∧ ∃ A c, e = .returned (.tuple #[.slice A (fewX T).length c, .int .i64 (fewN T), .int .i64 (checkE T)]) ∧ Ints w' A (fewX T) from fewestR_uni h))
          have HC9 := Lib.hid (fun (y : World) (hy : Aft Z y) => (fewestTopRef_any y T g1 g2 g3 g4 h1 h2 h3 h4 (HG.out.aft hy)).mono fun e w' h => (show Aft y w' ∧ ∃ A c, e = .returned (.tuple #[.slice A (fewX T).length c, .int .i64 (fewN T), .int .i64 (checkE T)]) ∧ Ints w' A (fewX T) from h))
          obtain ⟨e3, he3⟩ : ∃ E, provesE T R F = E := ⟨_, rfl⟩
          obtain ⟨n3, hn3⟩ : ∃ N, provesN T R F = N := ⟨_, rfl⟩
          have HCa := Lib.hid (fun (y : World) (hy : Aft Z y) => (proves_any y T d1 d2 d3 d4 f1 f2 f3 f4 R AM cM F AK cK (HU.out.aft hy) (HM.out.aft hy) (HK.out.aft hy)).mono fun e w' h => (show Aft y w' ∧ e = .returned (.tuple #[.int .i64 (provesN T R F), .int .i64 (provesE T R F)]) from h))
          have HCb := Lib.hid (fun (y : World) (hy : Aft Z y) => (provesRef_any y T g1 g2 g3 g4 h1 h2 h3 h4 R AR cR F AF cF (HG.out.aft hy) (HR.out.aft hy) (HF.out.aft hy)).mono fun e w' h => (show Aft y w' ∧ e = .returned (.tuple #[.int .i64 (provesN T R F), .int .i64 (provesE T R F)]) from h))
          simp only [YieldU, FloorsU, he0, hn0, hX1, hF1] at HC1 HC2 HC3
          simp only [he1, hb1] at HC6 HC7
          simp only [he2, hn2, hX2] at HC8 HC9
          simp only [he3, hn3] at HCa HCb
          have hqe : (e0 != e0) = false := by simp
          clear he0 hn0 hX1 hF1 he1 hb1 he2 hn2 hX2 he3 hn3
          obtain ⟨k0, k1, k2, k3, k4⟩ := boxC (HB10.out.aft HZ.out)
          (repeat (first | go_big_skip | go_big_want | go_big_move | go_big_op | go_step | go_upon | go_back))
          go_at_call 34
          refine (HC1.out _ HZ.out).mono ?_
          rintro e X7 ⟨rfl, ha⟩
          dsimp only
          have HZ := Lib.hid (HZ.out.trans ha)
          clear ha k0 k1 k2 k3 k4
          obtain ⟨k0, k1, k2, k3, k4⟩ := boxC (HB7.out.aft HZ.out)
          (repeat (first | go_big_skip | go_big_want | go_big_move | go_big_op | go_step | go_upon | go_back))
          go_at_call 27
          refine (HC2.out _ HZ.out).mono ?_
          rintro e X8 ⟨ha, A1, e1', rfl, hli⟩
          dsimp only
          have HL1 := Lib.hid hli
          clear hli
          have HZ := Lib.hid (HZ.out.trans ha)
          clear ha k0 k1 k2 k3 k4
          obtain ⟨k0, k1, k2, k3, k4⟩ := boxC (HB10.out.aft HZ.out)
          by_cases hz : e0 = 0
          · subst hz
            have HC4 := Lib.hid (HC4.out rfl)
            have HC5 := Lib.hid (HC5.out rfl)
            (repeat (first | go_big_skip | go_big_want | go_big_move | go_big_op | go_step | go_upon | go_back))
            go_at_call 35
            refine (HC4.out _ HZ.out A1 e1' HL1.out).mono ?_
            rintro e X9 ⟨ha, rfl⟩
            dsimp only
            have HZ := Lib.hid (HZ.out.trans ha)
            clear ha k0 k1 k2 k3 k4
            obtain ⟨k0, k1, k2, k3, k4⟩ := boxC (HB7.out.aft HZ.out)
            (repeat (first | go_big_skip | go_big_want | go_big_move | go_big_op | go_step | go_upon | go_back))
            go_at_call 29
            refine (HC3.out _ HZ.out).mono ?_
            rintro e Xa ⟨ha, A2, e2', rfl, hli⟩
            dsimp only
            have HL2 := Lib.hid hli
            clear hli
            have HZ := Lib.hid (HZ.out.trans ha)
            clear ha k0 k1 k2 k3 k4
            obtain ⟨k0, k1, k2, k3, k4⟩ := boxC (HB10.out.aft HZ.out)
            have hqn : (n0 != n0) = false := by simp
            (repeat (first | go_big_skip | go_big_want | go_big_move | go_big_op | go_step | go_upon | go_back))
            go_at_call 36
            refine (HC5.out _ HZ.out A2 e2' HL2.out).mono ?_
            rintro e Xb ⟨ha, rfl⟩
            dsimp only
            have HZ := Lib.hid (HZ.out.trans ha)
            clear ha k0 k1 k2 k3 k4
            clear HC1 HC2 HC3 HC4 HC5 hqe HL1 HL2
            have hqe : (e1 != e1) = false := by simp
            have hqb : (b1 != b1) = false := by simp
            obtain ⟨k0, k1, k2, k3, k4⟩ := boxC (HB7.out.aft HZ.out)
            (repeat (first | go_big_skip | go_big_want | go_big_move | go_big_op | go_step | go_upon | go_back))
            go_at_call 37
            refine (HC6.out _ HZ.out).mono ?_
            rintro e Xc ⟨ha, rfl⟩
            dsimp only
            have HZ := Lib.hid (HZ.out.trans ha)
            clear ha k0 k1 k2 k3 k4
            obtain ⟨k0, k1, k2, k3, k4⟩ := boxC (HB10.out.aft HZ.out)
            (repeat (first | go_big_skip | go_big_want | go_big_move | go_big_op | go_step | go_upon | go_back))
            go_at_call 35
            refine (HC7.out _ HZ.out).mono ?_
            rintro e Xd ⟨ha, rfl⟩
            dsimp only
            have HZ := Lib.hid (HZ.out.trans ha)
            clear ha k0 k1 k2 k3 k4
            have hqe2 : (e2 != e2) = false := by simp
            have hqn2 : (n2 != n2) = false := by simp
            obtain ⟨k0, k1, k2, k3, k4⟩ := boxC (HB7.out.aft HZ.out)
            (repeat (first | go_big_skip | go_big_want | go_big_move | go_big_op | go_step | go_upon | go_back))
            go_at_call 38
            refine (HC8.out _ HZ.out).mono ?_
            rintro e Xe ⟨ha, A3, e3', rfl, hli⟩
            dsimp only
            have HL3 := Lib.hid hli
            clear hli hqe hqb
            have HZ := Lib.hid (HZ.out.trans ha)
            clear ha k0 k1 k2 k3 k4
            obtain ⟨k0, k1, k2, k3, k4⟩ := boxC (HB10.out.aft HZ.out)
            (repeat (first | go_big_skip | go_big_want | go_big_move | go_big_op | go_step | go_upon | go_back))
            go_at_call 39
            refine (HC9.out _ HZ.out).mono ?_
            rintro e Xf ⟨ha, A4, e4', rfl, hli⟩
            dsimp only
            have HL3 := Lib.hid (HL3.out.aft ha)
            have HL4 := Lib.hid hli
            clear hli
            have HZ := Lib.hid (HZ.out.trans ha)
            clear ha k0 k1 k2 k3 k4
            (repeat (first | go_big_skip | go_big_want | go_big_move | go_big_op | go_step | go_upon | go_back))
            go_at_call 20
            refine (kitEqual_int A3 A4 X2 X2 e3' e4' _ HL3.out HL4.out).mono ?_
            rintro e Xg ⟨rfl, ha⟩
            dsimp only
            rw [eqB_self]
            have HZ := Lib.hid (HZ.out.trans ha)
            clear ha hqe2 hqn2 HL3 HL4
            have hqe3 : (e3 == e3) = true := by simp
            have hqn3 : (n3 == n3) = true := by simp
            obtain ⟨k0, k1, k2, k3, k4⟩ := boxC (HB7.out.aft HZ.out)
            (repeat (first | go_big_skip | go_big_want | go_big_move | go_big_op | go_step | go_upon | go_back))
            go_at_call 30
            refine (HCa.out _ HZ.out).mono ?_
            rintro e Xh ⟨ha, rfl⟩
            dsimp only
            have HZ := Lib.hid (HZ.out.trans ha)
            clear ha k0 k1 k2 k3 k4
            obtain ⟨k0, k1, k2, k3, k4⟩ := boxC (HB10.out.aft HZ.out)
            (repeat (first | go_big_skip | go_big_want | go_big_move | go_big_op | go_step | go_upon | go_back))
            go_at_call 36
            refine (HCb.out _ HZ.out).mono ?_
            rintro e Xi ⟨ha, rfl⟩
            dsimp only
            have HZ := Lib.hid (HZ.out.trans ha)
            clear ha k0 k1 k2 k3 k4
            obtain ⟨k0, k1, k2, k3, k4⟩ := boxC (HB7.out.aft HZ.out)
            obtain ⟨m0, m1, m2, m3, m4⟩ := boxC (HB.out.aft HZ.out)
            (repeat (first | go_big_skip | go_big_want | go_big_move | go_big_op | go_step | go_upon | go_back))
            go_at_call 23
            refine (equal_same _ T d1 d2 d3 d4 f1 f2 f3 f4 a1 a2 a3 a4 c1 c2 c3 c4 (HU.out.aft HZ.out) (HT.out.aft HZ.out)).mono ?_
            rintro e Xj ⟨rfl, ha⟩
            dsimp only
            clear m0 m1 m2 m3 m4 hqe3 hqn3
            have HZ := Lib.hid (HZ.out.trans ha)
            clear ha k0 k1 k2 k3 k4
            (repeat (first | go_big_skip | go_big_want | go_big_move | go_big_op | go_step | go_upon | go_back))
            go_at_call 20
            refine (kitEqual_int AM AR R R cM cR _ (HM.out.aft HZ.out) (HR.out.aft HZ.out)).mono ?_
            rintro e Xk ⟨rfl, ha⟩
            dsimp only
            rw [eqB_self]
            have HZ := Lib.hid (HZ.out.trans ha)
            clear ha
            (repeat (first | go_big_skip | go_big_want | go_big_move | go_big_op | go_step | go_upon | go_back))
            go_at_call 20
            refine (kitEqual_int AN Al l l cN cl _ (HN.out.aft HZ.out) (HL.out.aft HZ.out)).mono ?_
            rintro e Xl ⟨rfl, ha⟩
            dsimp only
            rw [eqB_self]
            have HZ := Lib.hid (HZ.out.trans ha)
            clear ha
            (repeat (first | go_big_skip | go_big_want | go_big_move | go_big_op | go_step | go_upon | go_back))
            go_at_call 17
            refine (equalAll_any _ AK AF F F cK cF (HK.out.aft HZ.out) (HF.out.aft HZ.out)).mono ?_
            rintro e Xm ⟨rfl, ha⟩
            dsimp only
            rw [eqB_self]
            have HZ := Lib.hid (HZ.out.trans ha)
            clear ha
            (repeat (first | go_big_skip | go_big_want | go_big_move | go_big_op | go_step | go_upon | go_back))
            go_at_call 9
            refine (awake_any _).mono ?_
            rintro e Xn ⟨rfl, ha⟩
            dsimp only
            have HZ := Lib.hid (HZ.out.trans ha)
            clear ha
            (repeat (first | go_big_skip | go_big_want | go_big_move | go_big_op | go_step | go_upon | go_back))
            go_ret
            exact ⟨rfl, HA.out.trans HZ.out⟩
          · have hq2 : (e0 == 0) = false := by simpa using hz
            have hq3 : (e0 != 0) = true := by simpa using hz
            have hF0 := HF0.out hz
            have hd0 : decide ((0 : Int) < (F1.length : Int)) = false := decide_eq_false (by omega)
            have hd1 : decide (0 < F1.length) = false := decide_eq_false (by omega)
            clear hz hF0 k0 k1 k2 k3 k4
            obtain ⟨k0, k1, k2, k3, k4⟩ := boxC (HB7.out.aft HZ.out)
            (repeat (first | go_big_skip | go_big_want | go_big_move | go_big_op | go_step | go_upon | go_back))
            go_at_call 29
            refine (HC3.out _ HZ.out).mono ?_
            rintro e Xa ⟨ha, A2, e2', rfl, hli⟩
            dsimp only
            clear hli
            have HZ := Lib.hid (HZ.out.trans ha)
            clear ha k0 k1 k2 k3 k4
            clear HC1 HC2 HC3 HC4 HC5
            have hqe : (e1 != e1) = false := by simp
            have hqb : (b1 != b1) = false := by simp
            obtain ⟨k0, k1, k2, k3, k4⟩ := boxC (HB7.out.aft HZ.out)
            (repeat (first | go_big_skip | go_big_want | go_big_move | go_big_op | go_step | go_upon | go_back))
            go_at_call 37
            refine (HC6.out _ HZ.out).mono ?_
            rintro e Xc ⟨ha, rfl⟩
            dsimp only
            have HZ := Lib.hid (HZ.out.trans ha)
            clear ha k0 k1 k2 k3 k4
            obtain ⟨k0, k1, k2, k3, k4⟩ := boxC (HB10.out.aft HZ.out)
            (repeat (first | go_big_skip | go_big_want | go_big_move | go_big_op | go_step | go_upon | go_back))
            go_at_call 35
            refine (HC7.out _ HZ.out).mono ?_
            rintro e Xd ⟨ha, rfl⟩
            dsimp only
            have HZ := Lib.hid (HZ.out.trans ha)
            clear ha k0 k1 k2 k3 k4
            have hqe2 : (e2 != e2) = false := by simp
            have hqn2 : (n2 != n2) = false := by simp
            obtain ⟨k0, k1, k2, k3, k4⟩ := boxC (HB7.out.aft HZ.out)
            (repeat (first | go_big_skip | go_big_want | go_big_move | go_big_op | go_step | go_upon | go_back))
            go_at_call 38
            refine (HC8.out _ HZ.out).mono ?_
            rintro e Xe ⟨ha, A3, e3', rfl, hli⟩
            dsimp only
            have HL3 := Lib.hid hli
            clear hli hqe hqb
            have HZ := Lib.hid (HZ.out.trans ha)
            clear ha k0 k1 k2 k3 k4
            obtain ⟨k0, k1, k2, k3, k4⟩ := boxC (HB10.out.aft HZ.out)
            (repeat (first | go_big_skip | go_big_want | go_big_move | go_big_op | go_step | go_upon | go_back))
            go_at_call 39
            refine (HC9.out _ HZ.out).mono ?_
            rintro e Xf ⟨ha, A4, e4', rfl, hli⟩
            dsimp only
            have HL3 := Lib.hid (HL3.out.aft ha)
            have HL4 := Lib.hid hli
            clear hli
            have HZ := Lib.hid (HZ.out.trans ha)
            clear ha k0 k1 k2 k3 k4
            (repeat (first | go_big_skip | go_big_want | go_big_move | go_big_op | go_step | go_upon | go_back))
            go_at_call 20
            refine (kitEqual_int A3 A4 X2 X2 e3' e4' _ HL3.out HL4.out).mono ?_
            rintro e Xg ⟨rfl, ha⟩
            dsimp only
            rw [eqB_self]
            have HZ := Lib.hid (HZ.out.trans ha)
            clear ha hqe2 hqn2 HL3 HL4
            have hqe3 : (e3 == e3) = true := by simp
            have hqn3 : (n3 == n3) = true := by simp
            obtain ⟨k0, k1, k2, k3, k4⟩ := boxC (HB7.out.aft HZ.out)
            (repeat (first | go_big_skip | go_big_want | go_big_move | go_big_op | go_step | go_upon | go_back))
            go_at_call 30
            refine (HCa.out _ HZ.out).mono ?_
            rintro e Xh ⟨ha, rfl⟩
            dsimp only
            have HZ := Lib.hid (HZ.out.trans ha)
            clear ha k0 k1 k2 k3 k4
            obtain ⟨k0, k1, k2, k3, k4⟩ := boxC (HB10.out.aft HZ.out)
            (repeat (first | go_big_skip | go_big_want | go_big_move | go_big_op | go_step | go_upon | go_back))
            go_at_call 36
            refine (HCb.out _ HZ.out).mono ?_
            rintro e Xi ⟨ha, rfl⟩
            dsimp only
            have HZ := Lib.hid (HZ.out.trans ha)
            clear ha k0 k1 k2 k3 k4
            obtain ⟨k0, k1, k2, k3, k4⟩ := boxC (HB7.out.aft HZ.out)
            obtain ⟨m0, m1, m2, m3, m4⟩ := boxC (HB.out.aft HZ.out)
            (repeat (first | go_big_skip | go_big_want | go_big_move | go_big_op | go_step | go_upon | go_back))
            go_at_call 23
            refine (equal_same _ T d1 d2 d3 d4 f1 f2 f3 f4 a1 a2 a3 a4 c1 c2 c3 c4 (HU.out.aft HZ.out) (HT.out.aft HZ.out)).mono ?_
            rintro e Xj ⟨rfl, ha⟩
            dsimp only
            clear m0 m1 m2 m3 m4 hqe3 hqn3
            have HZ := Lib.hid (HZ.out.trans ha)
            clear ha k0 k1 k2 k3 k4
            (repeat (first | go_big_skip | go_big_want | go_big_move | go_big_op | go_step | go_upon | go_back))
            go_at_call 20
            refine (kitEqual_int AM AR R R cM cR _ (HM.out.aft HZ.out) (HR.out.aft HZ.out)).mono ?_
            rintro e Xk ⟨rfl, ha⟩
            dsimp only
            rw [eqB_self]
            have HZ := Lib.hid (HZ.out.trans ha)
            clear ha
            (repeat (first | go_big_skip | go_big_want | go_big_move | go_big_op | go_step | go_upon | go_back))
            go_at_call 20
            refine (kitEqual_int AN Al l l cN cl _ (HN.out.aft HZ.out) (HL.out.aft HZ.out)).mono ?_
            rintro e Xl ⟨rfl, ha⟩
            dsimp only
            rw [eqB_self]
            have HZ := Lib.hid (HZ.out.trans ha)
            clear ha
            (repeat (first | go_big_skip | go_big_want | go_big_move | go_big_op | go_step | go_upon | go_back))
            go_at_call 17
            refine (equalAll_any _ AK AF F F cK cF (HK.out.aft HZ.out) (HF.out.aft HZ.out)).mono ?_
            rintro e Xm ⟨rfl, ha⟩
            dsimp only
            rw [eqB_self]
            have HZ := Lib.hid (HZ.out.trans ha)
            clear ha
            (repeat (first | go_big_skip | go_big_want | go_big_move | go_big_op | go_step | go_upon | go_back))
            go_at_call 9
            refine (awake_any _).mono ?_
            rintro e Xn ⟨rfl, ha⟩
            dsimp only
            have HZ := Lib.hid (HZ.out.trans ha)
            clear ha
            (repeat (first | go_big_skip | go_big_want | go_big_move | go_big_op | go_step | go_upon | go_back))
            go_ret
            exact ⟨rfl, HA.out.trans HZ.out⟩
end Go.Proofs
end
