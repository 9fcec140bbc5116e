/- Own texts, merged: Yj0 Yi. -/
import Derived.Test.YthegmhnaiabcpaaD24
import Derived.ProofKit
import Derived.Deep.Slices
import Derived.Deep.Strs
import Derived.ChangeArms
import Derived.OpenShut
import Derived.BigGuard
set_option linter.unusedSimpArgs false
set_option linter.unusedVariables false
set_option linter.unnecessarySimpa false
section
/- Slices as they come in, of whatever length: what SheetEdges may read before it is known that they are small. -/
namespace Go.Proofs
open Go.RowKit Go.WideShapes Go.ChangeShapes

section rows
variable {α : Type}
/-- As RowsP, of whatever length. -/
def RowsQ (w : World) (A : Option Addr) (sz : Nat) (R : World → α → List Value → Prop) (l : List α) : Prop :=
  l.length ≤ 9223372036854775807 ∧ (l = [] ∨ ∃ b o, A = some ⟨b, o, none⟩ ∧ b < w.heap.size ∧
    ∀ i, (h : i < l.length) → ∃ vs : List Value, vs.length = sz ∧ R w l[i] vs ∧ ∀ j, (hj : j < vs.length) → w.cell? ⟨b, o + i * sz + j, none⟩ = some vs[j])
theorem RowsQ.lat {w : World} {A : Option Addr} {sz : Nat} {R : World → α → List Value → Prop} {l : List α} (hR : MonoR R) (h : RowsQ w A sz R l) (u : Later w) : RowsQ (w.lat u) A sz R l := by
  refine ⟨h.1, ?_⟩
  rcases h.2 with h | ⟨b, o, rfl, hb, hc⟩
  · exact .inl h
  · refine .inr ⟨b, o, rfl, Nat.lt_of_lt_of_le hb (w.lat_size u), fun i hi => ?_⟩
    obtain ⟨vs, h1, h2, h3⟩ := hc i hi
    exact ⟨vs, h1, hR _ _ _ _ h2, fun j hj => by rw [World.lat_cell _ _ _ _ hb]; exact h3 j hj⟩
theorem RowsQ.aft {w w' : World} {A : Option Addr} {sz : Nat} {R : World → α → List Value → Prop} {l : List α} (hR : MonoR R) (h : RowsQ w A sz R l) (hl : Aft w w') : RowsQ w' A sz R l := by
  obtain ⟨u, rfl⟩ := hl; exact h.lat hR u
theorem RowsQ.at {w : World} {A : Option Addr} {sz : Nat} {R : World → α → List Value → Prop} {l : List α} (h : RowsQ w A sz R l) {k : Nat} (hk : k < l.length) :
    ∃ b o, A = some ⟨b, o, none⟩ ∧ b < w.heap.size ∧ ∀ i, (h : i < l.length) → ∃ vs : List Value, vs.length = sz ∧ R w l[i] vs ∧ ∀ j, (hj : j < vs.length) → w.cell? ⟨b, o + i * sz + j, none⟩ = some vs[j] := by
  rcases h.2 with rfl | h
  · simp at hk
  · exact h
theorem RowsQ.small {w : World} {A : Option Addr} {sz : Nat} {R R' : World → α → List Value → Prop} {l : List α} (h : RowsQ w A sz R l) (hs : l.length * sz ≤ 17592186043904) (hR : ∀ x ∈ l, ∀ vs, R w x vs → R' w x vs) : RowsP w A sz R' l := by
  refine ⟨hs, ?_⟩
  rcases h.2 with h | ⟨b, o, rfl, hb, hc⟩
  · exact .inl h
  · refine .inr ⟨b, o, rfl, hb, fun i hi => ?_⟩
    obtain ⟨vs, h1, h2, h3⟩ := hc i hi
    exact ⟨vs, h1, hR _ (List.getElem_mem hi) _ h2, h3⟩
end rows
def IntsQ (w : World) (A : Option Addr) (l : List Int) : Prop := RowsQ w A 1 IntR l
theorem IntsQ.lat {w : World} {A : Option Addr} {l : List Int} (h : IntsQ w A l) (u : Later w) : IntsQ (w.lat u) A l := RowsQ.lat IntR.mono h u
theorem IntsQ.small {w : World} {A : Option Addr} {l : List Int} (h : IntsQ w A l) (hs : l.length ≤ 1000000) : Ints w A l := RowsQ.small h (by omega) fun _ _ _ h => h
def ListQ : World → List Int → List Value → Prop := fun w l vs => ∃ A c, vs = [.slice A l.length c] ∧ IntsQ w A l
theorem ListQ.mono : MonoR ListQ := fun _ u _ _ ⟨A, c, h1, h2⟩ => ⟨A, c, h1, h2.lat u⟩
def ListsQ (w : World) (A : Option Addr) (l : List (List Int)) : Prop := RowsQ w A 1 ListQ l
theorem ListsQ.aft {w w' : World} {A : Option Addr} {l : List (List Int)} (h : ListsQ w A l) (ha : Aft w w') : ListsQ w' A l := RowsQ.aft ListQ.mono h ha
theorem ListsQ.at {w : World} {A : Option Addr} {l : List (List Int)} (h : ListsQ w A l) {k : Nat} (hk : k < l.length) :
    ∃ b o, A = some ⟨b, o, none⟩ ∧ b < w.heap.size ∧ ∀ i, (h : i < l.length) → ∃ Ai ci, w.cell? ⟨b, o + i, none⟩ = some (.slice Ai l[i].length ci) ∧ IntsQ w Ai l[i] := by
  obtain ⟨b, o, rfl, hb, hc⟩ := RowsQ.at h hk
  refine ⟨b, o, rfl, hb, fun i hi => ?_⟩
  obtain ⟨vs, h1, ⟨Ai, ci, rfl, h2⟩, h3⟩ := hc i hi
  exact ⟨Ai, ci, by simpa using h3 0 (by simp), h2⟩
theorem ListsQ.small {w : World} {A : Option Addr} {l : List (List Int)} (h : ListsQ w A l) (hs : l.length ≤ 1000000) (hl : ∀ x ∈ l, x.length ≤ 1000000) : Lists w A l :=
  RowsQ.small h (by omega) fun x hx vs ⟨A', c', h1, h2⟩ => ⟨A', c', h1, h2.small (hl x hx)⟩
def PrsQ (w : World) (A : Option Addr) (l : List (Int × Int)) : Prop := RowsQ w A 2 (FlatR enc2) l
theorem PrsQ.aft {w w' : World} {A : Option Addr} {l : List (Int × Int)} (h : PrsQ w A l) (ha : Aft w w') : PrsQ w' A l := RowsQ.aft FlatR.mono h ha
theorem PrsQ.small {w : World} {A : Option Addr} {l : List (Int × Int)} (h : PrsQ w A l) (hs : l.length ≤ 1000000) : Prs w A l := RowsQ.small h (by omega) fun _ _ _ h => h
theorem listTwo {α : Type} {l : List α} (h : l.length = 2) : ∃ a b, l = [a, b] := by
  match l, h with
  | [a, b], _ => exact ⟨a, b, rfl⟩
theorem listOne {α : Type} {l : List α} (h : l.length = 1) : ∃ a, l = [a] := by
  match l, h with
  | [a], _ => exact ⟨a, rfl⟩
section
variable {H : Type} {enc : TypeId × Value → H} {W : World} {base : Nat} {spare : Nat → Bool} {held : Bool}

theorem rowsQ_of {α : Type} [Inhabited α] {t e : TypeId} {sz fuel : Nat} {R : World → α → List Value → Prop} {v : Value} {y : DataW H × List MemPlace} (ht : Try.prog.underlying t = some (.slice e)) (hsz : Try.prog.cellsOf e = sz) (hp : 0 < sz)
    (hR : ∀ n cs y, cs.length = sz → DataW.trod enc Try.prog W base spare held n e cs = some y → ∃ x : α, R W x cs) (h : DataW.trod enc Try.prog W base spare held fuel t [v] = some y) :
    ∃ A c, ∃ l : List α, v = .slice A l.length c ∧ RowsQ W A sz R l := by
  rcases Go.Deep.open_slice ht h with ⟨hcs, _⟩ | ⟨a, len, cap, m, n, D, Pl, hcs, _, hl, hcm, hm, _, hx⟩
  · cases hcs
    exact ⟨none, 0, [], rfl, by simp, .inl rfl⟩
  · cases hcs
    have hlm : len ≤ m := by rw [hm]; split <;> omega
    obtain ⟨f, hf⟩ := Go.Deep.choose_lt (n := len) (p := fun i x => ∃ cs', W.cells? base (a.add (i * sz)) sz = some cs' ∧ R W x cs') (fun i hi => by
      obtain ⟨cs', h1, h2⟩ := hx i (by omega)
      rw [hsz] at h1
      obtain ⟨_, hlen, _⟩ := World.cells?_some h1
      obtain ⟨x, hx⟩ := hR _ _ _ hlen h2
      exact ⟨x, cs', h1, hx⟩)
    refine ⟨some a, cap, (List.range len).map f, by simp, ?_, ?_⟩
    · have : maxLen = 9223372036854775807 := rfl
      rw [List.length_map, List.length_range]
      omega
    by_cases h0 : len = 0
    · exact .inl (by rw [h0]; rfl)
    obtain ⟨b, off, spot⟩ := a
    obtain ⟨cs0, h1, -⟩ := hf 0 (by omega)
    obtain ⟨_, hlen, hcell⟩ := World.cells?_some h1
    have h00 := hcell 0 hp
    rw [List.getElem?_eq_getElem (by omega)] at h00
    have hspot : spot = none := by simpa [Addr.add] using World.cell?_spot h00
    subst hspot
    have hb : b < W.heap.size := by
      have := World.block_lt_of_cell? _ _ h00
      simpa [add_plain] using this
    refine .inr ⟨b, off, rfl, hb, fun i hi => ?_⟩
    have hi' : i < len := by simpa using hi
    obtain ⟨cs', h1, h2⟩ := hf i hi'
    obtain ⟨_, hlen, hcell⟩ := World.cells?_some h1
    refine ⟨cs', hlen, by simpa using h2, fun j hj => ?_⟩
    have := hcell j (by omega)
    rw [add_plain, add_plain, List.getElem?_eq_getElem hj] at this
    exact this
theorem intR_of {n : Nat} {cs : List Value} {y : DataW H × List MemPlace} (h : DataW.trod enc Try.prog W base spare held n 3 cs = some y) : ∃ x : Int, IntR W x cs := by
  obtain ⟨x, rfl, _, _⟩ := DataW.trod_int Try.underlying3 h
  exact ⟨x, rfl⟩
theorem intsQ_of {fuel : Nat} {v : Value} {y : DataW H × List MemPlace} (h : DataW.trod enc Try.prog W base spare held fuel 51 [v] = some y) : ∃ A c, ∃ l : List Int, v = .slice A l.length c ∧ IntsQ W A l :=
  rowsQ_of Try.underlying51 (by kernel_rfl) (by decide) (fun _ _ _ _ h => intR_of h) h
theorem listsQ_of {fuel : Nat} {v : Value} {y : DataW H × List MemPlace} (h : DataW.trod enc Try.prog W base spare held fuel 50 [v] = some y) : ∃ A c, ∃ l : List (List Int), v = .slice A l.length c ∧ ListsQ W A l :=
  rowsQ_of Try.underlying50 (by kernel_rfl) (by decide) (fun _ cs _ hl h => by
    obtain ⟨v, rfl⟩ := listOne hl
    obtain ⟨A, c, l, rfl, hi⟩ := intsQ_of h
    exact ⟨l, A, c, rfl, hi⟩) h
theorem cellsOf3 : Try.prog.cellsOf 3 = 1 := by kernel_rfl
theorem marksQ_of {fuel : Nat} {v : Value} {y : DataW H × List MemPlace} (h : DataW.trod enc Try.prog W base spare held fuel 48 [v] = some y) : ∃ A c, ∃ l : List (Int × Int), v = .slice A l.length c ∧ PrsQ W A l :=
  rowsQ_of Try.underlying48 (by kernel_rfl) (by decide) (fun _ cs _ hl h => by
    obtain ⟨xs, n, _, _, _, hxl, hf⟩ := DataW.trod_struct Try.underlying54 h
    obtain ⟨y0, y1, rfl⟩ := listTwo hxl
    obtain ⟨v0, v1, rfl⟩ := listTwo hl
    have g0 : DataW.trod enc Try.prog W base spare held n 3 [v0] = some y0 := by simpa [Value.cells, cellsOf3] using hf 0 _ rfl
    have g1 : DataW.trod enc Try.prog W base spare held n 3 [v1] = some y1 := by simpa [Value.cells, cellsOf3] using hf 1 _ rfl
    obtain ⟨x0, e0, _, _⟩ := DataW.trod_int Try.underlying3 g0
    obtain ⟨x1, e1, _, _⟩ := DataW.trod_int Try.underlying3 g1
    cases e0; cases e1
    exact ⟨(x0, x1), rfl⟩) h
theorem pairsQ_of {fuel : Nat} {v : Value} {y : DataW H × List MemPlace} (h : DataW.trod enc Try.prog W base spare held fuel 49 [v] = some y) : ∃ A c, ∃ l : List (Int × Int), v = .slice A l.length c ∧ PrsQ W A l :=
  rowsQ_of Try.underlying49 (by kernel_rfl) (by decide) (fun _ cs _ hl h => by
    obtain ⟨xs, n, _, _, _, hxl, hf⟩ := DataW.trod_struct Try.underlying57 h
    obtain ⟨y0, y1, rfl⟩ := listTwo hxl
    obtain ⟨v0, v1, rfl⟩ := listTwo hl
    have g0 : DataW.trod enc Try.prog W base spare held n 3 [v0] = some y0 := by simpa [Value.cells, cellsOf3] using hf 0 _ rfl
    have g1 : DataW.trod enc Try.prog W base spare held n 3 [v1] = some y1 := by simpa [Value.cells, cellsOf3] using hf 1 _ rfl
    obtain ⟨x0, e0, _, _⟩ := DataW.trod_int Try.underlying3 g0
    obtain ⟨x1, e1, _, _⟩ := DataW.trod_int Try.underlying3 g1
    cases e0; cases e1
    exact ⟨(x0, x1), rfl⟩) h
set_option maxRecDepth 100000 in
theorem marksQ_arg {v : Value} {r : Reach} {b0 : Nat} {d : DataW H} {p : List MemPlace} (hv : Value.okWide Try.prog W r b0 48 v) (h : DataW.Trod enc Try.prog W base spare held 48 v d p) : ∃ A c, ∃ l : List (Int × Int), v = .slice A l.length c ∧ PrsQ W A l := by
  obtain ⟨a0, len0, cap0, rfl⟩ := okWide_slice Try.underlying48 hv
  obtain ⟨fuel, hf⟩ := h
  exact marksQ_of (by simpa [Value.cells] using hf)
set_option maxRecDepth 100000 in
theorem pairsQ_arg {v : Value} {r : Reach} {b0 : Nat} {d : DataW H} {p : List MemPlace} (hv : Value.okWide Try.prog W r b0 49 v) (h : DataW.Trod enc Try.prog W base spare held 49 v d p) : ∃ A c, ∃ l : List (Int × Int), v = .slice A l.length c ∧ PrsQ W A l := by
  obtain ⟨a0, len0, cap0, rfl⟩ := okWide_slice Try.underlying49 hv
  obtain ⟨fuel, hf⟩ := h
  exact pairsQ_of (by simpa [Value.cells] using hf)
set_option maxRecDepth 100000 in
theorem listsQ_arg {v : Value} {r : Reach} {b0 : Nat} {d : DataW H} {p : List MemPlace} (hv : Value.okWide Try.prog W r b0 50 v) (h : DataW.Trod enc Try.prog W base spare held 50 v d p) : ∃ A c, ∃ l : List (List Int), v = .slice A l.length c ∧ ListsQ W A l := by
  obtain ⟨a0, len0, cap0, rfl⟩ := okWide_slice Try.underlying50 hv
  obtain ⟨fuel, hf⟩ := h
  exact listsQ_of (by simpa [Value.cells] using hf)
end
end Go.Proofs
end

section
/- Walks: SheetEdges. -/
namespace Go.Proofs
open Go.RowKit
attribute [local go_sem] Oper.semAt_some

set_option maxRecDepth 100000 in
set_option maxHeartbeats 8000000 in
theorem edgesLaw_any (Aa Ab : Option Addr) (la lb : List (Int × Int)) (ca cb : Nat) (play : Int) (Al : Option Addr) (l : List (Int × Int)) (cl : Nat) (Av : Option Addr) (lv : List (List Int)) (cv : Nat) (w : World) (hA : PrsQ w Aa la) (hB : PrsQ w Ab lb) (hL : PrsQ w Al l) (hV : ListsQ w Av lv) :
    Calls Try.prog 4 #[.slice Aa la.length ca, .slice Ab lb.length cb, .int .i64 play, .slice Al l.length cl, .slice Av lv.length cv] w fun e w' => e = .returned (.bool true) ∧ Aft w w' := by
  have HA0 := Lib.hid hA
  have HB0 := Lib.hid hB
  have HL0 := Lib.hid hL
  have HV0 := Lib.hid hV
  have lna := hA.1
  have lnb := hB.1
  have lnl := hL.1
  have lnv := hV.1
  clear hA hB hL hV

  go_enter Try.func4, Try.ntmps4
  by_cases ha : 35 < la.length
  · have ta : decide (35 < la.length) = true := by simp; omega
    have tai : decide ((35 : Int) < (la.length : Int)) = true := by simp; omega
    (repeat (first | go_big_skip | go_big_want | go_big_move | go_big_op | go_step | go_upon | go_back))
    go_at_call 15
    refine (awake_any _).mono ?_
    rintro e x1 ⟨rfl, ha⟩
    dsimp only
    have HAW := Lib.hid ((Aft.refl w).trans ha)
    clear ha
    (repeat (first | go_big_skip | go_big_want | go_big_move | go_big_op | go_step | go_upon | go_back))
    go_ret
    exact ⟨rfl, HAW.out⟩
  have ta : decide (35 < la.length) = false := by simp; omega
  have tai : decide ((35 : Int) < (la.length : Int)) = false := by simp; omega
  by_cases hb : 35 < lb.length
  · have tb : decide (35 < lb.length) = true := by simp; omega
    have tbi : decide ((35 : Int) < (lb.length : Int)) = true := by simp; omega
    (repeat (first | go_big_skip | go_big_want | go_big_move | go_big_op | go_step | go_upon | go_back))
    go_at_call 15
    refine (awake_any _).mono ?_
    rintro e x2 ⟨rfl, ha⟩
    dsimp only
    have HAW := Lib.hid ((Aft.refl w).trans ha)
    clear ha
    (repeat (first | go_big_skip | go_big_want | go_big_move | go_big_op | go_step | go_upon | go_back))
    go_ret
    exact ⟨rfl, HAW.out⟩
  have tb : decide (35 < lb.length) = false := by simp; omega
  have tbi : decide ((35 : Int) < (lb.length : Int)) = false := by simp; omega
  by_cases hl : 40 < l.length
  · have tl : decide (40 < l.length) = true := by simp; omega
    have tli : decide ((40 : Int) < (l.length : Int)) = true := by simp; omega
    (repeat (first | go_big_skip | go_big_want | go_big_move | go_big_op | go_step | go_upon | go_back))
    go_at_call 15
    refine (awake_any _).mono ?_
    rintro e x3 ⟨rfl, ha⟩
    dsimp only
    have HAW := Lib.hid ((Aft.refl w).trans ha)
    clear ha
    (repeat (first | go_big_skip | go_big_want | go_big_move | go_big_op | go_step | go_upon | go_back))
    go_ret
    exact ⟨rfl, HAW.out⟩
  have tl : decide (40 < l.length) = false := by simp; omega
  have tli : decide ((40 : Int) < (l.length : Int)) = false := by simp; omega
  by_cases hv : 35 < lv.length
  · have tv : decide (35 < lv.length) = true := by simp; omega
    have tvi : decide ((35 : Int) < (lv.length : Int)) = true := by simp; omega
    (repeat (first | go_big_skip | go_big_want | go_big_move | go_big_op | go_step | go_upon | go_back))
    go_at_call 15
    refine (awake_any _).mono ?_
    rintro e x4 ⟨rfl, ha⟩
    dsimp only
    have HAW := Lib.hid ((Aft.refl w).trans ha)
    clear ha
    (repeat (first | go_big_skip | go_big_want | go_big_move | go_big_op | go_step | go_upon | go_back))
    go_ret
    exact ⟨rfl, HAW.out⟩
  have tv : decide (35 < lv.length) = false := by simp; omega
  have tvi : decide ((35 : Int) < (lv.length : Int)) = false := by simp; omega
  go_upto_block 0 with fail
  clear ta tai tb tbi tl tli tv tvi
  refine wp_block ?_
  go_loopw [54] (fun i wr => ∃ k : Nat, i = .int .i64 (k : Nat) ∧ k ≤ lv.length ∧ Hid (∀ j (h : j < lv.length), j < k → lv[j].length ≤ 35) ∧ Aft w wr) (fun i _ => lv.length - (intOf i).toNat)
  case atStart => exact ⟨0, rfl, by omega, Lib.hid fun j _ h => absurd h (Nat.not_lt_zero _), Aft.refl _⟩
  case round =>
    obtain ⟨k, rfl, hk, HT, hw1⟩ := hrel
    have HW := Lib.hid hw1
    clear hw1
    by_cases hkl : k < lv.length
    · have t1 : decide (k < lv.length) = true := by simpa using hkl
      obtain ⟨bl, ol, rfl, hbl, hcl⟩ := (HV0.out.aft HW.out).at hkl
      obtain ⟨A', c', x0, x1⟩ := hcl k hkl
      have hxl := x1.1
      have HQ : Hid (lv[k].length ≤ 35 → ∀ j (h : j < lv.length), j < k + 1 → lv[j].length ≤ 35) := Lib.hid fun e j h hj => by
        by_cases e2 : j = k
        · subst e2; exact e
        · exact HT.out j h (by omega)
      obtain ⟨q, hq⟩ : ∃ q, lv[k].length = q := ⟨_, rfl⟩
      rw [hq] at x0 HQ hxl
      clear hcl x1 hq
      by_cases hql : 35 < q
      · have t2 : decide (35 < q) = true := by simpa using hql
        have t2i : decide ((35 : Int) < (q : Int)) = true := by simp; omega
        (repeat (first | go_big_skip | go_big_want | go_big_move | go_big_op | go_step | go_upon | go_back))
        go_at_call 15
        refine (awake_any _).mono ?_
        rintro e x5 ⟨rfl, ha⟩
        dsimp only
        have HAW := Lib.hid (HW.out.trans ha)
        clear ha
        (repeat (first | go_big_skip | go_big_want | go_big_move | go_big_op | go_step | go_upon | go_back))
        go_ret
        exact ⟨rfl, HAW.out⟩
      · have t2 : decide (35 < q) = false := by simpa using hql
        have t2i : decide ((35 : Int) < (q : Int)) = false := by simp; omega
        have HN2 := Lib.hid (HQ.out (by omega))
        clear hql HQ
        go_wp2_with fail
        exact ⟨⟨k + 1, by go_num, by omega, HN2, HW.out⟩, by simp [intOf]; omega⟩
    · have t1 : decide (k < lv.length) = false := by simpa using hkl
      have hr35 : ∀ r ∈ lv, r.length ≤ 35 := fun r hr => by
        obtain ⟨j, hj, rfl⟩ := List.mem_iff_getElem.1 hr
        exact HT.out j hj (by omega)
      have HR35 := Lib.hid hr35
      have hla : la.length ≤ 35 := by omega
      have hlb : lb.length ≤ 35 := by omega
      have hll : l.length ≤ 40 := by omega
      have hlv : lv.length ≤ 35 := by omega
      clear hr35 HT lna lnb lnl lnv ha hb hl hv
      go_upto_region 9 with fail
      clear t1
      replace HA0 := Lib.hid ((HA0.out.aft HW.out).small (by omega))
      replace HB0 := Lib.hid ((HB0.out.aft HW.out).small (by omega))
      replace HL0 := Lib.hid ((HL0.out.aft HW.out).small (by omega))
      replace HV0 := Lib.hid ((HV0.out.aft HW.out).small (by omega) (fun r hr => by have := HR35.out r hr; omega))
      (repeat (first | go_big_skip | go_big_want | go_big_move | go_big_op | go_step | go_upon | go_back))
      go_at_call 16
      refine (kitCloneMark _ la ca _ HA0.out).mono ?_
      rintro e x6 ⟨v, rfl, ho, ha⟩
      dsimp only
      obtain ⟨A1, c1, rfl, -, hp, -⟩ := own_flat (enc := enc2) (fun _ => rfl) ho (by omega)
      have P1 : Hid (Prs x6 A1 la) := Lib.hid hp
      clear ho hp
      replace HA0 := Lib.hid (HA0.out.aft (ha))
      replace HB0 := Lib.hid (HB0.out.aft (ha))
      replace HL0 := Lib.hid (HL0.out.aft (ha))
      replace HV0 := Lib.hid (HV0.out.aft (ha))
      replace HW := Lib.hid (HW.out.trans (ha))
      clear ha
      (repeat (first | go_big_skip | go_big_want | go_big_move | go_big_op | go_step | go_upon | go_back))
      go_at_call 16
      refine (kitCloneMark _ lb cb _ HB0.out).mono ?_
      rintro e x7 ⟨v, rfl, ho, ha⟩
      dsimp only
      obtain ⟨A2, c2, rfl, -, hp, -⟩ := own_flat (enc := enc2) (fun _ => rfl) ho (by omega)
      have P2 : Hid (Prs x7 A2 lb) := Lib.hid hp
      clear ho hp
      replace HA0 := Lib.hid (HA0.out.aft (ha))
      replace HB0 := Lib.hid (HB0.out.aft (ha))
      replace HL0 := Lib.hid (HL0.out.aft (ha))
      replace HV0 := Lib.hid (HV0.out.aft (ha))
      replace P1 := Lib.hid (P1.out.aft (ha))
      replace HW := Lib.hid (HW.out.trans (ha))
      clear ha
      (repeat (first | go_big_skip | go_big_want | go_big_move | go_big_op | go_step | go_upon | go_back))
      go_at_call 17
      refine (kitClonePair _ l cl _ HL0.out).mono ?_
      rintro e x8 ⟨v, rfl, ho, ha⟩
      dsimp only
      obtain ⟨A3, c3, rfl, -, hp, -⟩ := own_flat (enc := enc2) (fun _ => rfl) ho (by omega)
      have P3 : Hid (Prs x8 A3 l) := Lib.hid hp
      clear ho hp
      replace HA0 := Lib.hid (HA0.out.aft (ha))
      replace HB0 := Lib.hid (HB0.out.aft (ha))
      replace HL0 := Lib.hid (HL0.out.aft (ha))
      replace HV0 := Lib.hid (HV0.out.aft (ha))
      replace P1 := Lib.hid (P1.out.aft (ha))
      replace P2 := Lib.hid (P2.out.aft (ha))
      replace HW := Lib.hid (HW.out.trans (ha))
      clear ha
      (repeat (first | go_big_skip | go_big_want | go_big_move | go_big_op | go_step | go_upon | go_back))
      go_at_call 18
      refine (cloneAll_any _ _ lv cv HV0.out (by omega)).mono ?_
      rintro e x9 ⟨v, rfl, ho, ha⟩
      dsimp only
      obtain ⟨A4, c4, rfl, -, hp⟩ := ho.lists (by omega) (fun r hr => by have := HR35.out r hr; omega)
      have P4 : Hid (Lists x9 A4 lv) := Lib.hid hp
      clear ho hp
      replace HA0 := Lib.hid (HA0.out.aft (ha))
      replace HB0 := Lib.hid (HB0.out.aft (ha))
      replace HL0 := Lib.hid (HL0.out.aft (ha))
      replace HV0 := Lib.hid (HV0.out.aft (ha))
      replace P1 := Lib.hid (P1.out.aft (ha))
      replace P2 := Lib.hid (P2.out.aft (ha))
      replace P3 := Lib.hid (P3.out.aft (ha))
      replace HW := Lib.hid (HW.out.trans (ha))
      clear ha
      go_upto_region 10 with fail
      (repeat (first | go_big_skip | go_big_want | go_big_move | go_big_op | go_step | go_upon | go_back))
      go_at_call 19
      refine (marks_any _ la ca _ HA0.out).mono ?_
      rintro e x10 ⟨v, rfl, ho, ha⟩
      dsimp only
      obtain ⟨A5, c5, rfl, -, hp, -⟩ := own_flat (enc := enc2) (fun _ => rfl) ho (by omega)
      have P5 : Hid (Prs x10 A5 la) := Lib.hid hp
      clear ho hp
      replace HA0 := Lib.hid (HA0.out.aft (ha))
      replace HB0 := Lib.hid (HB0.out.aft (ha))
      replace HL0 := Lib.hid (HL0.out.aft (ha))
      replace HV0 := Lib.hid (HV0.out.aft (ha))
      replace P1 := Lib.hid (P1.out.aft (ha))
      replace P2 := Lib.hid (P2.out.aft (ha))
      replace P3 := Lib.hid (P3.out.aft (ha))
      replace P4 := Lib.hid (P4.out.aft (ha))
      replace HW := Lib.hid (HW.out.trans (ha))
      clear ha
      (repeat (first | go_big_skip | go_big_want | go_big_move | go_big_op | go_step | go_upon | go_back))
      go_at_call 19
      refine (marks_any _ lb cb _ HB0.out).mono ?_
      rintro e x11 ⟨v, rfl, ho, ha⟩
      dsimp only
      obtain ⟨A6, c6, rfl, -, hp, -⟩ := own_flat (enc := enc2) (fun _ => rfl) ho (by omega)
      have P6 : Hid (Prs x11 A6 lb) := Lib.hid hp
      clear ho hp
      replace HA0 := Lib.hid (HA0.out.aft (ha))
      replace HB0 := Lib.hid (HB0.out.aft (ha))
      replace HL0 := Lib.hid (HL0.out.aft (ha))
      replace HV0 := Lib.hid (HV0.out.aft (ha))
      replace P1 := Lib.hid (P1.out.aft (ha))
      replace P2 := Lib.hid (P2.out.aft (ha))
      replace P3 := Lib.hid (P3.out.aft (ha))
      replace P4 := Lib.hid (P4.out.aft (ha))
      replace P5 := Lib.hid (P5.out.aft (ha))
      replace HW := Lib.hid (HW.out.trans (ha))
      clear ha
      obtain ⟨mv, hmv⟩ : ∃ z, matchV la lb play l = z := ⟨_, rfl⟩
      obtain ⟨me, hme⟩ : ∃ z, matchE la lb play l = z := ⟨_, rfl⟩
      have HMM := Lib.hid (And.intro hmv hme)
      clear hmv hme
      have HMAT : Hid (∀ W A B Al ca cb cl, Prs W A la → Prs W B lb → Prs W Al l → Calls Try.prog 20 #[.slice A la.length ca, .slice B lb.length cb, .int .i64 play, .slice Al l.length cl] W fun e w' => e = .returned (.tuple #[.bool mv, .int .i64 me]) ∧ Aft W w') := Lib.hid fun W A B Al ca cb cl h1 h2 h3 => by
        have := matches_any la lb play l A B Al ca cb cl W h1 h2 h3
        rwa [HMM.out.1, HMM.out.2] at this
      have HREF : Hid (∀ W A B Al ca cb cl, Prs W A la → Prs W B lb → Prs W Al l → Calls Try.prog 21 #[.slice A la.length ca, .slice B lb.length cb, .int .i64 play, .slice Al l.length cl] W fun e w' => e = .returned (.tuple #[.bool mv, .int .i64 me]) ∧ Aft W w') := Lib.hid fun W A B Al ca cb cl h1 h2 h3 => by
        have := refMatches_any la lb play l A B Al ca cb cl W h1 h2 h3
        rwa [HMM.out.1, HMM.out.2] at this
      (repeat (first | go_big_skip | go_big_want | go_big_move | go_big_op | go_step | go_upon | go_back))
      go_at_call 20
      refine (HMAT.out _ _ _ _ _ _ _ P1.out P2.out P3.out).mono ?_
      rintro e x12 ⟨rfl, ha⟩
      dsimp only
      replace HA0 := Lib.hid (HA0.out.aft (ha))
      replace HB0 := Lib.hid (HB0.out.aft (ha))
      replace HL0 := Lib.hid (HL0.out.aft (ha))
      replace HV0 := Lib.hid (HV0.out.aft (ha))
      replace P1 := Lib.hid (P1.out.aft (ha))
      replace P2 := Lib.hid (P2.out.aft (ha))
      replace P3 := Lib.hid (P3.out.aft (ha))
      replace P4 := Lib.hid (P4.out.aft (ha))
      replace P5 := Lib.hid (P5.out.aft (ha))
      replace P6 := Lib.hid (P6.out.aft (ha))
      replace HW := Lib.hid (HW.out.trans (ha))
      clear ha HMAT
      go_upto_region 12 with fail
      (repeat (first | go_big_skip | go_big_want | go_big_move | go_big_op | go_step | go_upon | go_back))
      go_at_call 22
      refine (couples_any _ l cl _ HL0.out).mono ?_
      rintro e x13 ⟨v, rfl, ho, ha⟩
      dsimp only
      obtain ⟨A7, c7, rfl, -, hp, -⟩ := own_flat (enc := enc2) (fun _ => rfl) ho (by omega)
      have P7 : Hid (Prs x13 A7 l) := Lib.hid hp
      clear ho hp
      replace HA0 := Lib.hid (HA0.out.aft (ha))
      replace HB0 := Lib.hid (HB0.out.aft (ha))
      replace HL0 := Lib.hid (HL0.out.aft (ha))
      replace HV0 := Lib.hid (HV0.out.aft (ha))
      replace P1 := Lib.hid (P1.out.aft (ha))
      replace P2 := Lib.hid (P2.out.aft (ha))
      replace P3 := Lib.hid (P3.out.aft (ha))
      replace P4 := Lib.hid (P4.out.aft (ha))
      replace P5 := Lib.hid (P5.out.aft (ha))
      replace P6 := Lib.hid (P6.out.aft (ha))
      replace HW := Lib.hid (HW.out.trans (ha))
      clear ha
      (repeat (first | go_big_skip | go_big_want | go_big_move | go_big_op | go_step | go_upon | go_back))
      go_at_call 21
      refine (HREF.out _ _ _ _ _ _ _ P5.out P6.out P7.out).mono ?_
      rintro e x14 ⟨rfl, ha⟩
      dsimp only
      replace HA0 := Lib.hid (HA0.out.aft (ha))
      replace HB0 := Lib.hid (HB0.out.aft (ha))
      replace HL0 := Lib.hid (HL0.out.aft (ha))
      replace HV0 := Lib.hid (HV0.out.aft (ha))
      replace P1 := Lib.hid (P1.out.aft (ha))
      replace P2 := Lib.hid (P2.out.aft (ha))
      replace P3 := Lib.hid (P3.out.aft (ha))
      replace P4 := Lib.hid (P4.out.aft (ha))
      replace P5 := Lib.hid (P5.out.aft (ha))
      replace P6 := Lib.hid (P6.out.aft (ha))
      replace P7 := Lib.hid (P7.out.aft (ha))
      replace HW := Lib.hid (HW.out.trans (ha))
      clear ha HREF
      have tmv : (mv != mv) = false := by simp
      have tme : (me != me) = false := by simp
      go_upto_region 15 with fail
      clear tmv tme HMM P7
      (repeat (first | go_big_skip | go_big_want | go_big_move | go_big_op | go_step | go_upon | go_back))
      go_at_call 23
      refine (bars_all la lb play lv _ _ _ _ _ _ _ P1.out P2.out P4.out).mono ?_
      rintro e x15 ⟨bv, be, rfl, hbw, ha⟩
      dsimp only
      have HBW := Lib.hid hbw
      clear hbw
      replace HA0 := Lib.hid (HA0.out.aft (ha))
      replace HB0 := Lib.hid (HB0.out.aft (ha))
      replace HL0 := Lib.hid (HL0.out.aft (ha))
      replace HV0 := Lib.hid (HV0.out.aft (ha))
      replace P1 := Lib.hid (P1.out.aft (ha))
      replace P2 := Lib.hid (P2.out.aft (ha))
      replace P3 := Lib.hid (P3.out.aft (ha))
      replace P4 := Lib.hid (P4.out.aft (ha))
      replace P5 := Lib.hid (P5.out.aft (ha))
      replace P6 := Lib.hid (P6.out.aft (ha))
      replace HW := Lib.hid (HW.out.trans (ha))
      clear ha
      go_upto_region 16 with fail
      (repeat (first | go_big_skip | go_big_want | go_big_move | go_big_op | go_step | go_upon | go_back))
      go_at_call 24
      refine (refBars_any la lb play lv _ _ _ _ _ _ _ P5.out P6.out HV0.out).mono ?_
      rintro e x16 ⟨bv2, be2, rfl, hbw2, ha⟩
      dsimp only
      obtain ⟨hb1, hb2⟩ := HBW.out.same hbw2
      subst hb1 hb2
      clear hbw2 HBW
      replace HA0 := Lib.hid (HA0.out.aft (ha))
      replace HB0 := Lib.hid (HB0.out.aft (ha))
      replace HL0 := Lib.hid (HL0.out.aft (ha))
      replace HV0 := Lib.hid (HV0.out.aft (ha))
      replace P1 := Lib.hid (P1.out.aft (ha))
      replace P2 := Lib.hid (P2.out.aft (ha))
      replace P3 := Lib.hid (P3.out.aft (ha))
      replace P4 := Lib.hid (P4.out.aft (ha))
      replace P5 := Lib.hid (P5.out.aft (ha))
      replace P6 := Lib.hid (P6.out.aft (ha))
      replace HW := Lib.hid (HW.out.trans (ha))
      clear ha
      have tmv : (bv != bv) = false := by simp
      have tme : (be != be) = false := by simp
      go_upto_region 19 with fail
      clear tmv tme
      by_cases he : edgesE la lb play = 0
      rotate_left
      · have HEE := Lib.hid (fun W (A B : Option Addr) (ca cb : Nat) (h1 : Prs W A la) (h2 : Prs W B lb) => (match_bad la lb play A B ca cb W h1 h2 he))
        have HEL := Lib.hid (fun W (A B : Option Addr) (ca cb : Nat) (h1 : Prs W A la) (h2 : Prs W B lb) => (levels_bad la lb play A B ca cb W h1 h2 he))
        have HEM := Lib.hid (fun W (A B : Option Addr) (ca cb : Nat) (h1 : Prs W A la) (h2 : Prs W B lb) => (most_bad la lb play A B ca cb W h1 h2 he))
        obtain ⟨ee, hee⟩ : ∃ z, edgesE la lb play = z := ⟨_, rfl⟩
        rw [hee] at HEE HEL HEM he
        clear hee
        (repeat (first | go_big_skip | go_big_want | go_big_move | go_big_op | go_step | go_upon | go_back))
        go_at_call 25
        refine (HEE.out _ _ _ _ _ P1.out P2.out).mono ?_
        rintro e x17 ⟨rfl, ha⟩
        dsimp only
        replace HA0 := Lib.hid (HA0.out.aft (ha))
        replace HB0 := Lib.hid (HB0.out.aft (ha))
        replace HL0 := Lib.hid (HL0.out.aft (ha))
        replace HV0 := Lib.hid (HV0.out.aft (ha))
        replace P1 := Lib.hid (P1.out.aft (ha))
        replace P2 := Lib.hid (P2.out.aft (ha))
        replace P3 := Lib.hid (P3.out.aft (ha))
        replace P4 := Lib.hid (P4.out.aft (ha))
        replace P5 := Lib.hid (P5.out.aft (ha))
        replace P6 := Lib.hid (P6.out.aft (ha))
        replace HW := Lib.hid (HW.out.trans (ha))
        clear ha
        go_upto_region 20 with fail
        (repeat (first | go_big_skip | go_big_want | go_big_move | go_big_op | go_step | go_upon | go_back))
        go_at_call 26
        refine (HEL.out _ _ _ _ _ P1.out P2.out).mono ?_
        rintro e x18 ⟨rfl, ha⟩
        dsimp only
        replace HA0 := Lib.hid (HA0.out.aft (ha))
        replace HB0 := Lib.hid (HB0.out.aft (ha))
        replace HL0 := Lib.hid (HL0.out.aft (ha))
        replace HV0 := Lib.hid (HV0.out.aft (ha))
        replace P1 := Lib.hid (P1.out.aft (ha))
        replace P2 := Lib.hid (P2.out.aft (ha))
        replace P3 := Lib.hid (P3.out.aft (ha))
        replace P4 := Lib.hid (P4.out.aft (ha))
        replace P5 := Lib.hid (P5.out.aft (ha))
        replace P6 := Lib.hid (P6.out.aft (ha))
        replace HW := Lib.hid (HW.out.trans (ha))
        clear ha
        go_upto_region 21 with fail
        (repeat (first | go_big_skip | go_big_want | go_big_move | go_big_op | go_step | go_upon | go_back))
        go_at_call 27
        refine (HEM.out _ _ _ _ _ P5.out P6.out).mono ?_
        rintro e x19 ⟨rfl, ha⟩
        dsimp only
        replace HA0 := Lib.hid (HA0.out.aft (ha))
        replace HB0 := Lib.hid (HB0.out.aft (ha))
        replace HL0 := Lib.hid (HL0.out.aft (ha))
        replace HV0 := Lib.hid (HV0.out.aft (ha))
        replace P1 := Lib.hid (P1.out.aft (ha))
        replace P2 := Lib.hid (P2.out.aft (ha))
        replace P3 := Lib.hid (P3.out.aft (ha))
        replace P4 := Lib.hid (P4.out.aft (ha))
        replace P5 := Lib.hid (P5.out.aft (ha))
        replace P6 := Lib.hid (P6.out.aft (ha))
        replace HW := Lib.hid (HW.out.trans (ha))
        clear ha HEE HEL HEM
        have t1 : (ee != ee) = false := by simp
        have t2 : (ee != 0) = true := by simpa using he
        have t3 : (ee == 0) = false := by simpa using he
        go_upto_region 24 with fail
        apply wp_region_lit
        (repeat (first | go_big_skip | go_big_want | go_big_move | go_big_op | go_step | go_upon | go_back))
        go_at_call 28
        refine (kitEqual_mark _ _ la la c1 ca _ P1.out HA0.out).mono ?_
        rintro e x20 ⟨rfl, ha⟩
        dsimp only
        replace HA0 := Lib.hid (HA0.out.aft (ha))
        replace HB0 := Lib.hid (HB0.out.aft (ha))
        replace HL0 := Lib.hid (HL0.out.aft (ha))
        replace HV0 := Lib.hid (HV0.out.aft (ha))
        replace P1 := Lib.hid (P1.out.aft (ha))
        replace P2 := Lib.hid (P2.out.aft (ha))
        replace P3 := Lib.hid (P3.out.aft (ha))
        replace P4 := Lib.hid (P4.out.aft (ha))
        replace P5 := Lib.hid (P5.out.aft (ha))
        replace P6 := Lib.hid (P6.out.aft (ha))
        replace HW := Lib.hid (HW.out.trans (ha))
        clear ha
        rw [eqB_self]
        (repeat (first | go_big_skip | go_big_want | go_big_move | go_big_op | go_step | go_upon | go_back))
        go_at_call 28
        refine (kitEqual_mark _ _ lb lb c2 cb _ P2.out HB0.out).mono ?_
        rintro e x21 ⟨rfl, ha⟩
        dsimp only
        replace HA0 := Lib.hid (HA0.out.aft (ha))
        replace HB0 := Lib.hid (HB0.out.aft (ha))
        replace HL0 := Lib.hid (HL0.out.aft (ha))
        replace HV0 := Lib.hid (HV0.out.aft (ha))
        replace P1 := Lib.hid (P1.out.aft (ha))
        replace P2 := Lib.hid (P2.out.aft (ha))
        replace P3 := Lib.hid (P3.out.aft (ha))
        replace P4 := Lib.hid (P4.out.aft (ha))
        replace P5 := Lib.hid (P5.out.aft (ha))
        replace P6 := Lib.hid (P6.out.aft (ha))
        replace HW := Lib.hid (HW.out.trans (ha))
        clear ha
        rw [eqB_self]
        (repeat (first | go_big_skip | go_big_want | go_big_move | go_big_op | go_step | go_upon | go_back))
        go_at_call 29
        refine (kitEqual_pair _ _ l l c3 cl _ P3.out HL0.out).mono ?_
        rintro e x22 ⟨rfl, ha⟩
        dsimp only
        replace HA0 := Lib.hid (HA0.out.aft (ha))
        replace HB0 := Lib.hid (HB0.out.aft (ha))
        replace HL0 := Lib.hid (HL0.out.aft (ha))
        replace HV0 := Lib.hid (HV0.out.aft (ha))
        replace P1 := Lib.hid (P1.out.aft (ha))
        replace P2 := Lib.hid (P2.out.aft (ha))
        replace P3 := Lib.hid (P3.out.aft (ha))
        replace P4 := Lib.hid (P4.out.aft (ha))
        replace P5 := Lib.hid (P5.out.aft (ha))
        replace P6 := Lib.hid (P6.out.aft (ha))
        replace HW := Lib.hid (HW.out.trans (ha))
        clear ha
        rw [eqB_self]
        (repeat (first | go_big_skip | go_big_want | go_big_move | go_big_op | go_step | go_upon | go_back))
        go_at_call 30
        refine (equalAll_any _ _ _ lv lv c4 cv P4.out HV0.out).mono ?_
        rintro e x23 ⟨rfl, ha⟩
        dsimp only
        replace HA0 := Lib.hid (HA0.out.aft (ha))
        replace HB0 := Lib.hid (HB0.out.aft (ha))
        replace HL0 := Lib.hid (HL0.out.aft (ha))
        replace HV0 := Lib.hid (HV0.out.aft (ha))
        replace P1 := Lib.hid (P1.out.aft (ha))
        replace P2 := Lib.hid (P2.out.aft (ha))
        replace P3 := Lib.hid (P3.out.aft (ha))
        replace P4 := Lib.hid (P4.out.aft (ha))
        replace P5 := Lib.hid (P5.out.aft (ha))
        replace P6 := Lib.hid (P6.out.aft (ha))
        replace HW := Lib.hid (HW.out.trans (ha))
        clear ha
        rw [eqB_self]
        (repeat (first | go_big_skip | go_big_want | go_big_move | go_big_op | go_step | go_upon | go_back))
        go_at_call 15
        refine (awake_any _).mono ?_
        rintro e x24 ⟨rfl, ha⟩
        dsimp only
        have HAW := Lib.hid (HW.out.trans ha)
        clear ha
        (repeat (first | go_big_skip | go_big_want | go_big_move | go_big_op | go_step | go_upon | go_back))
        go_ret
        exact ⟨rfl, HAW.out⟩
      · have HE := Lib.hid he
        clear he
        (repeat (first | go_big_skip | go_big_want | go_big_move | go_big_op | go_step | go_upon | go_back))
        go_at_call 25
        refine (match_good la lb play _ _ _ _ _ P1.out P2.out HE.out).mono ?_
        rintro e x35 ⟨v, ml, rfl, ho, hch, hlo, ha⟩
        dsimp only
        have hml : ml.length = (ml.map castP).length := by simp
        rw [hml] at ho
        obtain ⟨A8, c8, rfl, -, hp, -⟩ := own_flat (enc := enc2) (fun _ => rfl) ho (by simp; have := chain_len hch; omega)
        rw [← hml]
        have P8 : Hid (Prs x35 A8 (ml.map castP)) := Lib.hid hp
        have HCH := Lib.hid hch
        have HLO := Lib.hid hlo
        clear ho hp hml
        replace HA0 := Lib.hid (HA0.out.aft (ha))
        replace HB0 := Lib.hid (HB0.out.aft (ha))
        replace HL0 := Lib.hid (HL0.out.aft (ha))
        replace HV0 := Lib.hid (HV0.out.aft (ha))
        replace P1 := Lib.hid (P1.out.aft (ha))
        replace P2 := Lib.hid (P2.out.aft (ha))
        replace P3 := Lib.hid (P3.out.aft (ha))
        replace P4 := Lib.hid (P4.out.aft (ha))
        replace P5 := Lib.hid (P5.out.aft (ha))
        replace P6 := Lib.hid (P6.out.aft (ha))
        replace HW := Lib.hid (HW.out.trans (ha))
        clear ha
        go_upto_region 20 with fail
        (repeat (first | go_big_skip | go_big_want | go_big_move | go_big_op | go_step | go_upon | go_back))
        go_at_call 26
        refine (levels_good la lb play _ _ _ _ _ P1.out P2.out HE.out).mono ?_
        rintro e x36 ⟨v, V, rfl, ho, hLV, hV, ha⟩
        dsimp only
        have HS9 := Lib.hid (rowsV_shape V la.length lb.length)
        obtain ⟨A9, c9, rfl, -, hp⟩ := ho.lists (by rw [HS9.out.n]; omega) (fun r hr => by rw [HS9.out.m r hr]; omega)
        rw [HS9.out.n]
        have P9 : Hid (Lists x36 A9 (rowsV V la.length lb.length)) := Lib.hid hp
        have HLV := Lib.hid hLV
        have HVV := Lib.hid hV
        clear ho hp hLV hV
        replace HA0 := Lib.hid (HA0.out.aft (ha))
        replace HB0 := Lib.hid (HB0.out.aft (ha))
        replace HL0 := Lib.hid (HL0.out.aft (ha))
        replace HV0 := Lib.hid (HV0.out.aft (ha))
        replace P1 := Lib.hid (P1.out.aft (ha))
        replace P2 := Lib.hid (P2.out.aft (ha))
        replace P3 := Lib.hid (P3.out.aft (ha))
        replace P4 := Lib.hid (P4.out.aft (ha))
        replace P5 := Lib.hid (P5.out.aft (ha))
        replace P6 := Lib.hid (P6.out.aft (ha))
        replace P8 := Lib.hid (P8.out.aft (ha))
        replace HW := Lib.hid (HW.out.trans (ha))
        clear ha
        go_upto_region 21 with fail
        (repeat (first | go_big_skip | go_big_want | go_big_move | go_big_op | go_step | go_upon | go_back))
        go_at_call 27
        refine (most_good la lb play _ _ _ _ _ P5.out P6.out HE.out).mono ?_
        rintro e x37 ⟨mt, rfl, hmt, ha⟩
        dsimp only
        have HEMT := Lib.hid (HLO.out.same hmt)
        have HMT := Lib.hid hmt
        clear hmt
        replace HA0 := Lib.hid (HA0.out.aft (ha))
        replace HB0 := Lib.hid (HB0.out.aft (ha))
        replace HL0 := Lib.hid (HL0.out.aft (ha))
        replace HV0 := Lib.hid (HV0.out.aft (ha))
        replace P1 := Lib.hid (P1.out.aft (ha))
        replace P2 := Lib.hid (P2.out.aft (ha))
        replace P3 := Lib.hid (P3.out.aft (ha))
        replace P4 := Lib.hid (P4.out.aft (ha))
        replace P5 := Lib.hid (P5.out.aft (ha))
        replace P6 := Lib.hid (P6.out.aft (ha))
        replace P8 := Lib.hid (P8.out.aft (ha))
        replace P9 := Lib.hid (P9.out.aft (ha))
        replace HW := Lib.hid (HW.out.trans (ha))
        clear ha
        have HMM := Lib.hid (chain_match HE.out HCH.out)
        have HREF : Hid (∀ W A B Al ca cb cl, Prs W A la → Prs W B lb → Prs W Al (ml.map castP) → Calls Try.prog 21 #[.slice A la.length ca, .slice B lb.length cb, .int .i64 play, .slice Al ml.length cl] W fun e w' => e = .returned (.tuple #[.bool true, .int .i64 0]) ∧ Aft W w') := Lib.hid fun W A B Al ca cb cl h1 h2 h3 => by
          have := refMatches_any la lb play (ml.map castP) A B Al ca cb cl W h1 h2 h3
          rwa [HMM.out.1, HMM.out.2, List.length_map] at this
        have HCOU : Hid (∀ W A c, Prs W A (ml.map castP) → Calls Try.prog 22 #[.slice A ml.length c] W (OwnF 138 2 enc2 W (ml.map castP))) := Lib.hid fun W A c h => by
          have := couples_any A (ml.map castP) c W h
          rwa [List.length_map] at this
        have HBAR : Hid (∀ W A B Al ca cb cl, Prs W A la → Prs W B lb → Lists W Al (rowsV V la.length lb.length) → Calls Try.prog 24 #[.slice A la.length ca, .slice B lb.length cb, .int .i64 play, .slice Al la.length cl] W fun e w' => e = .returned (.tuple #[.int .i64 (mt : Nat), .int .i64 0]) ∧ Aft W w') := Lib.hid fun W A B Al ca cb cl h1 h2 h3 => by
          have := refBars_any la lb play (rowsV V la.length lb.length) A B Al ca cb cl W h1 h2 h3
          rw [HS9.out.n] at this
          refine this.mono fun e w' h => ?_
          obtain ⟨v, err, rfl, hb, ha⟩ := h
          obtain ⟨rfl, rfl⟩ := levels_bars HE.out HLV.out HVV.out HMT.out hb
          exact ⟨rfl, ha⟩
        have hml9 : ml.length ≤ 35 := by
          have := chain_len HCH.out
          omega
        go_upto_region 25 with fail
        (repeat (first | go_big_skip | go_big_want | go_big_move | go_big_op | go_step | go_upon | go_back))
        go_at_call 22
        refine (HCOU.out _ _ _ P8.out).mono ?_
        rintro e x38 ⟨v, rfl, ho, ha⟩
        dsimp only
        have hml : (ml.map castP).length = ml.length := by simp
        obtain ⟨A7, c7, rfl, -, hp, -⟩ := own_flat (enc := enc2) (fun _ => rfl) ho (by rw [hml]; omega)
        rw [hml]
        have P7 : Hid (Prs x38 A7 (ml.map castP)) := Lib.hid hp
        clear ho hp hml
        replace HA0 := Lib.hid (HA0.out.aft (ha))
        replace HB0 := Lib.hid (HB0.out.aft (ha))
        replace HL0 := Lib.hid (HL0.out.aft (ha))
        replace HV0 := Lib.hid (HV0.out.aft (ha))
        replace P1 := Lib.hid (P1.out.aft (ha))
        replace P2 := Lib.hid (P2.out.aft (ha))
        replace P3 := Lib.hid (P3.out.aft (ha))
        replace P4 := Lib.hid (P4.out.aft (ha))
        replace P5 := Lib.hid (P5.out.aft (ha))
        replace P6 := Lib.hid (P6.out.aft (ha))
        replace P8 := Lib.hid (P8.out.aft (ha))
        replace P9 := Lib.hid (P9.out.aft (ha))
        replace HW := Lib.hid (HW.out.trans (ha))
        clear ha
        (repeat (first | go_big_skip | go_big_want | go_big_move | go_big_op | go_step | go_upon | go_back))
        go_at_call 21
        refine (HREF.out _ _ _ _ _ _ _ P5.out P6.out P7.out).mono ?_
        rintro e x39 ⟨rfl, ha⟩
        dsimp only
        replace HA0 := Lib.hid (HA0.out.aft (ha))
        replace HB0 := Lib.hid (HB0.out.aft (ha))
        replace HL0 := Lib.hid (HL0.out.aft (ha))
        replace HV0 := Lib.hid (HV0.out.aft (ha))
        replace P1 := Lib.hid (P1.out.aft (ha))
        replace P2 := Lib.hid (P2.out.aft (ha))
        replace P3 := Lib.hid (P3.out.aft (ha))
        replace P4 := Lib.hid (P4.out.aft (ha))
        replace P5 := Lib.hid (P5.out.aft (ha))
        replace P6 := Lib.hid (P6.out.aft (ha))
        replace P8 := Lib.hid (P8.out.aft (ha))
        replace P9 := Lib.hid (P9.out.aft (ha))
        replace P7 := Lib.hid (P7.out.aft (ha))
        replace HW := Lib.hid (HW.out.trans (ha))
        clear ha HREF HCOU
        go_upto_region 26 with fail
        (repeat (first | go_big_skip | go_big_want | go_big_move | go_big_op | go_step | go_upon | go_back))
        go_at_call 24
        refine (HBAR.out _ _ _ _ _ _ _ P5.out P6.out P9.out).mono ?_
        rintro e x40 ⟨rfl, ha⟩
        dsimp only
        replace HA0 := Lib.hid (HA0.out.aft (ha))
        replace HB0 := Lib.hid (HB0.out.aft (ha))
        replace HL0 := Lib.hid (HL0.out.aft (ha))
        replace HV0 := Lib.hid (HV0.out.aft (ha))
        replace P1 := Lib.hid (P1.out.aft (ha))
        replace P2 := Lib.hid (P2.out.aft (ha))
        replace P3 := Lib.hid (P3.out.aft (ha))
        replace P4 := Lib.hid (P4.out.aft (ha))
        replace P5 := Lib.hid (P5.out.aft (ha))
        replace P6 := Lib.hid (P6.out.aft (ha))
        replace P8 := Lib.hid (P8.out.aft (ha))
        replace P9 := Lib.hid (P9.out.aft (ha))
        replace P7 := Lib.hid (P7.out.aft (ha))
        replace HW := Lib.hid (HW.out.trans (ha))
        clear ha HBAR
        have t1 : ((ml.length : Int) != (mt : Int)) = false := by rw [bne_eq_false_iff_eq, HEMT.out]
        have t2 : ((mt : Int) != (mt : Int)) = false := by simp
        have t1N : (ml.length != mt) = false := by rw [bne_eq_false_iff_eq, HEMT.out]
        clear P7 P8 P9
        (repeat (first | go_big_skip | go_big_want | go_big_move | go_big_op | go_step | go_upon | go_back))
        go_at_call 28
        refine (kitEqual_mark _ _ la la c1 ca _ P1.out HA0.out).mono ?_
        rintro e x41 ⟨rfl, ha⟩
        dsimp only
        replace HA0 := Lib.hid (HA0.out.aft (ha))
        replace HB0 := Lib.hid (HB0.out.aft (ha))
        replace HL0 := Lib.hid (HL0.out.aft (ha))
        replace HV0 := Lib.hid (HV0.out.aft (ha))
        replace P1 := Lib.hid (P1.out.aft (ha))
        replace P2 := Lib.hid (P2.out.aft (ha))
        replace P3 := Lib.hid (P3.out.aft (ha))
        replace P4 := Lib.hid (P4.out.aft (ha))
        replace P5 := Lib.hid (P5.out.aft (ha))
        replace P6 := Lib.hid (P6.out.aft (ha))
        replace HW := Lib.hid (HW.out.trans (ha))
        clear ha
        rw [eqB_self]
        (repeat (first | go_big_skip | go_big_want | go_big_move | go_big_op | go_step | go_upon | go_back))
        go_at_call 28
        refine (kitEqual_mark _ _ lb lb c2 cb _ P2.out HB0.out).mono ?_
        rintro e x42 ⟨rfl, ha⟩
        dsimp only
        replace HA0 := Lib.hid (HA0.out.aft (ha))
        replace HB0 := Lib.hid (HB0.out.aft (ha))
        replace HL0 := Lib.hid (HL0.out.aft (ha))
        replace HV0 := Lib.hid (HV0.out.aft (ha))
        replace P1 := Lib.hid (P1.out.aft (ha))
        replace P2 := Lib.hid (P2.out.aft (ha))
        replace P3 := Lib.hid (P3.out.aft (ha))
        replace P4 := Lib.hid (P4.out.aft (ha))
        replace P5 := Lib.hid (P5.out.aft (ha))
        replace P6 := Lib.hid (P6.out.aft (ha))
        replace HW := Lib.hid (HW.out.trans (ha))
        clear ha
        rw [eqB_self]
        (repeat (first | go_big_skip | go_big_want | go_big_move | go_big_op | go_step | go_upon | go_back))
        go_at_call 29
        refine (kitEqual_pair _ _ l l c3 cl _ P3.out HL0.out).mono ?_
        rintro e x43 ⟨rfl, ha⟩
        dsimp only
        replace HA0 := Lib.hid (HA0.out.aft (ha))
        replace HB0 := Lib.hid (HB0.out.aft (ha))
        replace HL0 := Lib.hid (HL0.out.aft (ha))
        replace HV0 := Lib.hid (HV0.out.aft (ha))
        replace P1 := Lib.hid (P1.out.aft (ha))
        replace P2 := Lib.hid (P2.out.aft (ha))
        replace P3 := Lib.hid (P3.out.aft (ha))
        replace P4 := Lib.hid (P4.out.aft (ha))
        replace P5 := Lib.hid (P5.out.aft (ha))
        replace P6 := Lib.hid (P6.out.aft (ha))
        replace HW := Lib.hid (HW.out.trans (ha))
        clear ha
        rw [eqB_self]
        (repeat (first | go_big_skip | go_big_want | go_big_move | go_big_op | go_step | go_upon | go_back))
        go_at_call 30
        refine (equalAll_any _ _ _ lv lv c4 cv P4.out HV0.out).mono ?_
        rintro e x44 ⟨rfl, ha⟩
        dsimp only
        replace HA0 := Lib.hid (HA0.out.aft (ha))
        replace HB0 := Lib.hid (HB0.out.aft (ha))
        replace HL0 := Lib.hid (HL0.out.aft (ha))
        replace HV0 := Lib.hid (HV0.out.aft (ha))
        replace P1 := Lib.hid (P1.out.aft (ha))
        replace P2 := Lib.hid (P2.out.aft (ha))
        replace P3 := Lib.hid (P3.out.aft (ha))
        replace P4 := Lib.hid (P4.out.aft (ha))
        replace P5 := Lib.hid (P5.out.aft (ha))
        replace P6 := Lib.hid (P6.out.aft (ha))
        replace HW := Lib.hid (HW.out.trans (ha))
        clear ha
        rw [eqB_self]
        (repeat (first | go_big_skip | go_big_want | go_big_move | go_big_op | go_step | go_upon | go_back))
        go_at_call 15
        refine (awake_any _).mono ?_
        rintro e x45 ⟨rfl, ha⟩
        dsimp only
        have HAW := Lib.hid (HW.out.trans ha)
        clear ha
        (repeat (first | go_big_skip | go_big_want | go_big_move | go_big_op | go_step | go_upon | go_back))
        go_ret
        exact ⟨rfl, HAW.out⟩
end Go.Proofs
end
