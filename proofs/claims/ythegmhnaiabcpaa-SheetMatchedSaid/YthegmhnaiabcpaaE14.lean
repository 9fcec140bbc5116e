/- Own texts, merged: Te Tf Ua Yc Up Uq Va. -/
import Derived.Test.YthegmhnaiabcpaaE13
set_option linter.unusedSimpArgs false
set_option linter.unusedVariables false
set_option linter.unnecessarySimpa false
section
/- Walks: asked. -/
namespace Go.Proofs
open Go.RowKit
attribute [local go_sem] Oper.semAt_some

/-- A mark that is right. -/
def markB (m : Int × Int) : Bool := fromB m.1 (-1000000) 1000000 && fromB m.2 0 20
/-- The first k places are in order. -/
def OrdTo (l : List (Int × Int)) (k : Nat) : Prop := ∀ i, 1 ≤ i → i < k → i < l.length → (l.getD (i - 1) (0, 0)).1 < (l.getD i (0, 0)).1
instance (l : List (Int × Int)) : Decidable (OrdTo l l.length) := Nat.decidableBallLT l.length (fun i _ => 1 ≤ i → i < l.length → (l.getD (i - 1) (0, 0)).1 < (l.getD i (0, 0)).1) |> fun d => decidable_of_iff _ (show (∀ i, (h : i < l.length) → 1 ≤ i → i < l.length → (l.getD (i - 1) (0, 0)).1 < (l.getD i (0, 0)).1) ↔ OrdTo l l.length from ⟨fun h i h1 h2 h3 => h i h2 h1 h3, fun h i h2 h1 h3 => h i h1 h2 h3⟩)
def ordB (l : List (Int × Int)) : Bool := decide (OrdTo l l.length)
def edgesE (a b : List (Int × Int)) (play : Int) : Int :=
  if 30 < a.length ∨ 30 < b.length then 3 else if a.all markB = false ∨ b.all markB = false ∨ fromB play 0 1000000 = false then 4 else if ordB a = false ∨ ordB b = false then 5 else 0

theorem mark_any (m : Int × Int) (w : World) : Calls Try.prog 89 #[.agg #[.int .i64 m.1, .int .i64 m.2]] w fun e w' => e = .returned (.bool (markB m)) ∧ Aft w w' := by
  obtain ⟨x, y⟩ := m
  unfold markB
  dsimp only
  go_enter Try.func89, Try.ntmps89
  cases h1 : fromB x (-1000000) 1000000
  · have H1 := Lib.hid h1
    clear h1
    go_wp2_with (go_at_call 45; refine (in_any _ _ _ _).mono ?_; rintro e w' ⟨rfl, rfl⟩; rw [H1.out])
    go_ret
    exact ⟨rfl, Aft.alloc _ _⟩
  · have H1 := Lib.hid h1
    clear h1
    go_wp2_with (first | (go_at_call_of 45 (Value.int IntKind.i64 x); refine (in_any _ _ _ _).mono ?_; rintro e w' ⟨rfl, rfl⟩; rw [H1.out]) | (go_at_call_of 45 (Value.int IntKind.i64 y); refine (in_any _ _ _ _).mono ?_; rintro e w' ⟨rfl, rfl⟩))
    go_ret
    exact ⟨rfl, Aft.alloc _ _⟩
theorem runs_89 (args : Array Value) (w : World) : (callFunc 89 args).run Try.prog w = .ok (.enter 89 args) w := by simp [go_sem]
theorem every_mark (L : List (Int × Int)) (A : Option Addr) (c : Nat) (w : World) (hA : Prs w A L) :
    Calls Try.prog 90 #[.slice A L.length c, .func (.func 89) #[] #[]] w fun e w' => e = .returned (.bool (L.all markB)) ∧ Aft w w' :=
  everyMark (FlatR enc2) FlatR.mono 89 [] markB A L c w hA runs_89 fun x _ W ha v0 v1 hv u => by
    unfold FlatR enc2 at hv
    cases hv
    exact mark_any x _

set_option maxRecDepth 100000 in
set_option maxHeartbeats 4000000 in
theorem asked_count (a b : List (Int × Int)) (play : Int) (A B : Option Addr) (ca cb : Nat) (w : World) (h : 30 < a.length ∨ 30 < b.length) :
    Calls Try.prog 56 #[.slice A a.length ca, .slice B b.length cb, .int .i64 play] w fun e w' => e = .returned (.tuple #[.pointer none, .int .i64 3]) ∧ Aft w w' := by
  go_enter Try.func56, Try.ntmps56
  by_cases h1 : 30 < a.length
  · have t1 : decide (30 < a.length) = true := by simpa using h1
    clear h
    go_wp2_with fail
    exact bodyPost_ret (v := .tuple #[.pointer none, .int .i64 3]) (by simp [results, Try.results56, go_sem]) rfl ⟨rfl, Aft.refl _⟩
  · have t1 : decide (30 < a.length) = false := by simpa using h1
    have h2 : 30 < b.length := h.resolve_left h1
    have t2 : decide (30 < b.length) = true := by simpa using h2
    clear h
    go_wp2_with fail
    exact bodyPost_ret (v := .tuple #[.pointer none, .int .i64 3]) (by simp [results, Try.results56, go_sem]) rfl ⟨rfl, Aft.refl _⟩

set_option maxRecDepth 100000 in
set_option maxHeartbeats 4000000 in
theorem asked_value (a b : List (Int × Int)) (play : Int) (A B : Option Addr) (ca cb : Nat) (w : World) (hA : Prs w A a) (hB : Prs w B b) (ha : a.length ≤ 30) (hb : b.length ≤ 30) (h : a.all markB = false ∨ b.all markB = false ∨ fromB play 0 1000000 = false) :
    Calls Try.prog 56 #[.slice A a.length ca, .slice B b.length cb, .int .i64 play] w fun e w' => e = .returned (.tuple #[.pointer none, .int .i64 4]) ∧ Aft w w' := by
  have t1 : decide (30 < a.length) = false := by simpa using ha
  have t2 : decide (30 < b.length) = false := by simpa using hb
  have HEA := Lib.hid (every_mark a A ca w hA)
  have HEB := Lib.hid fun W (h : Aft w W) => every_mark b B cb W (hB.aft h)
  clear hA hB
  by_cases h1 : a.all markB = false
  · rw [h1] at HEA
    clear h h1
    go_enter Try.func56, Try.ntmps56
    go_wp2_with (go_at_call 90; refine HEA.out.mono ?_; rintro e w2 ⟨rfl, u, rfl⟩)
    exact bodyPost_ret (v := .tuple #[.pointer none, .int .i64 4]) (by simp [results, Try.results56, go_sem]) rfl ⟨rfl, Aft.lat _ u⟩
  · have h1' : a.all markB = true := by simpa using h1
    rw [h1'] at HEA
    by_cases h2 : b.all markB = false
    · rw [h2] at HEB
      clear h h1 h1' h2
      go_enter Try.func56, Try.ntmps56
      go_upto_region 5 with (first | (go_at_call 90; refine (HEA.out).mono ?_; rintro e w2 ⟨rfl, u, rfl⟩) | (go_at_call 90; refine (HEB.out _ (Aft.lat _ u)).mono ?_; rintro e w2 ⟨rfl, u2, rfl⟩))
      go_wp2_with fail
      exact bodyPost_ret (v := .tuple #[.pointer none, .int .i64 4]) (by simp [results, Try.results56, go_sem]) rfl ⟨rfl, (Aft.lat _ u).then_lat u2⟩
    · have h2' : b.all markB = true := by simpa using h2
      have h3 : fromB play 0 1000000 = false := (h.resolve_left h1).resolve_left h2
      have H3 := Lib.hid h3
      rw [h2'] at HEB
      clear h h1 h1' h2 h2' h3
      go_enter Try.func56, Try.ntmps56
      go_upto_region 5 with (first | (go_at_call 90; refine (HEA.out).mono ?_; rintro e w2 ⟨rfl, u, rfl⟩) | (go_at_call 90; refine (HEB.out _ (Aft.lat _ u)).mono ?_; rintro e w2 ⟨rfl, u2, rfl⟩) | (go_at_call 45; refine (in_any _ _ _ _).mono ?_; rintro e w' ⟨rfl, rfl⟩; rw [H3.out]))
      go_wp2_with fail
      exact bodyPost_ret (v := .tuple #[.pointer none, .int .i64 4]) (by simp [results, Try.results56, go_sem]) rfl ⟨rfl, (Aft.lat _ u).then_lat u2⟩

theorem OrdTo.all {l : List (Int × Int)} {k : Nat} (h : OrdTo l k) (hk : l.length ≤ k) : ordB l = true := decide_eq_true fun i h1 h2 h3 => h i h1 (by omega) h3
theorem OrdTo.step {l : List (Int × Int)} {k : Nat} (h : OrdTo l k) (hk : (l.getD (k - 1) (0, 0)).1 < (l.getD k (0, 0)).1) : OrdTo l (k + 1) := fun i h1 h2 h3 => by
  by_cases e : i = k
  · subst e; exact hk
  · exact h i h1 (by omega) h3
theorem not_ord {l : List (Int × Int)} {k : Nat} (h1 : 1 ≤ k) (hk : k < l.length) (h : ¬ (l.getD (k - 1) (0, 0)).1 < (l.getD k (0, 0)).1) : ordB l = false := decide_eq_false fun h2 => h (h2 k h1 hk hk)
/-- What asked leaves where all is right. -/
def EdgesAt (w0 w : World) (x : Nat) (a b : List (Int × Int)) (play : Int) (A B : Option Addr) (ca cb : Nat) : Prop :=
  Blk w x 169 #[.slice A a.length ca, .slice B b.length cb, .int .i64 play] ∧ w0.heap.size ≤ x ∧ Aft w0 w ∧ Prs w A a ∧ Prs w B b
def AskedR (a b : List (Int × Int)) (play : Int) (A B : Option Addr) (ca cb : Nat) (w : World) (e : Ending) (w' : World) : Prop :=
  ((ordB a = false ∨ ordB b = false) ∧ e = .returned (.tuple #[.pointer none, .int .i64 5]) ∧ Aft w w') ∨
  (ordB a = true ∧ ordB b = true ∧ ∃ x, e = .returned (.tuple #[.pointer (some ⟨x, 0, none⟩), .int .i64 0]) ∧ EdgesAt w w' x a b play A B ca cb)

set_option maxRecDepth 100000 in
set_option maxHeartbeats 4000000 in
theorem asked_loop (a b : List (Int × Int)) (play : Int) (A B : Option Addr) (ca cb : Nat) (w : World) (hA : Prs w A a) (hB : Prs w B b) (ha : a.length ≤ 30) (hb : b.length ≤ 30) (h1 : a.all markB = true) (h2 : b.all markB = true) (h3 : fromB play 0 1000000 = true) :
    Calls Try.prog 56 #[.slice A a.length ca, .slice B b.length cb, .int .i64 play] w (AskedR a b play A B ca cb w) := by
  have t1 : decide (30 < a.length) = false := by simpa using ha
  have t2 : decide (30 < b.length) = false := by simpa using hb
  have HEA := Lib.hid (every_mark a A ca w hA)
  have HEB := Lib.hid fun W (h : Aft w W) => every_mark b B cb W (hB.aft h)
  rw [h1] at HEA
  rw [h2] at HEB
  have H3 := Lib.hid h3
  have HA := Lib.hid hA
  have HB := Lib.hid hB
  clear hA hB h1 h2 h3
  go_enter Try.func56, Try.ntmps56
  go_upto_region 6 with (first | (go_at_call 90; refine (HEA.out).mono ?_; rintro e w2 ⟨rfl, u, rfl⟩) | (go_at_call 90; refine (HEB.out _ (Aft.lat _ u)).mono ?_; rintro e w2 ⟨rfl, u2, rfl⟩) | (go_at_call 45; refine (in_any _ _ _ _).mono ?_; rintro e w' ⟨rfl, rfl⟩; rw [H3.out]))
  have HW1 := Lib.hid (Aft.lat w (u.trans u2))
  generalize w.lat (u.trans u2) = W1 at *
  clear HEA HEB t1 t2
  obtain ⟨gb, hgb⟩ : ∃ gb, W1.heap.size = gb := ⟨_, rfl⟩
  have HG := Lib.hid hgb
  have HB2 : Hid (Blk (W1.alloc (.cells #[.slice A a.length ca, .slice B b.length cb] 48)) gb 48 #[.slice A a.length ca, .slice B b.length cb]) := Lib.hid (by rw [← hgb]; exact Blk.new _ _ _)
  have HW2 := Lib.hid (HW1.out.then_alloc (.cells #[.slice A a.length ca, .slice B b.length cb] 48))
  clear hgb
  go_upto_block 1 with fail
  try rw [HG.out]
  clear HG HW1
  generalize W1.alloc (.cells #[.slice A a.length ca, .slice B b.length cb] 48) = W2 at *
  refine wp_block ?_
  go_loopw [41] (fun i wr => ∃ j : Nat, i = .int .i64 (j : Nat) ∧ j ≤ 2 ∧ (1 ≤ j → ordB a = true) ∧ (2 ≤ j → ordB b = true) ∧ Aft W2 wr) (fun i _ => 2 - (intOf i).toNat)
  case atStart => exact ⟨0, rfl, by omega, fun h => absurd h (by omega), fun h => absurd h (by omega), Aft.refl _⟩
  case round =>
    obtain ⟨j, rfl, hj, ho1, ho2, hI⟩ := hrel
    have HI := Lib.hid hI
    have HO1 := Lib.hid ho1
    have HO2 := Lib.hid ho2
    clear hI ho1 ho2
    by_cases hj2 : j < 2
    · have t1 : decide (j < 2) = true := by simpa using hj2
      have t1' : decide ((j : Int) < 2) = true := by simp; omega
      obtain ⟨L, AL, cL, y1, hP, hlen, hf, ht⟩ : ∃ L AL cL, wr.cell? ⟨gb, j, none⟩ = some (.slice AL (List.length L) cL) ∧ Prs w AL L ∧ L.length ≤ 30 ∧ (ordB L = false → ordB a = false ∨ ordB b = false) ∧ (ordB L = true → (1 ≤ j + 1 → ordB a = true) ∧ (2 ≤ j + 1 → ordB b = true)) := by
        have hbk := HB2.out.aft HI.out
        match j, hj2 with
        | 0, _ => exact ⟨a, A, ca, hbk.cell 0, HA.out, ha, .inl, fun h => ⟨fun _ => h, fun h => absurd h (by omega)⟩⟩
        | 1, _ => exact ⟨b, B, cb, hbk.cell 1, HB.out, hb, .inr, fun h => ⟨fun _ => HO1.out (by omega), fun _ => h⟩⟩
      have y2 := (HB2.out.aft HI.out).lt
      have HP := Lib.hid hP
      have HF := Lib.hid hf
      have HT := Lib.hid ht
      have ij : (0 : Int) ≤ (j : Int) ∧ (j : Int) < 2 := by omega
      clear hP hf ht
      go_upto_block 3 with fail
      clear y1 y2 t1 t1'
      refine wp_block ?_
      go_loopw [11] (fun i wr' => ∃ k : Nat, i = .int .i64 ((k : Int) + 1) ∧ k ≤ L.length ∧ OrdTo L (k + 1) ∧ Aft W2 wr') (fun i _ => L.length + 1 - (intOf i).toNat)
      case atStart => exact ⟨0, rfl, by omega, fun i h1 h2 _ => absurd h1 (by omega), HI.out⟩
      case round =>
        obtain ⟨k, rfl, hk, hO, hI2⟩ := hrel
        have HI2 := Lib.hid hI2
        have HOR := Lib.hid hO
        clear hO hI2
        by_cases hkl : k + 1 < L.length
        · have t3 : decide ((k : Int) + 1 < (L.length : Int)) = true := by rw [decide_eq_true_eq]; omega
          obtain ⟨b9, o9, rfl, hb9, hc⟩ := (HP.out.aft (HW2.out.trans HI2.out)).at hkl
          have x0 := (hc k (by omega)).1
          have x1 := (hc (k + 1) hkl).1
          have hg0 : (L.getD k (0, 0)).1 = L[k].1 := by rw [List.getD_eq_getElem?_getD, List.getElem?_eq_getElem (by omega)]; rfl
          have hg1 : (L.getD (k + 1) (0, 0)).1 = L[k + 1].1 := by rw [List.getD_eq_getElem?_getD, List.getElem?_eq_getElem hkl]; rfl
          obtain ⟨v0, hv0⟩ : ∃ v, L[k].1 = v := ⟨_, rfl⟩
          obtain ⟨v1, hv1⟩ : ∃ v, L[k + 1].1 = v := ⟨_, rfl⟩
          rw [hv0] at x0 hg0
          rw [hv1] at x1 hg1
          have hk1 : (k : Int) + 1 - 1 = (k : Int) := by omega
          have HST : Hid (v0 < v1 → OrdTo L (k + 1 + 1)) := Lib.hid fun h => HOR.out.step (by rw [Nat.add_sub_cancel, hg0, hg1]; exact h)
          have HNO : Hid (¬ v0 < v1 → ordB L = false) := Lib.hid fun h => not_ord (k := k + 1) (by omega) hkl (by rw [Nat.add_sub_cancel, hg0, hg1]; exact h)
          clear hc hv0 hv1 hg0 hg1
          go_upto_region 12 with fail
          go_quiet (fail)
          have ha6 := Lib.hid (HI2.out.then_drewN nq)
          generalize wr.drewN nq = W6 at *
          clear x0 x1
          go_wp2_with fail
          · exact bodyPost_ret (v := .tuple #[.pointer none, .int .i64 5]) (by simp [results, Try.results56, go_sem]) rfl (.inl ⟨HF.out (HNO.out (by omega)), rfl, HW2.out.trans ha6.out⟩)
          · exact ⟨⟨k + 1, by go_num, by omega, HST.out (by omega), ha6.out⟩, by simp [intOf]; omega⟩
        · have t3 : decide ((k : Int) + 1 < (L.length : Int)) = false := by rw [decide_eq_false_iff_not]; omega
          have HTT := Lib.hid (HT.out (HOR.out.all (by omega)))
          go_wp2_with fail
          exact ⟨⟨j + 1, by go_num, by omega, HTT.out.1, HTT.out.2, HI2.out⟩, by simp [intOf]; omega⟩
    · have t1 : decide (j < 2) = false := by simpa using hj2
      have t1' : decide ((j : Int) < 2) = false := by simp; omega
      have HX := Lib.hid (HW2.out.trans HI.out)
      have HOA := Lib.hid (HO1.out (by omega))
      have HOB := Lib.hid (HO2.out (by omega))
      go_wp2_with fail
      have h9 := HX.out.then_alloc (.cells #[.slice A a.length ca, .slice B b.length cb, .int .i64 play] 169)
      exact bodyPost_ret (v := .tuple #[.pointer (some ⟨wr.heap.size, 0, none⟩), .int .i64 0]) (by simp [results, Try.results56, go_sem]) rfl (.inr ⟨HOA.out, HOB.out, _, rfl, Blk.new _ _ _, HX.out.size, h9, HA.out.aft h9, HB.out.aft h9⟩)
end Go.Proofs
end

section
/- Walks: same. -/
namespace Go.Proofs
open Go.RowKit
attribute [local go_sem] Oper.semAt_some

def zer2 : Array Value := #[.int .i64 0, .int .i64 0]
def encM (p : Int × Int) : Array Value := #[.int .i64 p.1, .int .i64 p.2]
/-- Two marks that are laid, in whatever order. -/
structure Am2 (W0 : World) (sa : Int × Int) (done : Nat → Bool) (a : Act) (W : World) : Prop where
  aft : Aft W0 W
  late : done 18 = true → done 16 = true
  x : done 16 = true → ∃ b, a.eval (.tmp 5) = .pointer (some ⟨b, 0, none⟩) ∧ W0.heap.size ≤ b ∧ Blk W b 54 (if done 18 = true then encM sa else zer2)
  y : done 17 = true → ∃ b, a.eval (.tmp 6) = .pointer (some ⟨b, 0, none⟩) ∧ W0.heap.size ≤ b ∧ Blk W b 54 zer2 ∧ (done 16 = true → a.eval (.tmp 5) ≠ .pointer (some ⟨b, 0, none⟩))
section
variable {W0 W W' : World} {sa : Int × Int} {done : Nat → Bool} {a : Act}
theorem Am2.start : Am2 W0 sa (fun _ => false) a W0.drew := ⟨Aft.drew _, (fun h => h), (fun h => by cases h), (fun h => by cases h)⟩
theorem Am2.keep (h : Am2 W0 sa done a W) {i : Nat} {dst : Option Tmp} {v : Value} (hi : i ≠ 16 ∧ i ≠ 17 ∧ i ≠ 18) (hd : dst ≠ some 5 ∧ dst ≠ some 6) : Am2 W0 sa (Go.upd done i) (a.put dst v) W := by
  refine ⟨h.aft, fun p => ?_, fun p => ?_, fun p => ?_⟩
  · rw [upd_ne' (Ne.symm hi.2.2)] at p
    rw [upd_ne' (Ne.symm hi.1)]
    exact h.late p
  · rw [upd_ne' (Ne.symm hi.1)] at p
    rw [upd_ne' (Ne.symm hi.2.2)]
    obtain ⟨b, e, hs⟩ := h.x p
    exact ⟨b, by rw [evne hd.1]; exact e, hs⟩
  · rw [upd_ne' (Ne.symm hi.2.1)] at p
    rw [upd_ne' (Ne.symm hi.1)]
    obtain ⟨b, e, hs, ht, hu⟩ := h.y p
    exact ⟨b, by rw [evne hd.2]; exact e, hs, ht, by rw [evne hd.1]; exact hu⟩
theorem Am2.step16 (h : Am2 W0 sa done a W) (hz : 5 < a.tmps.size) (h10 : done 16 = false) : Am2 W0 sa (Go.upd done 16) (a.put (some 5) (.pointer (some ⟨W.heap.size, 0, none⟩))) (W.alloc (.cells zer2 54)) := by
  have h12 : done 18 = false := by
    cases e : done 18
    · rfl
    · rw [h.late e] at h10; cases h10
  refine ⟨h.aft.then_alloc _, fun _ => upd_same' .., fun p => ⟨W.heap.size, Act.eval_put_same _ _ _ hz, h.aft.size, by rw [upd_ne' (by decide), h12]; exact Blk.new _ _ _⟩, fun p => ?_⟩
  rw [upd_ne' (by decide)] at p
  obtain ⟨b, e, hs, ht, hu⟩ := h.y p
  refine ⟨b, by rw [evne (by decide)]; exact e, hs, ht.alloc _, fun _ => ?_⟩
  rw [Act.eval_put_same _ _ _ hz]
  intro e2
  have := ht.lt
  cases e2
  omega
theorem Am2.step17 (h : Am2 W0 sa done a W) (hz : 6 < a.tmps.size) : Am2 W0 sa (Go.upd done 17) (a.put (some 6) (.pointer (some ⟨W.heap.size, 0, none⟩))) (W.alloc (.cells zer2 54)) := by
  refine ⟨h.aft.then_alloc _, fun p => ?_, fun p => ?_, fun p => ⟨W.heap.size, Act.eval_put_same _ _ _ hz, h.aft.size, Blk.new _ _ _, fun p => ?_⟩⟩
  · rw [upd_ne' (by decide)] at p
    rw [upd_ne' (by decide)]
    exact h.late p
  · rw [upd_ne' (by decide)] at p
    obtain ⟨b, e, hs, ht⟩ := h.x p
    exact ⟨b, by rw [evne (by decide)]; exact e, hs, by rw [upd_ne' (by decide)]; exact ht.alloc _⟩
  · rw [upd_ne' (by decide)] at p
    obtain ⟨b, e, hs, ht⟩ := h.x p
    rw [evne (by decide), e]
    intro e2
    have := ht.lt
    cases e2
    omega
theorem Am2.step18 (h : Am2 W0 sa done a W) {b : Nat} (hb : a.eval (.tmp 5) = .pointer (some ⟨b, 0, none⟩)) (h10 : done 16 = true) (h12 : done 18 = false) {dst : Option Tmp} {v : Value} (hd : dst = none) :
    Am2 W0 sa (Go.upd done 18) (a.put dst v) ((W.setCell ⟨b, 0, none⟩ (.int .i64 sa.1)).setCell ⟨b, 1, none⟩ (.int .i64 sa.2)) := by
  subst hd
  obtain ⟨b', e, hs, ht⟩ := h.x h10
  rw [hb] at e
  cases e
  rw [h12, if_neg (by decide)] at ht
  refine ⟨(h.aft.then_setCell (p := ⟨b, 0, none⟩) hs _).then_setCell (p := ⟨b, 1, none⟩) hs _, fun _ => by rw [upd_ne' (by decide)]; exact h10, fun p => ⟨b, hb, hs, ?_⟩, fun p => ?_⟩
  · rw [upd_same', if_pos rfl]
    exact (ht.store 0 _).store 1 _
  · rw [upd_ne' (by decide)] at p
    rw [upd_ne' (by decide)]
    obtain ⟨c, e, hs2, ht2, hu⟩ := h.y p
    have hne : c ≠ b := fun e2 => hu h10 (by rw [hb, e2])
    exact ⟨c, e, hs2, (ht2.far (p := ⟨b, 0, none⟩) hne _).far (p := ⟨b, 1, none⟩) hne _, hu⟩
end

/-- Whether two marks may be a pair. -/
def sameM (play : Int) (x y : Int × Int) : Bool := decide (x.2 = y.2) && (decide (x.1 - y.1 ≤ play) && decide (y.1 - x.1 ≤ play))

set_option maxRecDepth 100000 in
set_option maxHeartbeats 4000000 in
theorem same_any (la lb : List (Int × Int)) (play : Int) (A B : Option Addr) (ca cb x : Nat) (w0 w : World) (hE : EdgesAt w0 w x la lb play A B ca cb) (ix kx : Nat) (hi : ix < la.length) (hkx : kx < lb.length) (hma : markB la[ix] = true) (hmb : markB lb[kx] = true) :
    Calls Try.prog 59 #[.pointer (some ⟨x, 0, none⟩), .agg #[.int .i64 (ix : Nat), .int .i64 (kx : Nat)]] w fun e w' => e = .returned (.bool (sameM play la[ix] lb[kx])) ∧ Aft w w' := by
  obtain ⟨hx, -, -, hA, hB⟩ := hE
  have hAl := hA.len
  have hBl := hB.len
  obtain ⟨ba, oa, rfl, hba, hca⟩ := hA.at hi
  obtain ⟨bb, ob, rfl, hbb, hcb⟩ := hB.at hkx
  obtain ⟨a1, a2⟩ := hca ix hi
  obtain ⟨b1, b2⟩ := hcb kx hkx
  obtain ⟨⟨p1, p2⟩, hp⟩ : ∃ p, la[ix] = p := ⟨_, rfl⟩
  obtain ⟨⟨q1, q2⟩, hq⟩ : ∃ p, lb[kx] = p := ⟨_, rfl⟩
  rw [hp] at a1 a2 hma ⊢
  rw [hq] at b1 b2 hmb ⊢
  unfold markB at hma hmb
  simp only [Bool.and_eq_true, fromB_iff] at hma hmb
  dsimp only at a1 a2 b1 b2
  obtain ⟨s, hs⟩ : ∃ s, w.heap.size = s := ⟨_, rfl⟩
  obtain ⟨W1, hW1⟩ : ∃ W1, w.alloc (.cells #[.int .i64 (ix : Nat), .int .i64 (kx : Nat)] 57) = W1 := ⟨_, rfl⟩
  have ha1 := hW1 ▸ Aft.alloc w (.cells #[.int .i64 (ix : Nat), .int .i64 (kx : Nat)] 57)
  have HA1 := Lib.hid ha1
  have HB1 : Hid (Blk W1 s 57 #[.int .i64 (ix : Nat), .int .i64 (kx : Nat)]) := Lib.hid (by rw [← hW1, ← hs]; exact Blk.new w 57 _)
  have HX1 := Lib.hid (hx.aft ha1)
  have A1 := cellA a1 hba ha1
  have A2 := cellA a2 hba ha1
  have B1 := cellA b1 hbb ha1
  have B2 := cellA b2 hbb ha1
  have hba1 := Nat.lt_of_lt_of_le hba ha1.size
  have hbb1 := Nat.lt_of_lt_of_le hbb ha1.size
  have ii : (0 : Int) ≤ (ix : Int) ∧ (ix : Int) < (la.length : Int) := by omega
  have kk : (0 : Int) ≤ (kx : Int) ∧ (kx : Int) < (lb.length : Int) := by omega
  clear hca hcb hp hq a1 a2 b1 b2 ha1 hx hA hB hba hbb
  go_enter Try.func59, Try.ntmps59
  go_upto_region 1 with fail
  try rw [hW1]
  try rw [hs]
  clear hW1 hs
  refine wp_region_valsU (by kernel_rfl) 19 46 rfl (by kernel_rfl) (by kernel_rfl) [some (.pointer (some ⟨x, 0, none⟩)), some (.pointer (some ⟨x, 0, none⟩)), some (.pointer (some ⟨x, 0, none⟩)), some (.slice (some ⟨ba, oa, none⟩) la.length ca), some (.pointer (some ⟨s, 0, none⟩)), some (.int .i64 (ix : Nat)), some (.pointer (some ⟨ba, oa + ix * 2, none⟩)), some (.agg #[.int .i64 p1, .int .i64 p2]), some (.pointer (some ⟨x, 0, none⟩)), some (.pointer (some ⟨x, 0, none⟩)), some (.pointer (some ⟨x, 1, none⟩)), some (.slice (some ⟨bb, ob, none⟩) lb.length cb), some (.pointer (some ⟨s, 1, none⟩)), some (.int .i64 (kx : Nat)), some (.pointer (some ⟨bb, ob + kx * 2, none⟩)), some (.agg #[.int .i64 q1, .int .i64 q2]), none, none, some undef] (by kernel_rfl) rfl (Am2 W1 (p1, p2)) (Am2.start) ?st1 ?fi1
  case st1 =>
    intro i o v ho hv
    match i, ho, hv with
    | 0, ho, hv =>
      cases ho; cases hv
      refine .inl ⟨rfl, fun done a W hz hd hp hk hw K hK => ?_⟩
      have e0 := hk.same 0 (by decide)
      exact op_val (v := .pointer (some ⟨x, 0, none⟩)) (by simp [go_sem, ev' e0]) (hK _ _ (fun u hu => by cases hu; rfl) (hw.keep (by decide) (by decide)))
    | 1, ho, hv =>
      cases ho; cases hv
      refine .inl ⟨rfl, fun done a W hz hd hp hk hw K hK => ?_⟩
      have e7 := hk.at_ 0 _ 7 _ rfl (by decide) _ rfl rfl rfl
      exact op_val (v := .pointer (some ⟨x, 0, none⟩)) (by simp [go_sem, ev' e7]) (hK _ _ (fun u hu => by cases hu; rfl) (hw.keep (by decide) (by decide)))
    | 2, ho, hv =>
      cases ho; cases hv
      refine .inl ⟨rfl, fun done a W hz hd hp hk hw K hK => ?_⟩
      have e8 := hk.at_ 1 _ 8 _ rfl (by decide) _ rfl rfl rfl
      exact op_val (v := .pointer (some ⟨x, 0, none⟩)) (by simp [go_sem, ev' e8]) (hK _ _ (fun u hu => by cases hu; rfl) (hw.keep (by decide) (by decide)))
    | 3, ho, hv =>
      cases ho; cases hv
      refine .inl ⟨rfl, fun done a W hz hd hp hk hw K hK => ?_⟩
      have e9 := hk.at_ 2 _ 9 _ rfl (by decide) _ rfl rfl rfl
      exact op_val (v := .slice (some ⟨ba, oa, none⟩) la.length ca) (by simp [go_sem, ev' e9, (HX1.out.aft hw.aft).cell 0]) (hK _ _ (fun u hu => by cases hu; rfl) (hw.keep (by decide) (by decide)))
    | 4, ho, hv =>
      cases ho; cases hv
      refine .inl ⟨rfl, fun done a W hz hd hp hk hw K hK => ?_⟩
      have e3 := hk.same 3 (by decide)
      exact op_val (v := .pointer (some ⟨s, 0, none⟩)) (by simp [go_sem, ev' e3]) (hK _ _ (fun u hu => by cases hu; rfl) (hw.keep (by decide) (by decide)))
    | 5, ho, hv =>
      cases ho; cases hv
      refine .inl ⟨rfl, fun done a W hz hd hp hk hw K hK => ?_⟩
      have e11 := hk.at_ 4 _ 11 _ rfl (by decide) _ rfl rfl rfl
      exact op_val (v := .int .i64 (ix : Nat)) (by simp [go_sem, ev' e11, (HB1.out.aft hw.aft).cell 0]) (hK _ _ (fun u hu => by cases hu; rfl) (hw.keep (by decide) (by decide)))
    | 6, ho, hv =>
      cases ho; cases hv
      refine .inl ⟨rfl, fun done a W hz hd hp hk hw K hK => ?_⟩
      have e10 := hk.at_ 3 _ 10 _ rfl (by decide) _ rfl rfl rfl
      have e12 := hk.at_ 5 _ 12 _ rfl (by decide) _ rfl rfl rfl
      exact op_val (v := .pointer (some ⟨ba, oa + ix * 2, none⟩)) (by simp [go_sem, ev' e10, ev' e12, ii]) (hK _ _ (fun u hu => by cases hu; rfl) (hw.keep (by decide) (by decide)))
    | 7, ho, hv =>
      cases ho; cases hv
      refine .inl ⟨rfl, fun done a W hz hd hp hk hw K hK => ?_⟩
      have e13 := hk.at_ 6 _ 13 _ rfl (by decide) _ rfl rfl rfl
      have c1 := cellA A1 hba1 hw.aft
      have c2 := cellA A2 hba1 hw.aft
      exact op_val (v := .agg #[.int .i64 p1, .int .i64 p2]) (by simp [go_sem, ev' e13, c1, c2]) (hK _ _ (fun u hu => by cases hu; rfl) (hw.keep (by decide) (by decide)))
    | 8, ho, hv =>
      cases ho; cases hv
      refine .inl ⟨rfl, fun done a W hz hd hp hk hw K hK => ?_⟩
      have e0 := hk.same 0 (by decide)
      exact op_val (v := .pointer (some ⟨x, 0, none⟩)) (by simp [go_sem, ev' e0]) (hK _ _ (fun u hu => by cases hu; rfl) (hw.keep (by decide) (by decide)))
    | 9, ho, hv =>
      cases ho; cases hv
      refine .inl ⟨rfl, fun done a W hz hd hp hk hw K hK => ?_⟩
      have e15 := hk.at_ 8 _ 15 _ rfl (by decide) _ rfl rfl rfl
      exact op_val (v := .pointer (some ⟨x, 0, none⟩)) (by simp [go_sem, ev' e15]) (hK _ _ (fun u hu => by cases hu; rfl) (hw.keep (by decide) (by decide)))
    | 10, ho, hv =>
      cases ho; cases hv
      refine .inl ⟨rfl, fun done a W hz hd hp hk hw K hK => ?_⟩
      have e16 := hk.at_ 9 _ 16 _ rfl (by decide) _ rfl rfl rfl
      exact op_val (v := .pointer (some ⟨x, 1, none⟩)) (by simp [go_sem, ev' e16]) (hK _ _ (fun u hu => by cases hu; rfl) (hw.keep (by decide) (by decide)))
    | 11, ho, hv =>
      cases ho; cases hv
      refine .inl ⟨rfl, fun done a W hz hd hp hk hw K hK => ?_⟩
      have e17 := hk.at_ 10 _ 17 _ rfl (by decide) _ rfl rfl rfl
      exact op_val (v := .slice (some ⟨bb, ob, none⟩) lb.length cb) (by simp [go_sem, ev' e17, (HX1.out.aft hw.aft).cell 1]) (hK _ _ (fun u hu => by cases hu; rfl) (hw.keep (by decide) (by decide)))
    | 12, ho, hv =>
      cases ho; cases hv
      refine .inl ⟨rfl, fun done a W hz hd hp hk hw K hK => ?_⟩
      have e3 := hk.same 3 (by decide)
      exact op_val (v := .pointer (some ⟨s, 1, none⟩)) (by simp [go_sem, ev' e3]) (hK _ _ (fun u hu => by cases hu; rfl) (hw.keep (by decide) (by decide)))
    | 13, ho, hv =>
      cases ho; cases hv
      refine .inl ⟨rfl, fun done a W hz hd hp hk hw K hK => ?_⟩
      have e19 := hk.at_ 12 _ 19 _ rfl (by decide) _ rfl rfl rfl
      exact op_val (v := .int .i64 (kx : Nat)) (by simp [go_sem, ev' e19, (HB1.out.aft hw.aft).cell 1]) (hK _ _ (fun u hu => by cases hu; rfl) (hw.keep (by decide) (by decide)))
    | 14, ho, hv =>
      cases ho; cases hv
      refine .inl ⟨rfl, fun done a W hz hd hp hk hw K hK => ?_⟩
      have e18 := hk.at_ 11 _ 18 _ rfl (by decide) _ rfl rfl rfl
      have e20 := hk.at_ 13 _ 20 _ rfl (by decide) _ rfl rfl rfl
      exact op_val (v := .pointer (some ⟨bb, ob + kx * 2, none⟩)) (by simp [go_sem, ev' e18, ev' e20, kk]) (hK _ _ (fun u hu => by cases hu; rfl) (hw.keep (by decide) (by decide)))
    | 15, ho, hv =>
      cases ho; cases hv
      refine .inl ⟨rfl, fun done a W hz hd hp hk hw K hK => ?_⟩
      have e21 := hk.at_ 14 _ 21 _ rfl (by decide) _ rfl rfl rfl
      have c1 := cellA B1 hbb1 hw.aft
      have c2 := cellA B2 hbb1 hw.aft
      exact op_val (v := .agg #[.int .i64 q1, .int .i64 q2]) (by simp [go_sem, ev' e21, c1, c2]) (hK _ _ (fun u hu => by cases hu; rfl) (hw.keep (by decide) (by decide)))
    | 16, ho, hv =>
      cases ho; cases hv
      refine .inl ⟨rfl, fun done a W hz hd hp hk hw K hK => ?_⟩
      exact op_valW (w' := W.alloc (.cells zer2 54)) (v := .pointer (some ⟨W.heap.size, 0, none⟩)) (by simp [go_sem, zer2]) (hK _ _ (fun u hu => by cases hu) (hw.step16 (by rw [hz]; decide) hd))
    | 17, ho, hv =>
      cases ho; cases hv
      refine .inl ⟨rfl, fun done a W hz hd hp hk hw K hK => ?_⟩
      exact op_valW (w' := W.alloc (.cells zer2 54)) (v := .pointer (some ⟨W.heap.size, 0, none⟩)) (by simp [go_sem, zer2]) (hK _ _ (fun u hu => by cases hu) (hw.step17 (by rw [hz]; decide)))
    | 18, ho, hv =>
      cases ho; cases hv
      refine .inl ⟨rfl, fun done a W hz hd hp hk hw K hK => ?_⟩
      have e14 := hk.at_ 7 _ 14 _ rfl (by decide) _ rfl rfl rfl
      obtain ⟨b, e5, hbs, hbk⟩ := hw.x (hp 16 (by decide))
      have h12 : done 18 = false := hd
      rw [h12, if_neg (by decide)] at hbk
      have c0 := hbk.cell 0
      have c1 := hbk.cell 1
      have c4 := hbk.frozen 0
      have c5 := hbk.frozen 1
      have c8 := hbk.lt
      simp only [zer2, List.getElem?_toArray, List.getElem?_cons_zero, List.getElem?_cons_succ] at c0 c1
      exact op_skipW (w' := (W.setCell ⟨b, 0, none⟩ (.int .i64 p1)).setCell ⟨b, 1, none⟩ (.int .i64 p2)) (by simp [go_sem, ev' e5, ev' e14, c0, c1, c4, c5, c8]) (hK _ _ (fun u hu => by cases hu; rfl) (hw.step18 e5 (hp 16 (by decide)) h12 rfl))
    | _ + 19, _, hv => cases hv
  intro done us W hus hd hw
  obtain ⟨x1, x2, rfl⟩ := list2 hus
  obtain ⟨b1, e5, hs1, hb1⟩ := hw.x (hd 16 (by decide))
  obtain ⟨b2, e6, hs2, hb2, hne0⟩ := hw.y (hd 17 (by decide))
  have hne1 := hne0 (hd 16 (by decide))
  rw [if_pos (hd 18 (by decide))] at hb1
  rw [e5] at hne1
  have hne : b2 ≠ b1 := fun e => hne1 (by rw [e])
  have hwa := hw.aft
  clear hw hne0 hne1
  simp only [fill, List.drop_succ_cons, List.drop_zero, List.zip_cons_cons, List.zip_nil_right, putAll] at e5 e6 ⊢
  simp only [Act.put, List.setIfInBounds_toArray, List.set] at e5 e6 ⊢
  have e5 : x1 = .pointer (some ⟨b1, 0, none⟩) := e5
  have e6 : x2 = .pointer (some ⟨b2, 0, none⟩) := e6
  subst e5
  subst e6
  have c0 := hb2.cell 0
  have c1 := hb2.cell 1
  have c2 := hb2.frozen 0
  have c3 := hb2.frozen 1
  have c4 := hb2.lt
  simp only [zer2, List.getElem?_toArray, List.getElem?_cons_zero, List.getElem?_cons_succ] at c0 c1
  have A6 := (hwa.then_setCell (p := ⟨b2, 0, none⟩) hs2 (.int .i64 q1)).then_setCell (p := ⟨b2, 1, none⟩) hs2 (.int .i64 q2)
  have HB5 := Lib.hid ((hb1.far (p := ⟨b2, 0, none⟩) hne.symm (.int .i64 q1)).far (p := ⟨b2, 1, none⟩) hne.symm (.int .i64 q2))
  have HB6 := Lib.hid ((hb2.store 0 (.int .i64 q1)).store 1 (.int .i64 q2))
  have HX6 := Lib.hid (HX1.out.aft A6)
  have HA6 := Lib.hid (HA1.out.trans A6)
  have hX : ∃ X, (W.setCell ⟨b2, 0, none⟩ (.int .i64 q1)).setCell ⟨b2, 1, none⟩ (.int .i64 q2) = X := ⟨_, rfl⟩
  clear A6 hb1 hb2 hwa hd hs1 hs2 HX1 HA1 HB1 hus A1 A2 B1 B2 hba1 hbb1
  go_upto_region 2 with fail
  obtain ⟨X, hX⟩ := hX
  rw [hX] at HB5 HB6 HX6 HA6 ⊢
  clear hX c0 c1 c2 c3 c4
  have HB5 : Hid (Blk X b1 54 #[.int .i64 p1, .int .i64 p2]) := HB5
  have HB6 : Hid (Blk X b2 54 #[.int .i64 q1, .int .i64 q2]) := HB6
  have w1 : IntKind.i64.wrap (p1 - q1) = p1 - q1 := IntWalk.i64_in _ (by omega)
  have w2 : IntKind.i64.wrap (q1 - p1) = q1 - p1 := IntWalk.i64_in _ (by omega)
  obtain ⟨M, hM⟩ : ∃ M, (if p1 - q1 < q1 - p1 then q1 - p1 else p1 - q1) = M := ⟨_, rfl⟩
  have hres : decide (M ≤ play) = (decide (p1 - q1 ≤ play) && decide (q1 - p1 ≤ play)) := by
    rw [← hM, ← Bool.decide_and]
    apply decide_eq_decide.2
    split <;> omega
  by_cases hpq : p2 = q2
  · have t1 : (p2 == q2) = true := by simpa using hpq
    have HRES : Hid (sameM play (p1, p2) (q1, q2) = decide (M ≤ play)) := Lib.hid (by unfold sameM; dsimp only; rw [hres, decide_eq_true hpq, Bool.true_and])
    clear hres hpq
    refine wp_region_valsT (by kernel_rfl) 23 46 rfl (by kernel_rfl) (by kernel_rfl) (by kernel_rfl) [.pointer (some ⟨b1, 1, none⟩), .int .i64 p2, .pointer (some ⟨b2, 1, none⟩), .int .i64 q2, .bool true, .bool true, .pointer (some ⟨b1, 0, none⟩), .int .i64 p1, .pointer (some ⟨b2, 0, none⟩), .int .i64 q1, .int .i64 (p1 - q1), .pointer (some ⟨b2, 0, none⟩), .int .i64 q1, .pointer (some ⟨b1, 0, none⟩), .int .i64 p1, .int .i64 (q1 - p1), .int .i64 M, .pointer (some ⟨x, 0, none⟩), .pointer (some ⟨x, 0, none⟩), .pointer (some ⟨x, 2, none⟩), .int .i64 play, .bool (decide (M ≤ play)), .bool (decide (M ≤ play))] rfl (fun _ W => Aft X W) (Aft.drew _) ?st2 ?fi2
    case st2 =>
      intro i o v ho hv
      match i, ho, hv with
      | 0, ho, hv =>
        cases ho; cases hv
        refine .inl ⟨rfl, fun done a W hd hp hk hw K hK => ?_⟩
        have e5 := hk.same 5 (by decide)
        exact op_val (by simp [go_sem, ev' e5]) (hK _ hw)
      | 1, ho, hv =>
        cases ho; cases hv
        refine .inl ⟨rfl, fun done a W hd hp hk hw K hK => ?_⟩
        have e23 := hk.at_ 0 _ 23 _ rfl (by decide) _ rfl rfl rfl
        exact op_val (by simp [go_sem, ev' e23, (HB5.out.aft hw).cell 1]) (hK _ hw)
      | 2, ho, hv =>
        cases ho; cases hv
        refine .inl ⟨rfl, fun done a W hd hp hk hw K hK => ?_⟩
        have e6 := hk.same 6 (by decide)
        exact op_val (by simp [go_sem, ev' e6]) (hK _ hw)
      | 3, ho, hv =>
        cases ho; cases hv
        refine .inl ⟨rfl, fun done a W hd hp hk hw K hK => ?_⟩
        have e25 := hk.at_ 2 _ 25 _ rfl (by decide) _ rfl rfl rfl
        exact op_val (by simp [go_sem, ev' e25, (HB6.out.aft hw).cell 1]) (hK _ hw)
      | 4, ho, hv =>
        cases ho; cases hv
        refine .inl ⟨rfl, fun done a W hd hp hk hw K hK => ?_⟩
        have e24 := hk.at_ 1 _ 24 _ rfl (by decide) _ rfl rfl rfl
        have e26 := hk.at_ 3 _ 26 _ rfl (by decide) _ rfl rfl rfl
        exact op_val (by simp [go_sem, ev' e24, ev' e26, t1]) (hK _ hw)
      | 5, ho, hv =>
        cases ho; cases hv
        refine .inl ⟨rfl, fun done a W hd hp hk hw K hK => ?_⟩
        have e27 := hk.at_ 4 _ 27 _ rfl (by decide) _ rfl rfl rfl
        exact op_val (by simp [go_sem, ev' e27]) (hK _ hw)
      | 6, ho, hv =>
        cases ho; cases hv
        refine .inl ⟨rfl, fun done a W hd hp hk hw K hK => ?_⟩
        have e5 := hk.same 5 (by decide)
        exact op_val (by simp [go_sem, ev' e5]) (hK _ hw)
      | 7, ho, hv =>
        cases ho; cases hv
        refine .inl ⟨rfl, fun done a W hd hp hk hw K hK => ?_⟩
        have e29 := hk.at_ 6 _ 29 _ rfl (by decide) _ rfl rfl rfl
        exact op_val (by simp [go_sem, ev' e29, (HB5.out.aft hw).cell 0]) (hK _ hw)
      | 8, ho, hv =>
        cases ho; cases hv
        refine .inl ⟨rfl, fun done a W hd hp hk hw K hK => ?_⟩
        have e6 := hk.same 6 (by decide)
        exact op_val (by simp [go_sem, ev' e6]) (hK _ hw)
      | 9, ho, hv =>
        cases ho; cases hv
        refine .inl ⟨rfl, fun done a W hd hp hk hw K hK => ?_⟩
        have e31 := hk.at_ 8 _ 31 _ rfl (by decide) _ rfl rfl rfl
        exact op_val (by simp [go_sem, ev' e31, (HB6.out.aft hw).cell 0]) (hK _ hw)
      | 10, ho, hv =>
        cases ho; cases hv
        refine .inl ⟨rfl, fun done a W hd hp hk hw K hK => ?_⟩
        have e30 := hk.at_ 7 _ 30 _ rfl (by decide) _ rfl rfl rfl
        have e32 := hk.at_ 9 _ 32 _ rfl (by decide) _ rfl rfl rfl
        exact op_val (by simp [go_sem, ev' e30, ev' e32, w1]) (hK _ hw)
      | 11, ho, hv =>
        cases ho; cases hv
        refine .inl ⟨rfl, fun done a W hd hp hk hw K hK => ?_⟩
        have e6 := hk.same 6 (by decide)
        exact op_val (by simp [go_sem, ev' e6]) (hK _ hw)
      | 12, ho, hv =>
        cases ho; cases hv
        refine .inl ⟨rfl, fun done a W hd hp hk hw K hK => ?_⟩
        have e34 := hk.at_ 11 _ 34 _ rfl (by decide) _ rfl rfl rfl
        exact op_val (by simp [go_sem, ev' e34, (HB6.out.aft hw).cell 0]) (hK _ hw)
      | 13, ho, hv =>
        cases ho; cases hv
        refine .inl ⟨rfl, fun done a W hd hp hk hw K hK => ?_⟩
        have e5 := hk.same 5 (by decide)
        exact op_val (by simp [go_sem, ev' e5]) (hK _ hw)
      | 14, ho, hv =>
        cases ho; cases hv
        refine .inl ⟨rfl, fun done a W hd hp hk hw K hK => ?_⟩
        have e36 := hk.at_ 13 _ 36 _ rfl (by decide) _ rfl rfl rfl
        exact op_val (by simp [go_sem, ev' e36, (HB5.out.aft hw).cell 0]) (hK _ hw)
      | 15, ho, hv =>
        cases ho; cases hv
        refine .inl ⟨rfl, fun done a W hd hp hk hw K hK => ?_⟩
        have e35 := hk.at_ 12 _ 35 _ rfl (by decide) _ rfl rfl rfl
        have e37 := hk.at_ 14 _ 37 _ rfl (by decide) _ rfl rfl rfl
        exact op_val (by simp [go_sem, ev' e35, ev' e37, w2]) (hK _ hw)
      | 16, ho, hv =>
        cases ho; cases hv
        refine .inl ⟨rfl, fun done a W hd hp hk hw K hK => ?_⟩
        have e33 := hk.at_ 10 _ 33 _ rfl (by decide) _ rfl rfl rfl
        have e38 := hk.at_ 15 _ 38 _ rfl (by decide) _ rfl rfl rfl
        exact op_val (by simp [go_sem, ev' e33, ev' e38, hM]) (hK _ hw)
      | 17, ho, hv =>
        cases ho; cases hv
        refine .inl ⟨rfl, fun done a W hd hp hk hw K hK => ?_⟩
        have e0 := hk.same 0 (by decide)
        exact op_val (by simp [go_sem, ev' e0]) (hK _ hw)
      | 18, ho, hv =>
        cases ho; cases hv
        refine .inl ⟨rfl, fun done a W hd hp hk hw K hK => ?_⟩
        have e40 := hk.at_ 17 _ 40 _ rfl (by decide) _ rfl rfl rfl
        exact op_val (by simp [go_sem, ev' e40]) (hK _ hw)
      | 19, ho, hv =>
        cases ho; cases hv
        refine .inl ⟨rfl, fun done a W hd hp hk hw K hK => ?_⟩
        have e41 := hk.at_ 18 _ 41 _ rfl (by decide) _ rfl rfl rfl
        exact op_val (by simp [go_sem, ev' e41]) (hK _ hw)
      | 20, ho, hv =>
        cases ho; cases hv
        refine .inl ⟨rfl, fun done a W hd hp hk hw K hK => ?_⟩
        have e42 := hk.at_ 19 _ 42 _ rfl (by decide) _ rfl rfl rfl
        exact op_val (by simp [go_sem, ev' e42, (HX6.out.aft hw).cell 2]) (hK _ hw)
      | 21, ho, hv =>
        cases ho; cases hv
        refine .inl ⟨rfl, fun done a W hd hp hk hw K hK => ?_⟩
        have e39 := hk.at_ 16 _ 39 _ rfl (by decide) _ rfl rfl rfl
        have e43 := hk.at_ 20 _ 43 _ rfl (by decide) _ rfl rfl rfl
        exact op_val (by simp [go_sem, ev' e39, ev' e43]) (hK _ hw)
      | 22, ho, hv =>
        cases ho; cases hv
        refine .inl ⟨rfl, fun done a W hd hp hk hw K hK => ?_⟩
        have e28 := hk.at_ 5 _ 28 _ rfl (by decide) _ rfl rfl rfl
        have e44 := hk.at_ 21 _ 44 _ rfl (by decide) _ rfl rfl rfl
        exact op_val (by simp [go_sem, ev' e28, ev' e44]) (hK _ hw)
      | _ + 23, _, hv => cases hv
    intro done W hd hw
    simp only [List.drop_succ_cons, List.drop_zero, List.zip_cons_cons, List.zip_nil_right, putAll]
    simp only [Act.put, List.setIfInBounds_toArray, List.set]
    clear hd
    go_wp2_with fail
    go_ret
    exact ⟨by rw [HRES.out]; rfl, HA6.out.trans hw⟩
  · have t1 : (p2 == q2) = false := by simpa using hpq
    have HRES : Hid (sameM play (p1, p2) (q1, q2) = false) := Lib.hid (by unfold sameM; dsimp only; rw [decide_eq_false hpq, Bool.false_and])
    clear hres hpq
    refine wp_region_valsT (by kernel_rfl) 23 46 rfl (by kernel_rfl) (by kernel_rfl) (by kernel_rfl) [.pointer (some ⟨b1, 1, none⟩), .int .i64 p2, .pointer (some ⟨b2, 1, none⟩), .int .i64 q2, .bool false, .bool false, undef, undef, undef, undef, undef, undef, undef, undef, undef, undef, undef, undef, undef, undef, undef, undef, .bool false] rfl (fun _ W => Aft X W) (Aft.drew _) ?st3 ?fi3
    case st3 =>
      intro i o v ho hv
      match i, ho, hv with
      | 0, ho, hv =>
        cases ho; cases hv
        refine .inl ⟨rfl, fun done a W hd hp hk hw K hK => ?_⟩
        have e5 := hk.same 5 (by decide)
        exact op_val (by simp [go_sem, ev' e5]) (hK _ hw)
      | 1, ho, hv =>
        cases ho; cases hv
        refine .inl ⟨rfl, fun done a W hd hp hk hw K hK => ?_⟩
        have e23 := hk.at_ 0 _ 23 _ rfl (by decide) _ rfl rfl rfl
        exact op_val (by simp [go_sem, ev' e23, (HB5.out.aft hw).cell 1]) (hK _ hw)
      | 2, ho, hv =>
        cases ho; cases hv
        refine .inl ⟨rfl, fun done a W hd hp hk hw K hK => ?_⟩
        have e6 := hk.same 6 (by decide)
        exact op_val (by simp [go_sem, ev' e6]) (hK _ hw)
      | 3, ho, hv =>
        cases ho; cases hv
        refine .inl ⟨rfl, fun done a W hd hp hk hw K hK => ?_⟩
        have e25 := hk.at_ 2 _ 25 _ rfl (by decide) _ rfl rfl rfl
        exact op_val (by simp [go_sem, ev' e25, (HB6.out.aft hw).cell 1]) (hK _ hw)
      | 4, ho, hv =>
        cases ho; cases hv
        refine .inl ⟨rfl, fun done a W hd hp hk hw K hK => ?_⟩
        have e24 := hk.at_ 1 _ 24 _ rfl (by decide) _ rfl rfl rfl
        have e26 := hk.at_ 3 _ 26 _ rfl (by decide) _ rfl rfl rfl
        exact op_val (by simp [go_sem, ev' e24, ev' e26, t1]) (hK _ hw)
      | 5, ho, hv =>
        cases ho; cases hv
        refine .inl ⟨rfl, fun done a W hd hp hk hw K hK => ?_⟩
        have e27 := hk.at_ 4 _ 27 _ rfl (by decide) _ rfl rfl rfl
        exact op_val (by simp [go_sem, ev' e27]) (hK _ hw)
      | 6, ho, hv => cases ho; cases hv; exact .inr ⟨rfl, rfl, fun _ _ h => h⟩
      | 7, ho, hv => cases ho; cases hv; exact .inr ⟨rfl, rfl, fun _ _ h => h⟩
      | 8, ho, hv => cases ho; cases hv; exact .inr ⟨rfl, rfl, fun _ _ h => h⟩
      | 9, ho, hv => cases ho; cases hv; exact .inr ⟨rfl, rfl, fun _ _ h => h⟩
      | 10, ho, hv => cases ho; cases hv; exact .inr ⟨rfl, rfl, fun _ _ h => h⟩
      | 11, ho, hv => cases ho; cases hv; exact .inr ⟨rfl, rfl, fun _ _ h => h⟩
      | 12, ho, hv => cases ho; cases hv; exact .inr ⟨rfl, rfl, fun _ _ h => h⟩
      | 13, ho, hv => cases ho; cases hv; exact .inr ⟨rfl, rfl, fun _ _ h => h⟩
      | 14, ho, hv => cases ho; cases hv; exact .inr ⟨rfl, rfl, fun _ _ h => h⟩
      | 15, ho, hv => cases ho; cases hv; exact .inr ⟨rfl, rfl, fun _ _ h => h⟩
      | 16, ho, hv => cases ho; cases hv; exact .inr ⟨rfl, rfl, fun _ _ h => h⟩
      | 17, ho, hv => cases ho; cases hv; exact .inr ⟨rfl, rfl, fun _ _ h => h⟩
      | 18, ho, hv => cases ho; cases hv; exact .inr ⟨rfl, rfl, fun _ _ h => h⟩
      | 19, ho, hv => cases ho; cases hv; exact .inr ⟨rfl, rfl, fun _ _ h => h⟩
      | 20, ho, hv => cases ho; cases hv; exact .inr ⟨rfl, rfl, fun _ _ h => h⟩
      | 21, ho, hv => cases ho; cases hv; exact .inr ⟨rfl, rfl, fun _ _ h => h⟩
      | 22, ho, hv =>
        cases ho; cases hv
        refine .inl ⟨rfl, fun done a W hd hp hk hw K hK => ?_⟩
        have e28 := hk.at_ 5 _ 28 _ rfl (by decide) _ rfl rfl rfl
        have e44 := hk.at_ 21 _ 44 _ rfl (by decide) _ rfl rfl rfl
        exact op_val (by simp [go_sem, ev' e28, ev' e44]) (hK _ hw)
      | _ + 23, _, hv => cases hv
    intro done W hd hw
    simp only [List.drop_succ_cons, List.drop_zero, List.zip_cons_cons, List.zip_nil_right, putAll]
    simp only [Act.put, List.setIfInBounds_toArray, List.set]
    clear hd
    go_wp2_with fail
    go_ret
    exact ⟨by rw [HRES.out]; rfl, HA6.out.trans hw⟩
end Go.Proofs
end

section
/- Walks: outside, same of the reference; ratio of the law. -/
namespace Go.Proofs
open Go.RowKit
attribute [local go_sem] Oper.semAt_some


set_option maxRecDepth 100000 in
set_option maxHeartbeats 1000000 in
theorem ratioL_any (n d : Int) (w : World) :
    Calls Try.prog 38 #[.int .i64 n, .int .i64 d] w fun e w' => e = .returned (.agg #[.int .i64 n, .int .i64 d]) ∧ Aft w w' := by
  obtain ⟨s, hs⟩ : ∃ s, w.heap.size = s := ⟨_, rfl⟩
  have HB := Lib.hid (hs ▸ Blk.new w 37 #[.int .i64 0, .int .i64 0])
  have HA := Lib.hid (Aft.alloc w (.cells #[.int .i64 0, .int .i64 0] 37))
  have hw : w.heap.size ≤ s := Nat.le_of_eq hs
  go_enter Try.func38, Try.ntmps38
  go_upto_region 1 with fail
  try rw [hs]
  generalize w.alloc (.cells #[.int .i64 0, .int .i64 0] 37) = W at *
  have c0 : W.cell? ⟨s, 0, none⟩ = some (.int .i64 0) := HB.out.cell 0
  have c1 : W.cell? ⟨s, 1, none⟩ = some (.int .i64 0) := HB.out.cell 1
  have c2 := HB.out.frozen 0
  have c3 := HB.out.frozen 1
  have c4 := HB.out.lt
  go_wp2_with fail
  have B2 := (HB.out.store 0 (.int .i64 n)).store 1 (.int .i64 d)
  have A2 := (HA.out.then_setCell (p := ⟨s, 0, none⟩) hw (.int .i64 n)).then_setCell (p := ⟨s, 1, none⟩) hw (.int .i64 d)
  generalize (W.setCell ⟨s, 0, none⟩ (.int .i64 n)).setCell ⟨s, 1, none⟩ (.int .i64 d) = X at *
  have z0 : X.cell? ⟨s, 0, none⟩ = some (.int .i64 n) := B2.cell 0
  have z1 : X.cell? ⟨s, 1, none⟩ = some (.int .i64 d) := B2.cell 1
  exact bodyPost_ret (v := .agg #[.int .i64 n, .int .i64 d]) (by simp [results, Try.results38, go_sem, z0, z1]) rfl ⟨rfl, A2⟩
end Go.Proofs
end

section
/- Walks: the reference's Edges 60. -/
namespace Go.Proofs
open Go.RowKit
attribute [local go_sem] Oper.semAt_some

theorem getD_left {a b : List (Int × Int)} {i : Nat} (h : i < a.length) : (a ++ b).getD i (0, 0) = a.getD i (0, 0) := by
  rw [List.getD_eq_getElem?_getD, List.getD_eq_getElem?_getD, List.getElem?_append_left h]
theorem getD_right {a b : List (Int × Int)} (i : Nat) : (a ++ b).getD (a.length + i) (0, 0) = b.getD i (0, 0) := by
  rw [List.getD_eq_getElem?_getD, List.getD_eq_getElem?_getD, List.getElem?_append_right (by omega), Nat.add_sub_cancel_left]


end Go.Proofs
end

section
/- Plain: walks and potentials. -/
namespace Sheet
variable {E : List Edge} {a b k : Nat} {s p q : Int} {f : Nat → Int}
theorem Wk.pot (h : ∀ e ∈ E, q * e.2.2 ≤ p + (f e.2.1 - f e.1)) (hw : Wk E a b k s) : q * s ≤ p * k + (f b - f a) := by
  induction hw with
  | nil => simp
  | @snoc b c k s w h1 e ih =>
    have := h _ e
    dsimp only at this
    rw [Int.mul_add, show ((k + 1 : Nat) : Int) = k + 1 from rfl, Int.mul_add, Int.mul_one]
    omega
theorem most_pot (f : Nat → Int) (h : ∀ e ∈ E, q * e.2.2 ≤ p + (f e.2.1 - f e.1)) : AtMost E p q := fun a k s hw _ => by
  have := hw.pot h
  omega
theorem Wk.least (h : ∀ e ∈ E, f e.2.1 - f e.1 ≤ e.2.2) (hw : Wk E a b k s) : f b - f a ≤ s := by
  induction hw with
  | nil => omega
  | snoc h1 e ih =>
    have := h _ e
    dsimp only at this
    omega
theorem dist_pot (f : Nat → Int) (h : ∀ e ∈ E, f e.2.1 - f e.1 ≤ e.2.2) (hw : Wk E a b k s) (hs : s ≤ f b - f a) : Dist E a b (some s) :=
  ⟨fun m hm => by cases hm; exact ⟨k, hw⟩, fun k' s' hw' => ⟨s, rfl, by have := hw'.least h; omega⟩⟩
/-- Rows that are calm tell what potentials tell. -/
theorem Calms.tells {n : Nat} {J : List Jo} {D N : Int} {t : Nat → Nat → Int} (h : Calms n J D N t) (ha : a < n) (f : Nat → Int) (hf : ∀ e ∈ sc D N (legs J), f e.2.1 - f e.1 ≤ e.2.2) (hw : Wk (sc D N (legs J)) a b k s) (hs : s ≤ f b - f a) : t a b = s :=
  (opt_some.1 ((h.dist ha b).same (dist_pot f hf hw hs))).1
def threeX : List Jo := [(0, 1, 10), (1, 2, 20), (0, 2, 36)]
def threeY : List Jo := [(0, 1, 0), (1, 2, 0), (0, 2, 0)]
def ringX : List Jo := [(0, 1, 1), (1, 2, 1), (2, 3, 1), (3, 0, 1)]
def ringY : List Jo := [(0, 1, 0), (1, 2, 0), (2, 3, 0), (3, 0, 0)]
def fl (l : List Int) (n : Nat) : Int := l.getD n 0
theorem three_least : Least (legs threeX) 2 1 :=
  ⟨by decide, by decide, most_pot (fl [0, 12, 34]) (by decide), .inr ⟨0, 3, 6, ((((Wk.nil 0).snoc (c := 2) (w := 36) (by decide)).snoc (c := 1) (w := -20) (by decide)).snoc (c := 0) (w := -10) (by decide)).of_eq rfl rfl, by decide, by decide⟩⟩
theorem three_leastY : Least (legs threeY) 0 1 := ⟨by decide, by decide, most_pot (fun _ => 0) (by decide), .inl rfl⟩
theorem ring_least : Least (legs ringX) 1 1 :=
  ⟨by decide, by decide, most_pot (fun _ => 0) (by decide), .inr ⟨0, 4, 4, (((((Wk.nil 0).snoc (c := 1) (w := 1) (by decide)).snoc (c := 2) (w := 1) (by decide)).snoc (c := 3) (w := 1) (by decide)).snoc (c := 0) (w := 1) (by decide)).of_eq rfl rfl, by decide, by decide⟩⟩
theorem ring_leastY : Least (legs ringY) 0 1 := ⟨by decide, by decide, most_pot (fun _ => 0) (by decide), .inl rfl⟩
theorem three_x3 {t : Nat → Nat → Int} (h : Calms 3 threeX 1 3 t) : t 0 1 = 13 ∧ t 1 0 = -10 :=
  ⟨h.tells (by decide) (fl [0, 13, 36]) (by decide) (k := 1) (Wk.one (by decide)) (by decide),
   h.tells (by decide) (fl [-10, 0, 23]) (by decide) ((Wk.one (b := 2) (w := 23) (by decide)).snoc (w := -33) (by decide)) (by decide)⟩
theorem three_y3 {t : Nat → Nat → Int} (h : Calms 3 threeY 1 3 t) : t 0 1 = 3 ∧ t 1 0 = 3 :=
  ⟨h.tells (by decide) (fl [0, 3, 3]) (by decide) (k := 1) (Wk.one (by decide)) (by decide),
   h.tells (by decide) (fl [3, 0, 3]) (by decide) (k := 1) (Wk.one (by decide)) (by decide)⟩
theorem three_x2 {t : Nat → Nat → Int} (h : Calms 3 threeX 1 2 t) : t 0 1 = 12 ∧ t 1 0 = -12 :=
  ⟨h.tells (by decide) (fl [0, 12, 34]) (by decide) (k := 1) (Wk.one (by decide)) (by decide),
   h.tells (by decide) (fl [-12, 0, 22]) (by decide) ((Wk.one (b := 2) (w := 22) (by decide)).snoc (w := -34) (by decide)) (by decide)⟩
end Sheet
end

section
/- Plain: plays of sets that are changed, and what lies between two sheets. -/
namespace Sheet
theorem low_le {n d n' d' : Int} (hd : 0 < d) (hd' : 0 < d') (h : n * d' ≤ n' * d) : (low n d).1 * (low n' d').2 ≤ (low n' d').1 * (low n d).2 := by
  obtain ⟨g, g0, e1, e2, e3, -⟩ := low_facts n d hd
  obtain ⟨g', g0', e1', e2', e3', -⟩ := low_facts n' d' hd'
  generalize (low n d).1 = x at *
  generalize (low n d).2 = y at *
  generalize (low n' d').1 = x' at *
  generalize (low n' d').2 = y' at *
  subst e1 e2 e1' e2'
  have h2 : (x * y') * (g * g') ≤ (x' * y) * (g * g') := by
    have a1 : x * g * (y' * g') = (x * y') * (g * g') := by simp only [Int.mul_left_comm, Int.mul_comm]
    have a2 : x' * g' * (y * g) = (x' * y) * (g * g') := by simp only [Int.mul_left_comm, Int.mul_comm]
    rw [← a1, ← a2]
    exact h
  exact Int.le_of_mul_le_mul_right h2 (Int.mul_pos g0 g0')
end Sheet
namespace Go.Proofs

/-- What lies between two sheets, where the play is enough. -/
def BtOk (S : SetL) (N D : Int) (a b : Nat) (t0 t1 : Nat → Nat → Int) (w : World) (e : Ending) (w' : World) : Prop := Aft w w' ∧ Sheet.Calms S.n.toNat (joOf false S.J) D N t0 ∧ Sheet.Calms S.n.toNat (joOf true S.J) D N t1 ∧
    ((t0 a b = Sheet.far ∧ e = .returned (.tuple #[.agg #[.int .i64 0, .int .i64 0, .int .i64 0, .int .i64 0], .agg #[.int .i64 0, .int .i64 0, .int .i64 0, .int .i64 0], .int .i64 7])) ∨
     (t0 a b ≠ Sheet.far ∧ e = .returned (.tuple #[.agg (encS (bt4 D t0 a b)), .agg (encS (bt4 D t1 a b)), .int .i64 0])))
theorem BtR.most {S : SetL} {N D : Int} {a b : Nat} {w w' : World} {e : Ending} (h : BtR S N D a b w e w') (hm : ∀ north, Sheet.AtMost (Sheet.legs (joOf north S.J)) N D) : ∃ t0 t1, BtOk S N D a b t0 t1 w e w' := by
  obtain ⟨h1, h2⟩ := h
  rcases h2 with ⟨-, north, l, hc⟩ | ⟨t0, t1, c0, c1, h3⟩
  · exact absurd (hm north) hc.not
  · exact ⟨t0, t1, h1, c0, c1, h3⟩
end Go.Proofs
end

section
/- Walks: the examples of the law; shifted, sum, Fold. -/
namespace Go.Proofs
open Go.RowKit
attribute [local go_sem] Oper.semAt_some

/-- A block that holds records, and no more. -/
theorem rows_of_blk {α : Type} {enc : α → List Value} {sz : Nat} (hs : ∀ x, (enc x).length = sz) {W : World} {b : Nat} {t : TypeId} {l : List α} {cs : Array Value} (h : Blk W b t cs) (hc : cs = (l.flatMap enc).toArray) (hl : l.length * sz ≤ 17592186043904) : RowsP W (some ⟨b, 0, none⟩) sz (FlatR enc) l := by
  subst hc
  refine ⟨hl, .inr ⟨b, 0, rfl, h.lt, fun i hi => ⟨enc l[i], hs _, rfl, fun j hj => ?_⟩⟩⟩
  have hj' : j < sz := by rw [hs] at hj; exact hj
  have h1 := h.cell (i * sz + j)
  have h2 := flat_get hs l i j hi hj'
  rw [List.getElem?_eq_getElem hj] at h2
  rw [Nat.zero_add, h1]
  simpa using h2
def threeJ : List Q4 := [⟨0, 1, 10, 0⟩, ⟨1, 2, 20, 0⟩, ⟨0, 2, 36, 0⟩]
def ringJ : List Q4 := [⟨0, 1, 1, 0⟩, ⟨1, 2, 1, 0⟩, ⟨2, 3, 1, 0⟩, ⟨3, 0, 1, 0⟩]
def edgeA : List (Int × Int) := [(0, 1), (10, 2), (20, 1)]
def edgeB : List (Int × Int) := [(1, 2), (9, 1), (12, 2)]
set_option maxRecDepth 100000 in
set_option maxHeartbeats 1000000 in
theorem three_any (w : World) : Calls Try.prog 50 #[] w fun e w' => ∃ b, e = .returned (.agg #[.int .i64 3, .slice (some ⟨b, 0, none⟩) 3 3]) ∧ Quads w' (some ⟨b, 0, none⟩) threeJ ∧ Aft w w' := by
  obtain ⟨s, hs⟩ : ∃ s, w.heap.size = s := ⟨_, rfl⟩
  have hw : w.heap.size ≤ s := Nat.le_of_eq hs
  obtain ⟨W1, hW1⟩ : ∃ W1, (w.alloc (.cells #[.int .i64 0, .slice none 0 0] 25)).alloc (.cells #[.int .i64 0, .int .i64 1, .int .i64 10, .int .i64 0, .int .i64 1, .int .i64 2, .int .i64 20, .int .i64 0, .int .i64 0, .int .i64 2, .int .i64 36, .int .i64 0] 35) = W1 := ⟨_, rfl⟩
  have HA1 : Hid (Aft w W1) := Lib.hid (hW1 ▸ (Aft.alloc w _).then_alloc _)
  have HB1 : Hid (Blk W1 s 25 #[.int .i64 0, .slice none 0 0]) := Lib.hid (by rw [← hW1, ← hs]; exact (Blk.new w 25 _).alloc _)
  have HQ1 : Hid (Blk W1 (s + 1) 35 #[.int .i64 0, .int .i64 1, .int .i64 10, .int .i64 0, .int .i64 1, .int .i64 2, .int .i64 20, .int .i64 0, .int .i64 0, .int .i64 2, .int .i64 36, .int .i64 0]) := Lib.hid (by have := Blk.new (w.alloc (.cells #[.int .i64 0, .slice none 0 0] 25)) 35 #[.int .i64 0, .int .i64 1, .int .i64 10, .int .i64 0, .int .i64 1, .int .i64 2, .int .i64 20, .int .i64 0, .int .i64 0, .int .i64 2, .int .i64 36, .int .i64 0]; rw [World.size_alloc, hs, hW1] at this; exact this)
  have c0 := HB1.out.cell 0
  have c1 := HB1.out.cell 1
  have c2 := HB1.out.frozen 0
  have c3 := HB1.out.frozen 1
  have c4 := HB1.out.lt
  simp only [List.getElem?_toArray, List.getElem?_cons_zero, List.getElem?_cons_succ] at c0 c1
  go_enter Try.func50, Try.ntmps50
  go_upto_region 1 with fail
  go_wp2_with fail
  have B2 := (HB1.out.store 0 (.int .i64 3)).store 1 (.slice (some ⟨s + 1, 0, none⟩) 3 3)
  have A2 := (HA1.out.then_setCell (p := ⟨s, 0, none⟩) hw (.int .i64 3)).then_setCell (p := ⟨s, 1, none⟩) hw (.slice (some ⟨s + 1, 0, none⟩) 3 3)
  have Q2 := (HQ1.out.far (p := ⟨s, 0, none⟩) (by show s + 1 ≠ s; omega) (.int .i64 3)).far (p := ⟨s, 1, none⟩) (by show s + 1 ≠ s; omega) (.slice (some ⟨s + 1, 0, none⟩) 3 3)
  generalize (W1.setCell ⟨s, 0, none⟩ (.int .i64 3)).setCell ⟨s, 1, none⟩ (.slice (some ⟨s + 1, 0, none⟩) 3 3) = X at *
  have z0 : X.cell? ⟨s, 0, none⟩ = some (.int .i64 3) := B2.cell 0
  have z1 : X.cell? ⟨s, 1, none⟩ = some (.slice (some ⟨s + 1, 0, none⟩) 3 3) := B2.cell 1
  exact bodyPost_ret (v := .agg #[.int .i64 3, .slice (some ⟨s + 1, 0, none⟩) 3 3]) (by simp [results, Try.results50, go_sem, z0, z1]) rfl ⟨s + 1, rfl, rows_of_blk (enc := enc4) (fun _ => rfl) Q2 rfl (by decide), A2⟩
set_option maxRecDepth 100000 in
set_option maxHeartbeats 1000000 in
theorem ring_any (w : World) : Calls Try.prog 53 #[] w fun e w' => ∃ b, e = .returned (.agg #[.int .i64 4, .slice (some ⟨b, 0, none⟩) 4 4]) ∧ Quads w' (some ⟨b, 0, none⟩) ringJ ∧ Aft w w' := by
  obtain ⟨s, hs⟩ : ∃ s, w.heap.size = s := ⟨_, rfl⟩
  have hw : w.heap.size ≤ s := Nat.le_of_eq hs
  obtain ⟨W1, hW1⟩ : ∃ W1, (w.alloc (.cells #[.int .i64 0, .slice none 0 0] 25)).alloc (.cells #[.int .i64 0, .int .i64 1, .int .i64 1, .int .i64 0, .int .i64 1, .int .i64 2, .int .i64 1, .int .i64 0, .int .i64 2, .int .i64 3, .int .i64 1, .int .i64 0, .int .i64 3, .int .i64 0, .int .i64 1, .int .i64 0] 35) = W1 := ⟨_, rfl⟩
  have HA1 : Hid (Aft w W1) := Lib.hid (hW1 ▸ (Aft.alloc w _).then_alloc _)
  have HB1 : Hid (Blk W1 s 25 #[.int .i64 0, .slice none 0 0]) := Lib.hid (by rw [← hW1, ← hs]; exact (Blk.new w 25 _).alloc _)
  have HQ1 : Hid (Blk W1 (s + 1) 35 #[.int .i64 0, .int .i64 1, .int .i64 1, .int .i64 0, .int .i64 1, .int .i64 2, .int .i64 1, .int .i64 0, .int .i64 2, .int .i64 3, .int .i64 1, .int .i64 0, .int .i64 3, .int .i64 0, .int .i64 1, .int .i64 0]) := Lib.hid (by have := Blk.new (w.alloc (.cells #[.int .i64 0, .slice none 0 0] 25)) 35 #[.int .i64 0, .int .i64 1, .int .i64 1, .int .i64 0, .int .i64 1, .int .i64 2, .int .i64 1, .int .i64 0, .int .i64 2, .int .i64 3, .int .i64 1, .int .i64 0, .int .i64 3, .int .i64 0, .int .i64 1, .int .i64 0]; rw [World.size_alloc, hs, hW1] at this; exact this)
  have c0 := HB1.out.cell 0
  have c1 := HB1.out.cell 1
  have c2 := HB1.out.frozen 0
  have c3 := HB1.out.frozen 1
  have c4 := HB1.out.lt
  simp only [List.getElem?_toArray, List.getElem?_cons_zero, List.getElem?_cons_succ] at c0 c1
  go_enter Try.func53, Try.ntmps53
  go_upto_region 1 with fail
  go_wp2_with fail
  have B2 := (HB1.out.store 0 (.int .i64 4)).store 1 (.slice (some ⟨s + 1, 0, none⟩) 4 4)
  have A2 := (HA1.out.then_setCell (p := ⟨s, 0, none⟩) hw (.int .i64 4)).then_setCell (p := ⟨s, 1, none⟩) hw (.slice (some ⟨s + 1, 0, none⟩) 4 4)
  have Q2 := (HQ1.out.far (p := ⟨s, 0, none⟩) (by show s + 1 ≠ s; omega) (.int .i64 4)).far (p := ⟨s, 1, none⟩) (by show s + 1 ≠ s; omega) (.slice (some ⟨s + 1, 0, none⟩) 4 4)
  generalize (W1.setCell ⟨s, 0, none⟩ (.int .i64 4)).setCell ⟨s, 1, none⟩ (.slice (some ⟨s + 1, 0, none⟩) 4 4) = X at *
  have z0 : X.cell? ⟨s, 0, none⟩ = some (.int .i64 4) := B2.cell 0
  have z1 : X.cell? ⟨s, 1, none⟩ = some (.slice (some ⟨s + 1, 0, none⟩) 4 4) := B2.cell 1
  exact bodyPost_ret (v := .agg #[.int .i64 4, .slice (some ⟨s + 1, 0, none⟩) 4 4]) (by simp [results, Try.results53, go_sem, z0, z1]) rfl ⟨s + 1, rfl, rows_of_blk (enc := enc4) (fun _ => rfl) Q2 rfl (by decide), A2⟩
set_option maxRecDepth 100000 in
set_option maxHeartbeats 1000000 in
theorem edges_any (w : World) : Calls Try.prog 54 #[] w fun e w' => ∃ b1 b2, e = .returned (.tuple #[.slice (some ⟨b1, 0, none⟩) 3 3, .slice (some ⟨b2, 0, none⟩) 3 3]) ∧ Prs w' (some ⟨b1, 0, none⟩) edgeA ∧ Prs w' (some ⟨b2, 0, none⟩) edgeB ∧ Aft w w' := by
  have HQ1 := Lib.hid ((Blk.new w 54 #[.int .i64 0, .int .i64 1, .int .i64 10, .int .i64 2, .int .i64 20, .int .i64 1]).alloc (.cells #[.int .i64 1, .int .i64 2, .int .i64 9, .int .i64 1, .int .i64 12, .int .i64 2] 54))
  have HQ2 := Lib.hid (Blk.new (w.alloc (.cells #[.int .i64 0, .int .i64 1, .int .i64 10, .int .i64 2, .int .i64 20, .int .i64 1] 54)) 54 #[.int .i64 1, .int .i64 2, .int .i64 9, .int .i64 1, .int .i64 12, .int .i64 2])
  have HA := Lib.hid ((Aft.alloc w (.cells #[.int .i64 0, .int .i64 1, .int .i64 10, .int .i64 2, .int .i64 20, .int .i64 1] 54)).then_alloc (.cells #[.int .i64 1, .int .i64 2, .int .i64 9, .int .i64 1, .int .i64 12, .int .i64 2] 54))
  go_enter Try.func54, Try.ntmps54
  go_wp2_with fail
  exact bodyPost_ret (v := .tuple #[.slice (some ⟨w.heap.size, 0, none⟩) 3 3, .slice (some ⟨w.heap.size + 1, 0, none⟩) 3 3]) (by simp [results, Try.results54, go_sem]) rfl ⟨w.heap.size, w.heap.size + 1, rfl, rows_of_blk (enc := enc2) (fun _ => rfl) HQ1.out rfl (by decide), rows_of_blk (enc := enc2) (fun _ => rfl) (by have := HQ2.out; rw [World.size_alloc] at this; exact this) rfl (by decide), HA.out⟩
/-- A shift to the east. -/
def shI (n : Int) : Q4 := ⟨n, 1, 0, 1⟩
set_option maxRecDepth 100000 in
set_option maxHeartbeats 4000000 in
theorem shifted_any (A : Option Addr) (l : List Int) (c : Nat) (w : World) (hA : Ints w A l) (hl : l.length ≤ 1000) :
    Calls Try.prog 52 #[.slice A l.length c] w (OwnF 93 4 enc4 w (l.map shI)) := by
  have HA := Lib.hid hA
  clear hA
  go_enter Try.func52, Try.ntmps52
  go_upto_block 0 with fail
  refine wp_block ?_
  go_loopw [3, 8] (fun v i wr => ∃ k : Nat, i = .int .i64 (k : Nat) ∧ k ≤ l.length ∧ wr.ownsRow w.heap.size 93 4 v ((l.take k).map shI).length (((l.take k).map shI).flatMap enc4) ∧ Aft w wr) (fun _ i _ => l.length - (intOf i).toNat)
  case atStart => exact ⟨0, rfl, by omega, World.ownsRow_nil _ _ 93 4, Aft.refl _⟩
  case round =>
    obtain ⟨k, rfl, hk, ho, ha⟩ := hrel
    have HO := Lib.hid ho
    have HAF := Lib.hid ha
    clear ho ha
    by_cases hkl : k < l.length
    · have t1 : decide (k < l.length) = true := by simpa using hkl
      obtain ⟨b, o, rfl, hb2, hc⟩ := (HA.out.aft HAF.out).at hkl
      have x0 := hc k hkl
      have htl : ((l.take k).map shI).length = k := by rw [List.length_map, List.length_take]; omega
      have HTL := Lib.hid htl
      have HTS : Hid ((l.take (k + 1)).map shI = (l.take k).map shI ++ [shI l[k]]) := Lib.hid (by rw [List.take_succ_eq_append_getElem hkl, List.map_append]; rfl)
      obtain ⟨p, hp⟩ : ∃ p, l[k] = p := ⟨_, rfl⟩
      rw [hp] at x0 HTS
      obtain ⟨L, hL⟩ : ∃ L, (l.take k).map shI = L := ⟨_, rfl⟩
      rw [hL] at HO HTS HTL
      clear hc hp hL htl
      have hba := HAF.out.size
      go_upto_region 5 with fail
      clear x0 t1
      go_wp2_with (first | (go_at_call 38; refine (ratioL_any _ _ _).mono ?_; rintro e w2 ⟨rfl, u, rfl⟩) | (at_builtin; refine wpList_pushF (enc := enc4) ty26 rfl _ _ rfl (own_aft HO.out (((Aft.lat _ _).then_lat _).then_alloc _)) (Nat.le_trans hba (((Aft.lat _ _).then_lat _).then_alloc _).size) rfl (shI p) rfl rfl (src_blk (Blk.new _ 93 _)) (by intro u hu; simp [enc4, shI] at hu; rcases hu with rfl | rfl | rfl | rfl <;> rfl) (by rw [HTL.out]; omega) (by decide) ?_; intro v8 w7 ho8 hg8))
      have ha9 := (HAF.out.trans (((Aft.lat _ _).then_lat _).then_alloc _)).grown hg8 (own_ge HO.out)
      refine ⟨⟨k + 1, by go_num, by omega, by rw [HTS.out]; exact ho8, ha9⟩, by simp [intOf]; omega⟩
    · have t1 : decide (k < l.length) = false := by simpa using hkl
      have et : l.take k = l := List.take_of_length_le (by omega)
      rw [et] at HO
      go_wp2_with fail
      go_ret
      exact ⟨_, rfl, HO.out, HAF.out⟩
end Go.Proofs
end
