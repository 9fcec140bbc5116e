/- Own texts, merged: Sa Sb Own3 Wd PWk PRt PLs PBf PFw PSc. -/
import Derived.Test.YthegmhnaiabcpaaC03
import Derived.Maps.AppendAt
import Derived.Deep.Onto
set_option linter.unusedSimpArgs false
set_option linter.unusedVariables false
set_option linter.unnecessarySimpa false
section
/- Walks: Check, opened. -/
namespace Go.Proofs
open Go.RowKit
attribute [local go_sem] Oper.semAt_some

/-- A set of sheets and joints. -/
structure SetL where
  n : Int
  J : List Q4
def okJ (n : Int) (j : Q4) : Bool := fromB j.a 0 (n - 1) && fromB j.b 0 (n - 1) && (j.a != j.b)
def numJ (j : Q4) : Bool := fromB j.x (-1000000) 1000000 && fromB j.y (-1000000) 1000000
/-- The error of a set. -/
def setE (S : SetL) : Int :=
  if !fromB S.n 1 12 || decide (40 < S.J.length) then 3 else if !S.J.all (okJ S.n) then 2 else if !S.J.all numJ then 4 else 0

theorem setE_count {S : SetL} (h : fromB S.n 1 12 = false ∨ 40 < S.J.length) : setE S = 3 := by
  unfold setE
  rw [if_pos]
  rcases h with h | h <;> simp [h]
theorem setE_arg {S : SetL} (h : fromB S.n 1 12 = true) (h1 : ¬ 40 < S.J.length) (h2 : S.J.all (okJ S.n) = false) : setE S = 2 := by
  unfold setE
  rw [if_neg (by simp [h]; omega), if_pos (by rw [h2]; rfl)]
theorem setE_value {S : SetL} (h : fromB S.n 1 12 = true) (h1 : ¬ 40 < S.J.length) (h2 : S.J.all (okJ S.n) = true) (h3 : S.J.all numJ = false) : setE S = 4 := by
  unfold setE
  rw [if_neg (by simp [h]; omega), if_neg (by rw [h2]; simp), if_pos (by rw [h3]; rfl)]
theorem setE_fine {S : SetL} (h : fromB S.n 1 12 = true) (h1 : ¬ 40 < S.J.length) (h2 : S.J.all (okJ S.n) = true) (h3 : S.J.all numJ = true) : setE S = 0 := by
  unfold setE
  rw [if_neg (by simp [h]; omega), if_neg (by rw [h2]; simp), if_neg (by rw [h3]; simp)]
theorem sheet98 (n m : Int) (sl : Value) (b : Nat) (w : World) (hn : 1 ≤ n ∧ n ≤ 12) (hb : Blk w b 25 #[.int .i64 n, sl]) :
    Calls Try.prog 98 #[.int .i64 m, .pointer (some ⟨b, 0, none⟩)] w fun e w' => e = .returned (.bool (fromB m 0 (n - 1))) ∧ w = w' := by
  have k0 : w.cell? ⟨b, 0, none⟩ = some (.int .i64 n) := hb.cell 0
  have hlt := hb.lt
  clear hb
  go_enter Try.func98, Try.ntmps98
  go_wp2_with (go_at_call 45; refine (in_any _ _ _ _).mono ?_; rintro e w' ⟨rfl, rfl⟩)
  go_ret
  exact ⟨rfl, rfl⟩

set_option maxHeartbeats 1000000 in
theorem check2_any (n : Int) (j : Q4) (sl : Value) (b f : Nat) (w : World) (hn : 1 ≤ n ∧ n ≤ 12) (hb : Blk w b 25 #[.int .i64 n, sl]) (hf : Blk w f 143 #[.func (.func 98) #[] #[.pointer (some ⟨b, 0, none⟩)]]) :
    Calls Try.prog 100 #[.agg #[.int .i64 j.a, .int .i64 j.b, .int .i64 j.x, .int .i64 j.y], .pointer (some ⟨f, 0, none⟩)] w fun e w' => e = .returned (.bool (okJ n j)) ∧ Aft w w' := by
  have k0 : w.cell? ⟨f, 0, none⟩ = some (.func (.func 98) #[] #[.pointer (some ⟨b, 0, none⟩)]) := hf.cell 0
  have hlt := hf.lt
  have hlt' := hb.lt
  have HS : Hid (∀ m, Calls Try.prog 98 #[.int .i64 m, .pointer (some ⟨b, 0, none⟩)] (w.alloc (.cells #[.int .i64 j.a, .int .i64 j.b, .int .i64 j.x, .int .i64 j.y] 35)) fun e w' => e = .returned (.bool (fromB m 0 (n - 1))) ∧ (w.alloc (.cells #[.int .i64 j.a, .int .i64 j.b, .int .i64 j.x, .int .i64 j.y] 35)) = w') :=
    Lib.hid fun m => sheet98 n m sl b _ hn (hb.alloc _)
  clear hb hf
  obtain ⟨a, b', x, y⟩ := j
  dsimp only at HS
  unfold okJ
  dsimp only
  go_enter Try.func100, Try.ntmps100
  cases h1 : fromB a 0 (n - 1)
  · have H1 := Lib.hid h1
    clear h1
    go_wp2_with (go_at_call 98; refine (HS.out _).mono ?_; rintro e w' ⟨rfl, rfl⟩; rw [H1.out])
    go_ret
    exact ⟨rfl, Aft.alloc _ _⟩
  · have H1 := Lib.hid h1
    clear h1
    cases h2 : fromB b' 0 (n - 1)
    · have H2 := Lib.hid h2
      clear h2
      go_wp2_with (first | (go_at_call_of 98 (Value.int IntKind.i64 a); refine (HS.out a).mono ?_; rintro e w' ⟨rfl, rfl⟩; rw [H1.out]) | (go_at_call_of 98 (Value.int IntKind.i64 b'); refine (HS.out b').mono ?_; rintro e w' ⟨rfl, rfl⟩; rw [H2.out]))
      go_ret
      exact ⟨rfl, Aft.alloc _ _⟩
    · have H2 := Lib.hid h2
      clear h2
      go_wp2_with (first | (go_at_call_of 98 (Value.int IntKind.i64 a); refine (HS.out a).mono ?_; rintro e w' ⟨rfl, rfl⟩; rw [H1.out]) | (go_at_call_of 98 (Value.int IntKind.i64 b'); refine (HS.out b').mono ?_; rintro e w' ⟨rfl, rfl⟩; rw [H2.out]))
      go_ret
      exact ⟨rfl, Aft.alloc _ _⟩

set_option maxHeartbeats 1000000 in
theorem check3_any (j : Q4) (w : World) :
    Calls Try.prog 101 #[.agg #[.int .i64 j.a, .int .i64 j.b, .int .i64 j.x, .int .i64 j.y]] w fun e w' => e = .returned (.bool (numJ j)) ∧ Aft w w' := by
  obtain ⟨a, b, x, y⟩ := j
  unfold numJ
  dsimp only
  go_enter Try.func101, Try.ntmps101
  cases h1 : fromB x (-1000000) 1000000
  · have H1 := Lib.hid h1
    clear h1
    go_wp2_with (go_at_call 45; refine (in_any _ _ _ _).mono ?_; rintro e w' ⟨rfl, rfl⟩; rw [H1.out])
    go_ret
    exact ⟨rfl, Aft.alloc _ _⟩
  · have H1 := Lib.hid h1
    clear h1
    go_wp2_with (first | (go_at_call_of 45 (Value.int IntKind.i64 x); refine (in_any _ _ _ _).mono ?_; rintro e w' ⟨rfl, rfl⟩; rw [H1.out]) | (go_at_call_of 45 (Value.int IntKind.i64 y); refine (in_any _ _ _ _).mono ?_; rintro e w' ⟨rfl, rfl⟩))
    go_ret
    exact ⟨rfl, Aft.alloc _ _⟩
theorem runs_100 (args : Array Value) (w : World) : (callFunc 100 args).run Try.prog w = .ok (.enter 100 args) w := by simp [go_sem]
theorem runs_101 (args : Array Value) (w : World) : (callFunc 101 args).run Try.prog w = .ok (.enter 101 args) w := by simp [go_sem]
theorem every_check2 (n : Int) (J : List Q4) (A : Option Addr) (c : Nat) (sl : Value) (b f : Nat) (w : World) (hA : Quads w A J) (hn : 1 ≤ n ∧ n ≤ 12) (hb : Blk w b 25 #[.int .i64 n, sl]) (hf : Blk w f 143 #[.func (.func 98) #[] #[.pointer (some ⟨b, 0, none⟩)]]) :
    Calls Try.prog 99 #[.slice A J.length c, .func (.func 100) #[] #[.pointer (some ⟨f, 0, none⟩)]] w fun e w' => e = .returned (.bool (J.all (okJ n))) ∧ Aft w w' :=
  everyJoint (FlatR enc4) FlatR.mono 100 [.pointer (some ⟨f, 0, none⟩)] (okJ n) A J c w hA runs_100 fun x _ W ha v0 v1 v2 v3 hv u => by
    unfold FlatR enc4 at hv
    cases hv
    exact check2_any n x sl b f _ hn ((hb.aft ha).lat u) ((hf.aft ha).lat u)
theorem every_check3 (J : List Q4) (A : Option Addr) (c : Nat) (w : World) (hA : Quads w A J) :
    Calls Try.prog 99 #[.slice A J.length c, .func (.func 101) #[] #[]] w fun e w' => e = .returned (.bool (J.all numJ)) ∧ Aft w w' :=
  everyJoint (FlatR enc4) FlatR.mono 101 [] numJ A J c w hA runs_101 fun x _ W ha v0 v1 v2 v3 hv u => by
    unfold FlatR enc4 at hv
    cases hv
    exact check3_any x _

set_option maxRecDepth 100000 in
set_option maxHeartbeats 2000000 in
theorem check_any (S : SetL) (A : Option Addr) (c : Nat) (w : World) (hA : Quads w A S.J) :
    Calls Try.prog 75 #[.agg #[.int .i64 S.n, .slice A S.J.length c]] w fun e w' => e = .returned (.int .i64 (setE S)) ∧ Aft w w' := by
  obtain ⟨n, J⟩ := S
  dsimp only at hA ⊢
  have hlen := hA.len
  have h0 : Aft w (w.alloc (.cells #[.int .i64 n, .slice A J.length c] 25)) := Aft.alloc _ _
  have h01 := h0.then_alloc (.cells #[.func (.func 98) #[] #[.pointer (some ⟨w.heap.size, 0, none⟩)]] 143)
  have HB := Lib.hid ((Blk.new w 25 #[.int .i64 n, .slice A J.length c]).alloc (.cells #[.func (.func 98) #[] #[.pointer (some ⟨w.heap.size, 0, none⟩)]] 143))
  have hf := Blk.new (w.alloc (.cells #[.int .i64 n, .slice A J.length c] 25)) 143 #[.func (.func 98) #[] #[.pointer (some ⟨w.heap.size, 0, none⟩)]]
  rw [World.size_alloc] at hf
  have HF := Lib.hid hf
  have HA := Lib.hid hA
  have H01 := Lib.hid h01
  clear hA hf h0 h01
  go_enter Try.func75, Try.ntmps75
  cases h1 : fromB n 1 12
  · have H1 := Lib.hid h1
    have HE := Lib.hid (setE_count (S := ⟨n, J⟩) (.inl h1))
    clear h1
    go_wp2_with (go_at_call 45; refine (in_any _ _ _ _).mono ?_; rintro e w' ⟨rfl, rfl⟩; rw [H1.out])
    go_ret
    exact ⟨ret_int HE.out.symm, H01.out⟩
  · have hn := fromB_iff.1 h1
    have H1 := Lib.hid h1
    clear h1
    by_cases h2 : 40 < J.length
    · have t2 : decide ((40 : Int) < J.length) = true := by simp; omega
      have HE := Lib.hid (setE_count (S := ⟨n, J⟩) (.inr h2))
      clear h2
      go_wp2_with (go_at_call 45; refine (in_any _ _ _ _).mono ?_; rintro e w' ⟨rfl, rfl⟩; rw [H1.out])
      go_ret
      exact ⟨ret_int HE.out.symm, H01.out⟩
    · have t2 : decide ((40 : Int) < J.length) = false := by simp; omega
      have H2 := Lib.hid (fun W (ha : Aft _ W) => every_check2 n J A c _ _ _ W (HA.out.aft (H01.out.trans ha)) hn (HB.out.aft ha) (HF.out.aft ha))
      have H3 := Lib.hid (fun W (ha : Aft w W) => every_check3 J A c W (HA.out.aft ha))
      clear hn
      cases h3 : J.all (okJ n)
      · rw [h3] at H2
        have HE := Lib.hid (setE_arg (S := ⟨n, J⟩) H1.out h2 h3)
        clear h3 h2 H3
        go_wp2_with (first | (go_at_call 45; refine (in_any _ _ _ _).mono ?_; rintro e w' ⟨rfl, rfl⟩; rw [H1.out]) | (go_at_call 99; refine (H2.out _ (Aft.refl _)).mono ?_; rintro e w' ⟨rfl, u, rfl⟩))
        go_ret
        exact ⟨ret_int HE.out.symm, H01.out.then_lat _⟩
      · rw [h3] at H2
        cases h4 : J.all numJ
        · rw [h4] at H3
          have HE := Lib.hid (setE_value (S := ⟨n, J⟩) H1.out h2 h3 h4)
          clear h4 h3 h2
          go_wp2_with (first | (go_at_call 45; refine (in_any _ _ _ _).mono ?_; rintro e w' ⟨rfl, rfl⟩; rw [H1.out]) | (go_at_call 99; (with_reducible refine (H2.out _ (Aft.refl _)).mono ?_); rintro e w' ⟨rfl, u, rfl⟩) | (go_at_call 99; refine (H3.out _ (H01.out.then_lat _)).mono ?_; rintro e w' ⟨rfl, u2, rfl⟩))
          go_ret
          exact ⟨ret_int HE.out.symm, (H01.out.then_lat _).then_lat _⟩
        · rw [h4] at H3
          have HE := Lib.hid (setE_fine (S := ⟨n, J⟩) H1.out h2 h3 h4)
          clear h4 h3 h2
          go_wp2_with (first | (go_at_call 45; refine (in_any _ _ _ _).mono ?_; rintro e w' ⟨rfl, rfl⟩; rw [H1.out]) | (go_at_call 99; (with_reducible refine (H2.out _ (Aft.refl _)).mono ?_); rintro e w' ⟨rfl, u, rfl⟩) | (go_at_call 99; refine (H3.out _ (H01.out.then_lat _)).mono ?_; rintro e w' ⟨rfl, u2, rfl⟩))
          go_ret
          exact ⟨ret_int HE.out.symm, (H01.out.then_lat _).then_lat _⟩
end Go.Proofs
end

section
/- Walks: opened. -/
namespace Go.Proofs
open Go.RowKit
attribute [local go_sem] Oper.semAt_some

def zAp : Nat → Int := fun _ => 0
def zBy : Nat → Nat × Bool := fun _ => (0, false)
set_option maxRecDepth 100000 in
theorem build124 (n : Int) (sl : Value) (w : World) : (Instr.build 124 #[(0, .agg #[.int .i64 n, sl])]).run Try.prog w = .ok (.agg (workC n sl zAp zBy)) w := by kernel_rfl
attribute [local go_sem ↓] build124

/-- A set at work lies in block d. -/
structure WorkAt (w0 w : World) (d : Nat) (S : SetL) (A : Option Addr) (c : Nat) (ap : Nat → Int) (bf : Nat → Nat × Bool) : Prop where
  blk : Blk w d 124 (workC S.n (.slice A S.J.length c) ap bf)
  rep : Quads w0 A S.J
  base : w0.heap.size ≤ d
  aft : Aft w0 w
section
variable {w0 w w' : World} {d : Nat} {S : SetL} {A : Option Addr} {c : Nat} {ap : Nat → Int} {bf : Nat → Nat × Bool}
theorem WorkAt.lt (h : WorkAt w0 w d S A c ap bf) : d < w.heap.size := h.blk.lt
theorem WorkAt.later (h : WorkAt w0 w d S A c ap bf) (ha : Aft w w') : WorkAt w0 w' d S A c ap bf := ⟨h.blk.aft ha, h.rep, h.base, h.aft.trans ha⟩
theorem WorkAt.grown (h : WorkAt w0 w d S A c ap bf) {row : Option Nat} (hg : w.grownBy w' row) (h1 : some d ≠ row) (h2 : ∀ k, row = some k → w0.heap.size ≤ k) : WorkAt w0 w' d S A c ap bf := ⟨h.blk.grown hg h1, h.rep, h.base, h.aft.grown hg h2⟩
theorem WorkAt.js (h : WorkAt w0 w d S A c ap bf) : Quads w A S.J := h.rep.aft h.aft
theorem WorkAt.k0 (h : WorkAt w0 w d S A c ap bf) : w.cell? ⟨d, 0, none⟩ = some (.int .i64 S.n) := (h.blk.cell 0).trans (workC_0 _ _ _ _)
theorem WorkAt.k1 (h : WorkAt w0 w d S A c ap bf) : w.cell? ⟨d, 1, none⟩ = some (.slice A S.J.length c) := (h.blk.cell 1).trans (workC_1 _ _ _ _)
theorem WorkAt.kap (h : WorkAt w0 w d S A c ap bf) {i : Nat} (hi : i < 144) : w.cell? ⟨d, 2 + i, none⟩ = some (.int .i64 (ap i)) := (h.blk.cell _).trans (workC_ap _ _ _ _ hi)
theorem WorkAt.kby (h : WorkAt w0 w d S A c ap bf) {i : Nat} (hi : i < 144) : w.cell? ⟨d, 146 + 2 * i, none⟩ = some (.int .i64 ((bf i).1 : Nat)) ∧ w.cell? ⟨d, 146 + 2 * i + 1, none⟩ = some (.bool (bf i).2) :=
  ⟨(h.blk.cell _).trans (workC_leg _ _ _ _ hi).1, (h.blk.cell _).trans (workC_leg _ _ _ _ hi).2⟩
theorem WorkAt.fz (h : WorkAt w0 w d S A c ap bf) (i : Nat) : w.frozen? ⟨d, i, none⟩ = false := h.blk.frozen i
theorem WorkAt.setAp (h : WorkAt w0 w d S A c ap bf) {i : Nat} (hi : i < 144) (x : Int) : WorkAt w0 (w.setCell ⟨d, 2 + i, none⟩ (.int .i64 x)) d S A c (updF ap i x) bf :=
  ⟨by have := h.blk.store (2 + i) (.int .i64 x); rwa [workC_setAp _ _ _ _ hi] at this, h.rep, h.base, h.aft.then_setCell h.base _⟩
theorem WorkAt.setBy (h : WorkAt w0 w d S A c ap bf) {i : Nat} (hi : i < 144) (g : Nat × Bool) : WorkAt w0 ((w.setCell ⟨d, 146 + 2 * i, none⟩ (.int .i64 (g.1 : Nat))).setCell ⟨d, 146 + 2 * i + 1, none⟩ (.bool g.2)) d S A c ap (updF bf i g) :=
  ⟨by have := (h.blk.store (146 + 2 * i) (.int .i64 (g.1 : Nat))).store (146 + 2 * i + 1) (.bool g.2); rwa [workC_setBy _ _ _ _ hi] at this, h.rep, h.base, (h.aft.then_setCell h.base _).then_setCell h.base _⟩
end

/-- What opened leaves. -/
def OpenedR (S : SetL) (A : Option Addr) (c : Nat) (w : World) (e : Ending) (w' : World) : Prop := ∃ d, e = .returned (.tuple #[.pointer (some ⟨d, 0, none⟩), .int .i64 0]) ∧ WorkAt w w' d S A c zAp zBy
theorem opened_bad (S : SetL) (A : Option Addr) (c : Nat) (w : World) (hA : Quads w A S.J) (he : setE S ≠ 0) :
    Calls Try.prog 43 #[.agg #[.int .i64 S.n, .slice A S.J.length c]] w fun e w' => e = .returned (.tuple #[.pointer none, .int .i64 (setE S)]) ∧ Aft w w' := by
  have h0 : Aft w (w.alloc (.cells #[.int .i64 S.n, .slice A S.J.length c] 25)) := Aft.alloc _ _
  have H1 := Lib.hid (check_any S A c (w.alloc (.cells #[.int .i64 S.n, .slice A S.J.length c] 25)) (hA.aft h0))
  have H0 := Lib.hid h0
  have t1 : (setE S != 0) = true := by simpa using he
  clear hA h0 he
  generalize setE S = E at *
  go_enter Try.func43, Try.ntmps43
  go_wp2_with (go_at_call 75; refine H1.out.mono ?_; rintro e w' ⟨rfl, u, rfl⟩)
  go_ret2
  exact ⟨rfl, H0.out.then_lat _⟩
set_option maxRecDepth 100000 in
set_option maxHeartbeats 2000000 in
theorem opened_good (S : SetL) (A : Option Addr) (c : Nat) (w : World) (hA : Quads w A S.J) (he : setE S = 0) :
    Calls Try.prog 43 #[.agg #[.int .i64 S.n, .slice A S.J.length c]] w (OpenedR S A c w) := by
  have h0 : Aft w (w.alloc (.cells #[.int .i64 S.n, .slice A S.J.length c] 25)) := Aft.alloc _ _
  have H1 := Lib.hid (check_any S A c (w.alloc (.cells #[.int .i64 S.n, .slice A S.J.length c] 25)) (hA.aft h0))
  have H0 := Lib.hid h0
  have HA := Lib.hid hA
  rw [he] at H1
  clear hA h0 he
  go_enter Try.func43, Try.ntmps43
  go_wp2_with (go_at_call 75; refine H1.out.mono ?_; rintro e w' ⟨rfl, u, rfl⟩)
  go_ret2
  have h1 := H0.out.then_lat u
  exact ⟨_, rfl, Blk.new _ _ _, HA.out, h1.size, h1.then_alloc _⟩
end Go.Proofs
end

section
/- Words for memory: append of one number to a list of the call's own. -/
namespace Go.Proofs
open Go.RowKit

theorem cell_new1 (w : World) (v : Value) (t : TypeId) : (w.alloc (.cells #[v] t)).cell? ⟨w.heap.size, 0, none⟩ = some v := by simp

/-- append(v, y) to a list of the call's own. -/
theorem wpList_push {w : World} {ops : Array Oper} {rest : List Oper} {o : Oper} {a : Act} {Q : Exit → Act → World → Prop}
    (hgd : o.guard = none) (s x : Operand) (ho : o.op = .call { callee := .builtin .append, args := #[s, x], argTypes := #[51, 51] })
    {base : Nat} {v : Value} {l : List Int} (hown : w.ownsRow base 3 1 v l.length (l.map (Value.int .i64))) (hbase : base ≤ w.heap.size) (hs : a.eval s = v)
    {y : Int} {c : Nat} {b : Nat} (hx : a.eval x = .slice (some ⟨b, 0, none⟩) 1 c) (hb : w.cell? ⟨b, 0, none⟩ = some (.int .i64 y)) (hl : l.length ≤ 1000000)
    (hn : ∀ v' w', w'.ownsRow base 3 1 v' (l ++ [y]).length ((l ++ [y]).map (Value.int .i64)) → w.grownBy w' v.ownBlock → wpList Try.prog ops Q rest (a.put o.dst v') w') : wpList Try.prog ops Q (o :: rest) a w := by
  refine wpList_app_at ty24 hgd s x ho hbase hs hown hx (news := [.int .i64 y]) rfl (by intro h; cases h) (fun ad e j u h => ?_) (one_int y) (by omega) (by decide) fun v' w' h1 h2 => hn v' w' (by simpa using h1) h2
  cases e
  match j, h with
  | 0, h => simp at h; subst h; rw [Addr.add_lit]; simpa using hb

end Go.Proofs
end

section
/- Words: what stands below a block, what is pushed to a list of records. -/
namespace Go.Proofs
open Go.RowKit

theorem cellA {W W' : World} {g i : Nat} {v : Value} (h : W.cell? ⟨g, i, none⟩ = some v) (hg : g < W.heap.size) (ha : Aft W W') : W'.cell? ⟨g, i, none⟩ = some v :=
  (World.cell?_of_block (a := ⟨g, i, none⟩) (ha.below.block g hg)).trans h
theorem evne {a : Act} {dst : Option Tmp} {v : Value} {s : Nat} (h : dst ≠ some s) : (a.put dst v).eval (.tmp s) = a.eval (.tmp s) :=
  Act.eval_put fun d hd e => by cases e; exact h hd
theorem upd_ne' {done : Nat → Bool} {i j : Nat} (h : j ≠ i) : Go.upd done i j = done j := by simp [Go.upd, h]
theorem upd_same' {done : Nat → Bool} {i : Nat} : Go.upd done i i = true := by simp [Go.upd]

/-- All blocks from b on stand as they stood. -/
structure Sm (b : Nat) (w W : World) : Prop where
  size : w.heap.size ≤ W.heap.size
  same : ∀ k, b ≤ k → k < w.heap.size → W.heap[k]? = w.heap[k]?
theorem Sm.of_grown {b : Nat} {w w' : World} {row : Option Nat} (h : w.grownBy w' row) (hr : ∀ k, row = some k → k < b ∨ w.heap.size ≤ k) : Sm b w w' :=
  ⟨h.size, fun k h1 h2 => h.block k h2 (fun e => by have := hr k e.symm; omega)⟩
theorem Sm.of_aft {b : Nat} {w w' : World} (h : Aft w w') : Sm b w w' := ⟨h.size, fun k _ h2 => h.below.block k h2⟩
theorem own_sm {b base : Nat} {w W : World} {t : TypeId} {size : Nat} {v : Value} {n : Nat} {xs : List Value} (h : w.ownsRow base t size v n xs) (hs : Sm b w W) (hb : b ≤ base) : W.ownsRow base t size v n xs := by
  refine ⟨h.1, ?_⟩
  rcases h.2 with h2 | ⟨g, cap, cur, h1, hg, h3, h4⟩
  · exact .inl h2
  · exact .inr ⟨g, cap, cur, h1, hg, (hs.same g (Nat.le_trans hb hg) (Array.getElem?_eq_some_iff.1 h3).1).trans h3, h4⟩
theorem own_block {w : World} {base : Nat} {t : TypeId} {size : Nat} {v : Value} {n : Nat} {xs : List Value} (h : w.ownsRow base t size v n xs) {g : Nat} (hg : v.ownBlock = some g) : ∃ cs, w.heap[g]? = some (.cells cs t (0, 0)) := by
  rcases h.2 with ⟨rfl, _⟩ | ⟨g', cap, cur, rfl, _, hh, _⟩
  · cases hg
  · cases hg; exact ⟨cur, hh⟩
theorem own_other {w w' : World} {base : Nat} {t t' : TypeId} {size : Nat} {v : Value} {n : Nat} {xs : List Value} {g : Nat} {cs : Array Value} {fz : Nat × Nat} (h : w.ownsRow base t size v n xs) (hg : w.grownBy w' (some g)) (hb : w.heap[g]? = some (.cells cs t' fz)) (hne : t ≠ t') : w'.ownsRow base t size v n xs :=
  h.kept hg (by
    cases e : v.ownBlock with
    | none => exact .inl rfl
    | some k =>
      refine .inr fun e2 => ?_
      obtain ⟨cs', hc⟩ := own_block h e
      cases e2
      rw [hb] at hc
      cases hc
      exact hne rfl)
/-- append(v, one record) to a list of records of the call's own. -/
theorem wpList_pushF {α : Type} {enc : α → List Value} {t e : TypeId} {sz bytes : Nat} (hT : SliceTy Try.prog t e sz bytes) {w : World} {ops : Array Oper} {rest : List Oper} {o : Oper} {a : Act} {Q : Exit → Act → World → Prop}
    (hgd : o.guard = none) (s x : Operand) (ho : o.op = .call { callee := .builtin .append, args := #[s, x], argTypes := #[t, t] })
    {base : Nat} {v : Value} {l : List α} (hown : w.ownsRow base e sz v l.length (l.flatMap enc)) (hbase : base ≤ w.heap.size) (hs : a.eval s = v)
    (y : α) {c : Nat} {b : Nat} (hx : a.eval x = .slice (some ⟨b, 0, none⟩) 1 c) (hy : (enc y).length = sz) (hb : ∀ j u, (enc y)[j]? = some u → w.cell? ⟨b, j, none⟩ = some u) (h1 : ∀ u ∈ enc y, u.oneCell' = true) (hl : (l.length + 1) * bytes ≤ 140737488355328) (hpos : 0 < bytes)
    (hn : ∀ v' w', w'.ownsRow base e sz v' (l ++ [y]).length ((l ++ [y]).flatMap enc) → w.grownBy w' v.ownBlock → wpList Try.prog ops Q rest (a.put o.dst v') w') : wpList Try.prog ops Q (o :: rest) a w := by
  refine wpList_app_at hT hgd s x ho hbase hs hown hx (news := enc y) (by rw [hy]; simp) (by intro h; cases h) (fun ad e j u h => ?_) h1 hl hpos fun v' w' h1 h2 => hn v' w' (by simpa [List.flatMap_append] using h1) h2
  cases e
  rw [Addr.add_lit]
  simpa using hb j u h
theorem ty103 : SliceTy Try.prog 103 120 2 16 := .mk' (z := .agg #[.int .i64 0, .bool false]) Try.underlying103 (by kernel_rfl) rfl (by decide)
theorem ty49 : SliceTy Try.prog 49 57 2 16 := .mk' (z := .agg #[.int .i64 0, .int .i64 0]) Try.underlying49 (by kernel_rfl) rfl (by decide)
theorem ty23 : SliceTy Try.prog 23 35 4 32 := .mk' (z := .agg #[.int .i64 0, .int .i64 0, .int .i64 0, .int .i64 0]) Try.underlying23 (by kernel_rfl) rfl (by decide)
theorem ty26 : SliceTy Try.prog 26 93 4 32 := .mk' (z := .agg #[.int .i64 0, .int .i64 0, .int .i64 0, .int .i64 0]) Try.underlying26 (by kernel_rfl) rfl (by decide)
end Go.Proofs
end

section
/- Plain: walks in a graph of sheets whose legs have weights; rounds that are left out; the greatest walks of so many legs and the greatest mean of rounds (Karp). -/
namespace Sheet
/-- A leg: from, to, weight. -/
abbrev Edge := Nat × Nat × Int
/-- There is a walk from a to b of k legs, of weight s. -/
inductive Wk (E : List Edge) : Nat → Nat → Nat → Int → Prop
  | nil (a : Nat) : Wk E a a 0 0
  | snoc {a b c k : Nat} {s w : Int} (h : Wk E a b k s) (e : (b, c, w) ∈ E) : Wk E a c (k + 1) (s + w)
variable {E : List Edge} {a b c k l : Nat} {s t w : Int}
theorem Wk.one (e : (a, b, w) ∈ E) : Wk E a b 1 w := by
  have := (Wk.nil (E := E) a).snoc e
  simpa using this
theorem Wk.append (h1 : Wk E a b k s) (h2 : Wk E b c l t) : Wk E a c (k + l) (s + t) := by
  induction h2 with
  | nil => simpa using h1
  | snoc h e ih =>
    have := ih.snoc e
    rw [Int.add_assoc] at this
    exact this
theorem Wk.of_eq (h : Wk E a b k s) (hk : k = l) (hs : s = t) : Wk E a b l t := by subst hk hs; exact h
/-- A walk as a row of places. -/
theorem Wk.rows (h : Wk E a b k s) : ∃ (v : Nat → Nat) (u : Nat → Int), v 0 = a ∧ v k = b ∧ u 0 = 0 ∧ u k = s ∧ ∀ i, i < k → (v i, v (i + 1), u (i + 1) - u i) ∈ E := by
  induction h with
  | nil => exact ⟨fun _ => a, fun _ => 0, rfl, rfl, rfl, rfl, fun i hi => absurd hi (Nat.not_lt_zero _)⟩
  | @snoc b c k s w h e ih =>
    obtain ⟨v, u, h0, hk, u0, uk, hi⟩ := ih
    refine ⟨fun i => if i ≤ k then v i else c, fun i => if i ≤ k then u i else s + w, by simp [h0], if_neg (by omega), by simp [u0], if_neg (by omega), fun i hik => ?_⟩
    by_cases e1 : i < k
    · have := hi i e1
      simp only [show i ≤ k by omega, show i + 1 ≤ k by omega, if_true]
      exact this
    · have e2 : i = k := by omega
      subst e2
      simp only [Nat.le_refl, if_true, show ¬ (i + 1 ≤ i) by omega, if_false, hk, uk]
      have : s + w - s = w := by omega
      rw [this]
      exact e
theorem Wk.of_rows {v : Nat → Nat} {u : Nat → Int} : ∀ (m i : Nat), (∀ j, i ≤ j → j < i + m → (v j, v (j + 1), u (j + 1) - u j) ∈ E) → Wk E (v i) (v (i + m)) m (u (i + m) - u i)
  | 0, i, _ => (Wk.nil (v i)).of_eq rfl (by simp)
  | m + 1, i, h => by
    have h1 := Wk.of_rows m i fun j h1 h2 => h j h1 (by omega)
    have h2 := h1.snoc (h (i + m) (by omega) (by omega))
    exact h2.of_eq rfl (by rw [show i + (m + 1) = i + m + 1 from rfl]; omega)
/-- More places than there are: one twice. -/
theorem twice : ∀ (n : Nat) (f : Nat → Nat), (∀ i, i ≤ n → f i < n) → ∃ i j, i < j ∧ j ≤ n ∧ f i = f j
  | 0, f, h => absurd (h 0 (Nat.le_refl _)) (Nat.not_lt_zero _)
  | n + 1, f, h => by
    by_cases hx : ∃ i, i ≤ n ∧ f i = f (n + 1)
    · obtain ⟨i, hi, e⟩ := hx
      exact ⟨i, n + 1, by omega, Nat.le_refl _, e⟩
    · have hne : ∀ i, i ≤ n → f i ≠ f (n + 1) := fun i hi e => hx ⟨i, hi, e⟩
      obtain ⟨i, j, hij, hj, e⟩ := twice n (fun i => if f i > f (n + 1) then f i - 1 else f i) fun i hi => by
        have h1 := h i (by omega)
        have h2 := h (n + 1) (Nat.le_refl _)
        have h3 := hne i hi
        show (if f i > f (n + 1) then f i - 1 else f i) < n
        split <;> omega
      refine ⟨i, j, hij, by omega, ?_⟩
      have h1 := hne i (by omega)
      have h2 := hne j (by omega)
      have e : (if f i > f (n + 1) then f i - 1 else f i) = (if f j > f (n + 1) then f j - 1 else f j) := e
      split at e <;> split at e <;> omega
/-- All legs lead to and from sheets. -/
def In (E : List Edge) (n : Nat) : Prop := ∀ a b w, (a, b, w) ∈ E → a < n ∧ b < n
/-- A walk of as many legs as there are sheets holds a round. -/
theorem Wk.round {n : Nat} (hE : In E n) (h : Wk E a b k s) (hk : n ≤ k) (h0 : 0 < k) : ∃ c i j l s1 s2 s3, Wk E a c i s1 ∧ Wk E c c j s2 ∧ Wk E c b l s3 ∧ 0 < j ∧ i + j + l = k ∧ s1 + s2 + s3 = s := by
  obtain ⟨v, u, v0, vk, u0, uk, he⟩ := h.rows
  have hv : ∀ i, i ≤ k → v i < n := fun i hi => by
    by_cases e : i < k
    · exact (hE _ _ _ (he i e)).1
    · have e2 : i = (k - 1) + 1 := by omega
      rw [e2]
      exact (hE _ _ _ (he (k - 1) (by omega))).2
  obtain ⟨i, j, hij, hj, e⟩ := twice n v fun i hi => hv i (by omega)
  refine ⟨v i, i, j - i, k - j, u i - u 0, u j - u i, u k - u j, ?_, ?_, ?_, by omega, by omega, by omega⟩
  · have := Wk.of_rows (E := E) (v := v) (u := u) i 0 fun x _ h2 => he x (by omega)
    rw [Nat.zero_add, v0] at this
    exact this
  · have := Wk.of_rows (E := E) (v := v) (u := u) (j - i) i fun x _ h2 => he x (by omega)
    rw [show i + (j - i) = j by omega, ← e] at this
    exact this
  · have := Wk.of_rows (E := E) (v := v) (u := u) (k - j) j fun x _ h2 => he x (by omega)
    rw [show j + (k - j) = k by omega, vk, ← e] at this
    exact this
/-- No round has more than p / q a leg. -/
def AtMost (E : List Edge) (p q : Int) : Prop := ∀ a k s, Wk E a a k s → 0 < k → q * s ≤ p * k
/-- A walk can be made shorter than there are sheets, and loses nothing against the mean. -/
theorem Wk.short {n : Nat} {p q : Int} (hE : In E n) (hn : 0 < n) (hm : AtMost E p q) : ∀ (m : Nat) {a b k : Nat} {s : Int}, k ≤ m → Wk E a b k s → ∃ k' s', k' < n ∧ k' ≤ k ∧ Wk E a b k' s' ∧ q * s - p * k ≤ q * s' - p * k'
  | 0, a, b, k, s, hk, h => ⟨k, s, by omega, Nat.le_refl _, h, Int.le_refl _⟩
  | m + 1, a, b, k, s, hk, h => by
    by_cases e : k < n
    · exact ⟨k, s, e, Nat.le_refl _, h, Int.le_refl _⟩
    · obtain ⟨c, i, j, l, s1, s2, s3, h1, h2, h3, hj, hk2, hs2⟩ := h.round hE (by omega) (by omega)
      obtain ⟨k', s', a1, a2, a3, a4⟩ := Wk.short hE hn hm m (show i + l ≤ m by omega) (h1.append h3)
      refine ⟨k', s', a1, by omega, a3, Int.le_trans ?_ a4⟩
      have := hm c j s2 h2 hj
      have e1 : (k : Int) = i + j + l := by omega
      rw [e1, ← hs2]
      have e2 : q * (s1 + s2 + s3) = q * (s1 + s3) + q * s2 := by rw [← Int.mul_add]; congr 1; omega
      have e3 : p * ((i : Int) + j + l) = p * ((i + l : Nat) : Int) + p * j := by rw [← Int.mul_add]; congr 1; omega
      rw [e2, e3]
      omega
theorem Wk.bound {p q M : Int} (hM : ∀ a b w, (a, b, w) ∈ E → q * w - p ≤ M) (h : Wk E a b k s) : q * s - p * k ≤ M * k := by
  induction h with
  | nil => simp
  | @snoc b c k s w h e ih =>
    have := hM _ _ _ e
    have e1 : q * (s + w) = q * s + q * w := Int.mul_add _ _ _
    have e2 : p * ((k + 1 : Nat) : Int) = p * k + p := by rw [Int.natCast_add, Int.mul_add]; simp
    have e3 : M * ((k + 1 : Nat) : Int) = M * k + M := by rw [Int.natCast_add, Int.mul_add]; simp
    rw [e1, e2, e3]
    omega
end Sheet
end

section
/- Plain: fractions in lowest terms. -/
namespace Sheet
/-- n / d in lowest terms (d above 0). -/
def low (n d : Int) : Int × Int := (n / (Nat.gcd n.natAbs d.toNat : Nat), d / (Nat.gcd n.natAbs d.toNat : Nat))
theorem low_facts (n d : Int) (hd : 0 < d) : ∃ g : Int, 0 < g ∧ n = (low n d).1 * g ∧ d = (low n d).2 * g ∧ 0 < (low n d).2 ∧ Nat.gcd (low n d).1.natAbs (low n d).2.toNat = 1 := by
  have hg : 0 < Nat.gcd n.natAbs d.toNat := Nat.gcd_pos_of_pos_right _ (by omega)
  have h1 : ((Nat.gcd n.natAbs d.toNat : Nat) : Int) ∣ n := by
    rw [← Int.dvd_natAbs]
    exact Int.natCast_dvd_natCast.2 (Nat.gcd_dvd_left _ _)
  have h2 : ((Nat.gcd n.natAbs d.toNat : Nat) : Int) ∣ d := by
    have e : d = (d.toNat : Int) := by omega
    rw [e]
    simp only [Int.toNat_natCast]
    exact Int.natCast_dvd_natCast.2 (Nat.gcd_dvd_right _ _)
  have hgi : 0 < ((Nat.gcd n.natAbs d.toNat : Nat) : Int) := by omega
  have hp : 0 < (low n d).2 := Int.ediv_pos_of_pos_of_dvd hd (by omega) h2
  refine ⟨_, hgi, (Int.ediv_mul_cancel h1).symm, (Int.ediv_mul_cancel h2).symm, hp, ?_⟩
  have e1 : n.natAbs / Nat.gcd n.natAbs d.toNat = (low n d).1.natAbs := by
    unfold low
    simp only
    rw [Int.natAbs_ediv_of_dvd h1]
    rfl
  have e2 : d.toNat / Nat.gcd n.natAbs d.toNat = (low n d).2.toNat := by
    unfold low
    simp only
    generalize Nat.gcd n.natAbs d.toNat = g
    have e : d = (d.toNat : Int) := by omega
    conv => rhs; rw [e]
    rw [← Int.natCast_ediv, Int.toNat_natCast]
  rw [← e1, ← e2]
  exact Nat.coprime_div_gcd_div_gcd hg
/-- The same fraction has the same lowest terms. -/
theorem low_same {n d n' d' : Int} (hd : 0 < d) (hd' : 0 < d') (h : n * d' = n' * d) : low n d = low n' d' := by
  obtain ⟨g, g0, hn, hdd, hp, hc⟩ := low_facts n d hd
  obtain ⟨g', g0', hn', hdd', hp', hc'⟩ := low_facts n' d' hd'
  generalize low n d = x at *
  generalize low n' d' = y at *
  obtain ⟨x1, x2⟩ := x
  obtain ⟨y1, y2⟩ := y
  simp only at *
  have e : x1 * y2 = y1 * x2 := by
    have e1 : x1 * y2 * (g * g') = y1 * x2 * (g * g') := by
      rw [hn, hdd', hn', hdd] at h
      calc x1 * y2 * (g * g') = x1 * g * (y2 * g') := by rw [Int.mul_assoc, Int.mul_assoc, Int.mul_left_comm y2 g g']
        _ = y1 * g' * (x2 * g) := h
        _ = y1 * x2 * (g * g') := by rw [Int.mul_assoc, Int.mul_assoc, Int.mul_left_comm g' x2 g, Int.mul_comm g' g]
    exact Int.eq_of_mul_eq_mul_right (Int.ne_of_gt (Int.mul_pos g0 g0')) e1
  have en : x1.natAbs * y2.toNat = y1.natAbs * x2.toNat := by
    have e2 := congrArg Int.natAbs e
    rw [Int.natAbs_mul, Int.natAbs_mul] at e2
    have a1 : y2.natAbs = y2.toNat := by omega
    have a2 : x2.natAbs = x2.toNat := by omega
    rw [a1, a2] at e2
    exact e2
  have d1 : x2.toNat ∣ y2.toNat := by
    have : x2.toNat ∣ x1.natAbs * y2.toNat := ⟨y1.natAbs, by rw [en, Nat.mul_comm]⟩
    exact (Nat.Coprime.symm hc : Nat.Coprime x2.toNat x1.natAbs).dvd_of_dvd_mul_left this
  have d2 : y2.toNat ∣ x2.toNat := by
    have : y2.toNat ∣ y1.natAbs * x2.toNat := ⟨x1.natAbs, by rw [← en, Nat.mul_comm]⟩
    exact (Nat.Coprime.symm hc' : Nat.Coprime y2.toNat y1.natAbs).dvd_of_dvd_mul_left this
  have e3 : x2 = y2 := by
    have := Nat.dvd_antisymm d1 d2
    omega
  subst e3
  have e4 : x1 = y1 := Int.eq_of_mul_eq_mul_right (Int.ne_of_gt hp) e
  rw [e4]
end Sheet
end

section
/- Plain: the least play of a graph: no round has more a leg, and some round has it (or it is 0); there is one, and it is one number. -/
namespace Sheet
structure Least (E : List Edge) (p q : Int) : Prop where
  q0 : 0 < q
  p0 : 0 ≤ p
  most : AtMost E p q
  has : p = 0 ∨ ∃ c j s, Wk E c c j s ∧ 0 < j ∧ q * s = p * j
theorem Least.le {E : List Edge} {p q p' q' : Int} (h : Least E p q) (hm : AtMost E p' q') (hp' : 0 ≤ p') : p * q' ≤ p' * q := by
  rcases h.has with e | ⟨c, j, s, hw, hj, e⟩
  · subst e
    have := Int.mul_nonneg hp' (Int.le_of_lt h.q0)
    omega
  · have h1 := hm c j s hw hj
    have hj' : (0 : Int) < j := by omega
    have h2 : p * q' * j ≤ p' * q * j := by
      have e1 : p * q' * j = q * (q' * s) := by
        rw [Int.mul_left_comm q q' s, e, Int.mul_comm p q', Int.mul_assoc]
      have e2 : p' * q * j = q * (p' * j) := by rw [Int.mul_comm p' q, Int.mul_assoc]
      rw [e1, e2]
      exact Int.mul_le_mul_of_nonneg_left h1 (Int.le_of_lt h.q0)
    exact Int.le_of_mul_le_mul_right h2 hj'
theorem Least.same {E : List Edge} {p q p' q' : Int} (h : Least E p q) (h' : Least E p' q') : p * q' = p' * q :=
  Int.le_antisymm (h.le h'.most h'.p0) (h'.le h.most h.p0)
theorem Least.low {E : List Edge} {p q p' q' : Int} (h : Least E p q) (h' : Least E p' q') : Sheet.low p q = Sheet.low p' q' := low_same h.q0 h'.q0 (h.same h')
end Sheet
end

section
/- Plain: ways that are shortened leg by leg from one sheet on, and the legs by which they came: a round among those legs is below nothing; passes over all sheets; where n passes still shorten, there is a round. -/
namespace Sheet
/-- What is known while the ways from a are shortened. 'd c': how far c is (none: not met); 'via c': whence c came last, and by how much. -/
structure Row (E : List Edge) (a : Nat) (d : Nat → Option Int) (via : Nat → Option (Nat × Int)) : Prop where
  start : via a = none → d a = some 0
  neg : ∀ b w, via a = some (b, w) → ∃ x, d a = some x ∧ x < 0
  own : ∀ c, via c = none → c ≠ a → d c = none
  leg : ∀ c b w, via c = some (b, w) → (b, c, w) ∈ E
  walk : ∀ c x, d c = some x → ∃ k, Wk E a c k x
  above : ∀ c b w, via c = some (b, w) → ∃ x y, d c = some x ∧ d b = some y ∧ y + w ≤ x
  below : ∀ (m : Nat) (f : Nat → Nat) (g : Nat → Int), 0 < m → f m = f 0 → (∀ i, i < m → via (f i) = some (f (i + 1), g i)) → ∃ t, t < 0 ∧ Wk E (f 0) (f 0) m t ∧ t = (List.range m).foldl (fun t i => t + g i) 0
def sumG (g : Nat → Int) : Nat → Int
  | 0 => 0
  | m + 1 => sumG g m + g m
theorem sumG_eq (g : Nat → Int) (m : Nat) : (List.range m).foldl (fun t i => t + g i) 0 = sumG g m := by
  induction m with
  | zero => rfl
  | succ m ih => rw [List.range_succ, List.foldl_append, ih]; rfl
theorem sumG_le {g D : Nat → Int} : ∀ {m : Nat}, (∀ i, i < m → g i ≤ D i - D (i + 1)) → sumG g m ≤ D 0 - D m
  | 0, _ => by simp [sumG]
  | m + 1, h => by
    have h1 := sumG_le (m := m) fun i hi => h i (by omega)
    have h2 := h m (by omega)
    show sumG g m + g m ≤ _
    omega
theorem sumG_lt {g D : Nat → Int} : ∀ {m : Nat}, (∀ i, i < m → g i ≤ D i - D (i + 1)) → (∃ i, i < m ∧ g i < D i - D (i + 1)) → sumG g m < D 0 - D m
  | 0, _, ⟨i, hi, _⟩ => absurd hi (Nat.not_lt_zero _)
  | m + 1, h, ⟨i, hi, hlt⟩ => by
    have h2 := h m (by omega)
    show sumG g m + g m < _
    by_cases e : i = m
    · subst e
      have h1 := sumG_le (m := i) fun j hj => h j (by omega)
      omega
    · have h1 := sumG_lt (m := m) (fun j hj => h j (by omega)) ⟨i, by omega, hlt⟩
      omega
/-- The legs of a chain, gone the way they lead: from the far end back. -/
theorem chain_walk {E : List Edge} {via : Nat → Option (Nat × Int)} (hl : ∀ c b w, via c = some (b, w) → (b, c, w) ∈ E) {f : Nat → Nat} {g : Nat → Int} : ∀ {m : Nat}, (∀ i, i < m → via (f i) = some (f (i + 1), g i)) → Wk E (f m) (f 0) m (sumG g m)
  | 0, _ => Wk.nil _
  | m + 1, h => by
    have h1 := chain_walk hl (m := m) fun i hi => h i (by omega)
    have h2 := Wk.one (hl _ _ _ (h m (by omega)))
    exact (h2.append h1).of_eq (by omega) (by show g m + sumG g m = sumG g m + g m; omega)
def upd {α : Type} (f : Nat → α) (c : Nat) (x : α) : Nat → α := fun i => if i = c then x else f i
theorem row_start (E : List Edge) (a : Nat) : Row E a (fun c => if c = a then some 0 else none) (fun _ => none) := by
  refine ⟨fun _ => by simp, (fun b w h => by cases h), fun c _ hc => by simp [hc], (fun c b w h => by cases h), fun c x h => ?_, (fun c b w h => by cases h), fun m f g hm _ h => ?_⟩
  · by_cases e : c = a
    · subst e
      simp at h
      subst h
      exact ⟨0, .nil c⟩
    · simp [e] at h
  · have := h 0 hm
    cases this
/-- A leg that shortens. -/
theorem Row.shorten {E : List Edge} {a : Nat} {d : Nat → Option Int} {via : Nat → Option (Nat × Int)} (h : Row E a d via) {b c : Nat} {w y : Int} (he : (b, c, w) ∈ E) (hb : d b = some y) (hbc : b ≠ c) (hlt : ∀ x, d c = some x → y + w < x) :
    Row E a (upd d c (some (y + w))) (upd via c (some (b, w))) := by
  have hleg : ∀ c' b' w', upd via c (some (b, w)) c' = some (b', w') → (b', c', w') ∈ E := fun c' b' w' hv => by
    unfold upd at hv
    split at hv
    · rename_i e; subst e; cases hv; exact he
    · exact h.leg _ _ _ hv
  refine ⟨fun hv => ?_, fun b' w' hv => ?_, fun c' hv hc => ?_, hleg, fun c' x hx => ?_, fun c' b' w' hv => ?_, fun m f g hm hf hv => ?_⟩
  · unfold upd at hv ⊢
    split at hv
    · cases hv
    · rename_i e; rw [if_neg e]; exact h.start hv
  · by_cases e : a = c
    · subst e
      cases hva : via a with
      | none =>
        have := hlt 0 (h.start hva)
        exact ⟨y + w, by simp [upd], this⟩
      | some p =>
        obtain ⟨x, h1, h2⟩ := h.neg p.1 p.2 hva
        have := hlt x h1
        exact ⟨y + w, by simp [upd], by omega⟩
    · have hv' : via a = some (b', w') := by unfold upd at hv; rwa [if_neg e] at hv
      obtain ⟨x, h1, h2⟩ := h.neg b' w' hv'
      exact ⟨x, by unfold upd; rw [if_neg e]; exact h1, h2⟩
  · unfold upd at hv ⊢
    split at hv
    · cases hv
    · rename_i e; rw [if_neg e]; exact h.own _ hv hc
  · unfold upd at hx
    split at hx
    · rename_i e; subst e; cases hx
      obtain ⟨k, hk⟩ := h.walk _ _ hb
      exact ⟨k + 1, hk.snoc he⟩
    · exact h.walk _ _ hx
  · unfold upd at hv
    split at hv
    · rename_i e; subst e; cases hv
      exact ⟨y + w, y, by simp [upd], by simp [upd, hbc, hb], Int.le_refl _⟩
    · rename_i e
      obtain ⟨x, z, h1, h2, h3⟩ := h.above _ _ _ hv
      by_cases e2 : b' = c
      · subst e2
        have := hlt z h2
        exact ⟨x, y + w, by simp [upd, e, h1], by simp [upd], by omega⟩
      · exact ⟨x, z, by simp [upd, e, h1], by simp [upd, e2, h2], h3⟩
  · have hw := chain_walk hleg hv
    rw [hf] at hw
    refine ⟨_, ?_, hw, (sumG_eq g m).symm⟩
    by_cases hc : ∃ i, i < m ∧ f i = c
    · obtain ⟨i0, hi0, ei0⟩ := hc
      -- each place of the round is met
      have hold : ∀ i, i < m → f i ≠ c → via (f i) = some (f (i + 1), g i) := fun i hi hne => by
        have := hv i hi
        unfold upd at this
        rwa [if_neg hne] at this
      have hnew : ∀ i, i < m → f i = c → f (i + 1) = b ∧ g i = w := fun i hi e => by
        have := hv i hi
        unfold upd at this
        rw [if_pos e] at this
        cases this
        exact ⟨rfl, rfl⟩
      have hmet : ∃ xc, d c = some xc := by
        -- the place behind c in the round came by c
        have hp : ∃ j, j < m ∧ f (j + 1) = c := by
          by_cases e : i0 = 0
          · exact ⟨m - 1, by omega, by rw [show m - 1 + 1 = m by omega, hf, ← e]; exact ei0⟩
          · exact ⟨i0 - 1, by omega, by rw [show i0 - 1 + 1 = i0 by omega]; exact ei0⟩
        obtain ⟨j, hj, ej⟩ := hp
        by_cases e : f j = c
        · have := (hnew j hj e).1
          exact absurd (this.symm.trans ej) hbc
        · obtain ⟨x, z, _, h2, _⟩ := h.above _ _ _ (hold j hj e)
          rw [ej] at h2
          exact ⟨z, h2⟩
      obtain ⟨xc, hxc⟩ := hmet
      have hsome : ∀ i, i ≤ m → ∃ x, d (f i) = some x := fun i hi => by
        by_cases e : i < m
        · by_cases e2 : f i = c
          · exact ⟨xc, by rw [e2]; exact hxc⟩
          · obtain ⟨x, z, h1, _, _⟩ := h.above _ _ _ (hold i e e2)
            exact ⟨x, h1⟩
        · have : i = m := by omega
          subst this
          rw [hf]
          by_cases e2 : f 0 = c
          · exact ⟨xc, by rw [e2]; exact hxc⟩
          · obtain ⟨x, z, h1, _, _⟩ := h.above _ _ _ (hold 0 hm e2)
            exact ⟨x, h1⟩
      have hD : ∀ i, i < m → g i ≤ (d (f i)).getD 0 - (d (f (i + 1))).getD 0 := fun i hi => by
        by_cases e2 : f i = c
        · obtain ⟨h1, h2⟩ := hnew i hi e2
          have := hlt xc hxc
          rw [e2, h1, h2, hxc, hb]
          simp
          omega
        · obtain ⟨x, z, h1, h2, h3⟩ := h.above _ _ _ (hold i hi e2)
          rw [h1, h2]
          simp
          omega
      have hlt2 : sumG g m < (d (f 0)).getD 0 - (d (f m)).getD 0 := sumG_lt (D := fun i => (d (f i)).getD 0) hD ⟨i0, hi0, by
        obtain ⟨h1, h2⟩ := hnew i0 hi0 ei0
        have := hlt xc hxc
        show g i0 < (d (f i0)).getD 0 - (d (f (i0 + 1))).getD 0
        rw [ei0, h1, h2, hxc, hb]
        simp
        omega⟩
      rw [hf] at hlt2
      omega
    · obtain ⟨t, h1, h2, h3⟩ := h.below m f g hm hf fun i hi => by
        have := hv i hi
        unfold upd at this
        rwa [if_neg fun e => hc ⟨i, hi, e⟩] at this
      rw [sumG_eq] at h3
      rw [← h3]
      exact h1
/-- Nothing more to shorten at b. -/
def Calm (E : List Edge) (d : Nat → Option Int) (b : Nat) : Prop := ∀ c w y, (b, c, w) ∈ E → d b = some y → ∃ x, d c = some x ∧ x ≤ y + w
/-- Where all is calm no walk is shorter. -/
theorem calm_least {E : List Edge} {a : Nat} {d : Nat → Option Int} (h0 : ∃ x, d a = some x ∧ x ≤ 0) (hc : ∀ b, Calm E d b) {c k : Nat} {s : Int} (hw : Wk E a c k s) : ∃ x, d c = some x ∧ x ≤ s := by
  induction hw with
  | nil => exact h0
  | snoc h e ih =>
    obtain ⟨x, h1, h2⟩ := ih
    obtain ⟨z, h3, h4⟩ := hc _ _ _ _ e h1
    exact ⟨z, h3, by omega⟩
/-- Where all is calm no round is below nothing. -/
theorem calm_round {E : List Edge} {d : Nat → Option Int} (hc : ∀ b, Calm E d b) {b k : Nat} {s : Int} (hw : Wk E b b k s) {y : Int} (hb : d b = some y) : 0 ≤ s := by
  have main : ∀ {c k : Nat} {s : Int}, Wk E b c k s → ∃ x, d c = some x ∧ x ≤ y + s := fun h => by
    induction h with
    | nil => exact ⟨y, hb, by omega⟩
    | snoc h e ih =>
      obtain ⟨x, h1, h2⟩ := ih
      obtain ⟨z, h3, h4⟩ := hc _ _ _ _ e h1
      exact ⟨z, h3, by omega⟩
  obtain ⟨x, h1, h2⟩ := main hw
  rw [hb] at h1
  cases h1
  omega
/-- In a pass: what stood at its beginning (d0, via0), what stands now; P: the places whose legs have all been tried. -/
structure Mid (E : List Edge) (a : Nat) (d0 : Nat → Option Int) (via0 : Nat → Option (Nat × Int)) (d : Nat → Option Int) (via : Nat → Option (Nat × Int)) (P : Nat → Prop) : Prop where
  row : Row E a d via
  mono : ∀ c x, d0 c = some x → ∃ y, d c = some y ∧ y ≤ x
  keep : ∀ c, d c = d0 c → via c = via0 c
  calm : ∀ b, P b → d b = d0 b → Calm E d b
  src : ∀ c b w, d c ≠ d0 c → via c = some (b, w) → d b ≠ d0 b ∨ ¬ Calm E d0 b
theorem Mid.start {E : List Edge} {a : Nat} {d : Nat → Option Int} {via : Nat → Option (Nat × Int)} (h : Row E a d via) : Mid E a d via d via fun _ => False :=
  ⟨h, fun _ x hx => ⟨x, hx, Int.le_refl _⟩, fun _ _ => rfl, fun _ h => h.elim, fun _ _ _ h => absurd rfl h⟩
theorem Mid.shorten {E : List Edge} {a : Nat} {d0 : Nat → Option Int} {via0 : Nat → Option (Nat × Int)} {d : Nat → Option Int} {via : Nat → Option (Nat × Int)} {P : Nat → Prop} (h : Mid E a d0 via0 d via P) {b c : Nat} {w y : Int} (he : (b, c, w) ∈ E) (hb : d b = some y) (hbc : b ≠ c) (hlt : ∀ x, d c = some x → y + w < x) :
    Mid E a d0 via0 (upd d c (some (y + w))) (upd via c (some (b, w))) P ∧ upd d c (some (y + w)) c ≠ d0 c := by
  have hcne : upd d c (some (y + w)) c ≠ d0 c := fun e => by
    have e : some (y + w) = d0 c := by simpa [upd] using e
    obtain ⟨z, h1, h2⟩ := h.mono c _ e.symm
    have := hlt z h1
    omega
  have hdn : ∀ c' x, d c' = some x → ∃ z, upd d c (some (y + w)) c' = some z ∧ z ≤ x := fun c' x hx => by
    by_cases e : c' = c
    · subst e
      have := hlt x hx
      exact ⟨y + w, by simp [upd], by omega⟩
    · exact ⟨x, by simp [upd, e, hx], Int.le_refl _⟩
  have hoth : ∀ c', c' ≠ c → upd d c (some (y + w)) c' = d c' := fun c' e => by simp [upd, e]
  refine ⟨⟨h.row.shorten he hb hbc hlt, fun c' x hx => ?_, fun c' e => ?_, fun b' hP e => ?_, fun c' b' w' hne hv => ?_⟩, hcne⟩
  · obtain ⟨z, h1, h2⟩ := h.mono c' x hx
    obtain ⟨z', h3, h4⟩ := hdn c' z h1
    exact ⟨z', h3, by omega⟩
  · by_cases e2 : c' = c
    · subst e2; exact absurd e hcne
    · rw [hoth c' e2] at e
      have := h.keep c' e
      simpa [upd, e2] using this
  · have e2 : b' ≠ c := fun e2 => by subst e2; exact hcne e
    rw [hoth b' e2] at e
    intro c' w' y' he' hy'
    rw [hoth b' e2] at hy'
    obtain ⟨x, h1, h2⟩ := h.calm b' hP e c' w' y' he' hy'
    obtain ⟨z, h3, h4⟩ := hdn c' x h1
    exact ⟨z, h3, by omega⟩
  · by_cases e2 : c' = c
    · subst e2
      have hv : b = b' ∧ w = w' := by simpa [upd] using hv
      obtain ⟨rfl, rfl⟩ := hv
      by_cases e3 : d b = d0 b
      · refine .inr fun hc => ?_
        obtain ⟨x, h1, h2⟩ := hc c' w y he (by rw [← e3]; exact hb)
        obtain ⟨z, h3, h4⟩ := h.mono c' x h1
        have := hlt z h3
        omega
      · exact .inl (by rw [hoth b hbc]; exact e3)
    · rw [hoth c' e2] at hne
      have hv : via c' = some (b', w') := by simpa [upd, e2] using hv
      rcases h.src c' b' w' hne hv with h1 | h1
      · by_cases e4 : b' = c
        · subst e4; exact .inl hcne
        · exact .inl (by rw [hoth b' e4]; exact h1)
      · exact .inr h1
/-- All legs of b have been tried. -/
theorem Mid.tried {E : List Edge} {a : Nat} {d0 : Nat → Option Int} {via0 : Nat → Option (Nat × Int)} {d : Nat → Option Int} {via : Nat → Option (Nat × Int)} {P : Nat → Prop} (h : Mid E a d0 via0 d via P) {b : Nat} (hc : Calm E d b) : Mid E a d0 via0 d via fun x => P x ∨ x = b :=
  ⟨h.row, h.mono, h.keep, fun b' hP e => by rcases hP with hP | rfl; exact h.calm b' hP e; exact hc, h.src⟩
/-- In which pass a place was shortened last: what is kept from pass to pass. -/
structure Lev (E : List Edge) (a : Nat) (d : Nat → Option Int) (via : Nat → Option (Nat × Int)) (L : Nat → Nat) (k : Nat) : Prop where
  le : ∀ c, L c ≤ k
  zero : ∀ c, via c = none → L c = 0
  up : ∀ c b w, via c = some (b, w) → L c ≤ L b + 1
  calm : ∀ b, L b < k → Calm E d b
/-- A chain of legs that comes back to a has no place shortened in the n-th pass at its head. -/
theorem chain_short {via : Nat → Option (Nat × Int)} {L : Nat → Nat} (hup : ∀ c b w, via c = some (b, w) → L c ≤ L b + 1) {f : Nat → Nat} {g : Nat → Int} : ∀ {m : Nat}, (∀ i, i < m → via (f i) = some (f (i + 1), g i)) → L (f 0) ≤ L (f m) + m
  | 0, _ => Nat.le_refl _
  | m + 1, h => by
    have h1 := chain_short hup (m := m) fun i hi => h i (by omega)
    have h2 := hup _ _ _ (h m (by omega))
    omega
theorem Lev.start (E : List Edge) (a : Nat) : Lev E a (fun c => if c = a then some 0 else none) (fun _ => none) (fun _ => 0) 0 :=
  ⟨fun _ => Nat.le_refl _, fun _ _ => rfl, (fun _ _ _ h => by cases h), fun _ h => absurd h (Nat.not_lt_zero _)⟩
/-- Behind a pass. -/
theorem Lev.pass {E : List Edge} {a k : Nat} {d0 : Nat → Option Int} {via0 : Nat → Option (Nat × Int)} {d : Nat → Option Int} {via : Nat → Option (Nat × Int)} {L0 : Nat → Nat} {P : Nat → Prop} (h0 : Row E a d0 via0) (hL : Lev E a d0 via0 L0 k) (h : Mid E a d0 via0 d via P) (hP : ∀ b, d b ≠ none → P b) :
    Lev E a d via (fun c => if d c = d0 c then L0 c else k + 1) (k + 1) := by
  have hge : ∀ b, L0 b ≤ (if d b = d0 b then L0 b else k + 1) := fun b => by
    have := hL.le b
    split <;> omega
  refine ⟨fun c => ?_, fun c hv => ?_, fun c b w hv => ?_, fun b hb => ?_⟩
  · have := hL.le c
    show (if d c = d0 c then L0 c else k + 1) ≤ k + 1
    split <;> omega
  · show (if d c = d0 c then L0 c else k + 1) = 0
    have e : d c = d0 c := by
      by_cases ec : c = a
      · subst ec
        rw [h.row.start hv]
        cases hv0 : via0 c with
        | none => exact (h0.start hv0).symm
        | some p =>
          obtain ⟨x, h1, h2⟩ := h0.neg p.1 p.2 hv0
          obtain ⟨z, h3, h4⟩ := h.mono c x h1
          rw [h.row.start hv] at h3
          cases h3
          omega
      · rw [h.row.own c hv ec]
        cases hd : d0 c with
        | none => rfl
        | some x =>
          obtain ⟨z, h3, h4⟩ := h.mono c x hd
          rw [h.row.own c hv ec] at h3
          cases h3
    rw [if_pos e]
    exact hL.zero c (by rw [← h.keep c e]; exact hv)
  · show (if d c = d0 c then L0 c else k + 1) ≤ (if d b = d0 b then L0 b else k + 1) + 1
    by_cases e : d c = d0 c
    · rw [if_pos e]
      have h1 := hL.up c b w (by rw [← h.keep c e]; exact hv)
      have h2 := hge b
      omega
    · rw [if_neg e]
      rcases h.src c b w e hv with h1 | h1
      · rw [if_neg h1]; omega
      · have h2 : k ≤ L0 b := Nat.le_of_not_lt fun hlt => h1 (hL.calm b hlt)
        have h3 := hge b
        omega
  · have hb : (if d b = d0 b then L0 b else k + 1) < k + 1 := hb
    by_cases e : d b = d0 b
    · by_cases hn : d b = none
      · intro c w y _ hy
        rw [hn] at hy
        cases hy
      · exact h.calm b (hP b hn) e
    · rw [if_neg e] at hb
      omega
/-- A chain of different places from one that was shortened in the n-th pass does not come back to a's beginning. -/
theorem no_chain {E : List Edge} {a n : Nat} {d : Nat → Option Int} {via : Nat → Option (Nat × Int)} {L : Nat → Nat} (hL : Lev E a d via L n) {f : Nat → Nat} {g : Nat → Int} {m : Nat} (hv : ∀ i, i < m → via (f i) = some (f (i + 1), g i)) (hn : ∀ i, i ≤ m → f i < n) (hd : ∀ i j, i < j → j ≤ m → f i ≠ f j) (h0 : L (f 0) = n) (hend : via (f m) = none) : False := by
  have h1 := chain_short hL.up hv
  rw [h0, hL.zero _ hend] at h1
  obtain ⟨i, j, h2, h3, h4⟩ := twice n f fun i hi => hn i (by omega)
  exact hd i j h2 (by omega) h4
end Sheet
end

section
/- Plain: how far sheets lie apart: shortening through each sheet in turn, and shortening from one sheet on, tell the same. -/
namespace Sheet
/-- The least weight of walks from a to b; none where there is none. -/
def Dist (E : List Edge) (a b : Nat) (x : Option Int) : Prop := (∀ m, x = some m → ∃ k, Wk E a b k m) ∧ ∀ k s, Wk E a b k s → ∃ m, x = some m ∧ m ≤ s
theorem Dist.same {E : List Edge} {a b : Nat} {x y : Option Int} (hx : Dist E a b x) (hy : Dist E a b y) : x = y := by
  cases x with
  | none =>
    cases y with
    | none => rfl
    | some m =>
      obtain ⟨k, hk⟩ := hy.1 m rfl
      obtain ⟨m', e, _⟩ := hx.2 k m hk
      cases e
  | some m =>
    obtain ⟨k, hk⟩ := hx.1 m rfl
    obtain ⟨m', e, h1⟩ := hy.2 k m hk
    subst e
    obtain ⟨k', hk'⟩ := hy.1 m' rfl
    obtain ⟨m'', e', h2⟩ := hx.2 k' m' hk'
    cases e'
    rw [Int.le_antisymm h1 h2]
theorem Row.dist {E : List Edge} {a : Nat} {d : Nat → Option Int} {via : Nat → Option (Nat × Int)} (h : Row E a d via) (hc : ∀ b, Calm E d b) (b : Nat) : Dist E a b (d b) := by
  have h0 : ∃ x, d a = some x ∧ x ≤ 0 := by
    cases hv : via a with
    | none => exact ⟨0, h.start hv, Int.le_refl _⟩
    | some p => obtain ⟨x, h1, h2⟩ := h.neg p.1 p.2 hv; exact ⟨x, h1, by omega⟩
  exact ⟨fun m hm => h.walk b m hm, fun k s hw => calm_least h0 hc hw⟩
/-- No round is below nothing. -/
def NoNeg (E : List Edge) : Prop := ∀ a k s, Wk E a a k s → 0 ≤ s
end Sheet
end

section
/- Plain: legs with a play: each weight times the play's parts, and the play more; legs that go both ways; when a round does not allow a play; the least play as the program finds it, round after round. -/
namespace Sheet
variable {E : List Edge} {a b k : Nat} {s t D N : Int}
def sc (D N : Int) (E : List Edge) : List Edge := E.map fun e => (e.1, e.2.1, e.2.2 * D + N)
theorem sc_mem {a b : Nat} {w : Int} (h : (a, b, w) ∈ E) : (a, b, w * D + N) ∈ sc D N E := List.mem_map.2 ⟨_, h, rfl⟩
theorem mem_sc {a b : Nat} {w : Int} (h : (a, b, w) ∈ sc D N E) : ∃ w', (a, b, w') ∈ E ∧ w = w' * D + N := by
  obtain ⟨⟨x, y, z⟩, h1, h2⟩ := List.mem_map.1 h
  cases h2
  exact ⟨z, h1, rfl⟩
theorem Wk.sc (h : Wk E a b k s) : Wk (Sheet.sc D N E) a b k (s * D + k * N) := by
  induction h with
  | nil => exact (Wk.nil a).of_eq rfl (by simp)
  | snoc h e ih =>
    refine (ih.snoc (sc_mem e)).of_eq rfl ?_
    rw [Int.add_mul, Int.natCast_add, Int.add_mul]
    simp
    omega
theorem Wk.unsc (h : Wk (Sheet.sc D N E) a b k t) : ∃ s, Wk E a b k s ∧ t = s * D + k * N := by
  induction h with
  | nil => exact ⟨0, .nil a, by simp⟩
  | snoc h e ih =>
    obtain ⟨s, h1, rfl⟩ := ih
    obtain ⟨w', h2, rfl⟩ := mem_sc e
    refine ⟨s + w', h1.snoc h2, ?_⟩
    rw [Int.add_mul, Int.natCast_add, Int.add_mul]
    simp
    omega
/-- Each leg goes both ways. -/
def Sym (E : List Edge) : Prop := ∀ a b w, (a, b, w) ∈ E → (b, a, -w) ∈ E
theorem Wk.rev (hS : Sym E) (h : Wk E a b k s) : Wk E b a k (-s) := by
  induction h with
  | nil => exact (Wk.nil a).of_eq rfl (by simp)
  | snoc h e ih => exact ((Wk.one (hS _ _ _ e)).append ih).of_eq (by omega) (by omega)
theorem Wk.none (h : Wk E a b k s) (hk : k = 0) : s = 0 ∧ a = b := by
  cases h with
  | nil => exact ⟨rfl, rfl⟩
  | snoc => omega
theorem noNeg_iff (hS : Sym E) : NoNeg (sc D N E) ↔ AtMost E N D := by
  constructor
  · intro h a k s hw _
    have := h a k _ ((hw.rev hS).sc (D := D) (N := N))
    have e1 : (-s) * D = -(D * s) := by rw [Int.neg_mul, Int.mul_comm]
    have e2 : (k : Int) * N = N * k := Int.mul_comm _ _
    omega
  · intro h a k t hw
    obtain ⟨s, h1, rfl⟩ := hw.unsc
    by_cases hk : k = 0
    · obtain ⟨rfl, -⟩ := h1.none hk
      subst hk
      simp
    · have := h a k (-s) (h1.rev hS) (by omega)
      have e1 : D * (-s) = -(s * D) := by rw [Int.mul_neg, Int.mul_comm]
      have e2 : (k : Int) * N = N * k := Int.mul_comm _ _
      omega
theorem AtMost.mono {E' : List Edge} (hsub : ∀ e ∈ E', e ∈ E) {p q : Int} (h : AtMost E p q) : AtMost E' p q := by
  have hw : ∀ {a b k s}, Wk E' a b k s → Wk E a b k s := fun h => by
    induction h with
    | nil => exact .nil _
    | snoc h e ih => exact ih.snoc (hsub _ e)
  exact fun a k s h1 h2 => h a k s (hw h1) h2
/-- More play allows all rounds that less play does. -/
theorem AtMost.more {p q p' q' : Int} (h : AtMost E p q) (hq : 0 < q) (hq' : 0 ≤ q') (hle : p * q' ≤ p' * q) : AtMost E p' q' := by
  intro a k s hw hk
  have h1 := h a k s hw hk
  have a1 : q * (q' * s) = q' * (q * s) := Int.mul_left_comm _ _ _
  have a2 : q' * (q * s) ≤ q' * (p * k) := Int.mul_le_mul_of_nonneg_left h1 hq'
  have a3 : q' * (p * k) = p * q' * k := by rw [← Int.mul_assoc, Int.mul_comm q' p]
  have a4 : p * q' * (k : Int) ≤ p' * q * k := Int.mul_le_mul_of_nonneg_right hle (by omega)
  have a5 : p' * q * (k : Int) = q * (p' * k) := by rw [Int.mul_comm p' q, Int.mul_assoc]
  exact Int.le_of_mul_le_mul_left (by omega : q * (q' * s) ≤ q * (p' * k)) hq
/-- What is known of the play while the program looks for the least one: 0, or what a round of k legs proves. -/
def Proved (E : List Edge) (n : Nat) (N D : Int) : Prop := 0 < D ∧ 0 ≤ N ∧ ((N = 0 ∧ D = 1) ∨ ∃ c j s, Wk E c c j s ∧ 0 < j ∧ j ≤ n ∧ 0 < s ∧ (N, D) = low s j)
theorem Proved.start (E : List Edge) (n : Nat) : Proved E n 0 1 := ⟨by decide, by decide, .inl ⟨rfl, rfl⟩⟩
/-- A round that is below nothing with a play proves more than it. -/
theorem Proved.step (hS : Sym E) {n : Nat} (hD : 0 < D) (hN : 0 ≤ N) {c j : Nat} {s : Int} (hw : Wk E c c j s) (hj : 0 < j) (hjn : j ≤ n) (hneg : s * D + j * N < 0) :
    s < 0 ∧ Proved E n (low (-s) j).1 (low (-s) j).2 ∧ N * (low (-s) j).2 < (low (-s) j).1 * D := by
  have hjN : 0 ≤ (j : Int) * N := Int.mul_nonneg (by omega) hN
  have hs : s < 0 := by
    refine Int.lt_of_not_ge fun h => ?_
    have := Int.mul_nonneg h (Int.le_of_lt hD)
    omega
  obtain ⟨g, g0, e1, e2, e3, -⟩ := low_facts (-s) j (by omega)
  generalize hx : low (-s) j = x at *
  obtain ⟨x1, x2⟩ := x
  simp only at *
  have hx1 : 0 < x1 := by
    refine Int.lt_of_not_ge fun h => ?_
    have := Int.mul_nonneg (Int.neg_nonneg_of_nonpos h) (Int.le_of_lt g0)
    rw [Int.neg_mul] at this
    omega
  refine ⟨hs, ⟨e3, Int.le_of_lt hx1, .inr ⟨c, j, -s, hw.rev hS, hj, hjn, by omega, hx.symm⟩⟩, ?_⟩
  -- N * x2 < x1 * D, as j * N < -s * D
  have h1 : (j : Int) * N < (-s) * D := by rw [Int.neg_mul]; omega
  rw [e1, e2] at h1
  have h2 : N * x2 * g < x1 * D * g := by
    have a1 : x2 * g * N = N * x2 * g := by rw [Int.mul_comm, ← Int.mul_assoc]
    have a2 : x1 * g * D = x1 * D * g := by rw [Int.mul_assoc, Int.mul_comm g D, ← Int.mul_assoc]
    omega
  exact Int.lt_of_mul_lt_mul_right h2 (Int.le_of_lt g0)
theorem Proved.least {n : Nat} (h : Proved E n N D) (hm : AtMost E N D) : Least E N D := by
  obtain ⟨h1, h2, h3⟩ := h
  refine ⟨h1, h2, hm, ?_⟩
  rcases h3 with ⟨rfl, -⟩ | ⟨c, j, s, hw, hj, -, -, e⟩
  · exact .inl rfl
  · obtain ⟨g, g0, e1, e2, -, -⟩ := low_facts s j (by omega)
    rw [← e] at e1 e2
    simp only at e1 e2
    refine .inr ⟨c, j, s, hw, hj, ?_⟩
    rw [e1, e2, ← Int.mul_assoc, ← Int.mul_assoc, Int.mul_comm D N]
/-- How far the search can still go: it ends. -/
def ahead (N D : Int) : Int := 27720 * N / D
theorem Proved.part {n : Nat} (hn : n ≤ 12) (h : Proved E n N D) : D ∣ 27720 * N ∧ D ∣ 27720 ∧ D ≤ 12 := by
  obtain ⟨h1, h2, h3⟩ := h
  rcases h3 with ⟨rfl, rfl⟩ | ⟨c, j, s, hw, hj, hjn, hs, e⟩
  · exact ⟨⟨0, by simp⟩, ⟨27720, by simp⟩, by decide⟩
  · obtain ⟨g, g0, e1, e2, -, -⟩ := low_facts s j (by omega)
    rw [← e] at e1 e2
    simp only at e1 e2
    have hd : D ∣ (j : Int) := ⟨g, e2⟩
    have hj2 : (j : Int) ∣ 27720 := by
      have : j = 1 ∨ j = 2 ∨ j = 3 ∨ j = 4 ∨ j = 5 ∨ j = 6 ∨ j = 7 ∨ j = 8 ∨ j = 9 ∨ j = 10 ∨ j = 11 ∨ j = 12 := by omega
      rcases this with rfl | rfl | rfl | rfl | rfl | rfl | rfl | rfl | rfl | rfl | rfl | rfl <;> decide
    have hd2 : D ∣ 27720 := Int.dvd_trans hd hj2
    refine ⟨Int.dvd_mul_of_dvd_left hd2, hd2, ?_⟩
    have := Int.le_of_dvd (by omega) hd
    omega
/-- The play that a round proves is one step ahead. -/
theorem ahead_lt {N' D' : Int} (hD : 0 < D) (hD' : 0 < D') (h : D ∣ 27720 * N) (h' : D' ∣ 27720 * N') (hlt : N * D' < N' * D) : ahead N D < ahead N' D' := by
  unfold ahead
  obtain ⟨x, hx⟩ := h
  obtain ⟨y, hy⟩ := h'
  rw [hx, hy, Int.mul_ediv_cancel_left _ (by omega), Int.mul_ediv_cancel_left _ (by omega)]
  have h1 : D * x * D' < D' * y * D := by
    rw [← hx, ← hy]
    have : 27720 * (N * D') < 27720 * (N' * D) := by omega
    rw [Int.mul_assoc, Int.mul_assoc]
    exact this
  have a1 : D * x * D' = x * (D * D') := by rw [Int.mul_comm D x, Int.mul_assoc]
  have a2 : D' * y * D = y * (D * D') := by rw [Int.mul_comm D' y, Int.mul_assoc, Int.mul_comm D' D]
  rw [a1, a2] at h1
  exact Int.lt_of_mul_lt_mul_right h1 (Int.le_of_lt (Int.mul_pos hD hD'))
end Sheet
end
