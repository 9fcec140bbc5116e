/- Own texts, merged: Ta Tb0. -/
import Derived.Test.YthegmhnaiabcpaaB12
set_option linter.unusedSimpArgs false
set_option linter.unusedVariables false
set_option linter.unnecessarySimpa false
section
/- Walks: Proves. -/
namespace Go.Proofs
open Go.RowKit
attribute [local go_sem] Oper.semAt_some

def intoQ (J : List Q4) (g : Nat × Bool) : Int := match J[g.1]? with | some j => intoI j g.2 | none => -1
def natG (g : Int × Bool) : Nat × Bool := (g.1.toNat, g.2)
def inL (n : Nat) (g : Int × Bool) : Bool := fromB g.1 0 ((n : Int) - 1)
def chainB (J : List Q4) : Int → List (Nat × Bool) → Bool
  | _, [] => true
  | x, g :: r => decide (fromQ J g = x) && chainB J (intoQ J g) r
def provesE (S : SetL) (l : List (Int × Bool)) : Int := if setE S ≠ 0 then setE S else if fromB l.length 1 60 = false then 3 else if l.all (inL S.J.length) = false then 2 else if chainB S.J (intoQ S.J (natG (l.getLastD (0, false)))) (l.map natG) then 0 else 9
def provesV (S : SetL) (north : Bool) (l : List (Int × Bool)) : Int × Int := Sheet.low (Sheet.sumN (joOf north S.J) (l.map natG)).natAbs l.length
theorem fromQ_get {J : List Q4} {g : Nat} {bk : Bool} (h : g < J.length) : fromQ J (g, bk) = fromI J[g] bk := by unfold fromQ; dsimp only; rw [List.getElem?_eq_getElem h]
theorem intoQ_get {J : List Q4} {g : Nat} {bk : Bool} (h : g < J.length) : intoQ J (g, bk) = intoI J[g] bk := by unfold intoQ; dsimp only; rw [List.getElem?_eq_getElem h]

theorem inl_any (n : Nat) (s : Nat) (x0 : Value) (A : Option Addr) (c : Nat) (g : Int × Bool) (w : World) (h : Blk w s 25 #[x0, .slice A n c]) (hn : n ≤ 17592186043904) :
    Calls Try.prog 86 #[.agg #[.int .i64 g.1, .bool g.2], .pointer (some ⟨s, 0, none⟩)] w fun e w' => e = .returned (.bool (inL n g)) ∧ Aft w w' := by
  unfold inL
  have ha := Aft.alloc w (.cells #[.int .i64 g.1, .bool g.2] 120)
  have HA := Lib.hid ha
  have y1 : (w.alloc (.cells #[.int .i64 g.1, .bool g.2] 120)).cell? ⟨s, 1, none⟩ = some (.slice A n c) := (h.aft ha).cell 1
  have y2 := h.lt
  clear ha h
  go_enter Try.func86, Try.ntmps86
  go_wp2_with (go_at_call 45; refine (in_any _ _ _ _).mono ?_; rintro e w' ⟨rfl, rfl⟩)
  go_ret
  exact ⟨rfl, HA.out⟩
theorem runs_86 (args : Array Value) (w : World) : (callFunc 86 args).run Try.prog w = .ok (.enter 86 args) w := by simp [go_sem]
theorem every_inl (n s : Nat) (x0 : Value) (A : Option Addr) (c : Nat) (l : List (Int × Bool)) (Al : Option Addr) (cl : Nat) (w : World) (h : Blk w s 25 #[x0, .slice A n c]) (hn : n ≤ 17592186043904) (hL : Gs w Al l) :
    Calls Try.prog 85 #[.slice Al l.length cl, .func (.func 86) #[] #[.pointer (some ⟨s, 0, none⟩)]] w fun e w' => e = .returned (.bool (l.all (inL n))) ∧ Aft w w' :=
  everyLeg (FlatR encG) FlatR.mono 86 [.pointer (some ⟨s, 0, none⟩)] (inL n) Al l cl w hL runs_86 fun x _ W ha v0 v1 hv u => by
    unfold FlatR encG at hv
    cases hv
    exact inl_any n s x0 A c x _ ((h.aft ha).lat u) hn

set_option maxRecDepth 100000 in
set_option maxHeartbeats 4000000 in
theorem proves_bad (S : SetL) (A : Option Addr) (c : Nat) (north : Bool) (l : List (Int × Bool)) (Al : Option Addr) (cl : Nat) (w : World) (hA : Quads w A S.J) (hL : Gs w Al l) (he : setE S ≠ 0) :
    Calls Try.prog 51 #[.agg #[.int .i64 S.n, .slice A S.J.length c], .agg #[.bool north, .slice Al l.length cl]] w fun e w' => e = .returned (.tuple #[.agg #[.int .i64 0, .int .i64 0], .int .i64 (setE S)]) ∧ Aft w w' := by
  obtain ⟨s, hs⟩ : ∃ s, w.heap.size = s := ⟨_, rfl⟩
  have F0 := (((Fr.start w).alloc rfl 25 #[.int .i64 S.n, .slice A S.J.length c]).alloc (by simp) 105 #[.bool north, .slice Al l.length cl]).alloc (by simp) 37 #[.int .i64 0, .int .i64 0]
  simp only [List.nil_append, List.cons_append] at F0
  rw [hs] at F0
  have hll := hL.len
  have HF0 := Lib.hid F0
  have HO := Lib.hid (opened_bad S A c _ (hA.aft F0.aft) he)
  have t1 : (setE S != 0) = true := by simpa using he
  clear hA hL he F0
  generalize setE S = E at *
  go_enter Try.func51, Try.ntmps51
  go_upto_block 0 with (go_at_call 43; refine HO.out.mono ?_; rintro e w2 ⟨rfl, u, rfl⟩)
  have HF9 := Lib.hid (HF0.out.later (Aft.lat _ u))
  try rw [hs]
  generalize ((((w.alloc (.cells #[.int .i64 S.n, .slice A S.J.length c] 25)).alloc (.cells #[.bool north, .slice Al l.length cl] 105)).alloc (.cells #[.int .i64 0, .int .i64 0] 37)).lat u) = W9 at *
  clear HF0 HO
  have z0 := (HF9.out.nth 2 rfl).cell 0
  have z1 := (HF9.out.nth 2 rfl).cell 1
  have z2 := (HF9.out.nth 2 rfl).lt
  have z3 := (HF9.out.nth 2 rfl).frozen 0
  have z4 := (HF9.out.nth 2 rfl).frozen 1
  simp only [List.getElem?_toArray, List.getElem?_cons_zero, List.getElem?_cons_succ] at z0 z1
  go_wp2_with fail
  have B2 := ((HF9.out.nth 2 rfl).store 0 (.int .i64 0)).store 1 (.int .i64 0)
  have A2 := (HF9.out.aft.then_setCell (p := ⟨s + 1 + 1, 0, none⟩) (by show w.heap.size ≤ s + 1 + 1; omega) (.int .i64 0)).then_setCell (p := ⟨s + 1 + 1, 1, none⟩) (by show w.heap.size ≤ s + 1 + 1; omega) (.int .i64 0)
  generalize (W9.setCell ⟨s + 1 + 1, 0, none⟩ (.int .i64 0)).setCell ⟨s + 1 + 1, 1, none⟩ (.int .i64 0) = X at *
  have z0 : X.cell? ⟨s + 1 + 1, 0, none⟩ = some (.int .i64 0) := B2.cell 0
  have z1 : X.cell? ⟨s + 1 + 1, 1, none⟩ = some (.int .i64 0) := B2.cell 1
  exact bodyPost_ret (v := .tuple #[.agg #[.int .i64 0, .int .i64 0], .int .i64 E]) (by simp [results, Try.results51, go_sem, z0, z1]) rfl ⟨rfl, A2⟩

set_option maxRecDepth 100000 in
set_option maxHeartbeats 4000000 in
theorem proves_short (S : SetL) (A : Option Addr) (c : Nat) (north : Bool) (l : List (Int × Bool)) (Al : Option Addr) (cl : Nat) (w : World) (hA : Quads w A S.J) (hL : Gs w Al l) (he : setE S = 0) (hb : fromB l.length 1 60 = false ∨ l.all (inL S.J.length) = false) :
    Calls Try.prog 51 #[.agg #[.int .i64 S.n, .slice A S.J.length c], .agg #[.bool north, .slice Al l.length cl]] w fun e w' => e = .returned (.tuple #[.agg #[.int .i64 0, .int .i64 0], .int .i64 (if fromB l.length 1 60 = false then 3 else 2)]) ∧ Aft w w' := by
  obtain ⟨s, hs⟩ : ∃ s, w.heap.size = s := ⟨_, rfl⟩
  have F0 := (((Fr.start w).alloc rfl 25 #[.int .i64 S.n, .slice A S.J.length c]).alloc (by simp) 105 #[.bool north, .slice Al l.length cl]).alloc (by simp) 37 #[.int .i64 0, .int .i64 0]
  simp only [List.nil_append, List.cons_append] at F0
  rw [hs] at F0
  have hll := hL.len
  have HF0 := Lib.hid F0
  have HO := Lib.hid (opened_good S A c _ (hA.aft F0.aft) he)
  have hjl := hA.len
  have HV := Lib.hid fun W s x0 (h : Aft w W) (hb : Blk W s 25 #[x0, .slice A S.J.length c]) => every_inl S.J.length s x0 A c l Al cl W hb hjl (hL.aft h)
  clear hA hL he F0
  cases h1 : fromB l.length 1 60
  · have H1 := Lib.hid h1
    rw [if_pos rfl]
    clear h1 hb HV
    go_enter Try.func51, Try.ntmps51
    go_upto_block 0 with (go_at_call 43; refine HO.out.mono ?_; rintro e w2 ⟨d, rfl, hw2⟩)
    have HF2 := Lib.hid (HF0.out.later hw2.aft)
    have HW2 := Lib.hid hw2
    have hdb := hw2.base
    clear hw2
    simp only [World.size_alloc] at hdb
    try rw [hs]
    generalize (((w.alloc (.cells #[.int .i64 S.n, .slice A S.J.length c] 25)).alloc (.cells #[.bool north, .slice Al l.length cl] 105)).alloc (.cells #[.int .i64 0, .int .i64 0] 37)) = W1 at *
    clear HO HF0
    have y1 : w2.cell? ⟨s + 1, 1, none⟩ = some (.slice Al l.length cl) := (HF2.out.nth 1 rfl).cell 1
    have y2 := (HF2.out.nth 1 rfl).lt
    have HF9 := HF2
    have hw9 : ∃ W9, W9 = w2 := ⟨_, rfl⟩
    obtain ⟨W9, hW9⟩ := hw9
    rw [← hW9] at HF9 y1 y2 ⊢
    clear HF2 HW2 hW9
    have z0 := (HF9.out.nth 2 rfl).cell 0
    have z1 := (HF9.out.nth 2 rfl).cell 1
    have z2 := (HF9.out.nth 2 rfl).lt
    have z3 := (HF9.out.nth 2 rfl).frozen 0
    have z4 := (HF9.out.nth 2 rfl).frozen 1
    simp only [List.getElem?_toArray, List.getElem?_cons_zero, List.getElem?_cons_succ] at z0 z1
    go_wp2_with (go_at_call 45; refine (in_any _ _ _ _).mono ?_; rintro e w' ⟨rfl, rfl⟩; rw [H1.out])
    have B2 := ((HF9.out.nth 2 rfl).store 0 (.int .i64 0)).store 1 (.int .i64 0)
    have A2 := (HF9.out.aft.then_setCell (p := ⟨s + 1 + 1, 0, none⟩) (by show w.heap.size ≤ s + 1 + 1; omega) (.int .i64 0)).then_setCell (p := ⟨s + 1 + 1, 1, none⟩) (by show w.heap.size ≤ s + 1 + 1; omega) (.int .i64 0)
    generalize (W9.setCell ⟨s + 1 + 1, 0, none⟩ (.int .i64 0)).setCell ⟨s + 1 + 1, 1, none⟩ (.int .i64 0) = X at *
    have z0 : X.cell? ⟨s + 1 + 1, 0, none⟩ = some (.int .i64 0) := B2.cell 0
    have z1 : X.cell? ⟨s + 1 + 1, 1, none⟩ = some (.int .i64 0) := B2.cell 1
    exact bodyPost_ret (v := .tuple #[.agg #[.int .i64 0, .int .i64 0], .int .i64 3]) (by simp [results, Try.results51, go_sem, z0, z1]) rfl ⟨rfl, A2⟩
  · have H1 := Lib.hid h1
    rw [h1] at hb
    have h2 : l.all (inL S.J.length) = false := hb.resolve_left (by decide)
    rw [if_neg (by decide)]
    rw [h2] at HV
    clear h1 hb h2
    go_enter Try.func51, Try.ntmps51
    go_upto_block 0 with (go_at_call 43; refine HO.out.mono ?_; rintro e w2 ⟨d, rfl, hw2⟩)
    have HF2 := Lib.hid (HF0.out.later hw2.aft)
    have HW2 := Lib.hid hw2
    have hdb := hw2.base
    clear hw2
    simp only [World.size_alloc] at hdb
    try rw [hs]
    generalize (((w.alloc (.cells #[.int .i64 S.n, .slice A S.J.length c] 25)).alloc (.cells #[.bool north, .slice Al l.length cl] 105)).alloc (.cells #[.int .i64 0, .int .i64 0] 37)) = W1 at *
    clear HO HF0
    have y1 : w2.cell? ⟨s + 1, 1, none⟩ = some (.slice Al l.length cl) := (HF2.out.nth 1 rfl).cell 1
    have y2 := (HF2.out.nth 1 rfl).lt
    go_upto_region 7 with (first | (go_at_call 45; refine (in_any _ _ _ _).mono ?_; rintro e w' ⟨rfl, rfl⟩; rw [H1.out]) | (go_at_call 85; refine (HV.out _ _ _ HF2.out.aft (HF2.out.nth 0 rfl)).mono ?_; rintro e w3 ⟨rfl, u, rfl⟩))
    clear y1 y2
    have HF9 := Lib.hid (HF2.out.later (Aft.lat _ u))
    generalize w2.lat u = W9 at *
    have z0 := (HF9.out.nth 2 rfl).cell 0
    have z1 := (HF9.out.nth 2 rfl).cell 1
    have z2 := (HF9.out.nth 2 rfl).lt
    have z3 := (HF9.out.nth 2 rfl).frozen 0
    have z4 := (HF9.out.nth 2 rfl).frozen 1
    simp only [List.getElem?_toArray, List.getElem?_cons_zero, List.getElem?_cons_succ] at z0 z1
    go_wp2_with fail
    have B2 := ((HF9.out.nth 2 rfl).store 0 (.int .i64 0)).store 1 (.int .i64 0)
    have A2 := (HF9.out.aft.then_setCell (p := ⟨s + 1 + 1, 0, none⟩) (by show w.heap.size ≤ s + 1 + 1; omega) (.int .i64 0)).then_setCell (p := ⟨s + 1 + 1, 1, none⟩) (by show w.heap.size ≤ s + 1 + 1; omega) (.int .i64 0)
    generalize (W9.setCell ⟨s + 1 + 1, 0, none⟩ (.int .i64 0)).setCell ⟨s + 1 + 1, 1, none⟩ (.int .i64 0) = X at *
    have z0 : X.cell? ⟨s + 1 + 1, 0, none⟩ = some (.int .i64 0) := B2.cell 0
    have z1 : X.cell? ⟨s + 1 + 1, 1, none⟩ = some (.int .i64 0) := B2.cell 1
    exact bodyPost_ret (v := .tuple #[.agg #[.int .i64 0, .int .i64 0], .int .i64 2]) (by simp [results, Try.results51, go_sem, z0, z1]) rfl ⟨rfl, A2⟩
theorem all_inl {n : Nat} {m : List (Nat × Bool)} (h : ∀ g ∈ m, g.1 < n) : (m.map legI).all (inL n) = true := by
  rw [List.all_eq_true]
  intro x hx
  obtain ⟨g, hg, rfl⟩ := List.mem_map.1 hx
  have := h g hg
  unfold inL legI
  rw [fromB_iff]
  dsimp only
  omega
set_option maxRecDepth 100000 in
set_option maxHeartbeats 4000000 in
theorem proves_loop (S : SetL) (A : Option Addr) (c : Nat) (north : Bool) (m : List (Nat × Bool)) (Al : Option Addr) (cl : Nat) (w : World) (hA : Quads w A S.J) (hL : Gs w Al (m.map legI)) (he : setE S = 0) (hm : ∀ g ∈ m, g.1 < S.J.length) (q : Nat) (hq : m.length = q + 1) (hq2 : q + 1 ≤ 60) (b : Bool) (hb : chainB S.J (intoQ S.J (m.getD q (0, false))) m = b) (V : Int × Int) (hV : Sheet.low (Sheet.sumN (joOf north S.J) m).natAbs m.length = V) :
    Calls Try.prog 51 #[.agg #[.int .i64 S.n, .slice A S.J.length c], .agg #[.bool north, .slice Al (q + 1) cl]] w fun e w' => e = .returned (.tuple #[.agg #[.int .i64 (if b then V.1 else 0), .int .i64 (if b then V.2 else 0)], .int .i64 (if b then 0 else 9)]) ∧ Aft w w' := by
  have hS := setE_ok he
  obtain ⟨s, hs⟩ : ∃ s, w.heap.size = s := ⟨_, rfl⟩
  have F0 := (((Fr.start w).alloc rfl 25 #[.int .i64 S.n, .slice A S.J.length c]).alloc (by simp) 105 #[.bool north, .slice Al (q + 1) cl]).alloc (by simp) 37 #[.int .i64 0, .int .i64 0]
  simp only [List.nil_append, List.cons_append] at F0
  rw [hs] at F0
  have HF0 := Lib.hid F0
  have HO := Lib.hid (opened_good S A c _ (hA.aft F0.aft) he)
  have hjl := hA.len
  have hll : (m.map legI).length = q + 1 := by simp [hq]
  have HV := Lib.hid fun W s x0 (h : Aft w W) (hb : Blk W s 25 #[x0, .slice A S.J.length c]) => every_inl S.J.length s x0 A c (m.map legI) Al cl W hb hjl (hL.aft h)
  rw [all_inl hm, hll] at HV
  have H1 : Hid (fromB ((q : Int) + 1) 1 60 = true) := Lib.hid (by rw [fromB_iff]; omega)
  have HL := Lib.hid hL
  have HM := Lib.hid hm
  have HB := Lib.hid hb
  have HV2 := Lib.hid hV
  have HQ := Lib.hid hq
  have HS := Lib.hid hS
  have HJL := Lib.hid hll
  obtain ⟨r1, hr1⟩ : ∃ r, (if b then V.1 else 0) = r := ⟨_, rfl⟩
  obtain ⟨r2, hr2⟩ : ∃ r, (if b then V.2 else 0) = r := ⟨_, rfl⟩
  obtain ⟨ee, hee⟩ : ∃ r : Int, (if b then 0 else 9) = r := ⟨_, rfl⟩
  rw [hr1, hr2, hee]
  have HR := Lib.hid (show _ ∧ _ ∧ _ from ⟨hr1, hr2, hee⟩)
  clear hA hL he F0 hm hb hV hS hll hr1 hr2 hee
  go_enter Try.func51, Try.ntmps51
  go_upto_block 0 with (go_at_call 43; refine HO.out.mono ?_; rintro e w2 ⟨d, rfl, hw2⟩)
  have HF2 := Lib.hid (HF0.out.later hw2.aft)
  have HW2 := Lib.hid hw2
  have hdb := hw2.base
  clear hw2
  simp only [World.size_alloc] at hdb
  try rw [hs]
  generalize (((w.alloc (.cells #[.int .i64 S.n, .slice A S.J.length c] 25)).alloc (.cells #[.bool north, .slice Al (q + 1) cl] 105)).alloc (.cells #[.int .i64 0, .int .i64 0] 37)) = W1 at *
  clear HO HF0
  have y1 : w2.cell? ⟨s + 1, 1, none⟩ = some (.slice Al (q + 1) cl) := (HF2.out.nth 1 rfl).cell 1
  have y2 := (HF2.out.nth 1 rfl).lt
  go_upto_region 8 with (first | (go_at_call 45; refine (in_any _ _ _ _).mono ?_; rintro e w' ⟨rfl, rfl⟩; rw [H1.out]) | (go_at_call 85; refine (HV.out _ _ _ HF2.out.aft (HF2.out.nth 0 rfl)).mono ?_; rintro e w3 ⟨rfl, u, rfl⟩))
  clear y1 y2 HV
  have HF3 := Lib.hid (HF2.out.later (Aft.lat _ u))
  have HW3 := Lib.hid (HW2.out.later (Aft.lat _ u))
  generalize w2.lat u = W3 at *
  clear HF2 HW2
  have hqm : q < m.length := by rw [HQ.out]; omega
  have hqm' : q < (m.map legI).length := by rw [HJL.out]; omega
  obtain ⟨bl, ol, rfl, hbl, hcl⟩ := (HL.out.aft HF3.out.aft).at hqm'
  obtain ⟨x1, x2⟩ := hcl q hqm'
  have hg := HM.out _ (List.getElem_mem hqm)
  have ele : (m.map legI)[q] = legI m[q] := by simp
  rw [ele] at x1 x2
  have hgd : m.getD q (0, false) = m[q] := by rw [List.getD_eq_getElem?_getD, List.getElem?_eq_getElem hqm]; rfl
  rw [hgd] at HB
  obtain ⟨⟨g, bk⟩, hgb⟩ : ∃ y, m[q] = y := ⟨_, rfl⟩
  rw [hgb] at x1 x2 hg HB
  unfold legI at x1 x2
  dsimp only at x1 x2 hg
  have HEN := Lib.hid (fun W (ha : Aft W3 W) => ends_any S A c d _ _ _ W g bk (HW3.out.later ha) hg)
  rw [← fromQ_get hg, ← intoQ_get hg] at HEN
  have HSQ : Hid ((m.map legI).length = q + 1) := HJL
  clear hcl ele hgd hgb hqm hqm' hg
  have y1 : W3.cell? ⟨s + 1, 1, none⟩ = some (.slice (some ⟨bl, ol, none⟩) (q + 1) cl) := (HF3.out.nth 1 rfl).cell 1
  have y2 := (HF3.out.nth 1 rfl).lt
  have hq3 : (q : Int) + 1 - 1 = (q : Int) := by omega
  go_upto_block 1 with (go_at_call 87; refine (HEN.out _ (Aft.refl _)).mono ?_; rintro e w4 ⟨rfl, u, rfl⟩)
  have HF4 := Lib.hid (HF3.out.later (Aft.lat _ u))
  have HW4 := Lib.hid (HW3.out.later (Aft.lat _ u))
  have HL4 := Lib.hid ((HL.out.aft HF3.out.aft).aft (Aft.lat W3 u))
  generalize W3.lat u = W4 at *
  clear HF3 HW3 HL x1 x2 y1 y2 HEN hq3 hbl
  have hb4 := HW4.out
  refine wp_block ?_
  go_loopw [9, 55] (fun at_ i wr => ∃ k : Nat, i = .int .i64 (k : Nat) ∧ k ≤ q + 1 ∧ ∃ x, at_ = .int .i64 x ∧ Hid (chainB S.J x (m.drop k) = b) ∧ Aft W4 wr) (fun _ i _ => q + 1 - (intOf i).toNat)
  case atStart => exact ⟨0, rfl, by omega, _, rfl, HB, Aft.refl _⟩
  case round =>
    obtain ⟨k, rfl, hk, x, rfl, HX, hI⟩ := hrel
    have HI := Lib.hid hI
    have HF5 := Lib.hid (HF4.out.later hI)
    have HW5 := Lib.hid (HW4.out.later hI)
    clear hI hb4
    by_cases hkl : k < q + 1
    · have t1 : decide (k < q + 1) = true := by simpa using hkl
      have t2 : decide ((k : Int) < (q : Int) + 1) = true := by rw [decide_eq_true_eq]; omega
      have hkm : k < m.length := by rw [HQ.out]; exact hkl
      have hkm' : k < (m.map legI).length := by rw [HJL.out]; exact hkl
      obtain ⟨b2, o2, hbo, hb2, hc⟩ := (HL4.out.aft HI.out).at hkm'
      cases hbo
      obtain ⟨x1, x2⟩ := hc k hkm'
      have hg := HM.out _ (List.getElem_mem hkm)
      have ele : (m.map legI)[k] = legI m[k] := by simp
      rw [ele] at x1 x2
      have hdr := List.drop_eq_getElem_cons hkm
      rw [hdr] at HX
      obtain ⟨⟨g3, bk3⟩, hgb⟩ : ∃ y, m[k] = y := ⟨_, rfl⟩
      rw [hgb] at x1 x2 hg HX
      unfold legI at x1 x2
      dsimp only at x1 x2 hg
      have HEN := Lib.hid (fun W (ha : Aft wr W) => ends_any S A c d _ _ _ W g3 bk3 (HW5.out.later ha) hg)
      rw [← fromQ_get hg, ← intoQ_get hg] at HEN
      clear hc ele hdr hgb hkm hkm' hg
      have ha6 := Lib.hid (Aft.alloc wr (.cells #[.int .i64 (g3 : Nat), .bool bk3] 120))
      by_cases hfx : fromQ S.J (g3, bk3) = x
      · have t3 : (fromQ S.J (g3, bk3) != x) = false := by simpa using hfx
        have HX2 : Hid (chainB S.J (intoQ S.J (g3, bk3)) (m.drop (k + 1)) = b) := Lib.hid (by rw [← HX.out]; unfold chainB; rw [decide_eq_true hfx, Bool.true_and]; cases m.drop (k + 1) <;> rfl)
        clear hfx HX
        go_wp2_with (go_at_call 87; refine (HEN.out _ ha6.out).mono ?_; rintro e w4 ⟨rfl, u, rfl⟩)
        refine ⟨⟨k + 1, rfl, hkl, _, rfl, HX2, (HI.out.trans ha6.out).trans (Aft.lat _ u)⟩, ?_⟩
        show q + 1 - (((k : Int) + 1).toNat) < q + 1 - ((k : Int).toNat)
        omega
      · have t3 : (fromQ S.J (g3, bk3) != x) = true := by simpa using hfx
        have hbf : b = false := by rw [← HX.out]; unfold chainB; rw [decide_eq_false hfx, Bool.false_and]
        subst hbf
        clear hfx HX
        go_upto_region 14 with (go_at_call 87; refine (HEN.out _ ha6.out).mono ?_; rintro e w4 ⟨rfl, u, rfl⟩)
        have HF9 := Lib.hid ((HF5.out.later ha6.out).later (Aft.lat _ u))
        generalize (wr.alloc (.cells #[.int .i64 (g3 : Nat), .bool bk3] 120)).lat u = W9 at *
        obtain ⟨hr1, hr2, hee⟩ := HR.out
        simp only [Bool.false_eq_true, if_false] at hr1 hr2 hee
        subst hr1
        subst hr2
        subst hee
        have z0 := (HF9.out.nth 2 rfl).cell 0
        have z1 := (HF9.out.nth 2 rfl).cell 1
        have z2 := (HF9.out.nth 2 rfl).lt
        have z3 := (HF9.out.nth 2 rfl).frozen 0
        have z4 := (HF9.out.nth 2 rfl).frozen 1
        simp only [List.getElem?_toArray, List.getElem?_cons_zero, List.getElem?_cons_succ] at z0 z1
        go_wp2_with fail
        have B2 := ((HF9.out.nth 2 rfl).store 0 (.int .i64 0)).store 1 (.int .i64 0)
        have A2 := (HF9.out.aft.then_setCell (p := ⟨s + 1 + 1, 0, none⟩) (by show w.heap.size ≤ s + 1 + 1; omega) (.int .i64 0)).then_setCell (p := ⟨s + 1 + 1, 1, none⟩) (by show w.heap.size ≤ s + 1 + 1; omega) (.int .i64 0)
        generalize (W9.setCell ⟨s + 1 + 1, 0, none⟩ (.int .i64 0)).setCell ⟨s + 1 + 1, 1, none⟩ (.int .i64 0) = X at *
        have z0 : X.cell? ⟨s + 1 + 1, 0, none⟩ = some (.int .i64 0) := B2.cell 0
        have z1 : X.cell? ⟨s + 1 + 1, 1, none⟩ = some (.int .i64 0) := B2.cell 1
        exact bodyPost_ret (v := .tuple #[.agg #[.int .i64 0, .int .i64 0], .int .i64 9]) (by simp [results, Try.results51, go_sem, z0, z1]) rfl ⟨rfl, A2⟩
    · have t1 : decide (k < q + 1) = false := by simpa using hkl
      have t2 : decide ((k : Int) < (q : Int) + 1) = false := by rw [decide_eq_false_iff_not]; omega
      have hbt : b = true := by rw [← HX.out, List.drop_eq_nil_of_le (by rw [HQ.out]; omega)]; rfl
      subst hbt
      obtain ⟨hr1, hr2, hee⟩ := HR.out
      simp only [if_true] at hr1 hr2 hee
      subst hee
      have HME : Hid (∀ kw, WayOk kw north → ∀ W, Aft wr W → Calls Try.prog 88 #[.pointer (some ⟨d, 0, none⟩), .slice (some ⟨bl, ol, none⟩) (q + 1) cl, .agg #[.func (.func kw) #[] #[]]] W fun e w' => e = .returned (.agg #[.int .i64 r1, .int .i64 r2]) ∧ Aft W w') := Lib.hid fun kw hkw W ha => by
        have := mean_any hkw S A c d _ _ _ W (HW5.out.later ha) HS.out m (some ⟨bl, ol, none⟩) cl ((HL4.out.aft HI.out).aft ha) HM.out (by rw [HQ.out]; omega) (by rw [HQ.out]; exact hq2)
        rw [HV2.out, hr1, hr2, HQ.out] at this
        exact this
      clear HL4 HW4 HF4 HW5 HX HM HS HV2 HQ HJL hr1 hr2 HR hq
      cases north
      · have y0 : wr.cell? ⟨s + 1, 0, none⟩ = some (.bool false) := (HF5.out.nth 1 rfl).cell 0
        have y1 : wr.cell? ⟨s + 1, 1, none⟩ = some (.slice (some ⟨bl, ol, none⟩) (q + 1) cl) := (HF5.out.nth 1 rfl).cell 1
        have y2 := (HF5.out.nth 1 rfl).lt
        have i1 := idx114a
        go_upto_region 20 with (go_at_call 47; refine (both_any _).mono ?_; rintro e w6 ⟨rfl, u, rfl⟩)
        obtain ⟨zb, hzb⟩ : ∃ zb, (wr.lat u).heap.size = zb := ⟨_, rfl⟩
        have HB9 : Hid (Blk ((wr.lat u).alloc (.cells #[.func (.func 81) #[] #[]] 113)) zb 113 #[.func (.func 81) #[] #[]]) := Lib.hid (by rw [← hzb]; exact Blk.new _ 113 _)
        have HA9 := Lib.hid ((Aft.lat wr u).then_alloc (.cells #[.func (.func 81) #[] #[]] 113))
        have HF9 := Lib.hid (HF5.out.later HA9.out)
        try rw [hzb]
        clear hzb y0 y1 y2 HF5
        generalize (wr.lat u).alloc (.cells #[.func (.func 81) #[] #[]] 113) = W9 at *
        have z0 := (HF9.out.nth 2 rfl).cell 0
        have z1 := (HF9.out.nth 2 rfl).cell 1
        have z2 := (HF9.out.nth 2 rfl).lt
        have z3 := (HF9.out.nth 2 rfl).frozen 0
        have z4 := (HF9.out.nth 2 rfl).frozen 1
        simp only [List.getElem?_toArray, List.getElem?_cons_zero, List.getElem?_cons_succ] at z0 z1
        have y1 : W9.cell? ⟨s + 1, 1, none⟩ = some (.slice (some ⟨bl, ol, none⟩) (q + 1) cl) := (HF9.out.nth 1 rfl).cell 1
        have y2 := (HF9.out.nth 1 rfl).lt
        have y3 : W9.cell? ⟨zb, 0, none⟩ = some (.func (.func 81) #[] #[]) := HB9.out.cell 0
        have y4 := HB9.out.lt
        go_wp2_with (go_at_call 88; refine (HME.out 81 way81 _ HA9.out).mono ?_; rintro e w7 ⟨rfl, u2, rfl⟩)
        have B2 := (((HF9.out.nth 2 rfl).lat u2).store 0 (.int .i64 r1)).store 1 (.int .i64 r2)
        have A2 := ((HF9.out.aft.then_lat u2).then_setCell (p := ⟨s + 1 + 1, 0, none⟩) (by show w.heap.size ≤ s + 1 + 1; omega) (.int .i64 r1)).then_setCell (p := ⟨s + 1 + 1, 1, none⟩) (by show w.heap.size ≤ s + 1 + 1; omega) (.int .i64 r2)
        generalize ((W9.lat u2).setCell ⟨s + 1 + 1, 0, none⟩ (.int .i64 r1)).setCell ⟨s + 1 + 1, 1, none⟩ (.int .i64 r2) = X at *
        have z0 : X.cell? ⟨s + 1 + 1, 0, none⟩ = some (.int .i64 r1) := B2.cell 0
        have z1 : X.cell? ⟨s + 1 + 1, 1, none⟩ = some (.int .i64 r2) := B2.cell 1
        exact bodyPost_ret (v := .tuple #[.agg #[.int .i64 r1, .int .i64 r2], .int .i64 0]) (by simp [results, Try.results51, go_sem, z0, z1]) rfl ⟨rfl, A2⟩
      · have y0 : wr.cell? ⟨s + 1, 0, none⟩ = some (.bool true) := (HF5.out.nth 1 rfl).cell 0
        have y2 := (HF5.out.nth 1 rfl).lt
        have i1 := idx114a
        go_upto_region 18 with (go_at_call 47; refine (both_any _).mono ?_; rintro e w6 ⟨rfl, u, rfl⟩)
        obtain ⟨zb, hzb⟩ : ∃ zb, (wr.lat u).heap.size = zb := ⟨_, rfl⟩
        have HB8 : Hid (Blk ((wr.lat u).alloc (.cells #[.func (.func 81) #[] #[]] 113)) zb 113 #[.func (.func 81) #[] #[]]) := Lib.hid (by rw [← hzb]; exact Blk.new _ 113 _)
        have HA8 := Lib.hid ((Aft.lat wr u).then_alloc (.cells #[.func (.func 81) #[] #[]] 113))
        have HF8 := Lib.hid (HF5.out.later HA8.out)
        try rw [hzb]
        have hzw : wr.heap.size ≤ zb := hzb ▸ (Aft.lat wr u).size
        clear hzb y0 y2 i1
        generalize (wr.lat u).alloc (.cells #[.func (.func 81) #[] #[]] 113) = W8 at *
        have y0 : W8.cell? ⟨s + 1, 0, none⟩ = some (.bool true) := (HF8.out.nth 1 rfl).cell 0
        have y2 := (HF8.out.nth 1 rfl).lt
        have y3 : W8.cell? ⟨zb, 0, none⟩ = some (.func (.func 81) #[] #[]) := HB8.out.cell 0
        have y4 := HB8.out.lt
        have y5 := HB8.out.frozen 0
        have i1 := idx114b
        go_upto_region 20 with (go_at_call 47; refine (both_any _).mono ?_; rintro e w6 ⟨rfl, u1, rfl⟩)
        have HB9 : Hid (Blk ((W8.lat u1).setCell ⟨zb, 0, none⟩ (.func (.func 82) #[] #[])) zb 113 #[.func (.func 82) #[] #[]]) := Lib.hid ((HB8.out.lat u1).store 0 _)
        have HA9 : Hid (Aft wr ((W8.lat u1).setCell ⟨zb, 0, none⟩ (.func (.func 82) #[] #[]))) := Lib.hid ((HA8.out.then_lat u1).then_setCell (p := ⟨zb, 0, none⟩) hzw _)
        have HF9 : Hid (Fr w (s + 1 + 1 + 1) [(s, 25, #[.int .i64 S.n, .slice A S.J.length c]), (s + 1, 105, #[.bool true, .slice (some ⟨bl, ol, none⟩) (q + 1) cl]), (s + 1 + 1, 37, #[.int .i64 0, .int .i64 0])] ((W8.lat u1).setCell ⟨zb, 0, none⟩ (.func (.func 82) #[] #[]))) := Lib.hid (HF5.out.later HA9.out)
        clear y0 y2 y3 y4 y5 HF8 HB8 HA8 HF5 i1 hzw
        generalize (W8.lat u1).setCell ⟨zb, 0, none⟩ (.func (.func 82) #[] #[]) = W9 at *
        have z0 := (HF9.out.nth 2 rfl).cell 0
        have z1 := (HF9.out.nth 2 rfl).cell 1
        have z2 := (HF9.out.nth 2 rfl).lt
        have z3 := (HF9.out.nth 2 rfl).frozen 0
        have z4 := (HF9.out.nth 2 rfl).frozen 1
        simp only [List.getElem?_toArray, List.getElem?_cons_zero, List.getElem?_cons_succ] at z0 z1
        have y1 : W9.cell? ⟨s + 1, 1, none⟩ = some (.slice (some ⟨bl, ol, none⟩) (q + 1) cl) := (HF9.out.nth 1 rfl).cell 1
        have y2 := (HF9.out.nth 1 rfl).lt
        have y3 : W9.cell? ⟨zb, 0, none⟩ = some (.func (.func 82) #[] #[]) := HB9.out.cell 0
        have y4 := HB9.out.lt
        go_wp2_with (go_at_call 88; refine (HME.out 82 way82 _ HA9.out).mono ?_; rintro e w7 ⟨rfl, u2, rfl⟩)
        have B2 := (((HF9.out.nth 2 rfl).lat u2).store 0 (.int .i64 r1)).store 1 (.int .i64 r2)
        have A2 := ((HF9.out.aft.then_lat u2).then_setCell (p := ⟨s + 1 + 1, 0, none⟩) (by show w.heap.size ≤ s + 1 + 1; omega) (.int .i64 r1)).then_setCell (p := ⟨s + 1 + 1, 1, none⟩) (by show w.heap.size ≤ s + 1 + 1; omega) (.int .i64 r2)
        generalize ((W9.lat u2).setCell ⟨s + 1 + 1, 0, none⟩ (.int .i64 r1)).setCell ⟨s + 1 + 1, 1, none⟩ (.int .i64 r2) = X at *
        have z0 : X.cell? ⟨s + 1 + 1, 0, none⟩ = some (.int .i64 r1) := B2.cell 0
        have z1 : X.cell? ⟨s + 1 + 1, 1, none⟩ = some (.int .i64 r2) := B2.cell 1
        exact bodyPost_ret (v := .tuple #[.agg #[.int .i64 r1, .int .i64 r2], .int .i64 0]) (by simp [results, Try.results51, go_sem, z0, z1]) rfl ⟨rfl, A2⟩
theorem legI_natG {n : Nat} {l : List (Int × Bool)} (h : l.all (inL n) = true) : (l.map natG).map legI = l ∧ ∀ g ∈ l.map natG, g.1 < n := by
  rw [List.all_eq_true] at h
  refine ⟨?_, fun g hg => ?_⟩
  · rw [List.map_map]
    conv => rhs; rw [← List.map_id l]
    refine List.map_congr_left fun x hx => ?_
    have := h x hx
    unfold inL at this
    rw [fromB_iff] at this
    obtain ⟨a, b⟩ := x
    show ((a.toNat : Int), b) = (a, b)
    dsimp only at this
    rw [Int.toNat_of_nonneg this.1]
  · obtain ⟨x, hx, rfl⟩ := List.mem_map.1 hg
    have := h x hx
    unfold inL at this
    rw [fromB_iff] at this
    unfold natG
    dsimp only
    omega
def provesP (S : SetL) (north : Bool) (l : List (Int × Bool)) : Int × Int := if provesE S l = 0 then provesV S north l else (0, 0)
theorem proves_any (S : SetL) (A : Option Addr) (c : Nat) (north : Bool) (l : List (Int × Bool)) (Al : Option Addr) (cl : Nat) (w : World) (hA : Quads w A S.J) (hL : Gs w Al l) :
    Calls Try.prog 51 #[.agg #[.int .i64 S.n, .slice A S.J.length c], .agg #[.bool north, .slice Al l.length cl]] w fun e w' => e = .returned (.tuple #[.agg #[.int .i64 (provesP S north l).1, .int .i64 (provesP S north l).2], .int .i64 (provesE S l)]) ∧ Aft w w' := by
  by_cases h1 : setE S = 0
  · by_cases h2 : fromB l.length 1 60 = false ∨ l.all (inL S.J.length) = false
    · have he : provesE S l = if fromB l.length 1 60 = false then 3 else 2 := by
        unfold provesE
        rw [if_neg (by simp [h1])]
        split
        · rfl
        · rename_i h3
          rw [if_pos (h2.resolve_left h3)]
      have hn : provesE S l ≠ 0 := by rw [he]; split <;> decide
      unfold provesP
      rw [if_neg hn, he]
      exact proves_short S A c north l Al cl w hA hL h1 h2
    · have h3 : fromB l.length 1 60 = true := by
        cases e : fromB (l.length : Int) 1 60
        · exact absurd (.inl e) h2
        · rfl
      have h4 : l.all (inL S.J.length) = true := by
        cases e : l.all (inL S.J.length)
        · exact absurd (.inr e) h2
        · rfl
      obtain ⟨h5, h6⟩ := legI_natG h4
      have h7 := h3
      rw [fromB_iff] at h7
      obtain ⟨q, hq⟩ : ∃ q, l.length = q + 1 := ⟨l.length - 1, by omega⟩
      have := proves_loop S A c north (l.map natG) Al cl w hA (by rw [h5]; exact hL) h1 h6 q (by simp [hq]) (by omega) _ rfl _ rfl
      have hgl : (l.map natG).getD q (0, false) = natG (l.getLastD (0, false)) := by
        rw [List.getLastD_eq_getLast?, List.getLast?_eq_getElem?, hq, List.getD_eq_getElem?_getD, List.getElem?_map]
        show _ = natG (l[q]?.getD (0, false))
        cases l[q]? <;> rfl
      rw [hgl, ← hq] at this
      have he : provesE S l = if chainB S.J (intoQ S.J (natG (l.getLastD (0, false)))) (l.map natG) then 0 else 9 := by
        unfold provesE
        rw [if_neg (by simp [h1]), if_neg (by simp [h3]), if_neg (by simp [h4])]
      unfold provesP provesV
      rw [he]
      cases hc : chainB S.J (intoQ S.J (natG (l.getLastD (0, false)))) (l.map natG)
      · rw [hc] at this; exact this
      · rw [hc] at this; simpa using this
  · have he : provesE S l = setE S := by unfold provesE; rw [if_pos h1]
    unfold provesP
    rw [he, if_neg h1]
    exact proves_bad S A c north l Al cl w hA hL h1
end Go.Proofs
end

section
/- Between: what is plain of it. -/
namespace Sheet
theorem wk_map {E E' : List Edge} (f : ∀ a b w, (a, b, w) ∈ E → ∃ w', (a, b, w') ∈ E') {a b k : Nat} {s : Int} (h : Wk E a b k s) : ∃ s', Wk E' a b k s' := by
  induction h with
  | nil => exact ⟨0, .nil _⟩
  | snoc h e ih =>
    obtain ⟨s1, h1⟩ := ih
    obtain ⟨w1, e1⟩ := f _ _ _ e
    exact ⟨_, h1.snoc e1⟩
theorem wk_back {E : List Edge} (f : ∀ a b w, (a, b, w) ∈ E → ∃ w', (b, a, w') ∈ E) {a b k : Nat} {s : Int} (h : Wk E a b k s) : ∃ k' s', Wk E b a k' s' := by
  induction h with
  | nil => exact ⟨0, 0, .nil _⟩
  | snoc h e ih =>
    obtain ⟨k1, s1, h1⟩ := ih
    obtain ⟨w1, e1⟩ := f _ _ _ e
    exact ⟨_, _, (Wk.one e1).append h1⟩
theorem dist_small {E : List Edge} {n : Nat} {M : Int} (hE : In E n) (hn : 0 < n) (hneg : NoNeg E) (hM : ∀ a b w, (a, b, w) ∈ E → -M ≤ w ∧ w ≤ M) (hM0 : 0 ≤ M) {a b : Nat} {m : Int} (h : Dist E a b (some m)) : -(M * n) ≤ m ∧ m ≤ M * n := by
  obtain ⟨k, hk⟩ := h.1 m rfl
  have hm : AtMost E 0 (-1) := fun a k s hw _ => by have := hneg a k s hw; omega
  obtain ⟨k', s', h1, -, h3, h4⟩ := hk.short hE hn hm k (Nat.le_refl _)
  obtain ⟨m', he, h5⟩ := h.2 k' s' h3
  cases he
  have h6 := h3.bound (p := 0) (q := 1) (M := M) fun a b w e => by have := hM a b w e; omega
  have h7 := h3.bound (p := 0) (q := -1) (M := M) fun a b w e => by have := hM a b w e; omega
  have h8 : M * (k' : Int) ≤ M * (n : Int) := Int.mul_le_mul_of_nonneg_left (by omega) hM0
  omega
theorem far_back {n : Nat} {J : List Jo} {D N : Int} {t : Nat → Nat → Int} (h : Calms n J D N t) {a b : Nat} (ha : a < n) (hb : b < n) (hf : t a b ≠ far) : t b a ≠ far := by
  intro e
  have h1 := h.dist ha b
  have h2 := h.dist hb a
  have h3 : opt (t a b) = some (t a b) := opt_some.2 ⟨rfl, hf⟩
  obtain ⟨k, hk⟩ := h1.1 _ h3
  obtain ⟨k', s', h4⟩ := wk_back (fun a b w he => by
    obtain ⟨w', h1, -⟩ := mem_sc he
    exact ⟨_, sc_mem (legs_sym J _ _ _ h1)⟩) hk
  obtain ⟨m, h5, _⟩ := h2.2 _ _ h4
  rw [opt_none.2 e] at h5
  cases h5
theorem far_ways {n : Nat} {J J' : List Jo} {D N : Int} {t t' : Nat → Nat → Int} (h : Calms n J D N t) (h' : Calms n J' D N t') (hJ : ∀ a b w, (a, b, w) ∈ legs J → ∃ w', (a, b, w') ∈ legs J') {a b : Nat} (ha : a < n) (hf : t a b ≠ far) : t' a b ≠ far := by
  intro e
  have h1 := h.dist ha b
  have h2 := h'.dist ha b
  have h3 : opt (t a b) = some (t a b) := opt_some.2 ⟨rfl, hf⟩
  obtain ⟨k, hk⟩ := h1.1 _ h3
  obtain ⟨s', h4⟩ := wk_map (E' := sc D N (legs J')) (fun a b w he => by
    obtain ⟨w', h1, -⟩ := mem_sc he
    obtain ⟨w2, h2⟩ := hJ _ _ _ h1
    exact ⟨_, sc_mem h2⟩) hk
  obtain ⟨m, h5, _⟩ := h2.2 _ _ h4
  rw [opt_none.2 e] at h5
  cases h5
end Sheet
namespace Go.Proofs
theorem legs_ways (J : List Q4) (n1 n2 : Bool) : ∀ a b w, (a, b, w) ∈ Sheet.legs (joOf n1 J) → ∃ w', (a, b, w') ∈ Sheet.legs (joOf n2 J) := by
  intro a b w he
  obtain ⟨j, hj, he⟩ := List.mem_flatMap.1 he
  obtain ⟨q, hq, rfl⟩ := List.mem_map.1 hj
  simp only [List.mem_cons, Prod.mk.injEq, List.not_mem_nil, or_false] at he
  rcases he with ⟨rfl, rfl, rfl⟩ | ⟨rfl, rfl, rfl⟩
  · exact ⟨way1 n2 q, List.mem_flatMap.2 ⟨_, List.mem_map.2 ⟨q, hq, rfl⟩, by simp⟩⟩
  · exact ⟨-(way1 n2 q), List.mem_flatMap.2 ⟨_, List.mem_map.2 ⟨q, hq, rfl⟩, by simp⟩⟩
def tabOf (S : SetL) (ap : Nat → Int) (a : Nat) : Nat → Int := rowOf S.n.toNat ap a
theorem calms_tab {S : SetL} {north : Bool} {D N : Int} {ap : Nat → Int} (h : ∀ a, a < S.n.toNat → RowDone S north D N ap a) : Sheet.Calms S.n.toNat (joOf north S.J) D N (tabOf S ap) := h
theorem tab_small {S : SetL} {north : Bool} {D N : Int} {t : Nat → Nat → Int} (hS : SetOk S) (hp : PlayOk N D) (h : Sheet.Calms S.n.toNat (joOf north S.J) D N t) {a b : Nat} (ha : a < S.n.toNat) (hf : t a b ≠ Sheet.far) : -24000000000 ≤ t a b ∧ t a b ≤ 24000000000 := by
  have h1 := h.dist ha b
  rw [Sheet.opt_some.2 ⟨rfl, hf⟩] at h1
  have h2 := Sheet.dist_small (M := 2000000000) (hS.ok north).in_sc (by omega) (h.noNeg (hS.ok north)) (fun a b w he => by
    obtain ⟨w', h1, rfl⟩ := Sheet.mem_sc he
    obtain ⟨g, g1, g2, g3, g4⟩ := Sheet.mem_leg h1
    have := wt_le (north := north) hS hp (g := g) (by simpa [joOf] using g1)
    unfold Sheet.wt at this
    rw [g4] at this
    exact this) (by decide) h1
  have := hS.n2
  omega
/-- Between two sheets, one way: the least and the greatest. -/
def bt4 (D : Int) (t : Nat → Nat → Int) (a b : Nat) : Q4 := ⟨(Sheet.low (-(t b a)) D).1, (Sheet.low (-(t b a)) D).2, (Sheet.low (t a b) D).1, (Sheet.low (t a b) D).2⟩
def BtR (S : SetL) (N D : Int) (a b : Nat) (w : World) (e : Ending) (w' : World) : Prop := Aft w w' ∧
  ((e = .returned (.tuple #[.agg #[.int .i64 0, .int .i64 0, .int .i64 0, .int .i64 0], .agg #[.int .i64 0, .int .i64 0, .int .i64 0, .int .i64 0], .int .i64 8]) ∧ ∃ north l, Sheet.Clash S.n.toNat (joOf north S.J) D N l) ∨
   ∃ t0 t1, Sheet.Calms S.n.toNat (joOf false S.J) D N t0 ∧ Sheet.Calms S.n.toNat (joOf true S.J) D N t1 ∧
    ((t0 a b = Sheet.far ∧ e = .returned (.tuple #[.agg #[.int .i64 0, .int .i64 0, .int .i64 0, .int .i64 0], .agg #[.int .i64 0, .int .i64 0, .int .i64 0, .int .i64 0], .int .i64 7])) ∨
     (t0 a b ≠ Sheet.far ∧ e = .returned (.tuple #[.agg (encS (bt4 D t0 a b)), .agg (encS (bt4 D t1 a b)), .int .i64 0]))))
end Go.Proofs
end
