/- Own texts, merged: Ye Yf Yc. -/
import Derived.Test.YthegmhnaiabcpaaD19
set_option linter.unusedSimpArgs false
set_option linter.unusedVariables false
set_option linter.unnecessarySimpa false
section
/- Walks: Levels 26; Match 25 and Bars 23 where something is not right. -/
namespace Go.Proofs
open Go.RowKit
attribute [local go_sem] Oper.semAt_some

/-- A row of m numbers at the head of a block. -/
def RI (W : World) (r m : Nat) (f : Nat → Nat) : Prop := ∃ cs, Blk W r 3 cs ∧ cs.size = m ∧ ∀ j, j < m → cs[j]? = some (.int .i64 (f j : Nat))
theorem RI.aft {W W' : World} {r m : Nat} {f : Nat → Nat} (h : RI W r m f) (ha : Aft W W') : RI W' r m f := let ⟨cs, h1, h2, h3⟩ := h; ⟨cs, h1.aft ha, h2, h3⟩
theorem RI.lt {W : World} {r m : Nat} {f : Nat → Nat} (h : RI W r m f) : r < W.heap.size := let ⟨_, h1, _⟩ := h; h1.lt
theorem RI.far {W : World} {r m : Nat} {f : Nat → Nat} (h : RI W r m f) {p : Addr} (hp : r ≠ p.block) (u : Value) : RI (W.setCell p u) r m f := let ⟨cs, h1, h2, h3⟩ := h; ⟨cs, h1.far hp u, h2, h3⟩
theorem RI.cell {W : World} {r m : Nat} {f : Nat → Nat} (h : RI W r m f) {j : Nat} (hj : j < m) : W.cell? ⟨r, j, none⟩ = some (.int .i64 (f j : Nat)) := let ⟨_, h1, _, h3⟩ := h; (h1.cell j).trans (h3 j hj)
theorem RI.frozen {W : World} {r m : Nat} {f : Nat → Nat} (h : RI W r m f) (j : Nat) : W.frozen? ⟨r, j, none⟩ = false := let ⟨_, h1, _⟩ := h; h1.frozen j
theorem RI.put {W : World} {r m : Nat} {f : Nat → Nat} (h : RI W r m f) (k x : Nat) : RI (W.setCell ⟨r, k, none⟩ (.int .i64 (x : Nat))) r m fun j => if j = k then x else f j := by
  obtain ⟨cs, h1, h2, h3⟩ := h
  refine ⟨_, h1.store k _, by simpa using h2, fun j hj => ?_⟩
  by_cases e : j = k
  · subst e
    dsimp only
    rw [if_pos rfl, Array.getElem?_setIfInBounds_self_of_lt (by omega)]
  · dsimp only
    rw [if_neg e, Array.getElem?_setIfInBounds_ne (by omega)]
    exact h3 j hj
theorem RI.congr {W : World} {r m : Nat} {f g : Nat → Nat} (h : RI W r m f) (hfg : ∀ j, j < m → f j = g j) : RI W r m g := let ⟨cs, h1, h2, h3⟩ := h; ⟨cs, h1, h2, fun j hj => by rw [← hfg j hj]; exact h3 j hj⟩
theorem RI.own {W : World} {r m : Nat} {f : Nat → Nat} (h : RI W r m f) {base : Nat} (hb : base ≤ r) (hm : m ≤ 1000) : W.ownsRow base 3 1 (.slice (some ⟨r, 0, none⟩) m m) ((List.range m).map fun j => (f j : Int)).length (((List.range m).map fun j => (f j : Int)).map (Value.int .i64)) := by
  obtain ⟨cs, h1, h2, h3⟩ := h
  have hl : ((List.range m).map fun j => (f j : Int)).length = m := by simp
  rw [hl]
  refine ⟨by simp, .inr ⟨r, m, cs, rfl, hb, h1, Nat.le_refl _, by unfold maxLen; omega, by omega, ?_⟩⟩
  refine List.ext_getElem? fun j => ?_
  rw [List.getElem?_take, Array.getElem?_toList]
  by_cases e : j < m
  · rw [if_pos (by omega), h3 j e]
    simp [e]
  · rw [if_neg (by omega), List.getElem?_eq_none (by simp; omega)]
theorem ri_made (w : World) (N : Nat) (hN : N ≤ 1000) : ∃ cs, (Instr.makeSlice 51 (.int .i64 N) (.int .i64 N)).run Try.prog w = .ok (.slice (some ⟨w.heap.size, 0, none⟩) N N) (w.alloc (.cells cs 3)) ∧ RI (w.alloc (.cells cs 3)) w.heap.size N fun _ => 0 := by
  obtain ⟨ht, ⟨i, z, hi, hz, hsize, hby, hzs⟩, hsz⟩ := ty24
  have hzz : (Try.prog.info? 3).bind (·.zero) = some (.int .i64 0) := by kernel_rfl
  rw [hi] at hzz
  have hzz : i.zero = some (.int .i64 0) := hzz
  rw [hz] at hzz
  cases hzz
  have h := run_makeSlice (P := Try.prog) (w := w) 51 3 i (.int .i64 0) ht hi hz .i64 .i64 N N (by omega) (Int.le_refl _) (by rw [hsize]; simp; omega) (by rw [hby]; omega) (by omega)
  rw [Int.toNat_natCast, hsize] at h
  refine ⟨_, h, _, Blk.new _ _ _, by simp [Go.madeCells], fun j hj => ?_⟩
  change (Go.madeCells #[Value.int .i64 0] (N * 1))[j]? = some (.int .i64 0)
  simp [Go.madeCells, hj, Nat.mod_one]

theorem asked_good {a b : List (Int × Int)} {play : Int} (A B : Option Addr) (ca cb : Nat) {w : World} (hA : Prs w A a) (hB : Prs w B b) (he : edgesE a b play = 0) :
    Calls Try.prog 56 #[.slice A a.length ca, .slice B b.length cb, .int .i64 play] w fun e w' => ∃ x, e = .returned (.tuple #[.pointer (some ⟨x, 0, none⟩), .int .i64 0]) ∧ EdgesAt w w' x a b play A B ca cb :=
  (asked_any a b play A B ca cb w hA hB).mono fun e w' h => by
    rcases h with ⟨h, -⟩ | ⟨-, h⟩
    · exact absurd he h
    · exact h
theorem asked_bad {a b : List (Int × Int)} {play : Int} (A B : Option Addr) (ca cb : Nat) {w : World} (hA : Prs w A a) (hB : Prs w B b) (he : edgesE a b play ≠ 0) :
    Calls Try.prog 56 #[.slice A a.length ca, .slice B b.length cb, .int .i64 play] w fun e w' => e = .returned (.tuple #[.pointer none, .int .i64 (edgesE a b play)]) ∧ Aft w w' :=
  (asked_any a b play A B ca cb w hA hB).mono fun e w' h => by
    rcases h with ⟨-, h1, h2⟩ | ⟨h, -⟩
    · exact ⟨h1, h2⟩
    · exact absurd h he

theorem levels_bad (la lb : List (Int × Int)) (play : Int) (A B : Option Addr) (ca cb : Nat) (w : World) (hA : Prs w A la) (hB : Prs w B lb) (he : edgesE la lb play ≠ 0) :
    Calls Try.prog 26 #[.slice A la.length ca, .slice B lb.length cb, .int .i64 play] w fun e w' => e = .returned (.tuple #[.slice none 0 0, .int .i64 (edgesE la lb play)]) ∧ Aft w w' := by
  have HO := Lib.hid (asked_bad A B ca cb hA hB he)
  obtain ⟨ee, hee⟩ : ∃ z, edgesE la lb play = z := ⟨_, rfl⟩
  rw [hee] at HO he ⊢
  have t1 : (ee != 0) = true := by simpa using he
  clear hee hA hB he
  go_enter Try.func26, Try.ntmps26
  go_wp2_with (go_at_call 56; refine HO.out.mono ?_; rintro e w1 ⟨rfl, u, rfl⟩)
  exact bodyPost_ret (v := .tuple #[.slice none 0 0, .int .i64 ee]) (by simp [results, Try.results26, go_sem]) rfl ⟨rfl, Aft.lat _ u⟩

/-- The levels as a list of lists. -/
def rowsV (V : Nat × Nat → Nat) (n m : Nat) : List (List Int) := (List.range n).map fun i => (List.range m).map fun k => (V (i, k) : Int)
def LevelsOut (play : Int) (la lb : List (Int × Int)) (w : World) (e : Ending) (w' : World) : Prop :=
  ∃ v V, e = .returned (.tuple #[v, .int .i64 0]) ∧ OwnLists w' w.heap.size v (rowsV V la.length lb.length) ∧ Sheet.Levels (sameB play la lb) la.length lb.length (fun a b => V (a, b)) ∧ (∀ a b, a < la.length → b < lb.length → V (a, b) ≤ a + 1) ∧ Aft w w'
theorem rowsV_succ (V : Nat × Nat → Nat) (i m : Nat) : rowsV V (i + 1) m = rowsV V i m ++ [(List.range m).map fun k => (V (i, k) : Int)] := by
  unfold rowsV
  rw [List.range_succ, List.map_append]
  rfl
set_option maxRecDepth 100000 in
set_option maxHeartbeats 4000000 in
theorem levels_good (la lb : List (Int × Int)) (play : Int) (A B : Option Addr) (ca cb : Nat) (w : World) (hA : Prs w A la) (hB : Prs w B lb) (he : edgesE la lb play = 0) :
    Calls Try.prog 26 #[.slice A la.length ca, .slice B lb.length cb, .int .i64 play] w (LevelsOut play la lb w) := by
  obtain ⟨hla, hlb, -, -, -, -, -⟩ := edgesE_ok he
  have HO := Lib.hid (asked_good A B ca cb hA hB he)
  have HE := Lib.hid he
  clear hA hB he
  go_enter Try.func26, Try.ntmps26
  go_upto_region 5 with (first | (go_at_call 56; refine HO.out.mono ?_; rintro e w1 ⟨x, rfl, hx⟩; have HX := Lib.hid hx; clear hx) | (go_at_call 69; refine (levels_any play la lb A B ca cb x _ _ HX.out HE.out).mono ?_; rintro e w2 ⟨g, nn, V, rfl, hg, hM, hLV, hV, ha⟩))
  have H2 := Lib.hid (HX.out.2.2.1.trans ha)
  have HM := Lib.hid hM
  have HLV := Lib.hid hLV
  have HV := Lib.hid hV
  have hw2 : w.heap.size ≤ w2.heap.size := H2.out.size
  clear ha hM hLV hV HX HO
  go_upto_block 0 with fail
  refine wp_block ?_
  go_loopw [11, 29] (fun v i wr => ∃ k : Nat, i = .int .i64 (k : Nat) ∧ k ≤ la.length ∧ Aft w2 wr ∧ ∃ vs, OwnLs wr w2.heap.size v vs (rowsV V k lb.length)) (fun _ i _ => la.length - (intOf i).toNat)
  case atStart => exact ⟨0, rfl, by omega, Aft.refl _, [], OwnLs.nil⟩
  case round =>
    rename World => wo
    obtain ⟨k, rfl, hk, hw, vs, hown⟩ := hrel
    have HOW := Lib.hid hown
    have HW := Lib.hid hw
    clear hown hw
    by_cases hkl : k < la.length
    · have t1 : decide (k < la.length) = true := by simpa using hkl
      have hrl : (rowsV V k lb.length).length = k := by unfold rowsV; simp
      have hll : (rowsV V k lb.length).length ≤ 1000000 := by rw [hrl]; omega
      have hws : w2.heap.size ≤ wo.heap.size := HW.out.size
      have hmk0 := ri_made wo lb.length (by omega)
      have HTS := Lib.hid (rowsV_succ V k lb.length)
      obtain ⟨rows, hrows⟩ : ∃ r, rowsV V k lb.length = r := ⟨_, rfl⟩
      rw [hrows] at HOW hll HTS
      obtain ⟨csm, hmk, hri⟩ := hmk0
      obtain ⟨r, hr⟩ : ∃ r, wo.heap.size = r := ⟨_, rfl⟩
      have HR0 : Hid (RI (wo.alloc (.cells csm 3)) r lb.length fun _ => 0) := Lib.hid (hr ▸ hri)
      have HA0 := Lib.hid (Aft.alloc wo (.cells csm 3))
      clear hri hrows hrl
      go_upto_block 2 with fail
      try rw [hr]
      clear hmk t1
      generalize wo.alloc (.cells csm 3) = W5 at *
      have HRR := Lib.hid hr
      clear hr
      refine wp_block ?_
      go_loopw [37] (fun i wr2 => ∃ q : Nat, i = .int .i64 (q : Nat) ∧ q ≤ lb.length ∧ RI wr2 r lb.length (fun j => if j < q then V (k, j) else 0) ∧ Aft wo wr2) (fun i _ => lb.length - (intOf i).toNat)
      case atStart => exact ⟨0, rfl, by omega, HR0.out.congr fun j _ => by rw [if_neg (by omega)], HA0.out⟩
      case round =>
        obtain ⟨q, rfl, hq, hri, ha2⟩ := hrel
        have HRI := Lib.hid hri
        have HA2 := Lib.hid ha2
        clear hri ha2 HR0 HA0
        by_cases hql : q < lb.length
        · have t2 : decide (q < lb.length) = true := by simpa using hql
          have hlk : (Instr.lookup 146 (.map (some g)) (.agg #[.int .i64 (k : Nat), .int .i64 (q : Nat)]) false).run Try.prog wr = .ok (.int .i64 (V (k, q) : Nat)) wr := (HM.out.aft (HW.out.trans HA2.out)).look (s := (k, q)) ⟨by show k < 32; omega, by show q < 32; omega⟩
          have y0 := HRI.out.cell hql
          have y1 := HRI.out.frozen q
          have y2 := HRI.out.lt
          rw [if_neg (Nat.lt_irrefl q)] at y0
          have hrw : wo.heap.size ≤ r := Nat.le_of_eq HRR.out
          have iq : (0 : Int) ≤ (q : Int) ∧ (q : Int) < (lb.length : Int) := by omega
          go_wp2_with fail
          refine ⟨⟨q + 1, by go_num, by omega, (HRI.out.put q (V (k, q))).congr fun j hj => ?_, HA2.out.then_setCell (p := ⟨r, q, none⟩) hrw _⟩, by simp [intOf]; omega⟩
          by_cases e : j = q
          · subst e
            rw [if_pos rfl, if_pos (by omega)]
          · rw [if_neg e]
            by_cases e2 : j < q
            · rw [if_pos e2, if_pos (by omega)]
            · rw [if_neg e2, if_neg (by omega)]
        · have t2 : decide (q < lb.length) = false := by simpa using hql
          have hri2 : RI wr r lb.length (fun j => V (k, j)) := HRI.out.congr fun j hj => by rw [if_pos (by omega)]
          have HROW := Lib.hid (hri2.own (base := wo.heap.size) (Nat.le_of_eq HRR.out) (by omega))
          have HFIN := Lib.hid HA2.out
          clear hri2 HRI
          go_wp2_with (at_builtin; refine wpList_app_list rfl _ _ rfl (W := wo) HOW.out hws rfl rfl (cell_new1 _ _ _) rfl (HFIN.out.then_alloc _) (own_aft HROW.out (Aft.alloc _ _)) hll ?_; intro v' vs' w5 hown5 hg5)
          have hlt : ∀ g', u11.ownBlock = some g' → w2.heap.size ≤ g' := fun g' hg' => (HOW.out.own.lt g' hg').1
          refine ⟨⟨k + 1, by go_num, by omega, (((HW.out.trans HFIN.out).then_alloc _).grown hg5 hlt), vs', ?_⟩, by simp [intOf]; omega⟩
          rw [HTS.out]
          exact hown5
    · have t1 : decide (k < la.length) = false := by simpa using hkl
      obtain rfl : k = la.length := by omega
      go_wp2_with fail
      exact bodyPost_ret (v := .tuple #[u11, .int .i64 0]) (by simp [results, Try.results26, go_sem]) rfl ⟨u11, V, rfl, ⟨vs, HOW.out.mono hw2⟩, HLV.out, HV.out, H2.out.trans HW.out⟩
end Go.Proofs
end

section
/- Walks: Bars 23, in all cases. -/
namespace Go.Proofs
open Go.RowKit
attribute [local go_sem] Oper.semAt_some

/-- Levels of the right shape. -/
structure ShapeL (lv : List (List Int)) (n m : Nat) : Prop where
  n : lv.length = n
  m : ∀ r ∈ lv, r.length = m
/-- .. and of numbers that can be. -/
def ValL (lv : List (List Int)) : Prop := ∀ r ∈ lv, ∀ x ∈ r, 0 ≤ x ∧ x ≤ 30
theorem ShapeL.ok {lv : List (List Int)} {n m : Nat} (h : ShapeL lv n m) (hv : ValL lv) : LvlOk lv n m := ⟨h.n, h.m, hv⟩
/-- What Bars answers. -/
def BarsW (play : Int) (la lb : List (Int × Int)) (lv : List (List Int)) (v err : Int) : Prop :=
  (edgesE la lb play ≠ 0 ∧ v = 0 ∧ err = edgesE la lb play) ∨ edgesE la lb play = 0 ∧
   ((¬ ShapeL lv la.length lb.length ∧ v = 0 ∧ err = 2) ∨ ShapeL lv la.length lb.length ∧
    ((¬ ValL lv ∧ v = 0 ∧ err = 4) ∨ ValL lv ∧
     ((¬ Sheet.Bar (sameB play la lb) la.length lb.length (fun a b => vN lv (a, b)) ∧ v = 0 ∧ err = 9) ∨
      (Sheet.Bar (sameB play la lb) la.length lb.length (fun a b => vN lv (a, b)) ∧ ∃ mx : Nat, v = mx ∧ err = 0 ∧ Sheet.MaxTo la.length lb.length (vN lv) (la.length * lb.length) mx))))
theorem maxTo_same {n m : Nat} {V : Nat × Nat → Nat} {x y : Nat} (h : Sheet.MaxTo n m V (n * m) x) (h' : Sheet.MaxTo n m V (n * m) y) : x = y := by
  have key : ∀ {x y : Nat}, Sheet.MaxTo n m V (n * m) x → Sheet.MaxTo n m V (n * m) y → x ≤ y := fun {x y} h h' => by
    rcases h.has with e | ⟨i, k, hi, hk, e⟩
    · omega
    · rw [← e]
      exact h'.le i k hi hk (Sheet.idx_lt hi hk)
  exact Nat.le_antisymm (key h h') (key h' h)
theorem BarsW.same {play : Int} {la lb : List (Int × Int)} {lv : List (List Int)} {v e v' e' : Int} (h : BarsW play la lb lv v e) (h' : BarsW play la lb lv v' e') : v = v' ∧ e = e' := by
  rcases h with ⟨h1, rfl, rfl⟩ | ⟨h1, h⟩
  · rcases h' with ⟨-, rfl, rfl⟩ | ⟨h2, -⟩
    · exact ⟨rfl, rfl⟩
    · exact absurd h2 h1
  rcases h' with ⟨h2, -⟩ | ⟨-, h'⟩
  · exact absurd h1 h2
  rcases h with ⟨h1, rfl, rfl⟩ | ⟨h1, h⟩
  · rcases h' with ⟨-, rfl, rfl⟩ | ⟨h2, -⟩
    · exact ⟨rfl, rfl⟩
    · exact absurd h2 h1
  rcases h' with ⟨h2, -⟩ | ⟨-, h'⟩
  · exact absurd h1 h2
  rcases h with ⟨h1, rfl, rfl⟩ | ⟨h1, h⟩
  · rcases h' with ⟨-, rfl, rfl⟩ | ⟨h2, -⟩
    · exact ⟨rfl, rfl⟩
    · exact absurd h2 h1
  rcases h' with ⟨h2, -⟩ | ⟨-, h'⟩
  · exact absurd h1 h2
  rcases h with ⟨h1, rfl, rfl⟩ | ⟨h1, x, rfl, rfl, hx⟩
  · rcases h' with ⟨-, rfl, rfl⟩ | ⟨h2, -⟩
    · exact ⟨rfl, rfl⟩
    · exact absurd h2 h1
  rcases h' with ⟨h2, -⟩ | ⟨-, y, rfl, rfl, hy⟩
  · exact absurd h1 h2
  · rw [maxTo_same hx hy]
    exact ⟨rfl, rfl⟩

set_option maxRecDepth 100000 in
set_option maxHeartbeats 4000000 in
theorem bars_edges (la lb : List (Int × Int)) (play : Int) (lv : List (List Int)) (A B Al : Option Addr) (ca cb cl : Nat) (w : World) (hA : Prs w A la) (hB : Prs w B lb) (hL : Lists w Al lv) (ee : Int) (he : edgesE la lb play = ee) (hne : ee ≠ 0) :
    Calls Try.prog 23 #[.slice A la.length ca, .slice B lb.length cb, .int .i64 play, .slice Al lv.length cl] w fun e w' => e = .returned (.tuple #[.int .i64 0, .int .i64 ee]) ∧ Aft w w' := by
  obtain ⟨s, hs⟩ : ∃ s, w.heap.size = s := ⟨_, rfl⟩
  have F0 := ((((Fr.start w).alloc rfl 48 #[.slice B lb.length cb]).alloc (by simp) 50 #[.slice Al lv.length cl]).alloc (by simp) 3 #[.int .i64 0]).alloc (by simp) 38 #[.int .i64 0]
  simp only [List.nil_append, List.cons_append] at F0
  rw [hs] at F0
  have HF0 := Lib.hid F0
  have HL0 := Lib.hid hL
  have HA0 := Lib.hid hA
  have HB0 := Lib.hid hB
  have HQ := Lib.hid fun W (h : Aft w W) => asked_bad A B ca cb (HA0.out.aft h) (HB0.out.aft h) (he ▸ hne)
  rw [he] at HQ
  have t1 : (ee != 0) = true := by simpa using hne
  clear he hne
  clear hA hB hL F0
  go_enter Try.func23, Try.ntmps23
  go_upto_region 1 with fail
  try rw [hs]
  generalize (((w.alloc (.cells #[.slice B lb.length cb] 48)).alloc (.cells #[.slice Al lv.length cl] 50)).alloc (.cells #[.int .i64 0] 3)).alloc (.cells #[.int .i64 0] 38) = W1 at *
  have y0 : W1.cell? ⟨s, 0, none⟩ = some (.slice B lb.length cb) := (HF0.out.nth 0 rfl).cell 0
  have y1 := (HF0.out.nth 0 rfl).lt
  have HQ1 := Lib.hid (HQ.out W1 HF0.out.aft)
  go_upto_region 2 with (go_at_call 56; refine HQ1.out.mono ?_; rintro e w2 ⟨rfl, ha2⟩)
  clear y0 y1 HQ HQ1
  have HX := Lib.hid (ha2.then_alloc (.cells #[.pointer none] 132))
  generalize w2.alloc (.cells #[.pointer none] 132) = W3 at *
  have HF3 := Lib.hid (HF0.out.later HX.out)
  clear ha2
  have p0 : W3.cell? ⟨s + 1 + 1, 0, none⟩ = some (.int .i64 0) := (HF3.out.nth 2 rfl).cell 0
  have p1 := (HF3.out.nth 2 rfl).frozen 0
  have p2 := (HF3.out.nth 2 rfl).lt
  have q0 : W3.cell? ⟨s + 1 + 1 + 1, 0, none⟩ = some (.int .i64 0) := (HF3.out.nth 3 rfl).cell 0
  have q1 := (HF3.out.nth 3 rfl).frozen 0
  have q2 := (HF3.out.nth 3 rfl).lt
  go_wp2_with fail
  have k1 := (HF3.out.nth 2 rfl).store 0 (.int .i64 0)
  have k2 := ((HF3.out.nth 3 rfl).far (p := ⟨s + 1 + 1, 0, none⟩) (by simp) (.int .i64 0)).store 0 (.int .i64 ee)
  have k3 := k1.far (p := ⟨s + 1 + 1 + 1, 0, none⟩) (by simp) (.int .i64 ee)
  have ha : Aft w ((W3.setCell ⟨s + 1 + 1, 0, none⟩ (.int .i64 0)).setCell ⟨s + 1 + 1 + 1, 0, none⟩ (.int .i64 ee)) := (HF3.out.aft.then_setCell (p := ⟨s + 1 + 1, 0, none⟩) (by rw [hs]; exact Nat.le_add_right _ 2) _).then_setCell (p := ⟨s + 1 + 1 + 1, 0, none⟩) (by rw [hs]; exact Nat.le_add_right _ 3) _
  generalize (W3.setCell ⟨s + 1 + 1, 0, none⟩ (.int .i64 0)).setCell ⟨s + 1 + 1 + 1, 0, none⟩ (.int .i64 ee) = X at *
  have z0 : X.cell? ⟨s + 1 + 1, 0, none⟩ = some (.int .i64 0) := k3.cell 0
  have z1 : X.cell? ⟨s + 1 + 1 + 1, 0, none⟩ = some (.int .i64 ee) := k2.cell 0
  exact bodyPost_ret (v := .tuple #[.int .i64 0, .int .i64 ee]) (by simp [results, Try.results23, go_sem, z0, z1]) rfl ⟨rfl, ha⟩

set_option maxRecDepth 100000 in
set_option maxHeartbeats 4000000 in
theorem bars_count (la lb : List (Int × Int)) (play : Int) (lv : List (List Int)) (A B Al : Option Addr) (ca cb cl : Nat) (w : World) (hA : Prs w A la) (hB : Prs w B lb) (hL : Lists w Al lv) (he : edgesE la lb play = 0) (hn : lv.length ≠ la.length) :
    Calls Try.prog 23 #[.slice A la.length ca, .slice B lb.length cb, .int .i64 play, .slice Al lv.length cl] w fun e w' => e = .returned (.tuple #[.int .i64 0, .int .i64 2]) ∧ Aft w w' := by
  obtain ⟨s, hs⟩ : ∃ s, w.heap.size = s := ⟨_, rfl⟩
  have F0 := ((((Fr.start w).alloc rfl 48 #[.slice B lb.length cb]).alloc (by simp) 50 #[.slice Al lv.length cl]).alloc (by simp) 3 #[.int .i64 0]).alloc (by simp) 38 #[.int .i64 0]
  simp only [List.nil_append, List.cons_append] at F0
  rw [hs] at F0
  have HF0 := Lib.hid F0
  have HL0 := Lib.hid hL
  have HA0 := Lib.hid hA
  have HB0 := Lib.hid hB
  have HQ := Lib.hid fun W (h : Aft w W) => asked_good A B ca cb (HA0.out.aft h) (HB0.out.aft h) he
  have hla := (edgesE_ok he).1
  have hlb := (edgesE_ok he).2.1
  have hll := hL.len
  have t1 : ((lv.length : Int) != (la.length : Int)) = true := by rw [bne_iff_ne]; omega
  clear he hn
  clear hA hB hL F0
  go_enter Try.func23, Try.ntmps23
  go_upto_region 1 with fail
  try rw [hs]
  generalize (((w.alloc (.cells #[.slice B lb.length cb] 48)).alloc (.cells #[.slice Al lv.length cl] 50)).alloc (.cells #[.int .i64 0] 3)).alloc (.cells #[.int .i64 0] 38) = W1 at *
  have y0 : W1.cell? ⟨s, 0, none⟩ = some (.slice B lb.length cb) := (HF0.out.nth 0 rfl).cell 0
  have y1 := (HF0.out.nth 0 rfl).lt
  have HQ1 := Lib.hid (HQ.out W1 HF0.out.aft)
  go_upto_region 2 with (go_at_call 56; refine HQ1.out.mono ?_; rintro e w2 ⟨x, rfl, h2⟩)
  have ha2 : Aft W1 w2 := h2.2.2.1
  clear y0 y1 h2 HQ HQ1
  have HX := Lib.hid (ha2.then_alloc (.cells #[.pointer (some ⟨x, 0, none⟩)] 132))
  generalize w2.alloc (.cells #[.pointer (some ⟨x, 0, none⟩)] 132) = W3 at *
  have HF3 := Lib.hid (HF0.out.later HX.out)
  clear ha2
  have c1 : W3.cell? ⟨s + 1, 0, none⟩ = some (.slice Al lv.length cl) := (HF3.out.nth 1 rfl).cell 0
  have c2 := (HF3.out.nth 1 rfl).lt
  have d1 : W3.cell? ⟨s, 0, none⟩ = some (.slice B lb.length cb) := (HF3.out.nth 0 rfl).cell 0
  have d2 := (HF3.out.nth 0 rfl).lt
  have p0 : W3.cell? ⟨s + 1 + 1, 0, none⟩ = some (.int .i64 0) := (HF3.out.nth 2 rfl).cell 0
  have p1 := (HF3.out.nth 2 rfl).frozen 0
  have p2 := (HF3.out.nth 2 rfl).lt
  have q0 : W3.cell? ⟨s + 1 + 1 + 1, 0, none⟩ = some (.int .i64 0) := (HF3.out.nth 3 rfl).cell 0
  have q1 := (HF3.out.nth 3 rfl).frozen 0
  have q2 := (HF3.out.nth 3 rfl).lt
  go_wp2_with fail
  have k1 := (HF3.out.nth 2 rfl).store 0 (.int .i64 0)
  have k2 := ((HF3.out.nth 3 rfl).far (p := ⟨s + 1 + 1, 0, none⟩) (by simp) (.int .i64 0)).store 0 (.int .i64 2)
  have k3 := k1.far (p := ⟨s + 1 + 1 + 1, 0, none⟩) (by simp) (.int .i64 2)
  have ha : Aft w ((W3.setCell ⟨s + 1 + 1, 0, none⟩ (.int .i64 0)).setCell ⟨s + 1 + 1 + 1, 0, none⟩ (.int .i64 2)) := (HF3.out.aft.then_setCell (p := ⟨s + 1 + 1, 0, none⟩) (by rw [hs]; exact Nat.le_add_right _ 2) _).then_setCell (p := ⟨s + 1 + 1 + 1, 0, none⟩) (by rw [hs]; exact Nat.le_add_right _ 3) _
  generalize (W3.setCell ⟨s + 1 + 1, 0, none⟩ (.int .i64 0)).setCell ⟨s + 1 + 1 + 1, 0, none⟩ (.int .i64 2) = X at *
  have z0 : X.cell? ⟨s + 1 + 1, 0, none⟩ = some (.int .i64 0) := k3.cell 0
  have z1 : X.cell? ⟨s + 1 + 1 + 1, 0, none⟩ = some (.int .i64 2) := k2.cell 0
  exact bodyPost_ret (v := .tuple #[.int .i64 0, .int .i64 2]) (by simp [results, Try.results23, go_sem, z0, z1]) rfl ⟨rfl, ha⟩

set_option maxRecDepth 100000 in
set_option maxHeartbeats 4000000 in
theorem bars_len (la lb : List (Int × Int)) (play : Int) (lv : List (List Int)) (A B Al : Option Addr) (ca cb cl : Nat) (w : World) (hA : Prs w A la) (hB : Prs w B lb) (hL : Lists w Al lv) (he : edgesE la lb play = 0) (hn : lv.length = la.length) (hm : (lv.all fun r => decide (r.length = lb.length)) = false) :
    Calls Try.prog 23 #[.slice A la.length ca, .slice B lb.length cb, .int .i64 play, .slice Al lv.length cl] w fun e w' => e = .returned (.tuple #[.int .i64 0, .int .i64 2]) ∧ Aft w w' := by
  obtain ⟨s, hs⟩ : ∃ s, w.heap.size = s := ⟨_, rfl⟩
  have F0 := ((((Fr.start w).alloc rfl 48 #[.slice B lb.length cb]).alloc (by simp) 50 #[.slice Al lv.length cl]).alloc (by simp) 3 #[.int .i64 0]).alloc (by simp) 38 #[.int .i64 0]
  simp only [List.nil_append, List.cons_append] at F0
  rw [hs] at F0
  have HF0 := Lib.hid F0
  have HL0 := Lib.hid hL
  have HA0 := Lib.hid hA
  have HB0 := Lib.hid hB
  have HQ := Lib.hid fun W (h : Aft w W) => asked_good A B ca cb (HA0.out.aft h) (HB0.out.aft h) he
  have hla := (edgesE_ok he).1
  have hlb := (edgesE_ok he).2.1
  have hll := hL.len
  have t1 : ((lv.length : Int) != (la.length : Int)) = false := by rw [bne_eq_false_iff_eq]; omega
  have HEL : Hid (∀ W, Lists W Al lv → Blk W s 48 #[.slice B lb.length cb] → Calls Try.prog 63 #[.slice Al lv.length cl, .func (.func 64) #[] #[.pointer (some ⟨s, 0, none⟩)]] W fun e w' => e = .returned (.bool false) ∧ Aft W w') := Lib.hid fun W h1 h2 => by
    have := every_len lv Al cl lb.length s B cb W h1 h2
    rw [hm] at this
    exact this
  clear he hn hm
  clear hA hB hL F0
  go_enter Try.func23, Try.ntmps23
  go_upto_region 1 with fail
  try rw [hs]
  generalize (((w.alloc (.cells #[.slice B lb.length cb] 48)).alloc (.cells #[.slice Al lv.length cl] 50)).alloc (.cells #[.int .i64 0] 3)).alloc (.cells #[.int .i64 0] 38) = W1 at *
  have y0 : W1.cell? ⟨s, 0, none⟩ = some (.slice B lb.length cb) := (HF0.out.nth 0 rfl).cell 0
  have y1 := (HF0.out.nth 0 rfl).lt
  have HQ1 := Lib.hid (HQ.out W1 HF0.out.aft)
  go_upto_region 2 with (go_at_call 56; refine HQ1.out.mono ?_; rintro e w2 ⟨x, rfl, h2⟩)
  have ha2 : Aft W1 w2 := h2.2.2.1
  clear y0 y1 h2 HQ HQ1
  have HX := Lib.hid (ha2.then_alloc (.cells #[.pointer (some ⟨x, 0, none⟩)] 132))
  generalize w2.alloc (.cells #[.pointer (some ⟨x, 0, none⟩)] 132) = W3 at *
  have HF3 := Lib.hid (HF0.out.later HX.out)
  clear ha2
  have c1 : W3.cell? ⟨s + 1, 0, none⟩ = some (.slice Al lv.length cl) := (HF3.out.nth 1 rfl).cell 0
  have c2 := (HF3.out.nth 1 rfl).lt
  have d1 : W3.cell? ⟨s, 0, none⟩ = some (.slice B lb.length cb) := (HF3.out.nth 0 rfl).cell 0
  have d2 := (HF3.out.nth 0 rfl).lt
  have HEL1 := Lib.hid (HEL.out W3 (HL0.out.aft HF3.out.aft) (HF3.out.nth 0 rfl))
  go_upto_region 5 with (go_at_call 63; refine HEL1.out.mono ?_; rintro e W4 ⟨rfl, ha4⟩)
  have HF4 := Lib.hid (HF3.out.later ha4)
  clear c1 c2 d1 d2 ha4 HEL HEL1
  have p0 : W4.cell? ⟨s + 1 + 1, 0, none⟩ = some (.int .i64 0) := (HF4.out.nth 2 rfl).cell 0
  have p1 := (HF4.out.nth 2 rfl).frozen 0
  have p2 := (HF4.out.nth 2 rfl).lt
  have q0 : W4.cell? ⟨s + 1 + 1 + 1, 0, none⟩ = some (.int .i64 0) := (HF4.out.nth 3 rfl).cell 0
  have q1 := (HF4.out.nth 3 rfl).frozen 0
  have q2 := (HF4.out.nth 3 rfl).lt
  go_wp2_with fail
  have k1 := (HF4.out.nth 2 rfl).store 0 (.int .i64 0)
  have k2 := ((HF4.out.nth 3 rfl).far (p := ⟨s + 1 + 1, 0, none⟩) (by simp) (.int .i64 0)).store 0 (.int .i64 2)
  have k3 := k1.far (p := ⟨s + 1 + 1 + 1, 0, none⟩) (by simp) (.int .i64 2)
  have ha : Aft w ((W4.setCell ⟨s + 1 + 1, 0, none⟩ (.int .i64 0)).setCell ⟨s + 1 + 1 + 1, 0, none⟩ (.int .i64 2)) := (HF4.out.aft.then_setCell (p := ⟨s + 1 + 1, 0, none⟩) (by rw [hs]; exact Nat.le_add_right _ 2) _).then_setCell (p := ⟨s + 1 + 1 + 1, 0, none⟩) (by rw [hs]; exact Nat.le_add_right _ 3) _
  generalize (W4.setCell ⟨s + 1 + 1, 0, none⟩ (.int .i64 0)).setCell ⟨s + 1 + 1 + 1, 0, none⟩ (.int .i64 2) = X at *
  have z0 : X.cell? ⟨s + 1 + 1, 0, none⟩ = some (.int .i64 0) := k3.cell 0
  have z1 : X.cell? ⟨s + 1 + 1 + 1, 0, none⟩ = some (.int .i64 2) := k2.cell 0
  exact bodyPost_ret (v := .tuple #[.int .i64 0, .int .i64 2]) (by simp [results, Try.results23, go_sem, z0, z1]) rfl ⟨rfl, ha⟩

set_option maxRecDepth 100000 in
set_option maxHeartbeats 4000000 in
theorem bars_value (la lb : List (Int × Int)) (play : Int) (lv : List (List Int)) (A B Al : Option Addr) (ca cb cl : Nat) (w : World) (hA : Prs w A la) (hB : Prs w B lb) (hL : Lists w Al lv) (he : edgesE la lb play = 0) (hn : lv.length = la.length) (hm : (lv.all fun r => decide (r.length = lb.length)) = true) (hv : (lv.all fun r => r.all lvlB) = false) :
    Calls Try.prog 23 #[.slice A la.length ca, .slice B lb.length cb, .int .i64 play, .slice Al lv.length cl] w fun e w' => e = .returned (.tuple #[.int .i64 0, .int .i64 4]) ∧ Aft w w' := by
  obtain ⟨s, hs⟩ : ∃ s, w.heap.size = s := ⟨_, rfl⟩
  have F0 := ((((Fr.start w).alloc rfl 48 #[.slice B lb.length cb]).alloc (by simp) 50 #[.slice Al lv.length cl]).alloc (by simp) 3 #[.int .i64 0]).alloc (by simp) 38 #[.int .i64 0]
  simp only [List.nil_append, List.cons_append] at F0
  rw [hs] at F0
  have HF0 := Lib.hid F0
  have HL0 := Lib.hid hL
  have HA0 := Lib.hid hA
  have HB0 := Lib.hid hB
  have HQ := Lib.hid fun W (h : Aft w W) => asked_good A B ca cb (HA0.out.aft h) (HB0.out.aft h) he
  have hla := (edgesE_ok he).1
  have hlb := (edgesE_ok he).2.1
  have hll := hL.len
  have t1 : ((lv.length : Int) != (la.length : Int)) = false := by rw [bne_eq_false_iff_eq]; omega
  have HEL : Hid (∀ W, Lists W Al lv → Blk W s 48 #[.slice B lb.length cb] → Calls Try.prog 63 #[.slice Al lv.length cl, .func (.func 64) #[] #[.pointer (some ⟨s, 0, none⟩)]] W fun e w' => e = .returned (.bool true) ∧ Aft W w') := Lib.hid fun W h1 h2 => by
    have := every_len lv Al cl lb.length s B cb W h1 h2
    rw [hm] at this
    exact this
  have HEV : Hid (∀ W, Lists W Al lv → Calls Try.prog 63 #[.slice Al lv.length cl, .func (.func 65) #[] #[]] W fun e w' => e = .returned (.bool false) ∧ Aft W w') := Lib.hid fun W h => by
    have := every_rows lv Al cl W h
    rw [hv] at this
    exact this
  clear he hn hm hv
  clear hA hB hL F0
  go_enter Try.func23, Try.ntmps23
  go_upto_region 1 with fail
  try rw [hs]
  generalize (((w.alloc (.cells #[.slice B lb.length cb] 48)).alloc (.cells #[.slice Al lv.length cl] 50)).alloc (.cells #[.int .i64 0] 3)).alloc (.cells #[.int .i64 0] 38) = W1 at *
  have y0 : W1.cell? ⟨s, 0, none⟩ = some (.slice B lb.length cb) := (HF0.out.nth 0 rfl).cell 0
  have y1 := (HF0.out.nth 0 rfl).lt
  have HQ1 := Lib.hid (HQ.out W1 HF0.out.aft)
  go_upto_region 2 with (go_at_call 56; refine HQ1.out.mono ?_; rintro e w2 ⟨x, rfl, h2⟩)
  have ha2 : Aft W1 w2 := h2.2.2.1
  clear y0 y1 h2 HQ HQ1
  have HX := Lib.hid (ha2.then_alloc (.cells #[.pointer (some ⟨x, 0, none⟩)] 132))
  generalize w2.alloc (.cells #[.pointer (some ⟨x, 0, none⟩)] 132) = W3 at *
  have HF3 := Lib.hid (HF0.out.later HX.out)
  clear ha2
  have c1 : W3.cell? ⟨s + 1, 0, none⟩ = some (.slice Al lv.length cl) := (HF3.out.nth 1 rfl).cell 0
  have c2 := (HF3.out.nth 1 rfl).lt
  have d1 : W3.cell? ⟨s, 0, none⟩ = some (.slice B lb.length cb) := (HF3.out.nth 0 rfl).cell 0
  have d2 := (HF3.out.nth 0 rfl).lt
  have HEL1 := Lib.hid (HEL.out W3 (HL0.out.aft HF3.out.aft) (HF3.out.nth 0 rfl))
  go_upto_region 6 with (go_at_call 63; refine HEL1.out.mono ?_; rintro e W4 ⟨rfl, ha4⟩)
  have HF4 := Lib.hid (HF3.out.later ha4)
  have HEV1 := Lib.hid (HEV.out W4 (HL0.out.aft HF4.out.aft))
  clear c1 c2 d1 d2 ha4 HEL HEL1
  have c1 : W4.cell? ⟨s + 1, 0, none⟩ = some (.slice Al lv.length cl) := (HF4.out.nth 1 rfl).cell 0
  have c2 := (HF4.out.nth 1 rfl).lt
  go_upto_region 7 with (go_at_call 63; refine HEV1.out.mono ?_; rintro e W5 ⟨rfl, ha5⟩)
  have HF5 := Lib.hid (HF4.out.later ha5)
  clear c1 c2 ha5 HEV HEV1
  have p0 : W5.cell? ⟨s + 1 + 1, 0, none⟩ = some (.int .i64 0) := (HF5.out.nth 2 rfl).cell 0
  have p1 := (HF5.out.nth 2 rfl).frozen 0
  have p2 := (HF5.out.nth 2 rfl).lt
  have q0 : W5.cell? ⟨s + 1 + 1 + 1, 0, none⟩ = some (.int .i64 0) := (HF5.out.nth 3 rfl).cell 0
  have q1 := (HF5.out.nth 3 rfl).frozen 0
  have q2 := (HF5.out.nth 3 rfl).lt
  go_wp2_with fail
  have k1 := (HF5.out.nth 2 rfl).store 0 (.int .i64 0)
  have k2 := ((HF5.out.nth 3 rfl).far (p := ⟨s + 1 + 1, 0, none⟩) (by simp) (.int .i64 0)).store 0 (.int .i64 4)
  have k3 := k1.far (p := ⟨s + 1 + 1 + 1, 0, none⟩) (by simp) (.int .i64 4)
  have ha : Aft w ((W5.setCell ⟨s + 1 + 1, 0, none⟩ (.int .i64 0)).setCell ⟨s + 1 + 1 + 1, 0, none⟩ (.int .i64 4)) := (HF5.out.aft.then_setCell (p := ⟨s + 1 + 1, 0, none⟩) (by rw [hs]; exact Nat.le_add_right _ 2) _).then_setCell (p := ⟨s + 1 + 1 + 1, 0, none⟩) (by rw [hs]; exact Nat.le_add_right _ 3) _
  generalize (W5.setCell ⟨s + 1 + 1, 0, none⟩ (.int .i64 0)).setCell ⟨s + 1 + 1 + 1, 0, none⟩ (.int .i64 4) = X at *
  have z0 : X.cell? ⟨s + 1 + 1, 0, none⟩ = some (.int .i64 0) := k3.cell 0
  have z1 : X.cell? ⟨s + 1 + 1 + 1, 0, none⟩ = some (.int .i64 4) := k2.cell 0
  exact bodyPost_ret (v := .tuple #[.int .i64 0, .int .i64 4]) (by simp [results, Try.results23, go_sem, z0, z1]) rfl ⟨rfl, ha⟩

theorem bars_all (la lb : List (Int × Int)) (play : Int) (lv : List (List Int)) (A B Al : Option Addr) (ca cb cl : Nat) (w : World) (hA : Prs w A la) (hB : Prs w B lb) (hL : Lists w Al lv) :
    Calls Try.prog 23 #[.slice A la.length ca, .slice B lb.length cb, .int .i64 play, .slice Al lv.length cl] w fun e w' => ∃ v err, e = .returned (.tuple #[.int .i64 v, .int .i64 err]) ∧ BarsW play la lb lv v err ∧ Aft w w' := by
  by_cases he : edgesE la lb play = 0
  case neg => exact (bars_edges la lb play lv A B Al ca cb cl w hA hB hL _ rfl he).mono fun e w' ⟨h1, h2⟩ => ⟨_, _, h1, .inl ⟨he, rfl, rfl⟩, h2⟩
  by_cases hn : lv.length = la.length
  case neg => exact (bars_count la lb play lv A B Al ca cb cl w hA hB hL he hn).mono fun e w' ⟨h1, h2⟩ => ⟨_, _, h1, .inr ⟨he, .inl ⟨fun h => hn h.n, rfl, rfl⟩⟩, h2⟩
  cases hm : lv.all fun r => decide (r.length = lb.length)
  · exact (bars_len la lb play lv A B Al ca cb cl w hA hB hL he hn hm).mono fun e w' ⟨h1, h2⟩ => ⟨_, _, h1, .inr ⟨he, .inl ⟨fun h => Bool.noConfusion ((List.all_eq_true.2 fun r hr => decide_eq_true (h.m r hr)).symm.trans hm), rfl, rfl⟩⟩, h2⟩
  have hsh : ShapeL lv la.length lb.length := ⟨hn, fun r hr => of_decide_eq_true (List.all_eq_true.1 hm r hr)⟩
  cases hv : lv.all fun r => r.all lvlB
  · exact (bars_value la lb play lv A B Al ca cb cl w hA hB hL he hn hm hv).mono fun e w' ⟨h1, h2⟩ => ⟨_, _, h1, .inr ⟨he, .inr ⟨hsh, .inl ⟨fun h => Bool.noConfusion ((List.all_eq_true.2 fun r hr => List.all_eq_true.2 fun x hx => by unfold lvlB; rw [fromB_iff]; exact h r hr x hx).symm.trans hv), rfl, rfl⟩⟩⟩, h2⟩
  have hvl : ValL lv := fun r hr x hx => by
    have := List.all_eq_true.1 (List.all_eq_true.1 hv r hr) x hx
    unfold lvlB at this
    rwa [fromB_iff] at this
  refine (bars_good la lb play lv A B Al ca cb cl w hA hB hL he (hsh.ok hvl)).mono fun e w' ⟨ha, h⟩ => ?_
  rcases h with ⟨mx, rfl, hb, hx⟩ | ⟨rfl, hb⟩
  · exact ⟨_, _, rfl, .inr ⟨he, .inr ⟨hsh, .inr ⟨hvl, .inr ⟨hb, mx, rfl, rfl, hx⟩⟩⟩⟩, ha⟩
  · exact ⟨_, _, rfl, .inr ⟨he, .inr ⟨hsh, .inr ⟨hvl, .inl ⟨hb, rfl, rfl⟩⟩⟩⟩, ha⟩
end Go.Proofs
end

section
/- Walks: the reference's Edges 60. -/
namespace Go.Proofs
open Go.RowKit
attribute [local go_sem] Oper.semAt_some

/-- The first k places are in order, but for the place where another list begins. -/
def OrdM (n : Nat) (l : List (Int × Int)) (k : Nat) : Prop := ∀ i, 1 ≤ i → i < k → i < l.length → i ≠ n → (l.getD (i - 1) (0, 0)).1 < (l.getD i (0, 0)).1
theorem OrdM.step {n : Nat} {l : List (Int × Int)} {k : Nat} (h : OrdM n l k) (hk : k ≠ n → (l.getD (k - 1) (0, 0)).1 < (l.getD k (0, 0)).1) : OrdM n l (k + 1) := fun i h1 h2 h3 h4 => by
  by_cases e : i = k
  · subst e; exact hk h4
  · exact h i h1 (by omega) h3 h4
theorem getD_left {a b : List (Int × Int)} {i : Nat} (h : i < a.length) : (a ++ b).getD i (0, 0) = a.getD i (0, 0) := by
  rw [List.getD_eq_getElem?_getD, List.getD_eq_getElem?_getD, List.getElem?_append_left h]
theorem getD_right {a b : List (Int × Int)} (i : Nat) : (a ++ b).getD (a.length + i) (0, 0) = b.getD i (0, 0) := by
  rw [List.getD_eq_getElem?_getD, List.getD_eq_getElem?_getD, List.getElem?_append_right (by omega), Nat.add_sub_cancel_left]
theorem OrdM.both {a b : List (Int × Int)} {k : Nat} (h : OrdM a.length (a ++ b) k) (hk : a.length + b.length ≤ k) : ordB a = true ∧ ordB b = true := by
  refine ⟨decide_eq_true fun i h1 _ h3 => ?_, decide_eq_true fun i h1 _ h3 => ?_⟩
  · have := h i h1 (by omega) (by rw [List.length_append]; omega) (by omega)
    rwa [getD_left (by omega), getD_left h3] at this
  · have := h (a.length + i) (by omega) (by omega) (by rw [List.length_append]; omega) (by omega)
    rwa [show a.length + i - 1 = a.length + (i - 1) by omega, getD_right, getD_right] at this
theorem not_both {a b : List (Int × Int)} {k : Nat} (h1 : 1 ≤ k) (hk : k < (a ++ b).length) (hn : k ≠ a.length) (h : ¬ ((a ++ b).getD (k - 1) (0, 0)).1 < ((a ++ b).getD k (0, 0)).1) : ordB a = false ∨ ordB b = false := by
  rw [List.length_append] at hk
  by_cases e : k < a.length
  · left
    refine not_ord h1 e ?_
    rwa [getD_left (by omega), getD_left e] at h
  · right
    obtain ⟨i, rfl⟩ : ∃ i, k = a.length + i := ⟨k - a.length, by omega⟩
    refine not_ord (k := i) (by omega) (by omega) ?_
    rwa [show a.length + i - 1 = a.length + (i - 1) by omega, getD_right, getD_right] at h
theorem own_empty (w : World) (e : TypeId) (size : Nat) : (w.alloc (.cells #[] e)).ownsRow w.heap.size e size (.slice (some ⟨w.heap.size, 0, none⟩) 0 0) 0 [] :=
  ⟨by simp, .inr ⟨w.heap.size, 0, #[], rfl, Nat.le_refl _, heap_alloc_new w _, Nat.le_refl _, by decide, by simp, by simp⟩⟩

theorem edgesE_count {a b : List (Int × Int)} {play : Int} (h : 30 < a.length ∨ 30 < b.length) : edgesE a b play = 3 := by unfold edgesE; rw [if_pos h]
theorem edgesE_value {a b : List (Int × Int)} {play : Int} (ha : a.length ≤ 30) (hb : b.length ≤ 30) (h : (a ++ b).all markB = false ∨ fromB play 0 1000000 = false) : edgesE a b play = 4 := by
  unfold edgesE
  rw [if_neg (by omega), if_pos]
  rcases h with h | h
  · rw [List.all_append] at h
    cases e : a.all markB
    · exact .inl rfl
    · rw [e] at h
      exact .inr (.inl h)
  · exact .inr (.inr h)
theorem edgesE_order {a b : List (Int × Int)} {play : Int} (ha : a.length ≤ 30) (hb : b.length ≤ 30) (h1 : (a ++ b).all markB = true) (h2 : fromB play 0 1000000 = true) : edgesE a b play = if ordB a = false ∨ ordB b = false then 5 else 0 := by
  rw [List.all_append] at h1
  obtain ⟨h3, h4⟩ : a.all markB = true ∧ b.all markB = true := by simpa using h1
  unfold edgesE
  rw [if_neg (by omega), h2, h3, h4, if_neg (by simp)]

set_option maxRecDepth 100000 in
set_option maxHeartbeats 4000000 in
theorem refEdges_any (a b : List (Int × Int)) (play : Int) (A B : Option Addr) (ca cb : Nat) (w : World) (hA : Prs w A a) (hB : Prs w B b) :
    Calls Try.prog 60 #[.slice A a.length ca, .slice B b.length cb, .int .i64 play] w fun e w' => e = .returned (.int .i64 (edgesE a b play)) ∧ Aft w w' := by
  by_cases h1 : 30 < a.length
  · rw [edgesE_count (.inl h1)]
    have t1 : decide (30 < a.length) = true := by simpa using h1
    have t1i : decide ((30 : Int) < (a.length : Int)) = true := by simp; omega
    clear h1 hA hB
    go_enter Try.func60, Try.ntmps60
    go_wp2_with fail
    go_ret
    exact ⟨rfl, Aft.refl _⟩
  by_cases h2 : 30 < b.length
  · rw [edgesE_count (.inr h2)]
    have t1 : decide (30 < a.length) = false := by simpa using h1
    have t1i : decide ((30 : Int) < (a.length : Int)) = false := by simp; omega
    have t2 : decide (30 < b.length) = true := by simpa using h2
    have t2i : decide ((30 : Int) < (b.length : Int)) = true := by simp; omega
    clear h1 h2 hA hB
    go_enter Try.func60, Try.ntmps60
    go_wp2_with fail
    go_ret
    exact ⟨rfl, Aft.refl _⟩
  have ha : a.length ≤ 30 := by omega
  have hb : b.length ≤ 30 := by omega
  have t1 : decide (30 < a.length) = false := by simpa using h1
  have t1i : decide ((30 : Int) < (a.length : Int)) = false := by simp; omega
  have t2 : decide (30 < b.length) = false := by simpa using h2
  have t2i : decide ((30 : Int) < (b.length : Int)) = false := by simp; omega
  have HA := Lib.hid hA
  have HB := Lib.hid hB
  clear h1 h2 hA hB
  have h0 := own_empty w 131 2
  have ha0 := Aft.alloc w (.cells #[] 131)
  obtain ⟨ev, hev⟩ : ∃ z, edgesE a b play = z := ⟨_, rfl⟩
  have HV4 : Hid ((a ++ b).all markB = false ∨ fromB play 0 1000000 = false → ev = 4) := Lib.hid fun h => hev.symm.trans (edgesE_value ha hb (h))
  have HORD : Hid ((a ++ b).all markB = true → fromB play 0 1000000 = true → ev = if ordB a = false ∨ ordB b = false then 5 else 0) := Lib.hid fun h1 h2 => hev.symm.trans (edgesE_order ha hb (h1) h2)
  rw [hev]
  clear hev
  go_enter Try.func60, Try.ntmps60
  go_upto_region 4 with (at_builtin; first | (refine wpList_app tyL59 rfl _ _ rfl ha0 rfl h0 rfl (flat_len (enc := enc2) (sz := 2) (fun _ => rfl) a) (rows_nil HA.out) (rows_src (enc := enc2) (fun _ => rfl) (by decide) (HA.out.aft ha0)) (enc2_one a) (by omega) (by decide) ?_; intro v1 w1 hown1 hgrow1 haft1) | (refine wpList_app tyL59 rfl _ _ rfl haft1 rfl hown1 rfl (flat_len (enc := enc2) (sz := 2) (fun _ => rfl) b) (rows_nil HB.out) (rows_src (enc := enc2) (fun _ => rfl) (by decide) (HB.out.aft haft1)) (enc2_one b) (by omega) (by decide) ?_; intro v2 w2 hown2 hgrow2 haft2))
  have ho : w2.ownsRow w.heap.size 131 2 v2 (a ++ b).length ((a ++ b).flatMap enc2) := by simpa using hown2
  obtain ⟨L, hL⟩ : ∃ L, a ++ b = L := ⟨_, rfl⟩
  have hlen : L.length = a.length + b.length := by rw [← hL, List.length_append]
  rw [hL] at ho
  obtain ⟨AL, cL, rfl, -, hp, -⟩ := own_flat (enc := enc2) (fun _ => rfl) ho (by omega)
  have HP : Hid (Prs w2 AL L) := Lib.hid hp
  have HW := Lib.hid haft2
  have HL := Lib.hid hL
  rw [hL] at HV4 HORD
  have HLEN := Lib.hid hlen
  have hl60 : L.length ≤ 60 := by omega
  clear hlen
  clear hown1 hgrow1 haft1 hown2 hgrow2 haft2 ho hp hL h0 ha0 t1 t2 t1i t2i
  go_upto_block 0 with fail
  refine wp_block ?_
  go_loopw [8] (fun i wr => ∃ k : Nat, i = .int .i64 (k : Nat) ∧ k ≤ L.length ∧ Hid ((L.take k).all markB = true) ∧ Aft w2 wr) (fun i _ => L.length - (intOf i).toNat)
  case atStart => exact ⟨0, rfl, by omega, Lib.hid (by simp), Aft.refl _⟩
  case round =>
    obtain ⟨k, rfl, hk, HT, hw1⟩ := hrel
    have H2 := Lib.hid hw1
    clear hw1
    by_cases hkl : k < L.length
    · have t1 : decide (k < L.length) = true := by simpa using hkl
      obtain ⟨bl, ol, rfl, hbl, hcl⟩ := (HP.out.aft H2.out).at hkl
      obtain ⟨x0, x1⟩ := hcl k hkl
      have HTS : Hid (L.take (k + 1) = L.take k ++ [L[k]]) := Lib.hid (List.take_succ_eq_append_getElem hkl)
      have HBAD : Hid (markB L[k] = false → ev = 4) := Lib.hid fun h => HV4.out (.inl (by
        cases e : L.all markB
        · rfl
        · rw [List.all_eq_true.1 e _ (List.getElem_mem hkl)] at h
          cases h))
      obtain ⟨⟨px, py⟩, hp⟩ : ∃ p, L[k] = p := ⟨_, rfl⟩
      rw [hp] at x0 x1 HTS HBAD
      dsimp only at x0 x1
      clear hcl hp
      have HIN : Hid (markB (px, py) = (fromB px (-1000000) 1000000 && fromB py 0 20)) := Lib.hid rfl
      cases e1 : fromB px (-1000000) 1000000
      · have F1 := Lib.hid e1
        rw [e1] at HIN
        have HR := Lib.hid (HBAD.out HIN.out)
        clear e1 HBAD
        go_wp2_with (go_at_call 61; refine (outside_any _ _ _ _).mono ?_; rintro e w9 ⟨rfl, rfl⟩; rw [F1.out])
        obtain rfl := HR.out
        go_ret
        exact ⟨rfl, HW.out.trans H2.out⟩
      · have F1 := Lib.hid e1
        rw [e1] at HIN
        clear e1
        cases e2 : fromB py 0 20
        · have F2 := Lib.hid e2
          rw [e2] at HIN
          have HR := Lib.hid (HBAD.out HIN.out)
          clear e2 HBAD
          go_wp2_with (go_at_call 61; refine (outside_any _ _ _ _).mono ?_; rintro e w9 ⟨rfl, rfl⟩; first | rw [F1.out] | rw [F2.out])
          obtain rfl := HR.out
          go_ret
          exact ⟨rfl, HW.out.trans H2.out⟩
        · have F2 := Lib.hid e2
          rw [e2] at HIN
          clear e2 HBAD
          have HN : Hid ((L.take (k + 1)).all markB = true) := Lib.hid (by rw [HTS.out, List.all_append, HT.out]; simp [HIN.out])
          go_wp2_with (go_at_call 61; refine (outside_any _ _ _ _).mono ?_; rintro e w9 ⟨rfl, rfl⟩; first | rw [F1.out] | rw [F2.out])
          exact ⟨⟨k + 1, by go_num, by omega, HN, H2.out⟩, by simp [intOf]; omega⟩
    · have t1 : decide (k < L.length) = false := by simpa using hkl
      have et : L.take k = L := List.take_of_length_le (by omega)
      have ht := HT.out
      rw [et] at ht
      have HALL := Lib.hid ht
      clear et ht HT
      cases e1 : fromB play 0 1000000
      · have F1 := Lib.hid e1
        have HR := Lib.hid (HV4.out (.inr e1))
        clear e1
        go_wp2_with (go_at_call 61; refine (outside_any _ _ _ _).mono ?_; rintro e w9 ⟨rfl, rfl⟩; rw [F1.out])
        obtain rfl := HR.out
        go_ret
        exact ⟨rfl, HW.out.trans H2.out⟩
      · have F1 := Lib.hid e1
        have HO5 := Lib.hid (HORD.out HALL.out e1)
        clear e1 HV4 HORD HALL
        go_upto_block 2 with (go_at_call 61; refine (outside_any _ _ _ _).mono ?_; rintro e w9 ⟨rfl, rfl⟩; rw [F1.out])
        refine wp_block ?_
        go_loopw [9] (fun i wr3 => ∃ k : Nat, i = .int .i64 ((k : Int) + 1) ∧ k ≤ L.length ∧ Hid (OrdM a.length L (k + 1)) ∧ Aft w2 wr3) (fun i _ => L.length + 1 - (intOf i).toNat)
        case atStart => exact ⟨0, rfl, by omega, Lib.hid fun i h1 h2 _ _ => absurd h1 (by omega), H2.out⟩
        case round =>
          clear t1 hkl hk
          obtain ⟨k, rfl, hk, HOR, hw3⟩ := hrel
          have H3 := Lib.hid hw3
          clear hw3
          by_cases hkl : k + 1 < L.length
          · have t3 : decide ((k : Int) + 1 < (L.length : Int)) = true := by rw [decide_eq_true_eq]; omega
            obtain ⟨b9, o9, rfl, hb9, hc⟩ := (HP.out.aft H3.out).at hkl
            have x0 := (hc k (by omega)).1
            have x1 := (hc (k + 1) hkl).1
            have hg0 : (L.getD k (0, 0)).1 = L[k].1 := by rw [List.getD_eq_getElem?_getD, List.getElem?_eq_getElem (by omega)]; rfl
            have hg1 : (L.getD (k + 1) (0, 0)).1 = L[k + 1].1 := by rw [List.getD_eq_getElem?_getD, List.getElem?_eq_getElem hkl]; rfl
            obtain ⟨v0, hv0⟩ : ∃ v, L[k].1 = v := ⟨_, rfl⟩
            obtain ⟨v1, hv1⟩ : ∃ v, L[k + 1].1 = v := ⟨_, rfl⟩
            rw [hv0] at x0 hg0
            rw [hv1] at x1 hg1
            have hk1 : (k : Int) + 1 - 1 = (k : Int) := by omega
            have HST : Hid ((k + 1 ≠ a.length → v0 < v1) → OrdM a.length L (k + 1 + 1)) := Lib.hid fun h => HOR.out.step fun hn => by rw [Nat.add_sub_cancel, hg0, hg1]; exact h hn
            have HNO : Hid (k + 1 ≠ a.length → ¬ v0 < v1 → ev = 5) := Lib.hid fun hn h => by
              rw [HO5.out, if_pos]
              have hl2 := HL.out
              have := not_both (a := a) (b := b) (k := k + 1) (by omega) (by rw [hl2]; exact hkl) hn (by rw [hl2, Nat.add_sub_cancel, hg0, hg1]; exact h)
              exact this
            clear hc hv0 hv1 hg0 hg1
            by_cases hn : k + 1 = a.length
            · have tn : ((k : Int) + 1 != (a.length : Int)) = false := by rw [bne_eq_false_iff_eq]; omega
              have HN2 := Lib.hid (HST.out fun h => absurd hn h)
              clear hn HST HNO
              go_upto_region 14 with fail
              go_quiet (fail)
              have ha6 := Lib.hid (H3.out.then_drewN nq)
              generalize wr.drewN nq = W6 at *
              clear x0 x1
              go_wp2_with fail
              exact ⟨⟨k + 1, by go_num, by omega, HN2, ha6.out⟩, by simp [intOf]; omega⟩
            · have tn : ((k : Int) + 1 != (a.length : Int)) = true := by rw [bne_iff_ne]; omega
              by_cases hlt : v0 < v1
              · have t4 : decide (v1 ≤ v0) = false := by rw [decide_eq_false_iff_not]; omega
                have HN2 := Lib.hid (HST.out fun h => hlt)
                clear hn HST HNO hlt
                go_upto_region 14 with fail
                go_quiet (fail)
                have ha6 := Lib.hid (H3.out.then_drewN nq)
                generalize wr.drewN nq = W6 at *
                clear x0 x1
                go_wp2_with fail
                exact ⟨⟨k + 1, by go_num, by omega, HN2, ha6.out⟩, by simp [intOf]; omega⟩
              · have t4 : decide (v1 ≤ v0) = true := by rw [decide_eq_true_eq]; omega
                have HR := Lib.hid (HNO.out hn hlt)
                clear hn HST HNO hlt
                go_upto_region 14 with fail
                go_quiet (fail)
                have ha6 := Lib.hid (H3.out.then_drewN nq)
                generalize wr.drewN nq = W6 at *
                clear x0 x1
                go_wp2_with fail
                obtain rfl := HR.out
                go_ret
                exact ⟨rfl, HW.out.trans ha6.out⟩
          · have t3 : decide ((k : Int) + 1 < (L.length : Int)) = false := by rw [decide_eq_false_iff_not]; omega
            have HR : Hid (ev = 0) := Lib.hid (by
              have h9 := HOR.out
              rw [← HL.out] at h9
              obtain ⟨h1, h2⟩ := h9.both (by have := HLEN.out; omega)
              rw [HO5.out, h1, h2]
              rfl)
            go_wp2_with fail
            obtain rfl := HR.out
            go_ret
            exact ⟨rfl, HW.out.trans H3.out⟩
end Go.Proofs
end
