/- Own texts, merged: Yh Up Uq Va. -/
import Derived.Test.YthegmhnaiabcpaaD20
set_option linter.unusedSimpArgs false
set_option linter.unusedVariables false
set_option linter.unnecessarySimpa false
section
/- Walks: the reference's Most 27. -/
namespace Sheet
variable {S : Nat → Nat → Bool} {n m : Nat} {V : Nat → Nat → Nat}
/-- The table is right from (i, k) on. -/
def DpAt (S : Nat → Nat → Bool) (n m : Nat) (V : Nat → Nat → Nat) (i k : Nat) : Prop := ∀ i' k', i' ≤ n → k' ≤ m → (i < i' ∨ (i = i' ∧ k ≤ k')) → Long S n m i' k' (V i' k') ∧ V i' k' + i' ≤ n
def putT (V : Nat → Nat → Nat) (a b x : Nat) : Nat → Nat → Nat := fun i k => if i = a ∧ k = b then x else V i k
def rowT (V : Nat → Nat → Nat) (a : Nat) : Nat → Nat → Nat := fun i k => if i = a then 0 else V i k
theorem DpAt.start : DpAt S n m (rowT V n) n 0 := fun i' k' h1 h2 h3 => by
  have e : i' = n := by omega
  subst e
  have h0 : rowT V i' i' k' = 0 := if_pos rfl
  rw [h0]
  exact ⟨Long.out (.inl (Nat.le_refl _)), by omega⟩
theorem DpAt.row {a : Nat} (ha : a < n) (h : DpAt S n m V (a + 1) 0) : DpAt S n m (rowT V a) a m := fun i' k' h1 h2 h3 => by
  by_cases e : i' = a
  · subst e
    have h0 : rowT V i' i' k' = 0 := if_pos rfl
    rw [h0]
    exact ⟨Long.out (.inr (by omega)), by omega⟩
  · have h0 : rowT V a i' k' = V i' k' := if_neg e
    rw [h0]
    exact h i' k' h1 h2 (by omega)
theorem DpAt.put {a b x : Nat} (h : DpAt S n m V a (b + 1)) : DpAt S n m (putT V a b x) a (b + 1) := fun i' k' h1 h2 h3 => by
  have h0 : putT V a b x i' k' = V i' k' := if_neg (by omega)
  rw [h0]
  exact h i' k' h1 h2 h3
theorem DpAt.step {a b x : Nat} (ha : a < n) (hb : b < m) (h : DpAt S n m V a (b + 1)) (hx : (if S a b = true then max (max (V (a + 1) b) (V a (b + 1))) (V (a + 1) (b + 1) + 1) else max (V (a + 1) b) (V a (b + 1))) = x) : DpAt S n m (putT V a b x) a b := fun i' k' h1 h2 h3 => by
  by_cases e : i' = a ∧ k' = b
  · obtain ⟨rfl, rfl⟩ := e
    have h0 : putT V i' k' x i' k' = x := if_pos ⟨rfl, rfl⟩
    rw [h0]
    have p1 := h (i' + 1) k' (by omega) (by omega) (by omega)
    have p2 := h i' (k' + 1) (by omega) (by omega) (by omega)
    have p3 := h (i' + 1) (k' + 1) (by omega) (by omega) (by omega)
    refine ⟨?_, ?_⟩
    · rw [← hx]
      exact Long.step ha hb p1.1 p2.1 p3.1
    · rw [← hx]
      split <;> omega
  · have h0 : putT V a b x i' k' = V i' k' := if_neg e
    rw [h0]
    exact h i' k' h1 h2 (by omega)
theorem DpAt.same {a b : Nat} {W : Nat → Nat → Nat} (h : DpAt S n m V a b) (he : ∀ i k, V i k = W i k) : DpAt S n m W a b := fun i k h1 h2 h3 => by rw [← he]; exact h i k h1 h2 h3
theorem putT_putT (V : Nat → Nat → Nat) (a b x y : Nat) (i k : Nat) : putT V a b y i k = putT (putT V a b x) a b y i k := by
  unfold putT
  by_cases e : i = a ∧ k = b
  · rw [if_pos e, if_pos e]
  · rw [if_neg e, if_neg e, if_neg e]
end Sheet
namespace Go.Proofs
open Go.RowKit
attribute [local go_sem] Oper.semAt_some

/-- A table of rows of M1 numbers, in memory of the call's own: the rows from i0 on stand. -/
structure TabM (w : World) (T N1 M1 : Nat) (G : Nat → Nat) (V : Nat → Nat → Nat) (i0 : Nat) (W : World) : Prop where
  aft : Aft w W
  ge : w.heap.size ≤ T
  top : ∃ cs, Blk W T 51 cs ∧ cs.size = N1 ∧ ∀ i, i0 ≤ i → i < N1 → cs[i]? = some (.slice (some ⟨G i, 0, none⟩) M1 M1)
  row : ∀ i, i0 ≤ i → i < N1 → w.heap.size ≤ G i ∧ G i ≠ T ∧ RI W (G i) M1 (V i)
  ne : ∀ i j, i0 ≤ i → i < N1 → i0 ≤ j → j < N1 → i ≠ j → G i ≠ G j
section
variable {w W W' : World} {T N1 M1 : Nat} {G : Nat → Nat} {V : Nat → Nat → Nat} {i0 : Nat}
theorem TabM.later (h : TabM w T N1 M1 G V i0 W) (ha : Aft W W') : TabM w T N1 M1 G V i0 W' :=
  ⟨h.aft.trans ha, h.ge, let ⟨cs, h1, h2⟩ := h.top; ⟨cs, h1.aft ha, h2⟩, fun i h1 h2 => let ⟨a, b, c⟩ := h.row i h1 h2; ⟨a, b, c.aft ha⟩, h.ne⟩
theorem TabM.lt (h : TabM w T N1 M1 G V i0 W) : T < W.heap.size := let ⟨_, h1, _⟩ := h.top; h1.lt
theorem TabM.tcell (h : TabM w T N1 M1 G V i0 W) {i : Nat} (h1 : i0 ≤ i) (h2 : i < N1) : W.cell? ⟨T, i, none⟩ = some (.slice (some ⟨G i, 0, none⟩) M1 M1) := let ⟨_, k1, _, k3⟩ := h.top; (k1.cell i).trans (k3 i h1 h2)
theorem TabM.put (h : TabM w T N1 M1 G V i0 W) {a : Nat} (h1 : i0 ≤ a) (h2 : a < N1) (b x : Nat) : TabM w T N1 M1 G (Sheet.putT V a b x) i0 (W.setCell ⟨G a, b, none⟩ (.int .i64 (x : Nat))) := by
  obtain ⟨k1, k2, k3⟩ := h.row a h1 h2
  refine ⟨h.aft.then_setCell (p := ⟨G a, b, none⟩) k1 _, h.ge, let ⟨cs, j1, j2⟩ := h.top; ⟨cs, j1.far (p := ⟨G a, b, none⟩) k2.symm _, j2⟩, fun i g1 g2 => ?_, h.ne⟩
  obtain ⟨l1, l2, l3⟩ := h.row i g1 g2
  refine ⟨l1, l2, ?_⟩
  by_cases e : i = a
  · subst e
    refine (l3.put b x).congr fun j _ => ?_
    unfold Sheet.putT
    by_cases e2 : j = b
    · rw [if_pos e2, if_pos ⟨rfl, e2⟩]
    · rw [if_neg e2, if_neg fun e3 => e2 e3.2]
  · refine (l3.far (p := ⟨G a, b, none⟩) (h.ne i a g1 g2 h1 h2 e) _).congr fun j _ => ?_
    exact (if_neg fun e3 => e e3.1).symm
/-- A new row. -/
theorem TabM.push (h : TabM w T N1 M1 G V (i0 + 1) W) (hi : i0 < N1) {csm : Array Value} (hr : RI (W.alloc (.cells csm 3)) W.heap.size M1 fun _ => 0) :
    TabM w T N1 M1 (fun i => if i = i0 then W.heap.size else G i) (Sheet.rowT V i0) i0 ((W.alloc (.cells csm 3)).setCell ⟨T, i0, none⟩ (.slice (some ⟨W.heap.size, 0, none⟩) M1 M1)) := by
  have ha := Aft.alloc W (.cells csm 3)
  obtain ⟨cs, j1, j2, j3⟩ := h.top
  have hT := j1.lt
  refine ⟨(h.aft.trans ha).then_setCell (p := ⟨T, i0, none⟩) h.ge _, h.ge, ⟨_, (j1.aft ha).store i0 _, by simpa using j2, fun i g1 g2 => ?_⟩, fun i g1 g2 => ?_, fun i j g1 g2 g3 g4 hne => ?_⟩
  · by_cases e : i = i0
    · subst e
      rw [if_pos rfl, Array.getElem?_setIfInBounds_self_of_lt (by omega)]
    · rw [if_neg e, Array.getElem?_setIfInBounds_ne (by omega)]
      exact j3 i (by omega) g2
  · by_cases e : i = i0
    · subst e
      rw [if_pos rfl]
      refine ⟨h.aft.size, by omega, (hr.far (p := ⟨T, i, none⟩) (by show W.heap.size ≠ T; omega) _).congr fun j _ => (if_pos rfl).symm⟩
    · rw [if_neg e]
      obtain ⟨l1, l2, l3⟩ := h.row i (by omega) g2
      exact ⟨l1, l2, ((l3.aft ha).far (p := ⟨T, i0, none⟩) l2 _).congr fun j _ => (if_neg e).symm⟩
  · have lt : ∀ k, i0 + 1 ≤ k → k < N1 → G k < W.heap.size := fun k q1 q2 => (h.row k q1 q2).2.2.lt
    by_cases e : i = i0
    · rw [if_pos e, if_neg (by omega)]
      have := lt j (by omega) g4
      omega
    · rw [if_neg e]
      by_cases e2 : j = i0
      · rw [if_pos e2]
        have := lt i (by omega) g2
        omega
      · rw [if_neg e2]
        exact h.ne i j (by omega) g2 (by omega) g4 hne
end
theorem tm_made (w : World) (N : Nat) (hN : N ≤ 1000) : ∃ cs, (Instr.makeSlice 50 (.int .i64 N) (.int .i64 N)).run Try.prog w = .ok (.slice (some ⟨w.heap.size, 0, none⟩) N N) (w.alloc (.cells cs 51)) ∧ cs.size = N ∧ ∀ i, i < N → cs[i]? = some (.slice none 0 0) := by
  obtain ⟨ht, ⟨i, z, hi, hz, hsize, hby, hzs⟩, hsz⟩ := ty41
  have hzz : (Try.prog.info? 51).bind (·.zero) = some (.slice none 0 0) := by kernel_rfl
  rw [hi] at hzz
  have hzz : i.zero = some (.slice none 0 0) := hzz
  rw [hz] at hzz
  cases hzz
  have h := run_makeSlice (P := Try.prog) (w := w) 50 51 i (.slice none 0 0) ht hi hz .i64 .i64 N N (by omega) (Int.le_refl _) (by rw [hsize]; simp; omega) (by rw [hby]; omega) (by omega)
  rw [Int.toNat_natCast, hsize] at h
  refine ⟨_, h, by simp [Go.madeCells], fun j hj => ?_⟩
  change (Go.madeCells #[Value.slice none 0 0] (N * 1))[j]? = some (.slice none 0 0)
  simp [Go.madeCells, hj, Nat.mod_one]

/-- What Most answers. -/
def MostR (play : Int) (la lb : List (Int × Int)) (w : World) (e : Ending) (w' : World) : Prop := ∃ t : Nat, e = .returned (.tuple #[.int .i64 (t : Nat), .int .i64 0]) ∧ Sheet.Long (sameB play la lb) la.length lb.length 0 0 t ∧ Aft w w'
theorem most_bad (la lb : List (Int × Int)) (play : Int) (A B : Option Addr) (ca cb : Nat) (w : World) (hA : Prs w A la) (hB : Prs w B lb) (he : edgesE la lb play ≠ 0) :
    Calls Try.prog 27 #[.slice A la.length ca, .slice B lb.length cb, .int .i64 play] w fun e w' => e = .returned (.tuple #[.int .i64 0, .int .i64 (edgesE la lb play)]) ∧ Aft w w' := by
  have HRE := Lib.hid (refEdges_any la lb play A B ca cb w hA hB)
  obtain ⟨ee, hee⟩ : ∃ z, edgesE la lb play = z := ⟨_, rfl⟩
  rw [hee] at HRE he ⊢
  have t1 : (ee != 0) = true := by simpa using he
  clear hee hA hB he
  go_enter Try.func27, Try.ntmps27
  go_wp2_with (go_at_call 60; refine HRE.out.mono ?_; rintro e w1 ⟨rfl, u, rfl⟩)
  exact bodyPost_ret (v := .tuple #[.int .i64 0, .int .i64 ee]) (by simp [results, Try.results27, go_sem]) rfl ⟨rfl, Aft.lat _ u⟩

set_option maxRecDepth 100000 in
set_option maxHeartbeats 8000000 in
theorem most_good (la lb : List (Int × Int)) (play : Int) (A B : Option Addr) (ca cb : Nat) (w : World) (hA : Prs w A la) (hB : Prs w B lb) (he : edgesE la lb play = 0) :
    Calls Try.prog 27 #[.slice A la.length ca, .slice B lb.length cb, .int .i64 play] w (MostR play la lb w) := by
  have HRE := Lib.hid (refEdges_any la lb play A B ca cb w hA hB)
  have HA := Lib.hid hA
  have HB := Lib.hid hB
  obtain ⟨hla, hlb, hma, hmb, -, -, -⟩ := edgesE_ok he
  rw [he] at HRE
  have HSA : Hid (∀ i k (hi : i < la.length) (hk : k < lb.length) W, Calls Try.prog 62 #[.agg #[.int .i64 la[i].1, .int .i64 la[i].2], .agg #[.int .i64 lb[k].1, .int .i64 lb[k].2], .int .i64 play] W fun e w' => e = .returned (.bool (sameB play la lb i k)) ∧ Aft W w') := Lib.hid fun i k hi hk W => by
    have := sameR_any la[i] lb[k] play W (List.all_eq_true.1 hma _ (List.getElem_mem hi)) (List.all_eq_true.1 hmb _ (List.getElem_mem hk))
    have e : sameB play la lb i k = sameM play la[i] lb[k] := by
      unfold sameB
      rw [List.getD_eq_getElem?_getD, List.getD_eq_getElem?_getD, List.getElem?_eq_getElem hi, List.getElem?_eq_getElem hk]
      rfl
    rw [e]
    exact this
  clear hA hB he hma hmb
  go_enter Try.func27, Try.ntmps27
  go_upto_region 4 with (go_at_call 60; refine HRE.out.mono ?_; rintro e W1 ⟨rfl, ha1⟩)
  have H1 := Lib.hid ha1
  clear ha1 HRE
  -- the table, and its last row
  obtain ⟨cs1, hmk, hcs1, hcs2⟩ := tm_made W1 (la.length + 1) (by omega)
  obtain ⟨T, hT⟩ : ∃ T, W1.heap.size = T := ⟨_, rfl⟩
  have hmk' : (Instr.makeSlice 50 (.int .i64 ((la.length : Int) + 1)) (.int .i64 ((la.length : Int) + 1))).run Try.prog W1 = .ok (.slice (some ⟨W1.heap.size, 0, none⟩) (la.length + 1) (la.length + 1)) (W1.alloc (.cells cs1 51)) := by
    have := hmk
    rwa [show (((la.length + 1 : Nat)) : Int) = (la.length : Int) + 1 by omega] at this
  obtain ⟨N1, hN1⟩ : ∃ N, la.length + 1 = N := ⟨_, rfl⟩
  obtain ⟨M1, hM1⟩ : ∃ M, lb.length + 1 = M := ⟨_, rfl⟩
  rw [hN1] at hmk' hcs1 hcs2
  have HB1 := Lib.hid (Blk.new W1 51 cs1)
  have HA1 := Lib.hid (Aft.alloc W1 (.cells cs1 51))
  have HNM := Lib.hid (And.intro hN1 hM1)
  have hN31 : N1 ≤ 31 := by omega
  have hM31 : M1 ≤ 31 := by omega
  have hnN : la.length < N1 := by omega
  have hmM : lb.length < M1 := by omega
  clear hmk hN1 hM1
  go_upto_region 5 with fail
  clear hmk'
  rw [hT] at HB1
  try rw [hT]
  generalize W1.alloc (.cells cs1 51) = W2 at *
  have h0 : TabM w T N1 M1 (fun _ => 0) (fun _ _ => 0) N1 W2 := ⟨H1.out.trans HA1.out, by rw [← hT]; exact H1.out.size, ⟨cs1, HB1.out, hcs1, fun i h1 h2 => by omega⟩, fun i h1 h2 => by omega, fun i j h1 h2 => by omega⟩
  have y0 : W2.cell? ⟨T, la.length, none⟩ = some (.slice none 0 0) := (HB1.out.cell _).trans (hcs2 _ hnN)
  have y1 := HB1.out.frozen la.length
  have y2 := HB1.out.lt
  obtain ⟨cs2, hmk, hri⟩ := ri_made W2 (lb.length + 1) (by omega)
  have hmk' : (Instr.makeSlice 51 (.int .i64 ((lb.length : Int) + 1)) (.int .i64 ((lb.length : Int) + 1))).run Try.prog W2 = .ok (.slice (some ⟨W2.heap.size, 0, none⟩) M1 M1) (W2.alloc (.cells cs2 3)) := by
    have := hmk
    rw [show (((lb.length + 1 : Nat)) : Int) = (lb.length : Int) + 1 by omega] at this
    rw [← HNM.out.2]
    exact this
  rw [HNM.out.2] at hri
  have h0 : TabM w T N1 M1 (fun _ => 0) (fun _ _ => 0) (la.length + 1) W2 := by rw [HNM.out.1]; exact h0
  have h1 := h0.push (i0 := la.length) hnN hri
  have HT1 := Lib.hid h1
  have z0 : (W2.alloc (.cells cs2 3)).cell? ⟨T, la.length, none⟩ = some (.slice none 0 0) := ((HB1.out.aft (Aft.alloc W2 (.cells cs2 3))).cell _).trans (hcs2 _ hnN)
  have z1 := (HB1.out.aft (Aft.alloc W2 (.cells cs2 3))).frozen la.length
  have z2 := (HB1.out.aft (Aft.alloc W2 (.cells cs2 3))).lt
  have iN : (0 : Int) ≤ (la.length : Int) ∧ (la.length : Int) < (N1 : Int) := by omega
  obtain ⟨W3, hW3⟩ : ∃ X, X = (W2.alloc (.cells cs2 3)).setCell ⟨T, la.length, none⟩ (.slice (some ⟨W2.heap.size, 0, none⟩) M1 M1) := ⟨_, rfl⟩
  rw [← hW3] at HT1
  rw [World.setCell_alloc_past _ _ _ _ y2] at hW3
  have HW3 := Lib.hid hW3
  clear hmk hri h0 h1 hcs1 hcs2 HB1 HA1 hW3
  go_upto_region 6 with fail
  rw [← HW3.out]
  clear hmk' y0 y1 y2 z0 z1 z2 HW3 iN hT
  have HS0 : Hid (∃ G V, TabM w T N1 M1 G V la.length W3 ∧ Sheet.DpAt (sameB play la lb) la.length lb.length V la.length 0) := Lib.hid ⟨_, _, HT1.out, Sheet.DpAt.start⟩
  clear HT1 H1
  go_upto_block 0 with fail
  refine wp_block ?_
  go_loopw [10] (fun x wr => ∃ (i : Nat) (z : Int), x = .int .i64 z ∧ z + 1 = (i : Int) ∧ i ≤ la.length ∧ Hid (∃ G V, TabM w T N1 M1 G V i wr ∧ Sheet.DpAt (sameB play la lb) la.length lb.length V i 0)) (fun x _ => (intOf x + 1).toNat)
  case atStart => exact ⟨la.length, (la.length : Int) - 1, by go_num, by omega, by omega, HS0⟩
  case round =>
    rename World => wo
    obtain ⟨i, z, rfl, hzi, hil, HS⟩ := hrel
    clear HS0
    by_cases hi0 : 0 < i
    · obtain ⟨a, rfl⟩ : ∃ a, i = a + 1 := ⟨i - 1, by omega⟩
      obtain rfl : z = (a : Int) := by omega
      obtain ⟨G, V, hTM, hDP⟩ := HS.out
      have hal : a < la.length := by omega
      have haN : a < N1 := by omega
      have t1 : decide ((0 : Int) ≤ (a : Int)) = true := by simp
      obtain ⟨cs3, hmk, hri⟩ := ri_made wo (lb.length + 1) (by omega)
      have hmk' : (Instr.makeSlice 51 (.int .i64 ((lb.length : Int) + 1)) (.int .i64 ((lb.length : Int) + 1))).run Try.prog wo = .ok (.slice (some ⟨wo.heap.size, 0, none⟩) M1 M1) (wo.alloc (.cells cs3 3)) := by
        have := hmk
        rw [show (((lb.length + 1 : Nat)) : Int) = (lb.length : Int) + 1 by omega] at this
        rw [← HNM.out.2]
        exact this
      rw [HNM.out.2] at hri
      have HT2 := Lib.hid (hTM.push haN hri)
      have HD2 := Lib.hid (hDP.row hal)
      obtain ⟨cst, k1, k2, k3⟩ := hTM.top
      obtain ⟨ov, hov⟩ : ∃ v, cst[a]? = some v := ⟨_, Array.getElem?_eq_getElem (by omega)⟩
      have z0 : (wo.alloc (.cells cs3 3)).cell? ⟨T, a, none⟩ = some ov := ((k1.aft (Aft.alloc wo (.cells cs3 3))).cell _).trans hov
      have z1 := (k1.aft (Aft.alloc wo (.cells cs3 3))).frozen a
      have z2 := (k1.aft (Aft.alloc wo (.cells cs3 3))).lt
      have y2 := k1.lt
      have iN : (0 : Int) ≤ (a : Int) ∧ (a : Int) < (N1 : Int) := by omega
      obtain ⟨W3, hW3⟩ : ∃ X, X = (wo.alloc (.cells cs3 3)).setCell ⟨T, a, none⟩ (.slice (some ⟨wo.heap.size, 0, none⟩) M1 M1) := ⟨_, rfl⟩
      rw [← hW3] at HT2
      rw [World.setCell_alloc_past _ _ _ _ y2] at hW3
      have HW3 := Lib.hid hW3
      clear hmk hri hW3 k1 k2 k3 hov hTM hDP
      go_upto_region 10 with fail
      rw [← HW3.out]
      clear hmk' z0 z1 z2 y2 HW3 t1
      have HS2 : Hid (∃ G V, TabM w T N1 M1 G V a W3 ∧ Sheet.DpAt (sameB play la lb) la.length lb.length V a lb.length) := Lib.hid ⟨_, _, HT2.out, HD2.out⟩
      clear HT2 HD2 HS
      go_upto_block 2 with fail
      refine wp_block ?_
      go_loopw [11] (fun x wr => ∃ (k : Nat) (z : Int), x = .int .i64 z ∧ z + 1 = (k : Int) ∧ k ≤ lb.length ∧ Hid (∃ G V, TabM w T N1 M1 G V a wr ∧ Sheet.DpAt (sameB play la lb) la.length lb.length V a k)) (fun x _ => (intOf x + 1).toNat)
      case atStart => exact ⟨lb.length, (lb.length : Int) - 1, by go_num, by omega, by omega, HS2⟩
      case round =>
        rename World => wr2
        obtain ⟨k, z, rfl, hzk, hkl, HS3⟩ := hrel
        clear HS2
        by_cases hk0 : 0 < k
        · obtain ⟨b, rfl⟩ : ∃ b, k = b + 1 := ⟨k - 1, by omega⟩
          obtain rfl : z = (b : Int) := by omega
          obtain ⟨G, V, hTM, hDP⟩ := HS3.out
          have hbl : b < lb.length := by omega
          have t2 : decide ((0 : Int) ≤ (b : Int)) = true := by simp
          have HSM := Lib.hid (HSA.out a b hal hbl)
          have p1 := hDP (a + 1) b (by omega) (by omega) (by omega)
          have p2 := hDP a (b + 1) (by omega) (by omega) (by omega)
          have p3 := hDP (a + 1) (b + 1) (by omega) (by omega) (by omega)
          have hST : ∀ x, (if sameB play la lb a b = true then max (max (V (a + 1) b) (V a (b + 1))) (V (a + 1) (b + 1) + 1) else max (V (a + 1) b) (V a (b + 1))) = x → Sheet.DpAt (sameB play la lb) la.length lb.length (Sheet.putT V a b x) a b := fun x hx => hDP.step hal hbl hx
          have r0 := hTM.row a (Nat.le_refl _) (by omega)
          have r1 := hTM.row (a + 1) (by omega) (by omega)
          have q0 := hTM.tcell (Nat.le_refl a) (by omega)
          have q1 := hTM.tcell (i := a + 1) (by omega) (by omega)
          have HPUT := Lib.hid fun W (h : Aft wr2 W) (x : Nat) => (hTM.later h).put (Nat.le_refl a) (by omega) b x
          have HPUT2 := Lib.hid fun W (x y : Nat) (h : TabM w T N1 M1 G (Sheet.putT V a b x) a W) => h.put (Nat.le_refl a) (by omega) b y
          have HTL := Lib.hid hTM.lt
          obtain ⟨a1, ha1⟩ : ∃ a1, a + 1 = a1 := ⟨_, rfl⟩
          obtain ⟨b1, hb1⟩ : ∃ b1, b + 1 = b1 := ⟨_, rfl⟩
          obtain ⟨x1, hx1⟩ : ∃ x, V (a + 1) b = x := ⟨_, rfl⟩
          obtain ⟨x2, hx2⟩ : ∃ x, V a (b + 1) = x := ⟨_, rfl⟩
          obtain ⟨x3, hx3⟩ : ∃ x, V (a + 1) (b + 1) = x := ⟨_, rfl⟩
          have HX1 := Lib.hid fun W (h : Aft wr2 W) => (r1.2.2.aft h).cell (j := b) (by omega)
          have HX2 := Lib.hid fun W (h : Aft wr2 W) => (r0.2.2.aft h).cell (j := b + 1) (by omega)
          have HX3 := Lib.hid fun W (h : Aft wr2 W) => (r1.2.2.aft h).cell (j := b + 1) (by omega)
          have HX3W := Lib.hid fun W (h : Aft wr2 W) (u : Value) W' (h' : Aft (W.setCell ⟨G a, b, none⟩ u) W') => (((r1.2.2.aft h).far (p := ⟨G a, b, none⟩) (hTM.ne (a + 1) a (by omega) (by omega) (Nat.le_refl _) (by omega) (by omega)) u).aft h').cell (j := b + 1) (by omega)
          have HGN := Lib.hid (hTM.ne a (a + 1) (Nat.le_refl _) (by omega) (by omega) (by omega) (by omega))
          obtain ⟨ga, hga⟩ : ∃ g, G a = g := ⟨_, rfl⟩
          obtain ⟨gb, hgb⟩ : ∃ g, G (a + 1) = g := ⟨_, rfl⟩
          rw [hx1] at p1 HX1 hST
          rw [hx2] at p2 HX2 hST
          rw [hx3] at p3 HX3 HX3W hST
          rw [hga] at q0 r0 HX2 HX3W HPUT HPUT2 HGN
          rw [hgb] at q1 r1 HX1 HX3 HX3W HGN
          rw [ha1] at q1
          rw [hb1] at HX2 HX3 HX3W
          have HGA := Lib.hid (And.intro hga hgb)
          have HA1 := Lib.hid ha1
          have HST := Lib.hid hST
          have HR0 := Lib.hid r0
          have hx1b := p1.2
          have hx2b := p2.2
          have hx3b := p3.2
          have HQ0 := Lib.hid fun W (h : Aft wr2 W) => cellA q0 HTL.out h
          have HQ1 := Lib.hid fun W (h : Aft wr2 W) => cellA q1 HTL.out h
          have ia : (0 : Int) ≤ (a : Int) ∧ (a : Int) < (N1 : Int) := by omega
          have ia1 : (0 : Int) ≤ (a1 : Int) ∧ (a1 : Int) < (N1 : Int) := by omega
          have ib : (0 : Int) ≤ (b : Int) ∧ (b : Int) < (M1 : Int) := by omega
          have ib1 : (0 : Int) ≤ (b1 : Int) ∧ (b1 : Int) < (M1 : Int) := by omega
          have hwa : IntKind.i64.wrap ((a : Int) + 1) = (a1 : Int) := by rw [show (a : Int) + 1 = (a1 : Int) by omega]; exact IntWalk.i64_in _ (by omega)
          have hwb : IntKind.i64.wrap ((b : Int) + 1) = (b1 : Int) := by rw [show (b : Int) + 1 = (b1 : Int) by omega]; exact IntWalk.i64_in _ (by omega)
          obtain ⟨mx, hmx⟩ : ∃ mx, max x1 x2 = mx := ⟨_, rfl⟩
          have hmm : (if (x1 : Int) < (x2 : Int) then (x2 : Int) else (x1 : Int)) = (mx : Int) := by split <;> omega
          have hmmN : (if x1 < x2 then (x2 : Int) else (x1 : Int)) = (mx : Int) := by split <;> omega
          have HDP2 := Lib.hid (hDP.put (x := mx))
          have hmxb : mx ≤ 30 := by omega
          have hx3c : x3 ≤ 30 := by omega
          have HMX := Lib.hid hmx
          clear hTM hDP p1 p2 p3 hST q0 q1 r0 r1 hx1 hx2 hx3 hga hgb hx1b hx2b hx3b hmx
          go_upto_region 13 with fail
          clear t2
          refine wp_region_valsT (by kernel_rfl) 23 114 rfl (by kernel_rfl) (by kernel_rfl) (by kernel_rfl) [.slice (some ⟨T, 0, none⟩) N1 N1, .int .i64 (a : Nat), .pointer (some ⟨T, a, none⟩), .slice (some ⟨ga, 0, none⟩) M1 M1, .int .i64 (b : Nat), .slice (some ⟨T, 0, none⟩) N1 N1, .int .i64 (a : Nat), .int .i64 (a1 : Nat), .pointer (some ⟨T, a1, none⟩), .slice (some ⟨gb, 0, none⟩) M1 M1, .int .i64 (b : Nat), .pointer (some ⟨gb, b, none⟩), .int .i64 (x1 : Nat), .slice (some ⟨T, 0, none⟩) N1 N1, .int .i64 (a : Nat), .pointer (some ⟨T, a, none⟩), .slice (some ⟨ga, 0, none⟩) M1 M1, .int .i64 (b : Nat), .int .i64 (b1 : Nat), .pointer (some ⟨ga, b1, none⟩), .int .i64 (x2 : Nat), .int .i64 (mx : Nat), .pointer (some ⟨ga, b, none⟩)] rfl (fun _ W => Aft wr2 W) (Aft.drew _) ?st1 ?fi1
          case st1 =>
            intro i o v ho hv
            match i, ho, hv with
            | 0, ho, hv =>
              cases ho; cases hv
              refine .inl ⟨rfl, fun done a W hd hp hk hw K hK => ?_⟩
              have e9 := hk.same 9 (by decide)
              exact op_val (by simp [go_sem, ev' e9]) (hK _ hw)
            | 1, ho, hv =>
              cases ho; cases hv
              refine .inl ⟨rfl, fun done a W hd hp hk hw K hK => ?_⟩
              have e10 := hk.same 10 (by decide)
              exact op_val (by simp [go_sem, ev' e10]) (hK _ hw)
            | 2, ho, hv =>
              cases ho; cases hv
              refine .inl ⟨rfl, fun done a W hd hp hk hw K hK => ?_⟩
              have e52 := hk.at_ 0 _ 52 _ rfl (by decide) _ rfl rfl rfl
              have e53 := hk.at_ 1 _ 53 _ rfl (by decide) _ rfl rfl rfl
              exact op_val (by simp [go_sem, ev' e52, ev' e53, ia]) (hK _ hw)
            | 3, ho, hv =>
              cases ho; cases hv
              refine .inl ⟨rfl, fun done a W hd hp hk hw K hK => ?_⟩
              have e54 := hk.at_ 2 _ 54 _ rfl (by decide) _ rfl rfl rfl
              exact op_val (by simp [go_sem, ev' e54, HQ0.out W hw]) (hK _ hw)
            | 4, ho, hv =>
              cases ho; cases hv
              refine .inl ⟨rfl, fun done a W hd hp hk hw K hK => ?_⟩
              have e11 := hk.same 11 (by decide)
              exact op_val (by simp [go_sem, ev' e11]) (hK _ hw)
            | 5, ho, hv =>
              cases ho; cases hv
              refine .inl ⟨rfl, fun done a W hd hp hk hw K hK => ?_⟩
              have e9 := hk.same 9 (by decide)
              exact op_val (by simp [go_sem, ev' e9]) (hK _ hw)
            | 6, ho, hv =>
              cases ho; cases hv
              refine .inl ⟨rfl, fun done a W hd hp hk hw K hK => ?_⟩
              have e10 := hk.same 10 (by decide)
              exact op_val (by simp [go_sem, ev' e10]) (hK _ hw)
            | 7, ho, hv =>
              cases ho; cases hv
              refine .inl ⟨rfl, fun done a W hd hp hk hw K hK => ?_⟩
              have e58 := hk.at_ 6 _ 58 _ rfl (by decide) _ rfl rfl rfl
              exact op_val (by simp [go_sem, ev' e58, hwa]) (hK _ hw)
            | 8, ho, hv =>
              cases ho; cases hv
              refine .inl ⟨rfl, fun done a W hd hp hk hw K hK => ?_⟩
              have e57 := hk.at_ 5 _ 57 _ rfl (by decide) _ rfl rfl rfl
              have e59 := hk.at_ 7 _ 59 _ rfl (by decide) _ rfl rfl rfl
              exact op_val (by simp [go_sem, ev' e57, ev' e59, ia1]) (hK _ hw)
            | 9, ho, hv =>
              cases ho; cases hv
              refine .inl ⟨rfl, fun done a W hd hp hk hw K hK => ?_⟩
              have e60 := hk.at_ 8 _ 60 _ rfl (by decide) _ rfl rfl rfl
              exact op_val (by simp [go_sem, ev' e60, HQ1.out W hw]) (hK _ hw)
            | 10, ho, hv =>
              cases ho; cases hv
              refine .inl ⟨rfl, fun done a W hd hp hk hw K hK => ?_⟩
              have e11 := hk.same 11 (by decide)
              exact op_val (by simp [go_sem, ev' e11]) (hK _ hw)
            | 11, ho, hv =>
              cases ho; cases hv
              refine .inl ⟨rfl, fun done a W hd hp hk hw K hK => ?_⟩
              have e61 := hk.at_ 9 _ 61 _ rfl (by decide) _ rfl rfl rfl
              have e62 := hk.at_ 10 _ 62 _ rfl (by decide) _ rfl rfl rfl
              exact op_val (by simp [go_sem, ev' e61, ev' e62, ib]) (hK _ hw)
            | 12, ho, hv =>
              cases ho; cases hv
              refine .inl ⟨rfl, fun done a W hd hp hk hw K hK => ?_⟩
              have e63 := hk.at_ 11 _ 63 _ rfl (by decide) _ rfl rfl rfl
              exact op_val (by simp [go_sem, ev' e63, HX1.out W hw]) (hK _ hw)
            | 13, ho, hv =>
              cases ho; cases hv
              refine .inl ⟨rfl, fun done a W hd hp hk hw K hK => ?_⟩
              have e9 := hk.same 9 (by decide)
              exact op_val (by simp [go_sem, ev' e9]) (hK _ hw)
            | 14, ho, hv =>
              cases ho; cases hv
              refine .inl ⟨rfl, fun done a W hd hp hk hw K hK => ?_⟩
              have e10 := hk.same 10 (by decide)
              exact op_val (by simp [go_sem, ev' e10]) (hK _ hw)
            | 15, ho, hv =>
              cases ho; cases hv
              refine .inl ⟨rfl, fun done a W hd hp hk hw K hK => ?_⟩
              have e65 := hk.at_ 13 _ 65 _ rfl (by decide) _ rfl rfl rfl
              have e66 := hk.at_ 14 _ 66 _ rfl (by decide) _ rfl rfl rfl
              exact op_val (by simp [go_sem, ev' e65, ev' e66, ia]) (hK _ hw)
            | 16, ho, hv =>
              cases ho; cases hv
              refine .inl ⟨rfl, fun done a W hd hp hk hw K hK => ?_⟩
              have e67 := hk.at_ 15 _ 67 _ rfl (by decide) _ rfl rfl rfl
              exact op_val (by simp [go_sem, ev' e67, HQ0.out W hw]) (hK _ hw)
            | 17, ho, hv =>
              cases ho; cases hv
              refine .inl ⟨rfl, fun done a W hd hp hk hw K hK => ?_⟩
              have e11 := hk.same 11 (by decide)
              exact op_val (by simp [go_sem, ev' e11]) (hK _ hw)
            | 18, ho, hv =>
              cases ho; cases hv
              refine .inl ⟨rfl, fun done a W hd hp hk hw K hK => ?_⟩
              have e69 := hk.at_ 17 _ 69 _ rfl (by decide) _ rfl rfl rfl
              exact op_val (by simp [go_sem, ev' e69, hwb]) (hK _ hw)
            | 19, ho, hv =>
              cases ho; cases hv
              refine .inl ⟨rfl, fun done a W hd hp hk hw K hK => ?_⟩
              have e68 := hk.at_ 16 _ 68 _ rfl (by decide) _ rfl rfl rfl
              have e70 := hk.at_ 18 _ 70 _ rfl (by decide) _ rfl rfl rfl
              exact op_val (by simp [go_sem, ev' e68, ev' e70, ib1]) (hK _ hw)
            | 20, ho, hv =>
              cases ho; cases hv
              refine .inl ⟨rfl, fun done a W hd hp hk hw K hK => ?_⟩
              have e71 := hk.at_ 19 _ 71 _ rfl (by decide) _ rfl rfl rfl
              exact op_val (by simp [go_sem, ev' e71, HX2.out W hw]) (hK _ hw)
            | 21, ho, hv =>
              cases ho; cases hv
              refine .inl ⟨rfl, fun done a W hd hp hk hw K hK => ?_⟩
              have e64 := hk.at_ 12 _ 64 _ rfl (by decide) _ rfl rfl rfl
              have e72 := hk.at_ 20 _ 72 _ rfl (by decide) _ rfl rfl rfl
              exact op_val (by simp [go_sem, ev' e64, ev' e72, hmm, hmmN]) (hK _ hw)
            | 22, ho, hv =>
              cases ho; cases hv
              refine .inl ⟨rfl, fun done a W hd hp hk hw K hK => ?_⟩
              have e55 := hk.at_ 3 _ 55 _ rfl (by decide) _ rfl rfl rfl
              have e56 := hk.at_ 4 _ 56 _ rfl (by decide) _ rfl rfl rfl
              exact op_val (by simp [go_sem, ev' e55, ev' e56, ib]) (hK _ hw)
            | _ + 23, _, hv => cases hv
          intro done W hd hw
          simp only [List.drop_succ_cons, List.drop_zero, List.zip_cons_cons, List.zip_nil_right, putAll]
          simp only [Act.put, List.setIfInBounds_toArray, List.set]
          clear hd
          have c0 := (HR0.out.2.2.aft hw).cell (j := b) (by omega)
          have c1 := (HR0.out.2.2.aft hw).frozen b
          have c2 := (HR0.out.2.2.aft hw).lt
          have HP1 := Lib.hid (HPUT.out W hw mx)
          obtain ⟨W4, hW4⟩ : ∃ X, X = W.setCell ⟨ga, b, none⟩ (.int .i64 (mx : Nat)) := ⟨_, rfl⟩
          rw [← hW4] at HP1
          have HW4 := Lib.hid hW4
          have HWW := Lib.hid hw
          have ia' : (0 : Int) ≤ (a : Int) ∧ (a : Int) < (la.length : Int) := by omega
          have ib' : (0 : Int) ≤ (b : Int) ∧ (b : Int) < (lb.length : Int) := by omega
          have HX3' := Lib.hid (HX3W.out W hw (.int .i64 (mx : Nat)))
          rw [← hW4] at HX3'
          clear hw hW4 HWW HX3W HPUT
          go_upto_region 14 with fail
          rw [← HW4.out]
          clear c0 c1 c2 HW4 HX1 HX2 HX3 HQ0 HQ1 HR0
          have HWA := Lib.hid HP1.out.aft
          obtain ⟨ba, oa, rfl, hba, hca⟩ := (HA.out.aft HWA.out).at hal
          obtain ⟨bb, ob, rfl, hbb, hcb⟩ := (HB.out.aft HWA.out).at hbl
          obtain ⟨y0, y1⟩ := hca a hal
          obtain ⟨z0, z1⟩ := hcb b hbl
          obtain ⟨⟨c1, c2⟩, hla2⟩ : ∃ y, la[a] = y := ⟨_, rfl⟩
          obtain ⟨⟨d1, d2⟩, hlb2⟩ : ∃ y, lb[b] = y := ⟨_, rfl⟩
          rw [hla2] at y0 y1 HSM
          rw [hlb2] at z0 z1 HSM
          dsimp only at y0 y1 z0 z1 HSM
          have HC1 : Hid (∀ W, Aft W4 W → W.cell? ⟨ba, oa + a * 2, none⟩ = some (.int .i64 c1)) := Lib.hid fun W h => cellA y0 hba h
          have HC2 : Hid (∀ W, Aft W4 W → W.cell? ⟨ba, oa + a * 2 + 1, none⟩ = some (.int .i64 c2)) := Lib.hid fun W h => cellA y1 hba h
          have HC3 : Hid (∀ W, Aft W4 W → W.cell? ⟨bb, ob + b * 2, none⟩ = some (.int .i64 d1)) := Lib.hid fun W h => cellA z0 hbb h
          have HC4 : Hid (∀ W, Aft W4 W → W.cell? ⟨bb, ob + b * 2 + 1, none⟩ = some (.int .i64 d2)) := Lib.hid fun W h => cellA z1 hbb h
          obtain ⟨sm, hsm⟩ : ∃ sm, sameB play la lb a b = sm := ⟨_, rfl⟩
          rw [hsm] at HSM HST
          clear hca hcb hla2 hlb2 y0 y1 z0 z1 hsm hba hbb
          refine wp_region_valsG (by kernel_rfl) 114 rfl (by kernel_rfl) (by kernel_rfl) [.slice (some ⟨ba, oa, none⟩) la.length ca, .int .i64 (a : Nat), .pointer (some ⟨ba, oa + a * 2, none⟩), .agg #[.int .i64 c1, .int .i64 c2], .slice (some ⟨bb, ob, none⟩) lb.length cb, .int .i64 (b : Nat), .pointer (some ⟨bb, ob + b * 2, none⟩), .agg #[.int .i64 d1, .int .i64 d2], .int .i64 play, .bool sm] rfl (fun W => Aft W4 W) (Aft.drew _) ?st2 ?fi2
          case st2 =>
            intro i o v ho hv
            match i, ho, hv with
            | 0, ho, hv =>
              cases ho; cases hv
              refine .inl ⟨rfl, fun a W hk hw K hK => ?_⟩
              have e0 := hk.same 0 (by decide)
              exact op_val (by simp [go_sem, ev' e0]) (hK _ hw)
            | 1, ho, hv =>
              cases ho; cases hv
              refine .inl ⟨rfl, fun a W hk hw K hK => ?_⟩
              have e10 := hk.same 10 (by decide)
              exact op_val (by simp [go_sem, ev' e10]) (hK _ hw)
            | 2, ho, hv =>
              cases ho; cases hv
              refine .inl ⟨rfl, fun a W hk hw K hK => ?_⟩
              have e75 := hk.at_ 0 _ 75 _ rfl (by decide) _ rfl rfl rfl
              have e76 := hk.at_ 1 _ 76 _ rfl (by decide) _ rfl rfl rfl
              exact op_val (by simp [go_sem, ev' e75, ev' e76, ia']) (hK _ hw)
            | 3, ho, hv =>
              cases ho; cases hv
              refine .inl ⟨rfl, fun a W hk hw K hK => ?_⟩
              have e77 := hk.at_ 2 _ 77 _ rfl (by decide) _ rfl rfl rfl
              exact op_val (by simp [go_sem, ev' e77, HC1.out W hw, HC2.out W hw]) (hK _ hw)
            | 4, ho, hv =>
              cases ho; cases hv
              refine .inl ⟨rfl, fun a W hk hw K hK => ?_⟩
              have e1 := hk.same 1 (by decide)
              exact op_val (by simp [go_sem, ev' e1]) (hK _ hw)
            | 5, ho, hv =>
              cases ho; cases hv
              refine .inl ⟨rfl, fun a W hk hw K hK => ?_⟩
              have e11 := hk.same 11 (by decide)
              exact op_val (by simp [go_sem, ev' e11]) (hK _ hw)
            | 6, ho, hv =>
              cases ho; cases hv
              refine .inl ⟨rfl, fun a W hk hw K hK => ?_⟩
              have e79 := hk.at_ 4 _ 79 _ rfl (by decide) _ rfl rfl rfl
              have e80 := hk.at_ 5 _ 80 _ rfl (by decide) _ rfl rfl rfl
              exact op_val (by simp [go_sem, ev' e79, ev' e80, ib']) (hK _ hw)
            | 7, ho, hv =>
              cases ho; cases hv
              refine .inl ⟨rfl, fun a W hk hw K hK => ?_⟩
              have e81 := hk.at_ 6 _ 81 _ rfl (by decide) _ rfl rfl rfl
              exact op_val (by simp [go_sem, ev' e81, HC3.out W hw, HC4.out W hw]) (hK _ hw)
            | 8, ho, hv =>
              cases ho; cases hv
              refine .inl ⟨rfl, fun a W hk hw K hK => ?_⟩
              have e2 := hk.same 2 (by decide)
              exact op_val (by simp [go_sem, ev' e2]) (hK _ hw)
            | 9, ho, hv =>
              cases ho; cases hv
              refine .inl ⟨rfl, fun a W hk hw K hK => ?_⟩
              have e78 := hk.at_ 3 _ 78 _ rfl (by decide) _ rfl rfl rfl
              have e82 := hk.at_ 7 _ 82 _ rfl (by decide) _ rfl rfl rfl
              have e83 := hk.at_ 8 _ 83 _ rfl (by decide) _ rfl rfl rfl
              refine op_callN rfl rfl rfl _ rfl (vs := #[.agg #[.int .i64 c1, .int .i64 c2], .agg #[.int .i64 d1, .int .i64 d2], .int .i64 play]) (by simp [e78, e82, e83]) (HSM.out W) ?_
              rintro e w7 ⟨rfl, hw7⟩
              exact ⟨_, rfl, hK _ (hw.trans hw7)⟩
            | _ + 10, _, hv => cases hv
          intro W hw
          simp only [List.drop_succ_cons, List.drop_zero, List.zip_cons_cons, List.zip_nil_right, putAll]
          simp only [Act.put, List.setIfInBounds_toArray, List.set]
          rename World => W5
          have HP3 := Lib.hid (HP1.out.later hw)
          have HX4 := Lib.hid fun W h => HX3'.out W (hw.trans h)
          clear hw HP1 HX3' HWA HC1 HC2 HC3 HC4 HSM
          cases sm
          · have HDS := Lib.hid (HST.out mx (by rw [if_neg (by decide)]; exact HMX.out))
            go_wp2_with fail
            exact ⟨⟨b, (b : Int) - 1, by go_num, by omega, by omega, Lib.hid ⟨G, _, HP3.out, HDS.out⟩⟩, by simp [intOf] <;> omega⟩
          · have hq0 := HP3.out.tcell (Nat.le_refl a) (by omega)
            have hq1 := HP3.out.tcell (i := a + 1) (by omega) (by omega)
            have hr0 := (HP3.out.row a (Nat.le_refl _) (by omega)).2.2
            rw [HGA.out.1] at hq0 hr0
            rw [HGA.out.2, HA1.out] at hq1
            have hv0 : W5.cell? ⟨ga, b, none⟩ = some (.int .i64 (mx : Nat)) := by
              have := hr0.cell (j := b) (by omega)
              rwa [show Sheet.putT V a b mx a b = mx from if_pos ⟨rfl, rfl⟩] at this
            have HTL5 := Lib.hid HP3.out.lt
            have HQ0 := Lib.hid fun W (h : Aft W5 W) => cellA hq0 HTL5.out h
            have HQ1 := Lib.hid fun W (h : Aft W5 W) => cellA hq1 HTL5.out h
            have HV0 := Lib.hid fun W (h : Aft W5 W) => cellA hv0 hr0.lt h
            have HR5 := Lib.hid hr0
            obtain ⟨x4, hx4⟩ : ∃ x, x3 + 1 = x := ⟨_, rfl⟩
            have hwx : IntKind.i64.wrap ((x3 : Int) + 1) = (x4 : Int) := by rw [show (x3 : Int) + 1 = (x4 : Int) by omega]; exact IntWalk.i64_in _ (by omega)
            obtain ⟨my, hmy⟩ : ∃ my, max mx x4 = my := ⟨_, rfl⟩
            have hmm2 : (if (mx : Int) < (x4 : Int) then (x4 : Int) else (mx : Int)) = (my : Int) := by split <;> omega
            have hmm2N : (if mx < x4 then (x4 : Int) else (mx : Int)) = (my : Int) := by split <;> omega
            have HDS := Lib.hid (HST.out my (by rw [if_pos rfl, HMX.out, hx4]; exact hmy))
            clear hq0 hq1 hr0 hv0 hmm hmmN hx4 hmy
            go_upto_region 15 with fail
            refine wp_region_valsT (by kernel_rfl) 24 114 rfl (by kernel_rfl) (by kernel_rfl) (by kernel_rfl) [.slice (some ⟨T, 0, none⟩) N1 N1, .int .i64 (a : Nat), .pointer (some ⟨T, a, none⟩), .slice (some ⟨ga, 0, none⟩) M1 M1, .int .i64 (b : Nat), .slice (some ⟨T, 0, none⟩) N1 N1, .int .i64 (a : Nat), .pointer (some ⟨T, a, none⟩), .slice (some ⟨ga, 0, none⟩) M1 M1, .int .i64 (b : Nat), .pointer (some ⟨ga, b, none⟩), .int .i64 (mx : Nat), .slice (some ⟨T, 0, none⟩) N1 N1, .int .i64 (a : Nat), .int .i64 (a1 : Nat), .pointer (some ⟨T, a1, none⟩), .slice (some ⟨gb, 0, none⟩) M1 M1, .int .i64 (b : Nat), .int .i64 (b1 : Nat), .pointer (some ⟨gb, b1, none⟩), .int .i64 (x3 : Nat), .int .i64 (x4 : Nat), .int .i64 (my : Nat), .pointer (some ⟨ga, b, none⟩)] rfl (fun _ W => Aft W5 W) (Aft.drew _) ?st3 ?fi3
            case st3 =>
              intro i o v ho hv
              match i, ho, hv with
              | 0, ho, hv =>
                cases ho; cases hv
                refine .inl ⟨rfl, fun done a W hd hp hk hw K hK => ?_⟩
                have e9 := hk.same 9 (by decide)
                exact op_val (by simp [go_sem, ev' e9]) (hK _ hw)
              | 1, ho, hv =>
                cases ho; cases hv
                refine .inl ⟨rfl, fun done a W hd hp hk hw K hK => ?_⟩
                have e10 := hk.same 10 (by decide)
                exact op_val (by simp [go_sem, ev' e10]) (hK _ hw)
              | 2, ho, hv =>
                cases ho; cases hv
                refine .inl ⟨rfl, fun done a W hd hp hk hw K hK => ?_⟩
                have e85 := hk.at_ 0 _ 85 _ rfl (by decide) _ rfl rfl rfl
                have e86 := hk.at_ 1 _ 86 _ rfl (by decide) _ rfl rfl rfl
                exact op_val (by simp [go_sem, ev' e85, ev' e86, ia]) (hK _ hw)
              | 3, ho, hv =>
                cases ho; cases hv
                refine .inl ⟨rfl, fun done a W hd hp hk hw K hK => ?_⟩
                have e87 := hk.at_ 2 _ 87 _ rfl (by decide) _ rfl rfl rfl
                exact op_val (by simp [go_sem, ev' e87, HQ0.out W hw]) (hK _ hw)
              | 4, ho, hv =>
                cases ho; cases hv
                refine .inl ⟨rfl, fun done a W hd hp hk hw K hK => ?_⟩
                have e11 := hk.same 11 (by decide)
                exact op_val (by simp [go_sem, ev' e11]) (hK _ hw)
              | 5, ho, hv =>
                cases ho; cases hv
                refine .inl ⟨rfl, fun done a W hd hp hk hw K hK => ?_⟩
                have e9 := hk.same 9 (by decide)
                exact op_val (by simp [go_sem, ev' e9]) (hK _ hw)
              | 6, ho, hv =>
                cases ho; cases hv
                refine .inl ⟨rfl, fun done a W hd hp hk hw K hK => ?_⟩
                have e10 := hk.same 10 (by decide)
                exact op_val (by simp [go_sem, ev' e10]) (hK _ hw)
              | 7, ho, hv =>
                cases ho; cases hv
                refine .inl ⟨rfl, fun done a W hd hp hk hw K hK => ?_⟩
                have e90 := hk.at_ 5 _ 90 _ rfl (by decide) _ rfl rfl rfl
                have e91 := hk.at_ 6 _ 91 _ rfl (by decide) _ rfl rfl rfl
                exact op_val (by simp [go_sem, ev' e90, ev' e91, ia]) (hK _ hw)
              | 8, ho, hv =>
                cases ho; cases hv
                refine .inl ⟨rfl, fun done a W hd hp hk hw K hK => ?_⟩
                have e92 := hk.at_ 7 _ 92 _ rfl (by decide) _ rfl rfl rfl
                exact op_val (by simp [go_sem, ev' e92, HQ0.out W hw]) (hK _ hw)
              | 9, ho, hv =>
                cases ho; cases hv
                refine .inl ⟨rfl, fun done a W hd hp hk hw K hK => ?_⟩
                have e11 := hk.same 11 (by decide)
                exact op_val (by simp [go_sem, ev' e11]) (hK _ hw)
              | 10, ho, hv =>
                cases ho; cases hv
                refine .inl ⟨rfl, fun done a W hd hp hk hw K hK => ?_⟩
                have e93 := hk.at_ 8 _ 93 _ rfl (by decide) _ rfl rfl rfl
                have e94 := hk.at_ 9 _ 94 _ rfl (by decide) _ rfl rfl rfl
                exact op_val (by simp [go_sem, ev' e93, ev' e94, ib]) (hK _ hw)
              | 11, ho, hv =>
                cases ho; cases hv
                refine .inl ⟨rfl, fun done a W hd hp hk hw K hK => ?_⟩
                have e95 := hk.at_ 10 _ 95 _ rfl (by decide) _ rfl rfl rfl
                exact op_val (by simp [go_sem, ev' e95, HV0.out W hw]) (hK _ hw)
              | 12, ho, hv =>
                cases ho; cases hv
                refine .inl ⟨rfl, fun done a W hd hp hk hw K hK => ?_⟩
                have e9 := hk.same 9 (by decide)
                exact op_val (by simp [go_sem, ev' e9]) (hK _ hw)
              | 13, ho, hv =>
                cases ho; cases hv
                refine .inl ⟨rfl, fun done a W hd hp hk hw K hK => ?_⟩
                have e10 := hk.same 10 (by decide)
                exact op_val (by simp [go_sem, ev' e10]) (hK _ hw)
              | 14, ho, hv =>
                cases ho; cases hv
                refine .inl ⟨rfl, fun done a W hd hp hk hw K hK => ?_⟩
                have e98 := hk.at_ 13 _ 98 _ rfl (by decide) _ rfl rfl rfl
                exact op_val (by simp [go_sem, ev' e98, hwa]) (hK _ hw)
              | 15, ho, hv =>
                cases ho; cases hv
                refine .inl ⟨rfl, fun done a W hd hp hk hw K hK => ?_⟩
                have e97 := hk.at_ 12 _ 97 _ rfl (by decide) _ rfl rfl rfl
                have e99 := hk.at_ 14 _ 99 _ rfl (by decide) _ rfl rfl rfl
                exact op_val (by simp [go_sem, ev' e97, ev' e99, ia1]) (hK _ hw)
              | 16, ho, hv =>
                cases ho; cases hv
                refine .inl ⟨rfl, fun done a W hd hp hk hw K hK => ?_⟩
                have e100 := hk.at_ 15 _ 100 _ rfl (by decide) _ rfl rfl rfl
                exact op_val (by simp [go_sem, ev' e100, HQ1.out W hw]) (hK _ hw)
              | 17, ho, hv =>
                cases ho; cases hv
                refine .inl ⟨rfl, fun done a W hd hp hk hw K hK => ?_⟩
                have e11 := hk.same 11 (by decide)
                exact op_val (by simp [go_sem, ev' e11]) (hK _ hw)
              | 18, ho, hv =>
                cases ho; cases hv
                refine .inl ⟨rfl, fun done a W hd hp hk hw K hK => ?_⟩
                have e102 := hk.at_ 17 _ 102 _ rfl (by decide) _ rfl rfl rfl
                exact op_val (by simp [go_sem, ev' e102, hwb]) (hK _ hw)
              | 19, ho, hv =>
                cases ho; cases hv
                refine .inl ⟨rfl, fun done a W hd hp hk hw K hK => ?_⟩
                have e101 := hk.at_ 16 _ 101 _ rfl (by decide) _ rfl rfl rfl
                have e103 := hk.at_ 18 _ 103 _ rfl (by decide) _ rfl rfl rfl
                exact op_val (by simp [go_sem, ev' e101, ev' e103, ib1]) (hK _ hw)
              | 20, ho, hv =>
                cases ho; cases hv
                refine .inl ⟨rfl, fun done a W hd hp hk hw K hK => ?_⟩
                have e104 := hk.at_ 19 _ 104 _ rfl (by decide) _ rfl rfl rfl
                exact op_val (by simp [go_sem, ev' e104, HX4.out W hw]) (hK _ hw)
              | 21, ho, hv =>
                cases ho; cases hv
                refine .inl ⟨rfl, fun done a W hd hp hk hw K hK => ?_⟩
                have e105 := hk.at_ 20 _ 105 _ rfl (by decide) _ rfl rfl rfl
                exact op_val (by simp [go_sem, ev' e105, hwx]) (hK _ hw)
              | 22, ho, hv =>
                cases ho; cases hv
                refine .inl ⟨rfl, fun done a W hd hp hk hw K hK => ?_⟩
                have e96 := hk.at_ 11 _ 96 _ rfl (by decide) _ rfl rfl rfl
                have e106 := hk.at_ 21 _ 106 _ rfl (by decide) _ rfl rfl rfl
                exact op_val (by simp [go_sem, ev' e96, ev' e106, hmm2, hmm2N]) (hK _ hw)
              | 23, ho, hv =>
                cases ho; cases hv
                refine .inl ⟨rfl, fun done a W hd hp hk hw K hK => ?_⟩
                have e88 := hk.at_ 3 _ 88 _ rfl (by decide) _ rfl rfl rfl
                have e89 := hk.at_ 4 _ 89 _ rfl (by decide) _ rfl rfl rfl
                exact op_val (by simp [go_sem, ev' e88, ev' e89, ib]) (hK _ hw)
              | _ + 24, _, hv => cases hv
            intro done W hd hw
            simp only [List.drop_succ_cons, List.drop_zero, List.zip_cons_cons, List.zip_nil_right, putAll]
            simp only [Act.put, List.setIfInBounds_toArray, List.set]
            clear hd
            have c0 := (HR5.out.aft hw).cell (j := b) (by omega)
            have c3 := (HR5.out.aft hw).frozen b
            have c4 := (HR5.out.aft hw).lt
            have HP4 := Lib.hid (HPUT2.out W mx my (HP3.out.later hw))
            obtain ⟨W6, hW6⟩ : ∃ X, X = W.setCell ⟨ga, b, none⟩ (.int .i64 (my : Nat)) := ⟨_, rfl⟩
            rw [← hW6] at HP4
            have HW6 := Lib.hid hW6
            clear hw hW6
            go_wp2_with fail
            rw [← HW6.out]
            exact ⟨⟨b, (b : Int) - 1, by go_num, by omega, by omega, Lib.hid ⟨G, _, HP4.out, HDS.out.same fun i k => Sheet.putT_putT V a b mx my i k⟩⟩, by simp [intOf] <;> omega⟩
        · obtain rfl : z = -1 := by omega
          have HS4 := HS3
          rw [show k = 0 by omega] at HS4
          go_wp2_with fail
          exact ⟨⟨a, (a : Int) - 1, by go_num, by omega, by omega, HS4⟩, by simp [intOf] <;> omega⟩
    · obtain rfl : z = -1 := by omega
      obtain rfl : i = 0 := by omega
      obtain ⟨G, V, hTM, hDP⟩ := HS.out
      have r0 := hTM.row 0 (Nat.le_refl _) (by omega)
      have HL0 := Lib.hid (hDP 0 0 (by omega) (by omega) (by omega)).1
      have c0 := hTM.tcell (Nat.le_refl 0) (by omega)
      have c1 := hTM.lt
      have c2 := r0.2.2.cell (j := 0) (by omega)
      have c3 := r0.2.2.lt
      have HAF := Lib.hid hTM.aft
      obtain ⟨ga, hga⟩ : ∃ g, G 0 = g := ⟨_, rfl⟩
      obtain ⟨x, hx⟩ : ∃ x, V 0 0 = x := ⟨_, rfl⟩
      rw [hga] at c0 c2 c3
      rw [hx] at c2 HL0
      have iN0 : (0 : Int) < (N1 : Int) := by omega
      have iM0 : (0 : Int) < (M1 : Int) := by omega
      have iN0' : 0 < N1 := by omega
      have iM0' : 0 < M1 := by omega
      clear r0 hga hx hTM hDP HS
      go_wp2_with fail
      exact bodyPost_ret (v := .tuple #[.int .i64 (x : Nat), .int .i64 0]) (by simp [results, Try.results27, go_sem]) rfl ⟨x, rfl, HL0.out, HAF.out⟩
end Go.Proofs
end

section
/- Plain: walks and potentials. -/
namespace Sheet
variable {E : List Edge} {a b k : Nat} {s p q : Int} {f : Nat → Int}
theorem Wk.pot (h : ∀ e ∈ E, q * e.2.2 ≤ p + (f e.2.1 - f e.1)) (hw : Wk E a b k s) : q * s ≤ p * k + (f b - f a) := by
  induction hw with
  | nil => simp
  | @snoc b c k s w h1 e ih =>
    have := h _ e
    dsimp only at this
    rw [Int.mul_add, show ((k + 1 : Nat) : Int) = k + 1 from rfl, Int.mul_add, Int.mul_one]
    omega
theorem most_pot (f : Nat → Int) (h : ∀ e ∈ E, q * e.2.2 ≤ p + (f e.2.1 - f e.1)) : AtMost E p q := fun a k s hw _ => by
  have := hw.pot h
  omega
theorem Wk.least (h : ∀ e ∈ E, f e.2.1 - f e.1 ≤ e.2.2) (hw : Wk E a b k s) : f b - f a ≤ s := by
  induction hw with
  | nil => omega
  | snoc h1 e ih =>
    have := h _ e
    dsimp only at this
    omega
theorem dist_pot (f : Nat → Int) (h : ∀ e ∈ E, f e.2.1 - f e.1 ≤ e.2.2) (hw : Wk E a b k s) (hs : s ≤ f b - f a) : Dist E a b (some s) :=
  ⟨fun m hm => by cases hm; exact ⟨k, hw⟩, fun k' s' hw' => ⟨s, rfl, by have := hw'.least h; omega⟩⟩
/-- Rows that are calm tell what potentials tell. -/
theorem Calms.tells {n : Nat} {J : List Jo} {D N : Int} {t : Nat → Nat → Int} (h : Calms n J D N t) (ha : a < n) (f : Nat → Int) (hf : ∀ e ∈ sc D N (legs J), f e.2.1 - f e.1 ≤ e.2.2) (hw : Wk (sc D N (legs J)) a b k s) (hs : s ≤ f b - f a) : t a b = s :=
  (opt_some.1 ((h.dist ha b).same (dist_pot f hf hw hs))).1
def threeX : List Jo := [(0, 1, 10), (1, 2, 20), (0, 2, 36)]
def threeY : List Jo := [(0, 1, 0), (1, 2, 0), (0, 2, 0)]
def ringX : List Jo := [(0, 1, 1), (1, 2, 1), (2, 3, 1), (3, 0, 1)]
def ringY : List Jo := [(0, 1, 0), (1, 2, 0), (2, 3, 0), (3, 0, 0)]
def fl (l : List Int) (n : Nat) : Int := l.getD n 0
theorem three_least : Least (legs threeX) 2 1 :=
  ⟨by decide, by decide, most_pot (fl [0, 12, 34]) (by decide), .inr ⟨0, 3, 6, ((((Wk.nil 0).snoc (c := 2) (w := 36) (by decide)).snoc (c := 1) (w := -20) (by decide)).snoc (c := 0) (w := -10) (by decide)).of_eq rfl rfl, by decide, by decide⟩⟩
theorem three_leastY : Least (legs threeY) 0 1 := ⟨by decide, by decide, most_pot (fun _ => 0) (by decide), .inl rfl⟩
theorem ring_least : Least (legs ringX) 1 1 :=
  ⟨by decide, by decide, most_pot (fun _ => 0) (by decide), .inr ⟨0, 4, 4, (((((Wk.nil 0).snoc (c := 1) (w := 1) (by decide)).snoc (c := 2) (w := 1) (by decide)).snoc (c := 3) (w := 1) (by decide)).snoc (c := 0) (w := 1) (by decide)).of_eq rfl rfl, by decide, by decide⟩⟩
theorem ring_leastY : Least (legs ringY) 0 1 := ⟨by decide, by decide, most_pot (fun _ => 0) (by decide), .inl rfl⟩
theorem three_x3 {t : Nat → Nat → Int} (h : Calms 3 threeX 1 3 t) : t 0 1 = 13 ∧ t 1 0 = -10 :=
  ⟨h.tells (by decide) (fl [0, 13, 36]) (by decide) (k := 1) (Wk.one (by decide)) (by decide),
   h.tells (by decide) (fl [-10, 0, 23]) (by decide) ((Wk.one (b := 2) (w := 23) (by decide)).snoc (w := -33) (by decide)) (by decide)⟩
theorem three_y3 {t : Nat → Nat → Int} (h : Calms 3 threeY 1 3 t) : t 0 1 = 3 ∧ t 1 0 = 3 :=
  ⟨h.tells (by decide) (fl [0, 3, 3]) (by decide) (k := 1) (Wk.one (by decide)) (by decide),
   h.tells (by decide) (fl [3, 0, 3]) (by decide) (k := 1) (Wk.one (by decide)) (by decide)⟩
theorem three_x2 {t : Nat → Nat → Int} (h : Calms 3 threeX 1 2 t) : t 0 1 = 12 ∧ t 1 0 = -12 :=
  ⟨h.tells (by decide) (fl [0, 12, 34]) (by decide) (k := 1) (Wk.one (by decide)) (by decide),
   h.tells (by decide) (fl [-12, 0, 22]) (by decide) ((Wk.one (b := 2) (w := 22) (by decide)).snoc (w := -34) (by decide)) (by decide)⟩
end Sheet
end

section
/- Plain: plays of sets that are changed, and what lies between two sheets. -/
namespace Sheet
theorem low_le {n d n' d' : Int} (hd : 0 < d) (hd' : 0 < d') (h : n * d' ≤ n' * d) : (low n d).1 * (low n' d').2 ≤ (low n' d').1 * (low n d).2 := by
  obtain ⟨g, g0, e1, e2, e3, -⟩ := low_facts n d hd
  obtain ⟨g', g0', e1', e2', e3', -⟩ := low_facts n' d' hd'
  generalize (low n d).1 = x at *
  generalize (low n d).2 = y at *
  generalize (low n' d').1 = x' at *
  generalize (low n' d').2 = y' at *
  subst e1 e2 e1' e2'
  have h2 : (x * y') * (g * g') ≤ (x' * y) * (g * g') := by
    have a1 : x * g * (y' * g') = (x * y') * (g * g') := by simp only [Int.mul_left_comm, Int.mul_comm]
    have a2 : x' * g' * (y * g) = (x' * y) * (g * g') := by simp only [Int.mul_left_comm, Int.mul_comm]
    rw [← a1, ← a2]
    exact h
  exact Int.le_of_mul_le_mul_right h2 (Int.mul_pos g0 g0')
end Sheet
namespace Go.Proofs

/-- What lies between two sheets, where the play is enough. -/
def BtOk (S : SetL) (N D : Int) (a b : Nat) (t0 t1 : Nat → Nat → Int) (w : World) (e : Ending) (w' : World) : Prop := Aft w w' ∧ Sheet.Calms S.n.toNat (joOf false S.J) D N t0 ∧ Sheet.Calms S.n.toNat (joOf true S.J) D N t1 ∧
    ((t0 a b = Sheet.far ∧ e = .returned (.tuple #[.agg #[.int .i64 0, .int .i64 0, .int .i64 0, .int .i64 0], .agg #[.int .i64 0, .int .i64 0, .int .i64 0, .int .i64 0], .int .i64 7])) ∨
     (t0 a b ≠ Sheet.far ∧ e = .returned (.tuple #[.agg (encS (bt4 D t0 a b)), .agg (encS (bt4 D t1 a b)), .int .i64 0])))
theorem BtR.most {S : SetL} {N D : Int} {a b : Nat} {w w' : World} {e : Ending} (h : BtR S N D a b w e w') (hm : ∀ north, Sheet.AtMost (Sheet.legs (joOf north S.J)) N D) : ∃ t0 t1, BtOk S N D a b t0 t1 w e w' := by
  obtain ⟨h1, h2⟩ := h
  rcases h2 with ⟨-, north, l, hc⟩ | ⟨t0, t1, c0, c1, h3⟩
  · exact absurd (hm north) hc.not
  · exact ⟨t0, t1, h1, c0, c1, h3⟩
end Go.Proofs
end

section
/- Walks: the examples of the law; shifted, sum, Fold. -/
namespace Go.Proofs
open Go.RowKit
attribute [local go_sem] Oper.semAt_some

/-- A block that holds records, and no more. -/
theorem rows_of_blk {α : Type} {enc : α → List Value} {sz : Nat} (hs : ∀ x, (enc x).length = sz) {W : World} {b : Nat} {t : TypeId} {l : List α} {cs : Array Value} (h : Blk W b t cs) (hc : cs = (l.flatMap enc).toArray) (hl : l.length * sz ≤ 17592186043904) : RowsP W (some ⟨b, 0, none⟩) sz (FlatR enc) l := by
  subst hc
  refine ⟨hl, .inr ⟨b, 0, rfl, h.lt, fun i hi => ⟨enc l[i], hs _, rfl, fun j hj => ?_⟩⟩⟩
  have hj' : j < sz := by rw [hs] at hj; exact hj
  have h1 := h.cell (i * sz + j)
  have h2 := flat_get hs l i j hi hj'
  rw [List.getElem?_eq_getElem hj] at h2
  rw [Nat.zero_add, h1]
  simpa using h2
def threeJ : List Q4 := [⟨0, 1, 10, 0⟩, ⟨1, 2, 20, 0⟩, ⟨0, 2, 36, 0⟩]
def ringJ : List Q4 := [⟨0, 1, 1, 0⟩, ⟨1, 2, 1, 0⟩, ⟨2, 3, 1, 0⟩, ⟨3, 0, 1, 0⟩]
def edgeA : List (Int × Int) := [(0, 1), (10, 2), (20, 1)]
def edgeB : List (Int × Int) := [(1, 2), (9, 1), (12, 2)]
set_option maxRecDepth 100000 in
set_option maxHeartbeats 1000000 in
theorem three_any (w : World) : Calls Try.prog 50 #[] w fun e w' => ∃ b, e = .returned (.agg #[.int .i64 3, .slice (some ⟨b, 0, none⟩) 3 3]) ∧ Quads w' (some ⟨b, 0, none⟩) threeJ ∧ Aft w w' := by
  obtain ⟨s, hs⟩ : ∃ s, w.heap.size = s := ⟨_, rfl⟩
  have hw : w.heap.size ≤ s := Nat.le_of_eq hs
  obtain ⟨W1, hW1⟩ : ∃ W1, (w.alloc (.cells #[.int .i64 0, .slice none 0 0] 25)).alloc (.cells #[.int .i64 0, .int .i64 1, .int .i64 10, .int .i64 0, .int .i64 1, .int .i64 2, .int .i64 20, .int .i64 0, .int .i64 0, .int .i64 2, .int .i64 36, .int .i64 0] 35) = W1 := ⟨_, rfl⟩
  have HA1 : Hid (Aft w W1) := Lib.hid (hW1 ▸ (Aft.alloc w _).then_alloc _)
  have HB1 : Hid (Blk W1 s 25 #[.int .i64 0, .slice none 0 0]) := Lib.hid (by rw [← hW1, ← hs]; exact (Blk.new w 25 _).alloc _)
  have HQ1 : Hid (Blk W1 (s + 1) 35 #[.int .i64 0, .int .i64 1, .int .i64 10, .int .i64 0, .int .i64 1, .int .i64 2, .int .i64 20, .int .i64 0, .int .i64 0, .int .i64 2, .int .i64 36, .int .i64 0]) := Lib.hid (by have := Blk.new (w.alloc (.cells #[.int .i64 0, .slice none 0 0] 25)) 35 #[.int .i64 0, .int .i64 1, .int .i64 10, .int .i64 0, .int .i64 1, .int .i64 2, .int .i64 20, .int .i64 0, .int .i64 0, .int .i64 2, .int .i64 36, .int .i64 0]; rw [World.size_alloc, hs, hW1] at this; exact this)
  have c0 := HB1.out.cell 0
  have c1 := HB1.out.cell 1
  have c2 := HB1.out.frozen 0
  have c3 := HB1.out.frozen 1
  have c4 := HB1.out.lt
  simp only [List.getElem?_toArray, List.getElem?_cons_zero, List.getElem?_cons_succ] at c0 c1
  go_enter Try.func50, Try.ntmps50
  go_upto_region 1 with fail
  go_wp2_with fail
  have B2 := (HB1.out.store 0 (.int .i64 3)).store 1 (.slice (some ⟨s + 1, 0, none⟩) 3 3)
  have A2 := (HA1.out.then_setCell (p := ⟨s, 0, none⟩) hw (.int .i64 3)).then_setCell (p := ⟨s, 1, none⟩) hw (.slice (some ⟨s + 1, 0, none⟩) 3 3)
  have Q2 := (HQ1.out.far (p := ⟨s, 0, none⟩) (by show s + 1 ≠ s; omega) (.int .i64 3)).far (p := ⟨s, 1, none⟩) (by show s + 1 ≠ s; omega) (.slice (some ⟨s + 1, 0, none⟩) 3 3)
  generalize (W1.setCell ⟨s, 0, none⟩ (.int .i64 3)).setCell ⟨s, 1, none⟩ (.slice (some ⟨s + 1, 0, none⟩) 3 3) = X at *
  have z0 : X.cell? ⟨s, 0, none⟩ = some (.int .i64 3) := B2.cell 0
  have z1 : X.cell? ⟨s, 1, none⟩ = some (.slice (some ⟨s + 1, 0, none⟩) 3 3) := B2.cell 1
  exact bodyPost_ret (v := .agg #[.int .i64 3, .slice (some ⟨s + 1, 0, none⟩) 3 3]) (by simp [results, Try.results50, go_sem, z0, z1]) rfl ⟨s + 1, rfl, rows_of_blk (enc := enc4) (fun _ => rfl) Q2 rfl (by decide), A2⟩
set_option maxRecDepth 100000 in
set_option maxHeartbeats 1000000 in
theorem ring_any (w : World) : Calls Try.prog 53 #[] w fun e w' => ∃ b, e = .returned (.agg #[.int .i64 4, .slice (some ⟨b, 0, none⟩) 4 4]) ∧ Quads w' (some ⟨b, 0, none⟩) ringJ ∧ Aft w w' := by
  obtain ⟨s, hs⟩ : ∃ s, w.heap.size = s := ⟨_, rfl⟩
  have hw : w.heap.size ≤ s := Nat.le_of_eq hs
  obtain ⟨W1, hW1⟩ : ∃ W1, (w.alloc (.cells #[.int .i64 0, .slice none 0 0] 25)).alloc (.cells #[.int .i64 0, .int .i64 1, .int .i64 1, .int .i64 0, .int .i64 1, .int .i64 2, .int .i64 1, .int .i64 0, .int .i64 2, .int .i64 3, .int .i64 1, .int .i64 0, .int .i64 3, .int .i64 0, .int .i64 1, .int .i64 0] 35) = W1 := ⟨_, rfl⟩
  have HA1 : Hid (Aft w W1) := Lib.hid (hW1 ▸ (Aft.alloc w _).then_alloc _)
  have HB1 : Hid (Blk W1 s 25 #[.int .i64 0, .slice none 0 0]) := Lib.hid (by rw [← hW1, ← hs]; exact (Blk.new w 25 _).alloc _)
  have HQ1 : Hid (Blk W1 (s + 1) 35 #[.int .i64 0, .int .i64 1, .int .i64 1, .int .i64 0, .int .i64 1, .int .i64 2, .int .i64 1, .int .i64 0, .int .i64 2, .int .i64 3, .int .i64 1, .int .i64 0, .int .i64 3, .int .i64 0, .int .i64 1, .int .i64 0]) := Lib.hid (by have := Blk.new (w.alloc (.cells #[.int .i64 0, .slice none 0 0] 25)) 35 #[.int .i64 0, .int .i64 1, .int .i64 1, .int .i64 0, .int .i64 1, .int .i64 2, .int .i64 1, .int .i64 0, .int .i64 2, .int .i64 3, .int .i64 1, .int .i64 0, .int .i64 3, .int .i64 0, .int .i64 1, .int .i64 0]; rw [World.size_alloc, hs, hW1] at this; exact this)
  have c0 := HB1.out.cell 0
  have c1 := HB1.out.cell 1
  have c2 := HB1.out.frozen 0
  have c3 := HB1.out.frozen 1
  have c4 := HB1.out.lt
  simp only [List.getElem?_toArray, List.getElem?_cons_zero, List.getElem?_cons_succ] at c0 c1
  go_enter Try.func53, Try.ntmps53
  go_upto_region 1 with fail
  go_wp2_with fail
  have B2 := (HB1.out.store 0 (.int .i64 4)).store 1 (.slice (some ⟨s + 1, 0, none⟩) 4 4)
  have A2 := (HA1.out.then_setCell (p := ⟨s, 0, none⟩) hw (.int .i64 4)).then_setCell (p := ⟨s, 1, none⟩) hw (.slice (some ⟨s + 1, 0, none⟩) 4 4)
  have Q2 := (HQ1.out.far (p := ⟨s, 0, none⟩) (by show s + 1 ≠ s; omega) (.int .i64 4)).far (p := ⟨s, 1, none⟩) (by show s + 1 ≠ s; omega) (.slice (some ⟨s + 1, 0, none⟩) 4 4)
  generalize (W1.setCell ⟨s, 0, none⟩ (.int .i64 4)).setCell ⟨s, 1, none⟩ (.slice (some ⟨s + 1, 0, none⟩) 4 4) = X at *
  have z0 : X.cell? ⟨s, 0, none⟩ = some (.int .i64 4) := B2.cell 0
  have z1 : X.cell? ⟨s, 1, none⟩ = some (.slice (some ⟨s + 1, 0, none⟩) 4 4) := B2.cell 1
  exact bodyPost_ret (v := .agg #[.int .i64 4, .slice (some ⟨s + 1, 0, none⟩) 4 4]) (by simp [results, Try.results53, go_sem, z0, z1]) rfl ⟨s + 1, rfl, rows_of_blk (enc := enc4) (fun _ => rfl) Q2 rfl (by decide), A2⟩
set_option maxRecDepth 100000 in
set_option maxHeartbeats 1000000 in
theorem edges_any (w : World) : Calls Try.prog 54 #[] w fun e w' => ∃ b1 b2, e = .returned (.tuple #[.slice (some ⟨b1, 0, none⟩) 3 3, .slice (some ⟨b2, 0, none⟩) 3 3]) ∧ Prs w' (some ⟨b1, 0, none⟩) edgeA ∧ Prs w' (some ⟨b2, 0, none⟩) edgeB ∧ Aft w w' := by
  have HQ1 := Lib.hid ((Blk.new w 54 #[.int .i64 0, .int .i64 1, .int .i64 10, .int .i64 2, .int .i64 20, .int .i64 1]).alloc (.cells #[.int .i64 1, .int .i64 2, .int .i64 9, .int .i64 1, .int .i64 12, .int .i64 2] 54))
  have HQ2 := Lib.hid (Blk.new (w.alloc (.cells #[.int .i64 0, .int .i64 1, .int .i64 10, .int .i64 2, .int .i64 20, .int .i64 1] 54)) 54 #[.int .i64 1, .int .i64 2, .int .i64 9, .int .i64 1, .int .i64 12, .int .i64 2])
  have HA := Lib.hid ((Aft.alloc w (.cells #[.int .i64 0, .int .i64 1, .int .i64 10, .int .i64 2, .int .i64 20, .int .i64 1] 54)).then_alloc (.cells #[.int .i64 1, .int .i64 2, .int .i64 9, .int .i64 1, .int .i64 12, .int .i64 2] 54))
  go_enter Try.func54, Try.ntmps54
  go_wp2_with fail
  exact bodyPost_ret (v := .tuple #[.slice (some ⟨w.heap.size, 0, none⟩) 3 3, .slice (some ⟨w.heap.size + 1, 0, none⟩) 3 3]) (by simp [results, Try.results54, go_sem]) rfl ⟨w.heap.size, w.heap.size + 1, rfl, rows_of_blk (enc := enc2) (fun _ => rfl) HQ1.out rfl (by decide), rows_of_blk (enc := enc2) (fun _ => rfl) (by have := HQ2.out; rw [World.size_alloc] at this; exact this) rfl (by decide), HA.out⟩
/-- A shift to the east. -/
def shI (n : Int) : Q4 := ⟨n, 1, 0, 1⟩
set_option maxRecDepth 100000 in
set_option maxHeartbeats 4000000 in
theorem shifted_any (A : Option Addr) (l : List Int) (c : Nat) (w : World) (hA : Ints w A l) (hl : l.length ≤ 1000) :
    Calls Try.prog 52 #[.slice A l.length c] w (OwnF 93 4 enc4 w (l.map shI)) := by
  have HA := Lib.hid hA
  clear hA
  go_enter Try.func52, Try.ntmps52
  go_upto_block 0 with fail
  refine wp_block ?_
  go_loopw [3, 8] (fun v i wr => ∃ k : Nat, i = .int .i64 (k : Nat) ∧ k ≤ l.length ∧ wr.ownsRow w.heap.size 93 4 v ((l.take k).map shI).length (((l.take k).map shI).flatMap enc4) ∧ Aft w wr) (fun _ i _ => l.length - (intOf i).toNat)
  case atStart => exact ⟨0, rfl, by omega, World.ownsRow_nil _ _ 93 4, Aft.refl _⟩
  case round =>
    obtain ⟨k, rfl, hk, ho, ha⟩ := hrel
    have HO := Lib.hid ho
    have HAF := Lib.hid ha
    clear ho ha
    by_cases hkl : k < l.length
    · have t1 : decide (k < l.length) = true := by simpa using hkl
      obtain ⟨b, o, rfl, hb2, hc⟩ := (HA.out.aft HAF.out).at hkl
      have x0 := hc k hkl
      have htl : ((l.take k).map shI).length = k := by rw [List.length_map, List.length_take]; omega
      have HTL := Lib.hid htl
      have HTS : Hid ((l.take (k + 1)).map shI = (l.take k).map shI ++ [shI l[k]]) := Lib.hid (by rw [List.take_succ_eq_append_getElem hkl, List.map_append]; rfl)
      obtain ⟨p, hp⟩ : ∃ p, l[k] = p := ⟨_, rfl⟩
      rw [hp] at x0 HTS
      obtain ⟨L, hL⟩ : ∃ L, (l.take k).map shI = L := ⟨_, rfl⟩
      rw [hL] at HO HTS HTL
      clear hc hp hL htl
      have hba := HAF.out.size
      go_upto_region 5 with fail
      clear x0 t1
      go_wp2_with (first | (go_at_call 38; refine (ratioL_any _ _ _).mono ?_; rintro e w2 ⟨rfl, u, rfl⟩) | (at_builtin; refine wpList_pushF (enc := enc4) ty26 rfl _ _ rfl (own_aft HO.out (((Aft.lat _ _).then_lat _).then_alloc _)) (Nat.le_trans hba (((Aft.lat _ _).then_lat _).then_alloc _).size) rfl (shI p) rfl rfl (src_blk (Blk.new _ 93 _)) (by intro u hu; simp [enc4, shI] at hu; rcases hu with rfl | rfl | rfl | rfl <;> rfl) (by rw [HTL.out]; omega) (by decide) ?_; intro v8 w7 ho8 hg8))
      have ha9 := (HAF.out.trans (((Aft.lat _ _).then_lat _).then_alloc _)).grown hg8 (own_ge HO.out)
      refine ⟨⟨k + 1, by go_num, by omega, by rw [HTS.out]; exact ho8, ha9⟩, by simp [intOf]; omega⟩
    · have t1 : decide (k < l.length) = false := by simpa using hkl
      have et : l.take k = l := List.take_of_length_le (by omega)
      rw [et] at HO
      go_wp2_with fail
      go_ret
      exact ⟨_, rfl, HO.out, HAF.out⟩
end Go.Proofs
end
