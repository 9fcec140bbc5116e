/- Own texts, merged: Yg. -/
import Derived.Test.YthegmhnaiabcpaaD21
set_option linter.unusedSimpArgs false
set_option linter.unusedVariables false
set_option linter.unnecessarySimpa false
section
/- Walks: the reference's Bars 24. -/
namespace Sheet
variable {S : Nat → Nat → Bool} {n m : Nat} {V : Nat × Nat → Nat}
/-- The first r pairs hold, as the reference asks: none of the later ones has the same level. -/
structure RBar (S : Nat → Nat → Bool) (n m : Nat) (V : Nat × Nat → Nat) (r : Nat) : Prop where
  iff : ∀ i k, i < n → k < m → i * m + k < r → (0 < V (i, k) ↔ S i k = true)
  ne : ∀ i k u v, i < u → u < n → k < v → v < m → i * m + k < r → 0 < V (i, k) → V (u, v) ≠ V (i, k)
theorem RBar.start : RBar S n m V 0 := ⟨fun _ _ _ _ h => absurd h (Nat.not_lt_zero _), fun _ _ _ _ _ _ _ _ h => absurd h (Nat.not_lt_zero _)⟩
theorem RBar.round {a b : Nat} (h : RBar S n m V (a * m + b)) (hb : b < m) (h1 : 0 < V (a, b) ↔ S a b = true) (h2 : 0 < V (a, b) → ∀ u v, a < u → u < n → b < v → v < m → V (u, v) ≠ V (a, b)) : RBar S n m V (a * m + b + 1) := by
  refine ⟨fun i k hi hk hr => ?_, fun i k u v hu hun hv hvm hr => ?_⟩
  · by_cases e : i * m + k < a * m + b
    · exact h.iff i k hi hk e
    · obtain ⟨rfl, rfl⟩ := idx_same (show i * m + k = a * m + b by omega) hk hb
      exact h1
  · by_cases e : i * m + k < a * m + b
    · exact h.ne i k u v hu hun hv hvm e
    · obtain ⟨rfl, rfl⟩ := idx_same (show i * m + k = a * m + b by omega) (by omega) hb
      exact fun hp => h2 hp u v hu hun hv hvm
theorem RBar.bar (h : RBar S n m V (n * m)) : Bar S n m fun a b => V (a, b) :=
  ⟨fun i k hi hk => h.iff i k hi hk (idx_lt hi hk), fun i k i' k' hi hk hi' hk' hp e => by
    exact h.ne i' k' i k hi' hi hk' hk (idx_lt (by omega) (by omega)) (by rw [e]; exact hp) e.symm⟩
theorem Bar.later {W : Nat → Nat → Nat} (h : Bar S n m W) {i k u v : Nat} (hi : i < u) (hu : u < n) (hk : k < v) (hv : v < m) (hp : 0 < W i k) : W u v ≠ W i k := fun e => h.ne u v i k hu hv hi hk (by rw [e]; exact hp) e.symm
end Sheet
namespace Go.Proofs
open Go.RowKit
attribute [local go_sem] Oper.semAt_some

/-- A number of a list of lists. -/
def vI (lv : List (List Int)) (i k : Nat) : Int := (lv.getD i []).getD k 0
theorem vN_vI (lv : List (List Int)) (i k : Nat) : vN lv (i, k) = (vI lv i k).toNat := rfl
theorem vI_mem {lv : List (List Int)} {n m : Nat} (h : ShapeL lv n m) {i k : Nat} (hi : i < n) (hk : k < m) : ∃ r ∈ lv, vI lv i k ∈ r := by
  have hil : i < lv.length := by rw [h.n]; exact hi
  have hkl : k < lv[i].length := by rw [h.m _ (List.getElem_mem hil)]; exact hk
  refine ⟨lv[i], List.getElem_mem hil, ?_⟩
  have e : vI lv i k = lv[i][k] := by
    unfold vI
    simp only [List.getD_eq_getElem?_getD, List.getElem?_eq_getElem hil, Option.getD_some, List.getElem?_eq_getElem hkl]
  rw [e]
  exact List.getElem_mem hkl
theorem ShapeL.cells {lv : List (List Int)} {n m : Nat} (h : ShapeL lv n m) {w : World} {A : Option Addr} (hL : Lists w A lv) {i k : Nat} (hi : i < n) (hk : k < m) :
    ∃ b o b' o' c', A = some ⟨b, o, none⟩ ∧ b < w.heap.size ∧ b' < w.heap.size ∧ w.cell? ⟨b, o + i, none⟩ = some (.slice (some ⟨b', o', none⟩) m c') ∧ w.cell? ⟨b', o' + k, none⟩ = some (.int .i64 (vI lv i k)) := by
  have hil : i < lv.length := by rw [h.n]; exact hi
  obtain ⟨b, o, rfl, hb, hc⟩ := hL.at hil
  obtain ⟨A', c', h1, h2⟩ := hc i hil
  have hm := h.m _ (List.getElem_mem hil)
  have hkl : k < lv[i].length := by rw [hm]; exact hk
  obtain ⟨b', o', rfl, hb', hc'⟩ := h2.at hkl
  have e : vI lv i k = lv[i][k] := by
    unfold vI
    simp only [List.getD_eq_getElem?_getD, List.getElem?_eq_getElem hil, Option.getD_some, List.getElem?_eq_getElem hkl]
  refine ⟨b, o, b', o', c', rfl, hb, hb', by rw [h1, hm], ?_⟩
  rw [e]
  exact hc' k hkl
/-- The first r numbers can be. -/
def ValTo (lv : List (List Int)) (n m r : Nat) : Prop := ∀ i k, i < n → k < m → i * m + k < r → 0 ≤ vI lv i k ∧ vI lv i k ≤ 30
theorem ValTo.start (lv : List (List Int)) (n m : Nat) : ValTo lv n m 0 := fun _ _ _ _ h => absurd h (Nat.not_lt_zero _)
theorem ValTo.round {lv : List (List Int)} {n m a b : Nat} (h : ValTo lv n m (a * m + b)) (hb : b < m) (hv : 0 ≤ vI lv a b ∧ vI lv a b ≤ 30) : ValTo lv n m (a * m + b + 1) := fun i k hi hk hr => by
  by_cases e : i * m + k < a * m + b
  · exact h i k hi hk e
  · obtain ⟨rfl, rfl⟩ := Sheet.idx_same (show i * m + k = a * m + b by omega) hk hb
    exact hv
theorem ValTo.all {lv : List (List Int)} {n m : Nat} (h : ValTo lv n m (n * m)) (hs : ShapeL lv n m) : ValL lv := fun r hr x hx => by
  obtain ⟨i, hi, rfl⟩ := List.mem_iff_getElem.1 hr
  obtain ⟨k, hk, rfl⟩ := List.mem_iff_getElem.1 hx
  have hin : i < n := by rw [← hs.n]; exact hi
  have hkm : k < m := by rw [← hs.m _ hr]; exact hk
  have e : vI lv i k = lv[i][k] := by
    unfold vI
    simp only [List.getD_eq_getElem?_getD, List.getElem?_eq_getElem hi, Option.getD_some, List.getElem?_eq_getElem hk]
  have := h i k hin hkm (Sheet.idx_lt hin hkm)
  rwa [e] at this

set_option maxRecDepth 100000 in
set_option maxHeartbeats 8000000 in
theorem refBars_any (la lb : List (Int × Int)) (play : Int) (lv : List (List Int)) (A B Al : Option Addr) (ca cb cl : Nat) (w : World) (hA : Prs w A la) (hB : Prs w B lb) (hL : Lists w Al lv) :
    Calls Try.prog 24 #[.slice A la.length ca, .slice B lb.length cb, .int .i64 play, .slice Al lv.length cl] w fun e w' => ∃ v err, e = .returned (.tuple #[.int .i64 v, .int .i64 err]) ∧ BarsW play la lb lv v err ∧ Aft w w' := by
  have HRE := Lib.hid (refEdges_any la lb play A B ca cb w hA hB)
  have hll := hL.len
  have HA := Lib.hid hA
  have HB := Lib.hid hB
  have HL := Lib.hid hL
  clear hA hB hL
  by_cases he : edgesE la lb play = 0
  case neg =>
    have HW : Hid (BarsW play la lb lv 0 (edgesE la lb play)) := Lib.hid (.inl ⟨he, rfl, rfl⟩)
    obtain ⟨ee, hee⟩ : ∃ z, edgesE la lb play = z := ⟨_, rfl⟩
    rw [hee] at HRE he HW
    have t1 : (ee != 0) = true := by simpa using he
    clear hee
    go_enter Try.func24, Try.ntmps24
    go_wp2_with (go_at_call 60; refine HRE.out.mono ?_; rintro e w1 ⟨rfl, u, rfl⟩)
    exact bodyPost_ret (v := .tuple #[.int .i64 0, .int .i64 ee]) (by simp [results, Try.results24, go_sem]) rfl ⟨_, _, rfl, HW.out, Aft.lat _ u⟩
  obtain ⟨hla, hlb, hma, hmb, -, -, -⟩ := edgesE_ok he
  have HE := Lib.hid he
  rw [he] at HRE
  clear he
  by_cases hn : lv.length = la.length
  case neg =>
    have HW : Hid (BarsW play la lb lv 0 2) := Lib.hid (.inr ⟨HE.out, .inl ⟨fun h => hn h.n, rfl, rfl⟩⟩)
    have t1 : ((lv.length : Int) != (la.length : Int)) = true := by rw [bne_iff_ne]; omega
    clear hn hma hmb
    go_enter Try.func24, Try.ntmps24
    go_wp2_with (go_at_call 60; refine HRE.out.mono ?_; rintro e w1 ⟨rfl, u, rfl⟩)
    exact bodyPost_ret (v := .tuple #[.int .i64 0, .int .i64 2]) (by simp [results, Try.results24, go_sem]) rfl ⟨_, _, rfl, HW.out, Aft.lat _ u⟩
  have HN := Lib.hid hn
  have HSA : Hid (∀ i k (hi : i < la.length) (hk : k < lb.length) W, Calls Try.prog 62 #[.agg #[.int .i64 la[i].1, .int .i64 la[i].2], .agg #[.int .i64 lb[k].1, .int .i64 lb[k].2], .int .i64 play] W fun e w' => e = .returned (.bool (sameB play la lb i k)) ∧ Aft W w') := Lib.hid fun i k hi hk W => by
    have := sameR_any la[i] lb[k] play W (List.all_eq_true.1 hma _ (List.getElem_mem hi)) (List.all_eq_true.1 hmb _ (List.getElem_mem hk))
    have e : sameB play la lb i k = sameM play la[i] lb[k] := by
      unfold sameB
      rw [List.getD_eq_getElem?_getD, List.getD_eq_getElem?_getD, List.getElem?_eq_getElem hi, List.getElem?_eq_getElem hk]
      rfl
    rw [e]
    exact this
  rw [hn]
  clear hn hma hmb hll
  have t0 : ((la.length : Int) != (la.length : Int)) = false := by simp
  go_enter Try.func24, Try.ntmps24
  go_upto_block 0 with (go_at_call 60; refine HRE.out.mono ?_; rintro e W1 ⟨rfl, ha1⟩)
  have H1 := Lib.hid ha1
  clear ha1 HRE t0
  refine wp_block ?_
  go_loopw [11] (fun i wr => ∃ k : Nat, i = .int .i64 (k : Nat) ∧ k ≤ la.length ∧ Hid (∀ j (h : j < lv.length), j < k → lv[j].length = lb.length) ∧ Aft w wr) (fun i _ => la.length - (intOf i).toNat)
  case atStart => exact ⟨0, rfl, by omega, Lib.hid fun j _ h => absurd h (Nat.not_lt_zero _), H1.out⟩
  case round =>
    obtain ⟨k, rfl, hk, HT, hw1⟩ := hrel
    have H2 := Lib.hid hw1
    clear H1 hw1
    by_cases hkl : k < la.length
    · have t1 : decide (k < la.length) = true := by simpa using hkl
      have hkv : k < lv.length := by rw [HN.out]; exact hkl
      obtain ⟨bl, ol, rfl, hbl, hcl⟩ := (HL.out.aft H2.out).at hkv
      obtain ⟨A', c', x0, x1⟩ := hcl k hkv
      have hxl := x1.len
      have HQ : Hid (lv[k].length = lb.length → ∀ j (h : j < lv.length), j < k + 1 → lv[j].length = lb.length) := Lib.hid fun e j h hj => by
        by_cases e2 : j = k
        · subst e2; exact e
        · exact HT.out j h (by omega)
      have HNQ : Hid (lv[k].length ≠ lb.length → ¬ ShapeL lv la.length lb.length) := Lib.hid fun e h => e (h.m _ (List.getElem_mem hkv))
      obtain ⟨q, hq⟩ : ∃ q, lv[k].length = q := ⟨_, rfl⟩
      rw [hq] at x0 HQ HNQ hxl
      clear hcl x1 hq
      by_cases hql : q = lb.length
      · have t2 : ((q : Int) != (lb.length : Int)) = false := by rw [bne_eq_false_iff_eq]; omega
        have HN2 := Lib.hid (HQ.out hql)
        clear hql HQ HNQ
        go_wp2_with fail
        exact ⟨⟨k + 1, by go_num, by omega, HN2, H2.out⟩, by simp [intOf]; omega⟩
      · have t2 : ((q : Int) != (lb.length : Int)) = true := by rw [bne_iff_ne]; omega
        have HW : Hid (BarsW play la lb lv 0 2) := Lib.hid (.inr ⟨HE.out, .inl ⟨HNQ.out hql, rfl, rfl⟩⟩)
        clear hql HQ HNQ
        go_wp2_with fail
        exact bodyPost_ret (v := .tuple #[.int .i64 0, .int .i64 2]) (by simp [results, Try.results24, go_sem]) rfl ⟨_, _, rfl, HW.out, H2.out⟩
    · have t1 : decide (k < la.length) = false := by simpa using hkl
      have hsh : ShapeL lv la.length lb.length := ⟨HN.out, fun r hr => by
        obtain ⟨j, hj, rfl⟩ := List.mem_iff_getElem.1 hr
        exact HT.out j hj (by have := HN.out; omega)⟩
      have HSH := Lib.hid hsh
      clear hsh HT
      go_upto_block 2 with fail
      refine wp_block ?_
      go_loopw [12, 13] (fun x i wr => ∃ a mx : Nat, i = .int .i64 (a : Nat) ∧ x = .int .i64 (mx : Nat) ∧ a ≤ la.length ∧ Hid (ValTo lv la.length lb.length (a * lb.length) ∧ Sheet.MaxTo la.length lb.length (vN lv) (a * lb.length) mx ∧ mx ≤ 30) ∧ Aft w wr) (fun _ i _ => la.length - (intOf i).toNat)
      case atStart => exact ⟨0, 0, rfl, rfl, by omega, Lib.hid (by rw [Nat.zero_mul]; exact ⟨ValTo.start _ _ _, Sheet.MaxTo.start, by omega⟩), H2.out⟩
      case round =>
        clear t1 hkl hk
        obtain ⟨a, mx, rfl, rfl, hal, HV, hw3⟩ := hrel
        have H3 := Lib.hid hw3
        clear H2 hw3
        by_cases hkl : a < la.length
        · have t1 : decide (a < la.length) = true := by simpa using hkl
          go_upto_block 4 with fail
          clear t1
          refine wp_block ?_
          go_loopw [12, 14] (fun x i wr => ∃ b mx : Nat, i = .int .i64 (b : Nat) ∧ x = .int .i64 (mx : Nat) ∧ b ≤ lb.length ∧ Hid (ValTo lv la.length lb.length (a * lb.length + b) ∧ Sheet.MaxTo la.length lb.length (vN lv) (a * lb.length + b) mx ∧ mx ≤ 30) ∧ Aft w wr) (fun _ i _ => lb.length - (intOf i).toNat)
          case atStart => exact ⟨0, mx, rfl, rfl, by omega, HV, H3.out⟩
          case round =>
            obtain ⟨b, mx, rfl, rfl, hbl2, HV2, hw4⟩ := hrel
            have H4 := Lib.hid hw4
            clear H3 hw4 HV
            by_cases hkb : b < lb.length
            · have t2 : decide (b < lb.length) = true := by simpa using hkb
              obtain ⟨bl, ol, br, or_, cr, rfl, hbl, hbr, x0, x1⟩ := HSH.out.cells (HL.out.aft H4.out) hkl hkb
              obtain ⟨z, hz⟩ : ∃ z, vI lv a b = z := ⟨_, rfl⟩
              rw [hz] at x1
              have ia : (0 : Int) ≤ (a : Int) ∧ (a : Int) < (la.length : Int) := by omega
              have ib : (0 : Int) ≤ (b : Int) ∧ (b : Int) < (lb.length : Int) := by omega
              cases e1 : fromB z 0 30
              · have F1 := Lib.hid e1
                have HW : Hid (BarsW play la lb lv 0 4) := Lib.hid (.inr ⟨HE.out, .inr ⟨HSH.out, .inl ⟨fun h => by
                  obtain ⟨r, hr, hx⟩ := vI_mem HSH.out hkl hkb
                  have h2 := h r hr _ hx
                  rw [hz] at h2
                  exact Bool.noConfusion (((fromB_iff ..).2 h2).symm.trans e1), rfl, rfl⟩⟩⟩)
                clear e1 hz
                go_wp2_with (go_at_call 61; refine (outside_any _ _ _ _).mono ?_; rintro e w9 ⟨rfl, rfl⟩; rw [F1.out])
                exact bodyPost_ret (v := .tuple #[.int .i64 0, .int .i64 4]) (by simp [results, Try.results24, go_sem]) rfl ⟨_, _, rfl, HW.out, H4.out⟩
              · have F1 := Lib.hid e1
                rw [fromB_iff] at e1
                obtain ⟨zn, rfl⟩ : ∃ zn : Nat, z = zn := ⟨z.toNat, by omega⟩
                obtain ⟨my, hmy⟩ : ∃ my, max mx (vN lv (a, b)) = my := ⟨_, rfl⟩
                have hvn : vN lv (a, b) = zn := by rw [vN_vI, hz]; exact Int.toNat_natCast zn
                have hmx := HV2.out.2.2
                have hmm : (if (mx : Int) < (zn : Int) then (zn : Int) else (mx : Int)) = (my : Int) := by rw [hvn] at hmy; split <;> omega
                have HN2 : Hid (ValTo lv la.length lb.length (a * lb.length + (b + 1)) ∧ Sheet.MaxTo la.length lb.length (vN lv) (a * lb.length + (b + 1)) my ∧ my ≤ 30) := Lib.hid ⟨HV2.out.1.round hkb (by rw [hz]; exact e1), HV2.out.2.1.round hkl hkb hmy, by rw [hvn] at hmy; omega⟩
                clear e1 hz hmy hvn hmx HV2
                go_wp2_with (go_at_call 61; refine (outside_any _ _ _ _).mono ?_; rintro e w9 ⟨rfl, rfl⟩; rw [F1.out])
                exact ⟨⟨b + 1, my, by go_num, by first | rfl | (simp; omega), by omega, HN2, H4.out⟩, by simp [intOf]; omega⟩
            · have t2 : decide (b < lb.length) = false := by simpa using hkb
              have HN2 : Hid (ValTo lv la.length lb.length ((a + 1) * lb.length) ∧ Sheet.MaxTo la.length lb.length (vN lv) ((a + 1) * lb.length) mx ∧ mx ≤ 30) := Lib.hid (by
                have := HV2.out
                rw [show b = lb.length by omega] at this
                rw [Nat.succ_mul]
                exact this)
              go_wp2_with fail
              exact ⟨⟨a + 1, mx, by go_num, rfl, by omega, HN2, H4.out⟩, by simp [intOf]; omega⟩
        · have t1 : decide (a < la.length) = false := by simpa using hkl
          have hv9 := HV.out
          rw [show a = la.length by omega] at hv9
          have HOK := Lib.hid (HSH.out.ok (hv9.1.all HSH.out))
          have HVL := Lib.hid (hv9.1.all HSH.out)
          have HMX := Lib.hid hv9.2.1
          clear hv9 HV
          go_upto_block 6 with fail
          refine wp_block ?_
          go_loopw [15] (fun i wr => ∃ a : Nat, i = .int .i64 (a : Nat) ∧ a ≤ la.length ∧ Hid (Sheet.RBar (sameB play la lb) la.length lb.length (vN lv) (a * lb.length)) ∧ Aft w wr) (fun i _ => la.length - (intOf i).toNat)
          case atStart => exact ⟨0, rfl, by omega, Lib.hid (by rw [Nat.zero_mul]; exact Sheet.RBar.start), H3.out⟩
          case round =>
            clear t1 hkl hal
            obtain ⟨a, rfl, hal, HR, hw5⟩ := hrel
            have H5 := Lib.hid hw5
            clear H3 hw5
            by_cases hkl : a < la.length
            · have t1 : decide (a < la.length) = true := by simpa using hkl
              go_upto_block 8 with fail
              clear t1
              refine wp_block ?_
              go_loopw [16] (fun i wr => ∃ b : Nat, i = .int .i64 (b : Nat) ∧ b ≤ lb.length ∧ Hid (Sheet.RBar (sameB play la lb) la.length lb.length (vN lv) (a * lb.length + b)) ∧ Aft w wr) (fun i _ => lb.length - (intOf i).toNat)
              case atStart => exact ⟨0, rfl, by omega, HR, H5.out⟩
              case round =>
                obtain ⟨b, rfl, hbl2, HR2, hw6⟩ := hrel
                have H6 := Lib.hid hw6
                clear H5 hw6 HR
                by_cases hkb : b < lb.length
                · have t2 : decide (b < lb.length) = true := by simpa using hkb
                  have HSM := Lib.hid (HSA.out a b hkl hkb)
                  have HRD : Hid ((0 < vN lv (a, b) ↔ sameB play la lb a b = true) → (0 < vN lv (a, b) → ∀ u v, a < u → u < la.length → b < v → v < lb.length → vN lv (u, v) ≠ vN lv (a, b)) → Sheet.RBar (sameB play la lb) la.length lb.length (vN lv) (a * lb.length + (b + 1))) := Lib.hid fun h1 h2 => HR2.out.round hkb h1 h2
                  have HBI : Hid (Sheet.Bar (sameB play la lb) la.length lb.length (fun a b => vN lv (a, b)) → (0 < vN lv (a, b) ↔ sameB play la lb a b = true)) := Lib.hid fun h => h.iff a b hkl hkb
                  have HBL : Hid (Sheet.Bar (sameB play la lb) la.length lb.length (fun a b => vN lv (a, b)) → 0 < vN lv (a, b) → ∀ u v, a < u → u < la.length → b < v → v < lb.length → vN lv (u, v) ≠ vN lv (a, b)) := Lib.hid fun h h2 u v h3 h4 h5 h6 => h.later h3 h4 h5 h6 h2
                  have HWB : Hid (¬ Sheet.Bar (sameB play la lb) la.length lb.length (fun a b => vN lv (a, b)) → BarsW play la lb lv 0 9) := Lib.hid fun h => .inr ⟨HE.out, .inr ⟨HSH.out, .inr ⟨HVL.out, .inl ⟨h, rfl, rfl⟩⟩⟩⟩
                  obtain ⟨bl, ol, br, or_, cr, rfl, hbl, hbr, x0, x1, hx30⟩ := HOK.out.cells (HL.out.aft H6.out) hkl hkb
                  obtain ⟨x, hx⟩ : ∃ x, vN lv (a, b) = x := ⟨_, rfl⟩
                  rw [hx] at x1 hx30 HRD HBI HBL
                  obtain ⟨sm, hsm⟩ : ∃ sm, sameB play la lb a b = sm := ⟨_, rfl⟩
                  rw [hsm] at HSM HRD HBI
                  obtain ⟨ba, oa, rfl, hba, hca⟩ := (HA.out.aft H6.out).at hkl
                  obtain ⟨bb, ob, rfl, hbb, hcb⟩ := (HB.out.aft H6.out).at hkb
                  obtain ⟨y0, y1⟩ := hca a hkl
                  obtain ⟨z0, z1⟩ := hcb b hkb
                  obtain ⟨⟨a1, a2⟩, hla2⟩ : ∃ y, la[a] = y := ⟨_, rfl⟩
                  obtain ⟨⟨b1, b2⟩, hlb2⟩ : ∃ y, lb[b] = y := ⟨_, rfl⟩
                  rw [hla2] at y0 y1 HSM
                  rw [hlb2] at z0 z1 HSM
                  dsimp only at y0 y1 z0 z1 HSM
                  rename World => wo
                  have HX0 : Hid (∀ W, Aft wo W → W.cell? ⟨bl, ol + a, none⟩ = some (.slice (some ⟨br, or_, none⟩) lb.length cr)) := Lib.hid fun W h => cellA x0 hbl h
                  have HX1 : Hid (∀ W, Aft wo W → W.cell? ⟨br, or_ + b, none⟩ = some (.int .i64 (x : Nat))) := Lib.hid fun W h => cellA x1 hbr h
                  have HA1 : Hid (∀ W, Aft wo W → W.cell? ⟨ba, oa + a * 2, none⟩ = some (.int .i64 a1)) := Lib.hid fun W h => cellA y0 hba h
                  have HA2 : Hid (∀ W, Aft wo W → W.cell? ⟨ba, oa + a * 2 + 1, none⟩ = some (.int .i64 a2)) := Lib.hid fun W h => cellA y1 hba h
                  have HB1 : Hid (∀ W, Aft wo W → W.cell? ⟨bb, ob + b * 2, none⟩ = some (.int .i64 b1)) := Lib.hid fun W h => cellA z0 hbb h
                  have HB2 : Hid (∀ W, Aft wo W → W.cell? ⟨bb, ob + b * 2 + 1, none⟩ = some (.int .i64 b2)) := Lib.hid fun W h => cellA z1 hbb h
                  have ia : (0 : Int) ≤ (a : Int) ∧ (a : Int) < (la.length : Int) := by omega
                  have ib : (0 : Int) ≤ (b : Int) ∧ (b : Int) < (lb.length : Int) := by omega
                  obtain ⟨xb, hxbN⟩ : ∃ xb, decide (0 < x) = xb := ⟨_, rfl⟩
                  have hxb : decide ((0 : Int) < (x : Int)) = xb := by rw [← hxbN]; simp
                  obtain ⟨d, hd⟩ : ∃ d, (xb != sm) = d := ⟨_, rfl⟩
                  clear hca hcb hla2 hlb2 y0 y1 z0 z1 x0 x1
                  go_upto_region 27 with fail
                  clear t2
                  refine wp_region_valsG (by kernel_rfl) 147 rfl (by kernel_rfl) (by kernel_rfl) [.slice (some ⟨bl, ol, none⟩) la.length cl, .int .i64 (a : Nat), .pointer (some ⟨bl, ol + a, none⟩), .slice (some ⟨br, or_, none⟩) lb.length cr, .int .i64 (b : Nat), .pointer (some ⟨br, or_ + b, none⟩), .int .i64 (x : Nat), .bool xb, .slice (some ⟨ba, oa, none⟩) la.length ca, .int .i64 (a : Nat), .pointer (some ⟨ba, oa + a * 2, none⟩), .agg #[.int .i64 a1, .int .i64 a2], .slice (some ⟨bb, ob, none⟩) lb.length cb, .int .i64 (b : Nat), .pointer (some ⟨bb, ob + b * 2, none⟩), .agg #[.int .i64 b1, .int .i64 b2], .int .i64 play, .bool sm, .bool d] rfl (fun W => Aft wo W) (Aft.drew _) ?st1 ?fi1
                  case st1 =>
                    intro i o v ho hv
                    match i, ho, hv with
                    | 0, ho, hv =>
                      cases ho; cases hv
                      refine .inl ⟨rfl, fun a W hk hw K hK => ?_⟩
                      have e3 := hk.same 3 (by decide)
                      exact op_val (by simp [go_sem, ev' e3]) (hK _ hw)
                    | 1, ho, hv =>
                      cases ho; cases hv
                      refine .inl ⟨rfl, fun a W hk hw K hK => ?_⟩
                      have e15 := hk.same 15 (by decide)
                      exact op_val (by simp [go_sem, ev' e15]) (hK _ hw)
                    | 2, ho, hv =>
                      cases ho; cases hv
                      refine .inl ⟨rfl, fun a W hk hw K hK => ?_⟩
                      have e86 := hk.at_ 0 _ 86 _ rfl (by decide) _ rfl rfl rfl
                      have e87 := hk.at_ 1 _ 87 _ rfl (by decide) _ rfl rfl rfl
                      exact op_val (by simp [go_sem, ev' e86, ev' e87, ia]) (hK _ hw)
                    | 3, ho, hv =>
                      cases ho; cases hv
                      refine .inl ⟨rfl, fun a W hk hw K hK => ?_⟩
                      have e88 := hk.at_ 2 _ 88 _ rfl (by decide) _ rfl rfl rfl
                      exact op_val (by simp [go_sem, ev' e88, HX0.out W hw]) (hK _ hw)
                    | 4, ho, hv =>
                      cases ho; cases hv
                      refine .inl ⟨rfl, fun a W hk hw K hK => ?_⟩
                      have e16 := hk.same 16 (by decide)
                      exact op_val (by simp [go_sem, ev' e16]) (hK _ hw)
                    | 5, ho, hv =>
                      cases ho; cases hv
                      refine .inl ⟨rfl, fun a W hk hw K hK => ?_⟩
                      have e89 := hk.at_ 3 _ 89 _ rfl (by decide) _ rfl rfl rfl
                      have e90 := hk.at_ 4 _ 90 _ rfl (by decide) _ rfl rfl rfl
                      exact op_val (by simp [go_sem, ev' e89, ev' e90, ib]) (hK _ hw)
                    | 6, ho, hv =>
                      cases ho; cases hv
                      refine .inl ⟨rfl, fun a W hk hw K hK => ?_⟩
                      have e91 := hk.at_ 5 _ 91 _ rfl (by decide) _ rfl rfl rfl
                      exact op_val (by simp [go_sem, ev' e91, HX1.out W hw]) (hK _ hw)
                    | 7, ho, hv =>
                      cases ho; cases hv
                      refine .inl ⟨rfl, fun a W hk hw K hK => ?_⟩
                      have e92 := hk.at_ 6 _ 92 _ rfl (by decide) _ rfl rfl rfl
                      exact op_val (by simp [go_sem, ev' e92, hxb, hxbN]) (hK _ hw)
                    | 8, ho, hv =>
                      cases ho; cases hv
                      refine .inl ⟨rfl, fun a W hk hw K hK => ?_⟩
                      have e0 := hk.same 0 (by decide)
                      exact op_val (by simp [go_sem, ev' e0]) (hK _ hw)
                    | 9, ho, hv =>
                      cases ho; cases hv
                      refine .inl ⟨rfl, fun a W hk hw K hK => ?_⟩
                      have e15 := hk.same 15 (by decide)
                      exact op_val (by simp [go_sem, ev' e15]) (hK _ hw)
                    | 10, ho, hv =>
                      cases ho; cases hv
                      refine .inl ⟨rfl, fun a W hk hw K hK => ?_⟩
                      have e94 := hk.at_ 8 _ 94 _ rfl (by decide) _ rfl rfl rfl
                      have e95 := hk.at_ 9 _ 95 _ rfl (by decide) _ rfl rfl rfl
                      exact op_val (by simp [go_sem, ev' e94, ev' e95, ia]) (hK _ hw)
                    | 11, ho, hv =>
                      cases ho; cases hv
                      refine .inl ⟨rfl, fun a W hk hw K hK => ?_⟩
                      have e96 := hk.at_ 10 _ 96 _ rfl (by decide) _ rfl rfl rfl
                      exact op_val (by simp [go_sem, ev' e96, HA1.out W hw, HA2.out W hw]) (hK _ hw)
                    | 12, ho, hv =>
                      cases ho; cases hv
                      refine .inl ⟨rfl, fun a W hk hw K hK => ?_⟩
                      have e1 := hk.same 1 (by decide)
                      exact op_val (by simp [go_sem, ev' e1]) (hK _ hw)
                    | 13, ho, hv =>
                      cases ho; cases hv
                      refine .inl ⟨rfl, fun a W hk hw K hK => ?_⟩
                      have e16 := hk.same 16 (by decide)
                      exact op_val (by simp [go_sem, ev' e16]) (hK _ hw)
                    | 14, ho, hv =>
                      cases ho; cases hv
                      refine .inl ⟨rfl, fun a W hk hw K hK => ?_⟩
                      have e98 := hk.at_ 12 _ 98 _ rfl (by decide) _ rfl rfl rfl
                      have e99 := hk.at_ 13 _ 99 _ rfl (by decide) _ rfl rfl rfl
                      exact op_val (by simp [go_sem, ev' e98, ev' e99, ib]) (hK _ hw)
                    | 15, ho, hv =>
                      cases ho; cases hv
                      refine .inl ⟨rfl, fun a W hk hw K hK => ?_⟩
                      have e100 := hk.at_ 14 _ 100 _ rfl (by decide) _ rfl rfl rfl
                      exact op_val (by simp [go_sem, ev' e100, HB1.out W hw, HB2.out W hw]) (hK _ hw)
                    | 16, ho, hv =>
                      cases ho; cases hv
                      refine .inl ⟨rfl, fun a W hk hw K hK => ?_⟩
                      have e2 := hk.same 2 (by decide)
                      exact op_val (by simp [go_sem, ev' e2]) (hK _ hw)
                    | 17, ho, hv =>
                      cases ho; cases hv
                      refine .inl ⟨rfl, fun a W hk hw K hK => ?_⟩
                      have e97 := hk.at_ 11 _ 97 _ rfl (by decide) _ rfl rfl rfl
                      have e101 := hk.at_ 15 _ 101 _ rfl (by decide) _ rfl rfl rfl
                      have e102 := hk.at_ 16 _ 102 _ rfl (by decide) _ rfl rfl rfl
                      refine op_callN rfl rfl rfl _ rfl (vs := #[.agg #[.int .i64 a1, .int .i64 a2], .agg #[.int .i64 b1, .int .i64 b2], .int .i64 play]) (by simp [e97, e101, e102]) (HSM.out W) ?_
                      rintro e w7 ⟨rfl, hw7⟩
                      exact ⟨_, rfl, hK _ (hw.trans hw7)⟩
                    | 18, ho, hv =>
                      cases ho; cases hv
                      refine .inl ⟨rfl, fun a W hk hw K hK => ?_⟩
                      have e93 := hk.at_ 7 _ 93 _ rfl (by decide) _ rfl rfl rfl
                      have e103 := hk.at_ 17 _ 103 _ rfl (by decide) _ rfl rfl rfl
                      exact op_val (v := .bool d) (by rcases Bool.eq_false_or_eq_true xb with g1 | g1 <;> rcases Bool.eq_false_or_eq_true sm with g2 | g2 <;> simp [go_sem, ev' e93, ev' e103, g1, g2, ← hd]) (hK _ hw)
                    | _ + 19, _, hv => cases hv
                  intro W hw
                  simp only [List.drop_succ_cons, List.drop_zero, List.zip_cons_cons, List.zip_nil_right, putAll]
                  simp only [Act.put, List.setIfInBounds_toArray, List.set]
                  have H7 := Lib.hid (H6.out.trans hw)
                  have HWW := Lib.hid hw
                  clear hw H6 HA1 HA2 HB1 HB2
                  cases d
                  case true =>
                    have HW : Hid (BarsW play la lb lv 0 9) := Lib.hid (HWB.out fun h => by
                      have h1 := HBI.out h
                      have h2 : xb ≠ sm := by simpa using hd
                      apply h2
                      rw [← hxbN]
                      cases sm
                      · exact decide_eq_false fun e => by have := h1.1 e; cases this
                      · exact decide_eq_true (h1.2 rfl))
                    clear hd
                    go_wp2_with fail
                    exact bodyPost_ret (v := .tuple #[.int .i64 0, .int .i64 9]) (by simp [results, Try.results24, go_sem]) rfl ⟨_, _, rfl, HW.out, H7.out⟩
                  case false =>
                    have HIF : Hid (0 < x ↔ sm = true) := Lib.hid (by
                      have h2 : xb = sm := by simpa using hd
                      rw [← h2, ← hxbN, decide_eq_true_eq])
                    clear hd
                    go_upto_block 10 with fail
                    refine wp_block ?_
                    go_loopw [17] (fun i wr => ∃ u : Nat, i = .int .i64 (u : Nat) ∧ a + 1 ≤ u ∧ u ≤ la.length ∧ Hid (∀ u' v, a < u' → u' < u → b < v → v < lb.length → vN lv (u', v) ≠ x) ∧ Aft w wr ∧ Aft wo wr) (fun i _ => la.length + 1 - (intOf i).toNat)
                    case atStart => exact ⟨a + 1, by go_num, by omega, by omega, Lib.hid fun u' v h1 h2 => by omega, H7.out, HWW.out⟩
                    case round =>
                      obtain ⟨u, rfl, hau, hul, HNE, hw7, hww⟩ := hrel
                      have H8 := Lib.hid hw7
                      have HW8 := Lib.hid hww
                      rename World => wu
                      clear H7 HWW hw7 hww
                      have c0 := HX0.out wu HW8.out
                      have c1 := HX1.out wu HW8.out
                      have c2 : bl < wu.heap.size := Nat.lt_of_lt_of_le hbl HW8.out.size
                      have c3 : br < wu.heap.size := Nat.lt_of_lt_of_le hbr HW8.out.size
                      by_cases hgo : u < la.length ∧ 0 < x
                      · have t3 : decide (u < la.length) = true := by simpa using hgo.1
                        have t4 : decide (0 < x) = true := by simpa using hgo.2
                        have t4i : decide ((0 : Int) < (x : Int)) = true := by simpa using hgo.2
                        have hun := hgo.1
                        go_upto_block 12 with fail
                        clear c0 c1 c2 c3 t3 t4 t4i hxbN hxb
                        refine wp_block ?_
                        go_loopw [18] (fun i wr => ∃ v : Nat, i = .int .i64 (v : Nat) ∧ b + 1 ≤ v ∧ v ≤ lb.length ∧ Hid (∀ v', b < v' → v' < v → vN lv (u, v') ≠ x) ∧ Aft w wr ∧ Aft wo wr) (fun i _ => lb.length + 1 - (intOf i).toNat)
                        case atStart => exact ⟨b + 1, by go_num, by omega, by omega, Lib.hid fun v' h1 h2 => by omega, H8.out, HW8.out⟩
                        case round =>
                          obtain ⟨v, rfl, hbv, hvl, HNV, hw9, hww9⟩ := hrel
                          have H9 := Lib.hid hw9
                          have HW9 := Lib.hid hww9
                          rename World => wv
                          clear H8 HW8 hw9 hww9
                          by_cases hvb : v < lb.length
                          · have t3 : decide (v < lb.length) = true := by simpa using hvb
                            obtain ⟨bl', ol', bu, ou, cu, el', -, hbu, x0, x1, hy30⟩ := HOK.out.cells (HL.out.aft H9.out) hun hvb
                            cases el'
                            obtain ⟨y, hy⟩ : ∃ y, vN lv (u, v) = y := ⟨_, rfl⟩
                            rw [hy] at x1 hy30
                            have HY := Lib.hid hy
                            have hblv : bl < wv.heap.size := Nat.lt_of_lt_of_le hbl HW9.out.size
                            have HY0 : Hid (∀ W, Aft wv W → W.cell? ⟨bl, ol + u, none⟩ = some (.slice (some ⟨bu, ou, none⟩) lb.length cu)) := Lib.hid fun W h => cellA x0 hblv h
                            have HY1 : Hid (∀ W, Aft wv W → W.cell? ⟨bu, ou + v, none⟩ = some (.int .i64 (y : Nat))) := Lib.hid fun W h => cellA x1 hbu h
                            have iu : (0 : Int) ≤ (u : Int) ∧ (u : Int) < (la.length : Int) := by omega
                            have iv : (0 : Int) ≤ (v : Int) ∧ (v : Int) < (lb.length : Int) := by omega
                            obtain ⟨d2, hd2⟩ : ∃ d2, decide (y = x) = d2 := ⟨_, rfl⟩
                            clear x0 x1 hy
                            go_upto_region 35 with fail
                            clear t3
                            refine wp_region_valsG (by kernel_rfl) 147 rfl (by kernel_rfl) (by kernel_rfl) [.slice (some ⟨bl, ol, none⟩) la.length cl, .int .i64 (u : Nat), .pointer (some ⟨bl, ol + u, none⟩), .slice (some ⟨bu, ou, none⟩) lb.length cu, .int .i64 (v : Nat), .pointer (some ⟨bu, ou + v, none⟩), .int .i64 (y : Nat), .slice (some ⟨bl, ol, none⟩) la.length cl, .int .i64 (a : Nat), .pointer (some ⟨bl, ol + a, none⟩), .slice (some ⟨br, or_, none⟩) lb.length cr, .int .i64 (b : Nat), .pointer (some ⟨br, or_ + b, none⟩), .int .i64 (x : Nat), .bool d2] rfl (fun W => Aft wv W) (Aft.drew _) ?st2 ?fi2
                            case st2 =>
                              intro i o v ho hv
                              match i, ho, hv with
                              | 0, ho, hv =>
                                cases ho; cases hv
                                refine .inl ⟨rfl, fun a W hk hw K hK => ?_⟩
                                have e3 := hk.same 3 (by decide)
                                exact op_val (by simp [go_sem, ev' e3]) (hK _ hw)
                              | 1, ho, hv =>
                                cases ho; cases hv
                                refine .inl ⟨rfl, fun a W hk hw K hK => ?_⟩
                                have e17 := hk.same 17 (by decide)
                                exact op_val (by simp [go_sem, ev' e17]) (hK _ hw)
                              | 2, ho, hv =>
                                cases ho; cases hv
                                refine .inl ⟨rfl, fun a W hk hw K hK => ?_⟩
                                have e131 := hk.at_ 0 _ 131 _ rfl (by decide) _ rfl rfl rfl
                                have e132 := hk.at_ 1 _ 132 _ rfl (by decide) _ rfl rfl rfl
                                exact op_val (by simp [go_sem, ev' e131, ev' e132, iu]) (hK _ hw)
                              | 3, ho, hv =>
                                cases ho; cases hv
                                refine .inl ⟨rfl, fun a W hk hw K hK => ?_⟩
                                have e133 := hk.at_ 2 _ 133 _ rfl (by decide) _ rfl rfl rfl
                                exact op_val (by simp [go_sem, ev' e133, HY0.out W hw]) (hK _ hw)
                              | 4, ho, hv =>
                                cases ho; cases hv
                                refine .inl ⟨rfl, fun a W hk hw K hK => ?_⟩
                                have e18 := hk.same 18 (by decide)
                                exact op_val (by simp [go_sem, ev' e18]) (hK _ hw)
                              | 5, ho, hv =>
                                cases ho; cases hv
                                refine .inl ⟨rfl, fun a W hk hw K hK => ?_⟩
                                have e134 := hk.at_ 3 _ 134 _ rfl (by decide) _ rfl rfl rfl
                                have e135 := hk.at_ 4 _ 135 _ rfl (by decide) _ rfl rfl rfl
                                exact op_val (by simp [go_sem, ev' e134, ev' e135, iv]) (hK _ hw)
                              | 6, ho, hv =>
                                cases ho; cases hv
                                refine .inl ⟨rfl, fun a W hk hw K hK => ?_⟩
                                have e136 := hk.at_ 5 _ 136 _ rfl (by decide) _ rfl rfl rfl
                                exact op_val (by simp [go_sem, ev' e136, HY1.out W hw]) (hK _ hw)
                              | 7, ho, hv =>
                                cases ho; cases hv
                                refine .inl ⟨rfl, fun a W hk hw K hK => ?_⟩
                                have e3 := hk.same 3 (by decide)
                                exact op_val (by simp [go_sem, ev' e3]) (hK _ hw)
                              | 8, ho, hv =>
                                cases ho; cases hv
                                refine .inl ⟨rfl, fun a W hk hw K hK => ?_⟩
                                have e15 := hk.same 15 (by decide)
                                exact op_val (by simp [go_sem, ev' e15]) (hK _ hw)
                              | 9, ho, hv =>
                                cases ho; cases hv
                                refine .inl ⟨rfl, fun a W hk hw K hK => ?_⟩
                                have e138 := hk.at_ 7 _ 138 _ rfl (by decide) _ rfl rfl rfl
                                have e139 := hk.at_ 8 _ 139 _ rfl (by decide) _ rfl rfl rfl
                                exact op_val (by simp [go_sem, ev' e138, ev' e139, ia]) (hK _ hw)
                              | 10, ho, hv =>
                                cases ho; cases hv
                                refine .inl ⟨rfl, fun a W hk hw K hK => ?_⟩
                                have e140 := hk.at_ 9 _ 140 _ rfl (by decide) _ rfl rfl rfl
                                exact op_val (by simp [go_sem, ev' e140, HX0.out W (HW9.out.trans hw)]) (hK _ hw)
                              | 11, ho, hv =>
                                cases ho; cases hv
                                refine .inl ⟨rfl, fun a W hk hw K hK => ?_⟩
                                have e16 := hk.same 16 (by decide)
                                exact op_val (by simp [go_sem, ev' e16]) (hK _ hw)
                              | 12, ho, hv =>
                                cases ho; cases hv
                                refine .inl ⟨rfl, fun a W hk hw K hK => ?_⟩
                                have e141 := hk.at_ 10 _ 141 _ rfl (by decide) _ rfl rfl rfl
                                have e142 := hk.at_ 11 _ 142 _ rfl (by decide) _ rfl rfl rfl
                                exact op_val (by simp [go_sem, ev' e141, ev' e142, ib]) (hK _ hw)
                              | 13, ho, hv =>
                                cases ho; cases hv
                                refine .inl ⟨rfl, fun a W hk hw K hK => ?_⟩
                                have e143 := hk.at_ 12 _ 143 _ rfl (by decide) _ rfl rfl rfl
                                exact op_val (by simp [go_sem, ev' e143, HX1.out W (HW9.out.trans hw)]) (hK _ hw)
                              | 14, ho, hv =>
                                cases ho; cases hv
                                refine .inl ⟨rfl, fun a W hk hw K hK => ?_⟩
                                have e137 := hk.at_ 6 _ 137 _ rfl (by decide) _ rfl rfl rfl
                                have e144 := hk.at_ 13 _ 144 _ rfl (by decide) _ rfl rfl rfl
                                exact op_val (v := .bool d2) (by by_cases g1 : y = x <;> simp [go_sem, ev' e137, ev' e144, g1, ← hd2] <;> omega) (hK _ hw)
                              | _ + 15, _, hv => cases hv
                            intro W hw
                            simp only [List.drop_succ_cons, List.drop_zero, List.zip_cons_cons, List.zip_nil_right, putAll]
                            simp only [Act.put, List.setIfInBounds_toArray, List.set]
                            have H10 := Lib.hid (H9.out.trans hw)
                            have HW10 := Lib.hid (HW9.out.trans hw)
                            clear hw H9 HW9
                            cases d2
                            · have HN3 : Hid (∀ v', b < v' → v' < v + 1 → vN lv (u, v') ≠ x) := Lib.hid fun v' h1 h2 => by
                                by_cases e : v' = v
                                · subst e
                                  rw [HY.out]
                                  exact of_decide_eq_false hd2
                                · exact HNV.out v' h1 (by omega)
                              clear hd2
                              go_wp2_with fail
                              exact ⟨⟨v + 1, by go_num, by omega, by omega, HN3, H10.out, HW10.out⟩, by simp [intOf]; omega⟩
                            · have HW : Hid (BarsW play la lb lv 0 9) := Lib.hid (HWB.out fun h => HBL.out h hgo.2 u v (by omega) hun (by omega) hvb (by rw [HY.out]; exact of_decide_eq_true hd2))
                              clear hd2
                              go_wp2_with fail
                              exact bodyPost_ret (v := .tuple #[.int .i64 0, .int .i64 9]) (by simp [results, Try.results24, go_sem]) rfl ⟨_, _, rfl, HW.out, H10.out⟩
                          · have t3 : decide (v < lb.length) = false := by simpa using hvb
                            have HN3 : Hid (∀ u' v, a < u' → u' < u + 1 → b < v → v < lb.length → vN lv (u', v) ≠ x) := Lib.hid fun u' v' h1 h2 h3 h4 => by
                              by_cases e : u' = u
                              · subst e
                                exact HNV.out v' h3 (by omega)
                              · exact HNE.out u' v' h1 (by omega) h3 h4
                            go_wp2_with fail
                            exact ⟨⟨u + 1, by go_num, by omega, by omega, HN3, H9.out, HW9.out⟩, by simp [intOf]; omega⟩
                      · have HN4 : Hid (Sheet.RBar (sameB play la lb) la.length lb.length (vN lv) (a * lb.length + (b + 1))) := Lib.hid (HRD.out HIF.out fun hp u' v' h1 h2 h3 h4 => HNE.out u' v' h1 (by omega) h3 h4)
                        by_cases hun : u < la.length
                        · have t3 : decide (u < la.length) = true := by simpa using hun
                          have hx0 : x = 0 := by omega
                          subst hx0
                          go_wp2_with fail
                          exact ⟨⟨b + 1, by go_num, by omega, HN4, H8.out⟩, by simp [intOf]; omega⟩
                        · have t3 : decide (u < la.length) = false := by simpa using hun
                          go_wp2_with fail
                          exact ⟨⟨b + 1, by go_num, by omega, HN4, H8.out⟩, by simp [intOf]; omega⟩
                · have t2 : decide (b < lb.length) = false := by simpa using hkb
                  have HN2 : Hid (Sheet.RBar (sameB play la lb) la.length lb.length (vN lv) ((a + 1) * lb.length)) := Lib.hid (by
                    have := HR2.out
                    rw [show b = lb.length by omega] at this
                    rw [Nat.succ_mul]
                    exact this)
                  go_wp2_with fail
                  exact ⟨⟨a + 1, by go_num, by omega, HN2, H6.out⟩, by simp [intOf]; omega⟩
            · have t1 : decide (a < la.length) = false := by simpa using hkl
              have HW : Hid (BarsW play la lb lv mx 0) := Lib.hid (by
                have hr := HR.out
                rw [show a = la.length by omega] at hr
                exact .inr ⟨HE.out, .inr ⟨HSH.out, .inr ⟨HVL.out, .inr ⟨hr.bar, mx, rfl, rfl, HMX.out⟩⟩⟩⟩)
              go_wp2_with fail
              exact bodyPost_ret (v := .tuple #[.int .i64 (mx : Nat), .int .i64 0]) (by simp [results, Try.results24, go_sem]) rfl ⟨_, _, rfl, HW.out, H5.out⟩
end Go.Proofs
end
