/- Own texts, merged: CtSr CtSt CtCo CtMa0 CtMa1 PFe. -/
import Derived.Test.YtbchfakfdikkjaaGreatP02
import Derived.Test.YtbchfakfdikkjaaGreatP04
import Derived.Test.YtbchfakfdikkjaaGreatP06
import Derived.Test.YtbchfakfdikkjaaGreatP08
import Derived.Test.YtbchfakfdikkjaaGreatP12
import Derived.Shelf.Sort.Plain
import Derived.Sort.OwnSortedInts
set_option linter.unusedSimpArgs false
set_option linter.unusedVariables false
set_option linter.unnecessarySimpa false
section
namespace Go.Proofs
open Go.RowKit Go.Shelf Go.Sort
set_option maxRecDepth 100000
def renSortI : Go.Shelf.Ren := ⟨fun | 189 => 89 | 125 => 108 | 257 => 114 | 128 => 127 | 129 => 128 | 294 => 131 | 295 => 132 | 296 => 133 | 297 => 134 | 298 => 135 | 299 => 136 | 216 => 137 | 300 => 138 | 301 => 139 | 328 => 145 | 329 => 141 | 330 => 142 | 331 => 146 | 332 => 147 | 215 => 117 | 343 => 149 | n => n, fun | 28 => 33 | 3 => 3 | 46 => 135 | 0 => 0 | 51 => 120 | 53 => 152 | 4 => 4 | 183 => 144 | 182 => 143 | 131 => 148 | 5 => 5 | 9 => 9 | 218 => 159 | 222 => 55 | 228 => 166 | 229 => 167 | n => n, fun n => n⟩
theorem laySortI : Lays.n189 Tryz.prog renSortI := {
  mixed := by kernel_rfl
  f125 := Tryz.func108.trans (congrArg some (by kernel_rfl))
  f128 := Tryz.func127.trans (congrArg some (by kernel_rfl))
  f129 := Tryz.func128.trans (congrArg some (by kernel_rfl))
  f189 := Tryz.func89.trans (congrArg some (by kernel_rfl))
  f215 := Tryz.func117.trans (congrArg some (by kernel_rfl))
  f216 := Tryz.func137.trans (congrArg some (by kernel_rfl))
  f257 := Tryz.func114.trans (congrArg some (by kernel_rfl))
  f294 := Tryz.func131.trans (congrArg some (by kernel_rfl))
  f295 := Tryz.func132.trans (congrArg some (by kernel_rfl))
  f296 := Tryz.func133.trans (congrArg some (by kernel_rfl))
  f297 := Tryz.func134.trans (congrArg some (by kernel_rfl))
  f298 := Tryz.func135.trans (congrArg some (by kernel_rfl))
  f299 := Tryz.func136.trans (congrArg some (by kernel_rfl))
  f300 := Tryz.func138.trans (congrArg some (by kernel_rfl))
  f301 := Tryz.func139.trans (congrArg some (by kernel_rfl))
  f328 := Tryz.func145.trans (congrArg some (by kernel_rfl))
  f329 := Tryz.func141.trans (congrArg some (by kernel_rfl))
  f330 := Tryz.func142.trans (congrArg some (by kernel_rfl))
  f331 := Tryz.func146.trans (congrArg some (by kernel_rfl))
  f332 := Tryz.func147.trans (congrArg some (by kernel_rfl))
  f343 := Tryz.func149.trans (congrArg some (by kernel_rfl))
  t0 := Tryz.underlying0
  a0 := Tryz.isAgg0
  z0 := Tryz.sizeOf0
  v0 := Tryz.zeroValue0
  t3 := Tryz.underlying3
  a3 := Tryz.isAgg3
  z3 := Tryz.sizeOf3
  v3 := Tryz.zeroValue3
  t4 := Tryz.underlying4
  a4 := Tryz.isAgg4
  z4 := Tryz.sizeOf4
  v4 := Tryz.zeroValue4
  t5 := Tryz.underlying5
  a5 := Tryz.isAgg5
  z5 := Tryz.sizeOf5
  v5 := Tryz.zeroValue5
  t9 := Tryz.underlying9
  a9 := Tryz.isAgg9
  z9 := Tryz.sizeOf9
  v9 := Tryz.zeroValue9
  t28 := Tryz.underlying33
  a28 := Tryz.isAgg33
  z28 := Tryz.sizeOf33
  v28 := Tryz.zeroValue33
  t46 := Tryz.underlying135
  a46 := Tryz.isAgg135
  z46 := Tryz.sizeOf135
  v46 := Tryz.zeroValue135
  t51 := Tryz.underlying120
  a51 := Tryz.isAgg120
  z51 := Tryz.sizeOf120
  v51 := Tryz.zeroValue120
  t53 := Tryz.underlying152
  a53 := Tryz.isAgg152
  z53 := Tryz.sizeOf152
  v53 := Tryz.zeroValue152
  t131 := Tryz.underlying148
  a131 := Tryz.isAgg148
  z131 := Tryz.sizeOf148
  v131 := Tryz.zeroValue148
  t182 := Tryz.underlying143
  a182 := Tryz.isAgg143
  z182 := Tryz.sizeOf143
  v182 := Tryz.zeroValue143
  t183 := Tryz.underlying144
  a183 := Tryz.isAgg144
  z183 := Tryz.sizeOf144
  v183 := Tryz.zeroValue144
  t218 := Tryz.underlying159
  a218 := Tryz.isAgg159
  z218 := Tryz.sizeOf159
  v218 := Tryz.zeroValue159
  t222 := Tryz.underlying55
  a222 := Tryz.isAgg55
  z222 := Tryz.sizeOf55
  v222 := Tryz.zeroValue55
  t228 := Tryz.underlying166
  a228 := Tryz.isAgg166
  z228 := Tryz.sizeOf166
  v228 := Tryz.zeroValue166
  t229 := Tryz.underlying167
  a229 := Tryz.isAgg167
  z229 := Tryz.sizeOf167
  v229 := Tryz.zeroValue167 }

theorem sort89_own {W : World} {base g cap k : Nat} {P : List Int} (h : W.ownsRow base 3 1 (.slice (some ⟨g, 0, none⟩) k cap) k (P.map (Value.int .i64))) (hk : k ≤ 1000000) :
    Calls Tryz.prog 89 #[.slice (some ⟨g, 0, none⟩) k cap] W fun e w' => e = .returned (.tuple #[]) ∧ W.grownBy w' (some g) ∧ ∃ L : List Int, L.Perm P ∧ L.Pairwise (· ≤ ·) ∧ w'.ownsRow base 3 1 (.slice (some ⟨g, 0, none⟩) k cap) k (L.map (Value.int .i64)) := by
  have hl : P.length = k := by have := h.1; simpa using this
  rcases h.2 with ⟨h0, _⟩ | ⟨g', cap', cur, hv, hg, hb, hn, hcap, hcs, htk⟩
  · cases h0
  cases hv
  rw [Nat.mul_one] at htk hcs
  have hgb : g < W.heap.size := (Array.getElem?_eq_some_iff.1 hb).1
  have hH : Holds (Value.int .i64) W g 0 P.toArray := holds_of_blockI hb (by rw [hl]; exact htk)
  have hs := Any.slices_Sort_int laySortI g 0 cap P W hH hgb (by omega)
  rw [hl] at hs
  refine hs.mono ?_
  rintro e w' ⟨he, n, os, rfl⟩
  have hp : (P.mergeSort fun x y => decide (x ≤ y)).Perm P := List.mergeSort_perm _ _
  refine ⟨he, grownBy_sortedI _, _, hp, ?_, ?_⟩
  · have := List.pairwise_mergeSort (le := fun x y : Int => decide (x ≤ y)) (fun a b c h1 h2 => by simp at *; omega) (fun a b => by simp; omega) P
    exact this.imp fun h => by simpa using h
  · have := ownsRow_sortedI (w := W) (base := base) (n := n) (os := os) (cap := cap) (ss := P) (ts := P.mergeSort fun x y => decide (x ≤ y)) hp.length_eq hg hb (by omega) hcap (by omega)
    rwa [hl] at this
end Go.Proofs
end

section
namespace Go.Proofs
open Go.RowKit
attribute [local go_sem] Oper.semAt_some

theorem ty22 : SliceTy Tryz.prog 22 57 2 16 := .mk' (z := .agg #[.int .i64 0, .int .i64 0]) Tryz.underlying22 (by kernel_rfl) rfl (by decide)
def strC (L : List (Int × Int)) : List Value := L.flatMap fun s => [.int .i64 s.1, .int .i64 s.2]
theorem strC_get : ∀ (L : List (Int × Int)) (i : Nat) (h : i < L.length), (strC L)[2 * i]? = some (.int .i64 L[i].1) ∧ (strC L)[2 * i + 1]? = some (.int .i64 L[i].2)
  | s :: r, 0, _ => ⟨rfl, rfl⟩
  | s :: r, i + 1, h => by
    have ih := strC_get r i (by simpa using h)
    have e : strC (s :: r) = .int .i64 s.1 :: .int .i64 s.2 :: strC r := rfl
    rw [e, show 2 * (i + 1) = 2 * i + 1 + 1 by omega]
    simpa using ih
theorem strC_snoc (L : List (Int × Int)) (s : Int × Int) : strC (L ++ [s]) = strC L ++ [.int .i64 s.1, .int .i64 s.2] := by
  unfold strC
  rw [List.flatMap_append]
  rfl
theorem own_strs {w : World} {base : Nat} {v : Value} {L : List (Int × Int)} (h : w.ownsRow base 57 2 v L.length (strC L)) (hl : L.length ≤ 1000000) : ∃ A c, v = .slice A L.length c ∧ Strs w A L ∧ ∀ b o, A = some ⟨b, o, none⟩ → base ≤ b := by
  rcases h.2 with ⟨rfl, h0⟩ | ⟨g, cap, cur, rfl, hg, hh, hc, hm, hs, ht⟩
  · have : L = [] := List.eq_nil_of_length_eq_zero h0
    subst this
    exact ⟨none, 0, rfl, ⟨by simp, .inl rfl⟩, fun b o h => by cases h⟩
  · refine ⟨_, cap, rfl, ⟨by omega, .inr ⟨g, 0, rfl, (Array.getElem?_eq_some_iff.1 hh).1, fun i hi => ⟨_, by simp, rfl, fun j hj => ?_⟩⟩⟩, fun b o h => by cases h; exact hg⟩
    obtain ⟨h1, h2⟩ := strC_get L i hi
    match j, hj with
    | 0, _ =>
      have := h.cells (g := g) rfl (2 * i) _ h1
      rw [Addr.add_lit] at this
      simpa [Nat.mul_comm] using this
    | 1, _ =>
      have := h.cells (g := g) rfl (2 * i + 1) _ h2
      rw [Addr.add_lit] at this
      simpa [Nat.mul_comm] using this
theorem wpList_push22 {w : World} {ops : Array Oper} {rest : List Oper} {o : Oper} {a : Act} {Q : Exit → Act → World → Prop}
    (hgd : o.guard = none) (s x : Operand) (ho : o.op = .call { callee := .builtin .append, args := #[s, x], argTypes := #[22, 22] })
    {base : Nat} {v : Value} {L : List (Int × Int)} (hown : w.ownsRow base 57 2 v L.length (strC L)) (hbase : base ≤ w.heap.size) (hs : a.eval s = v)
    {y0 y1 : Int} {c : Nat} {b : Nat} (hx : a.eval x = .slice (some ⟨b, 0, none⟩) 1 c) (hb0 : w.cell? ⟨b, 0, none⟩ = some (.int .i64 y0)) (hb1 : w.cell? ⟨b, 1, none⟩ = some (.int .i64 y1)) (hl : L.length ≤ 1000000)
    (hn : ∀ v' w', w'.ownsRow base 57 2 v' (L ++ [(y0, y1)]).length (strC (L ++ [(y0, y1)])) → w.grownBy w' v.ownBlock → wpList Tryz.prog ops Q rest (a.put o.dst v') w') : wpList Tryz.prog ops Q (o :: rest) a w := by
  obtain ⟨ht, ⟨i, z, hi, hz, hsize, hby, hzs⟩, hsz⟩ := ty22
  refine wpList_append_own_at (w := w) hgd s x 22 ho base 57 i z 2 16 ht hi hz hsize hby hzs hsz v L.length _ hs hown ⟨b, 0, none⟩ 1 c [.int .i64 y0, .int .i64 y1] hx rfl (fun j u hj => ?_) (fun u hu => by simp at hu; rcases hu with rfl | rfl <;> rfl)
    (by unfold maxLen; omega) (by omega) hbase fun v2 w2 h2 h3 _ _ => hn v2 w2 (by rw [strC_snoc]; simpa using h2) h3
  match j, hj with
  | 0, hj => simp at hj; subst hj; rw [Addr.add_lit]; simpa using hb0
  | 1, hj => simp at hj; subst hj; rw [Addr.add_lit]; simpa using hb1
theorem cell_of_aft {W W' : World} {g i : Nat} {v : Value} (h : W.cell? ⟨g, i, none⟩ = some v) (hg : g < W.heap.size) (ha : Aft W W') : W'.cell? ⟨g, i, none⟩ = some v :=
  (World.cell?_of_block (a := ⟨g, i, none⟩) (ha.below.block g hg)).trans h
def prL (l : List Int) (k : Nat) : List (Int × Int) := (List.range k).map fun i => (l.getD (2 * i) 0, l.getD (2 * i + 1) 0)
theorem prL_succ (l : List Int) (k : Nat) : prL l (k + 1) = prL l k ++ [(l.getD (2 * k) 0, l.getD (2 * k + 1) 0)] := by
  unfold prL
  rw [List.range_succ, List.map_append]
  rfl
theorem prL_len (l : List Int) (k : Nat) : (prL l k).length = k := by unfold prL; rw [List.length_map, List.length_range]

theorem evne {a : Act} {dst : Option Tmp} {v : Value} {s : Nat} (h : dst ≠ some s) : (a.put dst v).eval (.tmp s) = a.eval (.tmp s) :=
  Act.eval_put fun d hd e => by cases e; exact h hd
theorem upd_ne' {done : Nat → Bool} {i j : Nat} (h : j ≠ i) : upd done i j = done j := by simp [upd, h]
theorem upd_same' {done : Nat → Bool} {i : Nat} : upd done i i = true := by simp [upd]
set_option maxRecDepth 100000 in
set_option maxHeartbeats 2000000 in
theorem struck80_any (l : List Int) (A : Option Addr) (c : Nat) (w : World) (hA : Ints w A l) (hl : l.length ≤ 1000) :
    Calls Tryz.prog 80 #[.slice A l.length c] w fun e w' => ∃ A' c', e = .returned (.slice A' (prL l (l.length / 2)).length c') ∧ Strs w' A' (prL l (l.length / 2)) ∧ (∀ b o, A' = some ⟨b, o, none⟩ → w.heap.size ≤ b) ∧ Aft w w' := by
  have HA := Lib.hid hA
  have HN0 := Lib.hid (World.ownsRow_nil w w.heap.size 57 2)
  clear hA
  obtain ⟨T, hT⟩ : ∃ T, prL l (l.length / 2) = T := ⟨_, rfl⟩
  rw [hT]
  have HT := Lib.hid hT
  clear hT
  go_enter Tryz.func80, Tryz.ntmps80
  go_upto_block 0 with (fail)
  refine wp_block ?_
  go_loopw [3, 4] (fun v i wr => ∃ k : Nat, i = .int .i64 ((2 * k : Nat) : Int) ∧ 2 * k ≤ l.length ∧ wr.ownsRow w.heap.size 57 2 v (prL l k).length (strC (prL l k)) ∧ Aft w wr) (fun _ i _ => l.length - (intOf i).toNat)
  case atStart => exact ⟨0, rfl, by omega, HN0.out, Aft.refl _⟩
  case round =>
    obtain ⟨k, rfl, hk, hown, haw⟩ := hrel
    have HOW := Lib.hid hown
    have HAW := Lib.hid haw
    clear hown haw
    by_cases hkl : 2 * k + 1 < l.length
    · have t1 : decide (2 * k + 1 < l.length) = true := by simpa using hkl
      obtain ⟨bx, ox, hbx, hbl, hx⟩ := (HA.out.aft HAW.out).at (k := 2 * k) (by omega)
      subst hbx
      have x0 := hx (2 * k) (by omega)
      have x1 := hx (2 * k + 1) hkl
      have e0 : l.getD (2 * k) 0 = l[2 * k] := by rw [List.getD_eq_getElem?_getD, List.getElem?_eq_getElem (by omega)]; rfl
      have e1 : l.getD (2 * k + 1) 0 = l[2 * k + 1] := by rw [List.getD_eq_getElem?_getD, List.getElem?_eq_getElem hkl]; rfl
      have HS := Lib.hid (prL_succ l k)
      rw [e0, e1] at HS
      have hpl := prL_len l k
      clear hx e0 e1
      generalize l[2 * k] = y0 at *
      generalize l[2 * k + 1] = y1 at *
      have HX0 : Hid (∀ W, Aft wr W → W.cell? ⟨bx, ox + 2 * k, none⟩ = some (.int .i64 y0)) := Lib.hid fun W h => cell_of_aft x0 hbl h
      have HX1 : Hid (∀ W, Aft wr W → W.cell? ⟨bx, ox + (2 * k + 1), none⟩ = some (.int .i64 y1)) := Lib.hid fun W h => cell_of_aft x1 hbl h
      clear x0 x1
      go_upto_region 5 with (fail)
      have b0 : (0 : Int) ≤ 2 * (k : Int) ∧ 2 * (k : Int) < (l.length : Int) := by omega
      have b1 : (0 : Int) ≤ 2 * (k : Int) + 1 ∧ 2 * (k : Int) + 1 < (l.length : Int) := by omega
      have o0 : (2 * (k : Int)).toNat = 2 * k := by omega
      have o1 : (2 * (k : Int) + 1).toNat = 2 * k + 1 := by omega
      refine wp_region_valsU (by kernel_rfl) 12 26 rfl (by kernel_rfl) (by kernel_rfl) [some (u3), some (.slice (some ⟨bx, ox, none⟩) l.length c), some (.int .i64 (2 * (k : Int))), some (.pointer (some ⟨bx, ox + 2 * k, none⟩)), some (.int .i64 y0), some (.slice (some ⟨bx, ox, none⟩) l.length c), some (.int .i64 (2 * (k : Int))), some (.int .i64 (2 * (k : Int) + 1)), some (.pointer (some ⟨bx, ox + (2 * k + 1), none⟩)), some (.int .i64 y1), some (.agg #[.int .i64 y0, .int .i64 y1]), some (.slice (some ⟨wr.heap.size, 0, none⟩) 1 1)] (by kernel_rfl) rfl (fun done a W => a.eval (.tmp 3) = u3 ∧ Aft wr W ∧ (if done 11 = true then W = wr.drew.alloc (.cells #[.int .i64 y0, .int .i64 y1] 57) else W = wr.drew)) (⟨rfl, Aft.drew _, by simp⟩) ?st1 ?fi1
      case st1 =>
        intro i o v ho hv
        match i, ho, hv with
        | 0, ho, hv =>
          cases ho; cases hv
          refine .inl ⟨rfl, fun done a W hz hd hp hk hw K hK => ?_⟩
          exact op_val (v := u3) (by simp [go_sem, ev' hw.1]) (hK _ _ (fun u hu => by cases hu; rfl) ⟨(evne (by decide)).trans hw.1, hw.2.1, by rw [upd_ne' (by decide)]; exact hw.2.2⟩)
        | 1, ho, hv =>
          cases ho; cases hv
          refine .inl ⟨rfl, fun done a W hz hd hp hk hw K hK => ?_⟩
          have e0 := hk.same 0 (by decide)
          exact op_val (v := .slice (some ⟨bx, ox, none⟩) l.length c) (by simp [go_sem, ev' e0]) (hK _ _ (fun u hu => by cases hu; rfl) ⟨(evne (by decide)).trans hw.1, hw.2.1, by rw [upd_ne' (by decide)]; exact hw.2.2⟩)
        | 2, ho, hv =>
          cases ho; cases hv
          refine .inl ⟨rfl, fun done a W hz hd hp hk hw K hK => ?_⟩
          have e4 := hk.same 4 (by decide)
          exact op_val (v := .int .i64 (2 * (k : Int))) (by simp [go_sem, ev' e4]) (hK _ _ (fun u hu => by cases hu; rfl) ⟨(evne (by decide)).trans hw.1, hw.2.1, by rw [upd_ne' (by decide)]; exact hw.2.2⟩)
        | 3, ho, hv =>
          cases ho; cases hv
          refine .inl ⟨rfl, fun done a W hz hd hp hk hw K hK => ?_⟩
          have e13 := hk.at_ 1 _ 13 _ rfl (by decide) _ rfl rfl rfl
          have e14 := hk.at_ 2 _ 14 _ rfl (by decide) _ rfl rfl rfl
          exact op_val (v := .pointer (some ⟨bx, ox + 2 * k, none⟩)) (by simp [go_sem, ev' e13, ev' e14, b0, o0]) (hK _ _ (fun u hu => by cases hu; rfl) ⟨(evne (by decide)).trans hw.1, hw.2.1, by rw [upd_ne' (by decide)]; exact hw.2.2⟩)
        | 4, ho, hv =>
          cases ho; cases hv
          refine .inl ⟨rfl, fun done a W hz hd hp hk hw K hK => ?_⟩
          have e15 := hk.at_ 3 _ 15 _ rfl (by decide) _ rfl rfl rfl
          have x0 := HX0.out W hw.2.1
          exact op_val (v := .int .i64 y0) (by simp [go_sem, ev' e15, x0]) (hK _ _ (fun u hu => by cases hu; rfl) ⟨(evne (by decide)).trans hw.1, hw.2.1, by rw [upd_ne' (by decide)]; exact hw.2.2⟩)
        | 5, ho, hv =>
          cases ho; cases hv
          refine .inl ⟨rfl, fun done a W hz hd hp hk hw K hK => ?_⟩
          have e0 := hk.same 0 (by decide)
          exact op_val (v := .slice (some ⟨bx, ox, none⟩) l.length c) (by simp [go_sem, ev' e0]) (hK _ _ (fun u hu => by cases hu; rfl) ⟨(evne (by decide)).trans hw.1, hw.2.1, by rw [upd_ne' (by decide)]; exact hw.2.2⟩)
        | 6, ho, hv =>
          cases ho; cases hv
          refine .inl ⟨rfl, fun done a W hz hd hp hk hw K hK => ?_⟩
          have e4 := hk.same 4 (by decide)
          exact op_val (v := .int .i64 (2 * (k : Int))) (by simp [go_sem, ev' e4]) (hK _ _ (fun u hu => by cases hu; rfl) ⟨(evne (by decide)).trans hw.1, hw.2.1, by rw [upd_ne' (by decide)]; exact hw.2.2⟩)
        | 7, ho, hv =>
          cases ho; cases hv
          refine .inl ⟨rfl, fun done a W hz hd hp hk hw K hK => ?_⟩
          have e18 := hk.at_ 6 _ 18 _ rfl (by decide) _ rfl rfl rfl
          refine op_val (v := .int .i64 (2 * (k : Int) + 1)) ?_ (hK _ _ (fun u hu => by cases hu; rfl) ⟨(evne (by decide)).trans hw.1, hw.2.1, by rw [upd_ne' (by decide)]; exact hw.2.2⟩)
          simp [go_sem, ev' e18]
          rw [IntKind.wrap_i64]
          omega
        | 8, ho, hv =>
          cases ho; cases hv
          refine .inl ⟨rfl, fun done a W hz hd hp hk hw K hK => ?_⟩
          have e17 := hk.at_ 5 _ 17 _ rfl (by decide) _ rfl rfl rfl
          have e19 := hk.at_ 7 _ 19 _ rfl (by decide) _ rfl rfl rfl
          exact op_val (v := .pointer (some ⟨bx, ox + (2 * k + 1), none⟩)) (by simp [go_sem, ev' e17, ev' e19, b1, o1]) (hK _ _ (fun u hu => by cases hu; rfl) ⟨(evne (by decide)).trans hw.1, hw.2.1, by rw [upd_ne' (by decide)]; exact hw.2.2⟩)
        | 9, ho, hv =>
          cases ho; cases hv
          refine .inl ⟨rfl, fun done a W hz hd hp hk hw K hK => ?_⟩
          have e20 := hk.at_ 8 _ 20 _ rfl (by decide) _ rfl rfl rfl
          have x1 := HX1.out W hw.2.1
          exact op_val (v := .int .i64 y1) (by simp [go_sem, ev' e20, x1]) (hK _ _ (fun u hu => by cases hu; rfl) ⟨(evne (by decide)).trans hw.1, hw.2.1, by rw [upd_ne' (by decide)]; exact hw.2.2⟩)
        | 10, ho, hv =>
          cases ho; cases hv
          refine .inl ⟨rfl, fun done a W hz hd hp hk hw K hK => ?_⟩
          have e16 := hk.at_ 4 _ 16 _ rfl (by decide) _ rfl rfl rfl
          have e21 := hk.at_ 9 _ 21 _ rfl (by decide) _ rfl rfl rfl
          exact op_val (v := .agg #[.int .i64 y0, .int .i64 y1]) (by simp [go_sem, ev' e16, ev' e21]) (hK _ _ (fun u hu => by cases hu; rfl) ⟨(evne (by decide)).trans hw.1, hw.2.1, by rw [upd_ne' (by decide)]; exact hw.2.2⟩)
        | 11, ho, hv =>
          cases ho; cases hv
          refine .inl ⟨rfl, fun done a W hz hd hp hk hw K hK => ?_⟩
          have e22 := hk.at_ 10 _ 22 _ rfl (by decide) _ rfl rfl rfl
          have h2 := hw.2.2
          rw [hd] at h2
          simp only [Bool.false_eq_true, if_false] at h2
          subst h2
          exact op_valW (v := .slice (some ⟨wr.heap.size, 0, none⟩) 1 1) (w' := wr.drew.alloc (.cells #[.int .i64 y0, .int .i64 y1] 57)) (by simp [go_sem, ev' e22]) (hK _ _ (fun u hu => by cases hu; rfl) ⟨(evne (by decide)).trans hw.1, (Aft.drew wr).then_alloc _, by rw [upd_same', if_pos rfl]⟩)
        | _ + 12, _, hv => cases hv
      intro done us W hus hd hw
      obtain rfl : us = [] := List.eq_nil_of_length_eq_zero hus
      have hw2 := hw.2.2
      rw [if_pos (hd 11 (by decide))] at hw2
      clear hw hd hus
      subst hw2
      simp only [fill, List.drop_succ_cons, List.drop_zero, List.zip_cons_cons, List.zip_nil_right, putAll]
      simp only [Act.put, List.setIfInBounds_toArray, List.set]
      have HO2 := Lib.hid (own_aft HOW.out ((Aft.drew wr).then_alloc (.cells #[.int .i64 y0, .int .i64 y1] 57)))
      have hbase : w.heap.size ≤ (wr.drew.alloc (.cells #[.int .i64 y0, .int .i64 y1] 57)).heap.size := Nat.le_trans HAW.out.size ((Aft.drew wr).then_alloc _).size
      have c0 : (wr.drew.alloc (.cells #[.int .i64 y0, .int .i64 y1] 57)).cell? ⟨wr.heap.size, 0, none⟩ = some (.int .i64 y0) := (Blk.new wr.drew 57 #[.int .i64 y0, .int .i64 y1]).cell 0
      have c1 : (wr.drew.alloc (.cells #[.int .i64 y0, .int .i64 y1] 57)).cell? ⟨wr.heap.size, 1, none⟩ = some (.int .i64 y1) := (Blk.new wr.drew 57 #[.int .i64 y0, .int .i64 y1]).cell 1
      have HC0 := Lib.hid c0
      have HC1 := Lib.hid c1
      have HA2 := Lib.hid (HAW.out.trans ((Aft.drew wr).then_alloc (.cells #[.int .i64 y0, .int .i64 y1] 57)))
      clear c0 c1
      generalize wr.drew.alloc (.cells #[.int .i64 y0, .int .i64 y1] 57) = W2 at *
      go_wp2_with (at_builtin; refine wpList_push22 rfl _ _ rfl HO2.out hbase rfl rfl HC0.out HC1.out (by omega) ?_; intro v7 w7 hr7 hg7; have HR7 := Lib.hid hr7; have HG7 := Lib.hid hg7; clear hr7 hg7)
      exact ⟨⟨k + 1, by go_num, by omega, by rw [HS.out]; exact HR7.out, HA2.out.grown HG7.out (fun g hg => own_ge HO2.out g hg)⟩, by simp [intOf]; omega⟩
    · have t1 : decide (2 * k + 1 < l.length) = false := by simpa using hkl
      have hk2 : l.length / 2 = k := by omega
      have HT2 := Lib.hid (show prL l k = T by rw [← hk2]; exact HT.out)
      have hpl := prL_len l k
      rw [HT2.out] at HOW hpl
      obtain ⟨A7, c7, rfl, hi7, hb7⟩ := own_strs HOW.out (by omega)
      have HI7 := Lib.hid hi7
      have HB7 := Lib.hid hb7
      clear hi7 hb7 hkl
      go_wp2_with fail
      go_ret
      exact ⟨A7, c7, rfl, HI7.out, HB7.out, HAW.out⟩
end Go.Proofs
end

section
namespace Go.Proofs
open Go.RowKit
attribute [local go_sem] Oper.semAt_some

theorem eq57 (a b c d : Int) (W : World) : (binOp .eql 57 (.agg #[.int .i64 a, .int .i64 b]) (.agg #[.int .i64 c, .int .i64 d])).run Tryz.prog W = .ok (.bool (a == c && b == d)) W := by
  by_cases h : a = c <;> by_cases h2 : b = d <;> simp [go_sem, h, h2]
set_option maxRecDepth 100000 in
set_option maxHeartbeats 2000000 in
theorem indexS_any (A : Option Addr) (L : List (Int × Int)) (c : Nat) (s0 s1 : Int) (w : World) (hA : Strs w A L) :
    Calls Tryz.prog 94 #[.slice A L.length c, .agg #[.int .i64 s0, .int .i64 s1]] w fun e w' => ∃ n, e = .returned (.int .i64 n) ∧ (0 ≤ n ↔ (s0, s1) ∈ L) ∧ Aft w w' := by
  have hlen := hA.len
  have HL := Lib.hid hA
  have HB := Lib.hid (Blk.new w 57 #[.int .i64 s0, .int .i64 s1])
  have H0 := Lib.hid (Aft.alloc w (.cells #[.int .i64 s0, .int .i64 s1] 57))
  clear hA
  go_enter Tryz.func94, Tryz.ntmps94
  go_upto_block 0 with (fail)
  generalize (w.alloc (.cells #[.int .i64 s0, .int .i64 s1] 57)) = W1 at *
  generalize w.heap.size = S at *
  refine wp_block ?_
  go_loopw [8] (fun i wr => ∃ k : Nat, i = .int .i64 k ∧ k ≤ L.length ∧ (∀ j, (h : j < L.length) → j < k → L[j] ≠ (s0, s1)) ∧ Aft W1 wr) (fun i _ => L.length - (intOf i).toNat)
  case atStart => exact ⟨0, rfl, by omega, fun j _ h => absurd h (Nat.not_lt_zero _), Aft.refl _⟩
  case round =>
    obtain ⟨k, rfl, hk, hne, haw⟩ := hrel
    have HNE := Lib.hid hne
    have HAW := Lib.hid haw
    clear hne haw
    by_cases hkl : k < L.length
    · have t1 : decide (k < L.length) = true := by simpa using hkl
      obtain ⟨b9, o9, hb9, hlt9, hc9⟩ := (HL.out.aft (H0.out.trans (HAW.out.then_drew))).at hkl
      subst hb9
      obtain ⟨x0, x1⟩ := hc9 k hkl
      have j0 : wr.drew.cell? ⟨S, 0, none⟩ = some (.int .i64 s0) := (HB.out.aft HAW.out.then_drew).cell 0
      have j1 : wr.drew.cell? ⟨S, 1, none⟩ = some (.int .i64 s1) := (HB.out.aft HAW.out.then_drew).cell 1
      have hin : (0 : Int) ≤ (k : Int) ∧ (k : Int) < (L.length : Int) := by omega
      have HMEM : Hid (L[k] ∈ L) := Lib.hid (List.getElem_mem hkl)
      have HST : Hid (L[k] ≠ (s0, s1) → ∀ j, (h : j < L.length) → j < k + 1 → L[j] ≠ (s0, s1)) := Lib.hid fun e j h hj => by
        by_cases ej : j = k
        · subst ej; exact e
        · exact HNE.out j h (by omega)
      clear hc9
      obtain ⟨⟨y0, y1⟩, hy⟩ : ∃ y, L[k] = y := ⟨_, rfl⟩
      rw [hy] at x0 x1 HMEM HST
      clear hy
      go_upto_region 4 with (fail)
      refine wp_region_valsT (by kernel_rfl) 5 19 rfl (by kernel_rfl) (by kernel_rfl) (by kernel_rfl) [.agg #[.int .i64 s0, .int .i64 s1], .slice (some ⟨b9, o9, none⟩) L.length c, .int .i64 k, .pointer (some ⟨b9, o9 + k * 2, none⟩), .agg #[.int .i64 y0, .int .i64 y1]] rfl (fun _ W => W = wr.drew) (rfl) ?st1 ?fi1
      case st1 =>
        intro i o v ho hv
        match i, ho, hv with
        | 0, ho, hv =>
          cases ho; cases hv
          refine .inl ⟨rfl, fun done a W hd hp hk hw K hK => ?_⟩
          have e3 := hk.same 3 (by decide)
          exact op_val (by simp [go_sem, ev' e3, hw, j0, j1]) (hK _ hw)
        | 1, ho, hv =>
          cases ho; cases hv
          refine .inl ⟨rfl, fun done a W hd hp hk hw K hK => ?_⟩
          have e0 := hk.same 0 (by decide)
          exact op_val (by simp [go_sem, ev' e0]) (hK _ hw)
        | 2, ho, hv =>
          cases ho; cases hv
          refine .inl ⟨rfl, fun done a W hd hp hk hw K hK => ?_⟩
          have e5 := hk.same 5 (by decide)
          exact op_val (by simp [go_sem, ev' e5]) (hK _ hw)
        | 3, ho, hv =>
          cases ho; cases hv
          refine .inl ⟨rfl, fun done a W hd hp hk hw K hK => ?_⟩
          have e12 := hk.at_ 1 _ 12 _ rfl (by decide) _ rfl rfl rfl
          have e13 := hk.at_ 2 _ 13 _ rfl (by decide) _ rfl rfl rfl
          exact op_val (by simp [go_sem, ev' e12, ev' e13, hin]) (hK _ hw)
        | 4, ho, hv =>
          cases ho; cases hv
          refine .inl ⟨rfl, fun done a W hd hp hk hw K hK => ?_⟩
          have e14 := hk.at_ 3 _ 14 _ rfl (by decide) _ rfl rfl rfl
          exact op_val (by simp [go_sem, ev' e14, hw, x0, x1]) (hK _ hw)
        | _ + 5, _, hv => cases hv
      intro done W hd hw
      simp only [List.drop_succ_cons, List.drop_zero, List.zip_cons_cons, List.zip_nil_right, putAll]
      simp only [Act.put, List.setIfInBounds_toArray, List.set]
      clear hd
      subst hw
      by_cases e0 : s0 = y0
      · subst e0
        by_cases e1 : s1 = y1
        · subst e1
          clear HST
          go_wp2_with fail
          go_ret
          exact ⟨_, rfl, ⟨fun _ => HMEM.out, fun _ => by omega⟩, H0.out.trans HAW.out.then_drew⟩
        · have HN := Lib.hid (HST.out (fun h => e1 (by cases h; rfl)))
          clear HST
          go_wp2_with fail
          exact ⟨⟨k + 1, by go_num, by omega, HN.out, HAW.out.then_drew⟩, by simp [intOf]; omega⟩
      · have HN := Lib.hid (HST.out (fun h => e0 (by cases h; rfl)))
        clear HST
        go_wp2_with fail
        all_goals exact ⟨⟨k + 1, by go_num, by omega, HN.out, HAW.out.then_drew⟩, by simp [intOf]; omega⟩
    · have t1 : decide (k < L.length) = false := by simpa using hkl
      go_wp2_with fail
      go_ret
      exact ⟨_, rfl, ⟨fun h => absurd h (by decide), fun hm => by
        obtain ⟨j, hj, e⟩ := List.getElem_of_mem hm
        exact absurd e (HNE.out j hj (by omega))⟩, H0.out.trans HAW.out⟩

set_option maxRecDepth 100000 in
set_option maxHeartbeats 2000000 in
theorem containsS_any (A : Option Addr) (L : List (Int × Int)) (c : Nat) (s0 s1 : Int) (w : World) (hA : Strs w A L) :
    Calls Tryz.prog 45 #[.slice A L.length c, .agg #[.int .i64 s0, .int .i64 s1]] w fun e w' => e = .returned (.bool (decide ((s0, s1) ∈ L))) ∧ Aft w w' := by
  have H1 := Lib.hid (indexS_any A L c s0 s1 (w.alloc (.cells #[.int .i64 s0, .int .i64 s1] 57)) (hA.aft (Aft.alloc _ _)))
  clear hA
  go_enter Tryz.func45, Tryz.ntmps45
  go_wp2_with (go_at_call 94; refine H1.out.mono ?_; rintro e w2 ⟨n, rfl, hn, ha⟩; have HN := Lib.hid hn; have HA := Lib.hid ha; clear hn ha)
  go_ret
  refine ⟨ret_bool ?_, (Aft.alloc _ _).trans HA.out⟩
  exact decide_eq_decide.2 HN.out
end Go.Proofs
end

section
namespace Go.Proofs
open Go.RowKit

structure Sm (b : Nat) (w W : World) : Prop where
  size : w.heap.size ≤ W.heap.size
  same : ∀ k, b ≤ k → k < w.heap.size → W.heap[k]? = w.heap[k]?
theorem Sm.refl (b : Nat) (w : World) : Sm b w w := ⟨Nat.le_refl _, fun _ _ _ => rfl⟩
theorem Sm.trans {b : Nat} {w w' w'' : World} (h : Sm b w w') (k : Sm b w' w'') : Sm b w w'' := ⟨Nat.le_trans h.size k.size, fun i h1 h2 => (k.same i h1 (Nat.lt_of_lt_of_le h2 h.size)).trans (h.same i h1 h2)⟩
theorem Sm.of_grown {b : Nat} {w w' : World} {row : Option Nat} (h : w.grownBy w' row) (hr : ∀ k, row = some k → k < b ∨ w.heap.size ≤ k) : Sm b w w' :=
  ⟨h.size, fun k h1 h2 => h.block k h2 (fun e => by have := hr k e.symm; omega)⟩
theorem Sm.next {b : Nat} {w W W' : World} {row : Option Nat} (h : Sm b w W) (hg : W.grownBy W' row) (hr : ∀ k, row = some k → k < b ∨ w.heap.size ≤ k) : Sm b w W' :=
  ⟨Nat.le_trans h.size hg.size, fun k h1 h2 => (hg.block k (Nat.lt_of_lt_of_le h2 h.size) (fun e => by have := hr k e.symm; omega)).trans (h.same k h1 h2)⟩
theorem Sm.of_aft {b : Nat} {w w' : World} (h : Aft w w') : Sm b w w' := ⟨h.size, fun k _ h2 => h.below.block k h2⟩
theorem Sm.mono {b b' : Nat} {w W : World} (h : Sm b w W) (hb : b ≤ b') : Sm b' w W := ⟨h.size, fun k h1 h2 => h.same k (Nat.le_trans hb h1) h2⟩
theorem own_sm {b base : Nat} {w W : World} {t : TypeId} {size : Nat} {v : Value} {n : Nat} {xs : List Value} (h : w.ownsRow base t size v n xs) (hs : Sm b w W) (hb : b ≤ base) : W.ownsRow base t size v n xs := by
  refine ⟨h.1, ?_⟩
  rcases h.2 with h2 | ⟨g, cap, cur, h1, hg, h3, h4⟩
  · exact .inl h2
  · exact .inr ⟨g, cap, cur, h1, hg, (hs.same g (Nat.le_trans hb hg) (Array.getElem?_eq_some_iff.1 h3).1).trans h3, h4⟩
theorem blk_sm {b : Nat} {w W : World} {g : Nat} {t : TypeId} {cs : Array Value} (h : Blk w g t cs) (hs : Sm b w W) (hb : b ≤ g) : Blk W g t cs := (hs.same g hb h.lt).trans h
theorem Outs.sm {b base : Nat} {w W : World} {v : Value} {ls : List (List Int)} (h : Outs w base v ls) (hs : Sm b w W) (hb : b ≤ base) : Outs W base v ls :=
  let ⟨vs, h1, h2⟩ := h
  ⟨vs, own_sm h1 hs hb, fun i hi hi' => own_sm (h2 i hi hi') hs hb⟩
theorem Outs.mono {b base : Nat} {w : World} {v : Value} {ls : List (List Int)} (h : Outs w base v ls) (hb : b ≤ base) : Outs w b v ls :=
  let ⟨vs, h1, h2⟩ := h
  ⟨vs, World.ownsRow.mono h1 hb, fun i hi hi' => World.ownsRow.mono (h2 i hi hi') hb⟩
def CRepS (b : Nat) (w : World) (C : CaseL) (a1 a2 : Option Addr) : Prop := ∀ W, Sm b w W → CRep W C a1 a2
theorem CRepS.back {b b' : Nat} {w W : World} {C : CaseL} {a1 a2 : Option Addr} (h : CRepS b' w C a1 a2) (hs : Sm b' w W) (hb : b ≤ b') : CRepS b W C a1 a2 := fun Z hz => h Z (hs.trans (hz.mono hb))
theorem own_block {w : World} {base : Nat} {t : TypeId} {size : Nat} {v : Value} {n : Nat} {xs : List Value} (h : w.ownsRow base t size v n xs) {g : Nat} (hg : v.ownBlock = some g) : ∃ cs, w.heap[g]? = some (.cells cs t (0, 0)) := by
  rcases h.2 with ⟨rfl, _⟩ | ⟨g', cap, cur, rfl, _, hh, _⟩
  · cases hg
  · cases hg; exact ⟨cur, hh⟩
theorem own_other {w w' : World} {base : Nat} {t t' : TypeId} {size : Nat} {v : Value} {n : Nat} {xs : List Value} {g : Nat} {cs : Array Value} {fz : Nat × Nat} (h : w.ownsRow base t size v n xs) (hg : w.grownBy w' (some g)) (hb : w.heap[g]? = some (.cells cs t' fz)) (hne : t ≠ t') : w'.ownsRow base t size v n xs :=
  h.kept hg (by
    cases e : v.ownBlock with
    | none => exact .inl rfl
    | some k =>
      refine .inr fun e2 => ?_
      cases e2
      obtain ⟨cs', h'⟩ := own_block h e
      rw [hb] at h'
      cases h'
      exact hne rfl)
theorem own_row {w w' : World} {base : Nat} {t t' : TypeId} {size size' : Nat} {v u : Value} {n n' : Nat} {xs xs' : List Value} (h : w.ownsRow base t size v n xs) (hu : w.ownsRow base t' size' u n' xs') (hg : w.grownBy w' u.ownBlock) (hne : t ≠ t') : w'.ownsRow base t size v n xs := by
  cases e : u.ownBlock with
  | none =>
    rw [e] at hg
    exact h.kept hg (by
      cases e2 : v.ownBlock with
      | none => exact .inl rfl
      | some k => exact .inr (fun e => by cases e))
  | some g =>
    rw [e] at hg
    obtain ⟨cs, hb⟩ := own_block hu e
    exact own_other h hg hb hne

structure Md (w : World) (d b5 N : Nat) (L : List (Int × Int)) (T : List (List Int)) (vS vT : Value) (W : World) : Prop where
  grown : w.grownBy W (some d)
  dlt : d < w.heap.size
  ge : w.heap.size < b5
  k4 : Blk W w.heap.size 25 #[.int .i64 0, .slice none 0 0, .slice none 0 0]
  k5 : Blk W b5 25 #[.int .i64 N, vS, vT]
  own : W.ownsRow (b5 + 1) 57 2 vS L.length (strC L)
  outs : Outs W (b5 + 1) vT T
section
variable {w W W' : World} {d b5 N : Nat} {L : List (Int × Int)} {T : List (List Int)} {vS vT : Value}
theorem Md.deal (h : Md w d b5 N L T vS vT W) (hg : W.grownBy W' (some d)) : Md w d b5 N L T vS vT W' := by
  have hs : Sm w.heap.size W W' := Sm.of_grown hg fun k e => by cases e; exact .inl h.dlt
  have := h.ge
  exact ⟨h.grown.trans hg, h.dlt, h.ge, blk_sm h.k4 hs (Nat.le_refl _), blk_sm h.k5 hs (by omega), own_sm h.own hs (by omega), h.outs.sm hs (by omega)⟩
theorem Md.aft (h : Md w d b5 N L T vS vT W) (ha : Aft W W') : Md w d b5 N L T vS vT W' := h.deal (only_of_aft ha _)
theorem Md.form (h : Md w d b5 N L T vS vT W) (hl : L.length ≤ 1000000) : ∃ A c A' c', vS = .slice A L.length c ∧ vT = .slice A' T.length c' ∧ Strs W A L := by
  obtain ⟨A, c, e, hs, _⟩ := own_strs h.own hl
  obtain ⟨A', c', e'⟩ := h.outs.form
  exact ⟨A, c, A', c', e, e', hs⟩
theorem Md.cells (h : Md w d b5 N L T vS vT W) : W.cell? ⟨b5, 0, none⟩ = some (.int .i64 N) ∧ W.cell? ⟨b5, 1, none⟩ = some vS ∧ W.cell? ⟨b5, 2, none⟩ = some vT ∧ b5 < W.heap.size ∧ ∀ i, W.frozen? ⟨b5, i, none⟩ = false :=
  ⟨(h.k5.cell 0).trans rfl, (h.k5.cell 1).trans rfl, (h.k5.cell 2).trans rfl, h.k5.lt, fun i => h.k5.frozen i⟩
theorem Md.push (h : Md w d b5 N L T vS vT W) (hg : W.grownBy W' vS.ownBlock) {s : Int × Int} {v' : Value} (ho : W'.ownsRow (b5 + 1) 57 2 v' (L ++ [s]).length (strC (L ++ [s]))) : Md w d b5 N (L ++ [s]) T v' vT (W'.setCell ⟨b5, 1, none⟩ v') := by
  have hge := own_ge h.own
  have h0 := h.ge
  have hset : W'.grownBy (W'.setCell ⟨b5, 1, none⟩ v') (some b5) := only_setCell (only_refl W' (some b5)) (p := ⟨b5, 1, none⟩) (.inl rfl) v'
  have hs2 : Sm (b5 + 1) W' (W'.setCell ⟨b5, 1, none⟩ v') := Sm.of_grown hset fun k e => by cases e; omega
  have hne : ∀ k, k ≤ b5 → some k ≠ vS.ownBlock := fun k hk e => by have := hge k e.symm; omega
  have k4 : Blk W' w.heap.size 25 _ := h.k4.grown hg (hne _ (by omega))
  have k5 : Blk W' b5 25 _ := h.k5.grown hg (hne _ (by omega))
  refine ⟨only_grown (only_grown h.grown hg fun k e => by have := hge k e; omega) hset fun k e => by cases e; omega, h.dlt, h0, k4.far (p := ⟨b5, 1, none⟩) (by show w.heap.size ≠ b5; omega) _, ?_, own_sm ho hs2 (by omega), ?_⟩
  · have := k5.store 1 v'
    simpa using this
  · obtain ⟨vs, h1, h2⟩ := h.outs
    exact ⟨vs, own_sm (own_row h1 h.own hg (by decide)) hs2 (by omega), fun i hi hi' => own_sm (own_row (h2 i hi hi') h.own hg (by decide)) hs2 (by omega)⟩
theorem Md.pushT (h : Md w d b5 N L T vS vT W) (hg : W.grownBy W' vT.ownBlock) {T' : List (List Int)} {v' : Value} (ho : Outs W' (b5 + 1) v' T') : Md w d b5 N L T' vS v' (W'.setCell ⟨b5, 2, none⟩ v') := by
  obtain ⟨vs, h1, h2⟩ := h.outs
  have hge := own_ge h1
  have h0 := h.ge
  have hset : W'.grownBy (W'.setCell ⟨b5, 2, none⟩ v') (some b5) := only_setCell (only_refl W' (some b5)) (p := ⟨b5, 2, none⟩) (.inl rfl) v'
  have hs2 : Sm (b5 + 1) W' (W'.setCell ⟨b5, 2, none⟩ v') := Sm.of_grown hset fun k e => by cases e; omega
  have hne : ∀ k, k ≤ b5 → some k ≠ vT.ownBlock := fun k hk e => by have := hge k e.symm; omega
  have k4 : Blk W' w.heap.size 25 _ := h.k4.grown hg (hne _ (by omega))
  have k5 : Blk W' b5 25 _ := h.k5.grown hg (hne _ (by omega))
  refine ⟨only_grown (only_grown h.grown hg fun k e => by have := hge k e; omega) hset fun k e => by cases e; omega, h.dlt, h0, k4.far (p := ⟨b5, 2, none⟩) (by show w.heap.size ≠ b5; omega) _, ?_, own_sm (own_row h.own h1 hg (by decide)) hs2 (by omega), ho.sm hs2 (by omega)⟩
  have := k5.store 2 v'
  simpa using this
theorem Md.rep (h : Md w d b5 N L T vS vT W) (hl : L.length ≤ 1000000) (hT : T.length ≤ 1000000) (hr : ∀ l ∈ T, l.length ≤ 1000000) : ∃ A c A' c', vS = .slice A L.length c ∧ vT = .slice A' T.length c' ∧ CRepS (b5 + 1) W ⟨N, L, T⟩ A A' := by
  obtain ⟨A, c, e, _, _⟩ := own_strs h.own hl
  obtain ⟨A', c', e', _, _⟩ := h.outs.lists (by omega) (fun l hl' => by have := hr l hl'; omega)
  refine ⟨A, c, A', c', e, e', fun Z hz => ?_⟩
  have h0 := h.ge
  obtain ⟨A2, c2, q1, q2, _⟩ := own_strs (own_sm h.own hz (by omega)) hl
  obtain ⟨A3, c3, q3, _, q4⟩ := (h.outs.sm hz (by omega)).lists (by omega) (fun l hl' => by have := hr l hl'; omega)
  rw [e] at q1
  rw [e'] at q3
  cases q1
  cases q3
  exact ⟨q2, q4⟩
end

structure Drawn (N : Nat) (L : List (Int × Int)) (T : List (List Int)) : Prop where
  ins : ∀ s ∈ L, (0 ≤ s.1 ∧ s.1 < N) ∧ (0 ≤ s.2 ∧ s.2 < N)
  nodup : L.Nodup
  len : L.length ≤ 60
  lists : ∀ l ∈ T, 1 ≤ l.length ∧ l.length ≤ 3 ∧ (∀ x ∈ l, 0 ≤ x ∧ x < N) ∧ risesB l = true
theorem Drawn.nil (N : Nat) : Drawn N [] [] := ⟨(fun s h => by cases h), List.nodup_nil, Nat.zero_le _, (fun l h => by cases h)⟩
theorem Drawn.push {N : Nat} {L : List (Int × Int)} {T : List (List Int)} (h : Drawn N L T) {s : Int × Int} (hs : (0 ≤ s.1 ∧ s.1 < N) ∧ (0 ≤ s.2 ∧ s.2 < N)) (hn : s ∉ L) (hl : L.length < 60) : Drawn N (L ++ [s]) T :=
  ⟨fun x hx => (List.mem_append.1 hx).elim (h.ins x) fun e => by rw [List.mem_singleton] at e; subst e; exact hs, by
    rw [List.nodup_append]
    exact ⟨h.nodup, List.nodup_cons.2 ⟨by simp, List.nodup_nil⟩, fun a ha b hb e => by rw [List.mem_singleton] at hb; subst hb; subst e; exact hn ha⟩, by simp; omega, h.lists⟩
theorem Drawn.pushT {N : Nat} {L : List (Int × Int)} {T : List (List Int)} (h : Drawn N L T) {l : List Int} (hl : 1 ≤ l.length ∧ l.length ≤ 3 ∧ (∀ x ∈ l, 0 ≤ x ∧ x < N) ∧ risesB l = true) : Drawn N L (T ++ [l]) :=
  ⟨h.ins, h.nodup, h.len, fun x hx => (List.mem_append.1 hx).elim (h.lists x) fun e => by rw [List.mem_singleton] at e; subst e; exact hl⟩
theorem rises_of : ∀ {l : List Int}, l.Pairwise (· < ·) → risesB l = true
  | [], _ => rfl
  | [_], _ => rfl
  | a :: b :: r, h => by
    simp only [risesB, Bool.and_eq_true]
    exact ⟨by simpa using (List.pairwise_cons.1 h).1 b (by simp), rises_of (List.pairwise_cons.1 h).2⟩
theorem rises_sorted {l : List Int} (h1 : l.Pairwise (· ≤ ·)) (h2 : l.Nodup) : risesB l = true :=
  rises_of ((h1.and h2).imp fun ⟨a, b⟩ => by omega)
theorem listedE_zero {N : Int} {l : List Int} (h1 : ∀ x ∈ l, 0 ≤ x ∧ x < N) (h2 : risesB l = true) : listedE N l = 0 := by
  unfold listedE
  rw [if_pos (List.all_eq_true.2 fun x hx => Cl_iff.2 (h1 x hx)), if_pos h2]
theorem surveysE_zero {N : Int} : ∀ {T : List (List Int)}, (∀ l ∈ T, 1 ≤ l.length ∧ l.length ≤ 3 ∧ (∀ x ∈ l, 0 ≤ x ∧ x < N) ∧ risesB l = true) → surveysE N T = 0
  | [], _ => rfl
  | l :: r, h => by
    obtain ⟨h1, h2, h3, h4⟩ := h l List.mem_cons_self
    unfold surveysE
    rw [if_pos (fromB_iff.2 ⟨by omega, by omega⟩), if_pos (listedE_zero h3 h4), surveysE_zero fun x hx => h x (List.mem_cons_of_mem _ hx)]
theorem Drawn.ok {N : Nat} {L : List (Int × Int)} {T : List (List Int)} (h : Drawn N L T) (h1 : 1 ≤ N ∧ N ≤ 14) (hT : T.length ≤ 6) : caseE ⟨N, L, T⟩ = 0 := by
  unfold caseE
  have e1 : fromB (N : Int) 1 14 = true := fromB_iff.2 ⟨by omega, by omega⟩
  have hl := h.len
  rw [if_neg (by simp [e1]; omega), if_neg (by simp [List.all_eq_true, inB, Cl_iff]; intro a b hab; have := h.ins _ hab; exact ⟨this.1.1, this.1.2, this.2.1, this.2.2⟩), if_neg (by simpa using h.nodup)]
  exact surveysE_zero h.lists
end Go.Proofs
end

section
namespace Go.Proofs
open Go.RowKit
attribute [local go_sem] Oper.semAt_some
def n1 (b : Bool) (n : Nat) : Nat := if b then n else 0
theorem n1_f (n : Nat) : n1 false n = 0 := rfl
theorem n1_t (n : Nat) : n1 true n = n := rfl
structure Deal4 (w0 : World) (d : Nat) (A : Option Addr) (l : List Int) (c mm : Nat) (W0 : World) (N : Nat) (done : Nat → Bool) (a : Act) (W : World) : Prop where
  deck : DeckAt w0 d A l c (mm + n1 (done 3) 1 + n1 (done 7) 1) W
  grown : W0.grownBy W (some d)
  dlt : d < W0.heap.size
  v3 : done 3 = true → ∃ x : Nat, a.eval (.tmp 23) = .int .i64 x ∧ x < N
  v7 : done 7 = true → ∃ y : Nat, a.eval (.tmp 27) = .int .i64 y ∧ y < N
  v8 : done 8 = true → ∃ x y : Nat, a.eval (.tmp 28) = .agg #[.int .i64 x, .int .i64 y] ∧ x < N ∧ y < N
  v9 : done 9 = true → ∃ g, a.eval (.tmp 6) = .pointer (some ⟨g, 0, none⟩) ∧ W0.heap.size ≤ g ∧ Blk W g 57 #[.int .i64 0, .int .i64 0]
section
variable {w0 : World} {d : Nat} {A : Option Addr} {l : List Int} {c mm : Nat} {W0 W W' : World} {N : Nat} {done : Nat → Bool} {a : Act}
theorem Deal4.start (h : DeckAt w0 d A l c mm W0) : Deal4 w0 d A l c mm W0 N (fun _ => false) a W0.drew :=
  ⟨by rw [n1_f]; exact h.aft (Aft.drew _), only_drew (only_refl _ _), h.lt, (fun h => by cases h), (fun h => by cases h), (fun h => by cases h), (fun h => by cases h)⟩
theorem Deal4.keep (h : Deal4 w0 d A l c mm W0 N done a W) {i : Nat} {dst : Option Tmp} {v : Value} (hi : i ≠ 3 ∧ i ≠ 7 ∧ i ≠ 8 ∧ i ≠ 9) (hd : dst ≠ some 23 ∧ dst ≠ some 27 ∧ dst ≠ some 28 ∧ dst ≠ some 6) : Deal4 w0 d A l c mm W0 N (upd done i) (a.put dst v) W := by
  obtain ⟨i3, i7, i8, i9⟩ := hi
  obtain ⟨d1, d2, d3, d4⟩ := hd
  refine ⟨?_, h.grown, h.dlt, fun p => ?_, fun p => ?_, fun p => ?_, fun p => ?_⟩
  · rw [upd_ne (Ne.symm i3), upd_ne (Ne.symm i7)]; exact h.deck
  · rw [upd_ne (Ne.symm i3)] at p; rw [eval_ne d1]; exact h.v3 p
  · rw [upd_ne (Ne.symm i7)] at p; rw [eval_ne d2]; exact h.v7 p
  · rw [upd_ne (Ne.symm i8)] at p; rw [eval_ne d3]; exact h.v8 p
  · rw [upd_ne (Ne.symm i9)] at p; rw [eval_ne d4]; exact h.v9 p
theorem Deal4.blk (h : Deal4 w0 d A l c mm W0 N done a W) (hg : W.grownBy W' (some d)) {g : Nat} (h1 : W0.heap.size ≤ g) {cs : Array Value} (hb : Blk W g 57 cs) : Blk W' g 57 cs :=
  hb.grown hg (fun e => by have := h.dlt; cases e; omega)
theorem Deal4.step3 (h : Deal4 w0 d A l c mm W0 N done a W) (h3 : done 3 = false) {x : Nat} (hx : x < N) (hd : DeckAt w0 d A l c (mm + n1 (done 3) 1 + n1 (done 7) 1 + 1) W') (hg : W.grownBy W' (some d)) (hz : 23 < a.tmps.size) : Deal4 w0 d A l c mm W0 N (upd done 3) (a.put (some 23) (.int .i64 x)) W' := by
  refine ⟨?_, h.grown.trans hg, h.dlt, fun _ => ⟨x, Act.eval_put_same _ _ _ hz, hx⟩, fun p => ?_, fun p => ?_, fun p => ?_⟩
  · rw [upd_same, upd_ne (by decide), n1_t]
    rw [h3, n1_f] at hd
    exact hd.more (by omega)
  · rw [upd_ne (by decide)] at p; rw [eval_ne (by decide)]; exact h.v7 p
  · rw [upd_ne (by decide)] at p; rw [eval_ne (by decide)]; exact h.v8 p
  · rw [upd_ne (by decide)] at p; rw [eval_ne (by decide)]
    obtain ⟨g, e, h1, hb⟩ := h.v9 p
    exact ⟨g, e, h1, h.blk hg h1 hb⟩
theorem Deal4.step7 (h : Deal4 w0 d A l c mm W0 N done a W) (h7 : done 7 = false) {y : Nat} (hy : y < N) (hd : DeckAt w0 d A l c (mm + n1 (done 3) 1 + n1 (done 7) 1 + 1) W') (hg : W.grownBy W' (some d)) (hz : 27 < a.tmps.size) : Deal4 w0 d A l c mm W0 N (upd done 7) (a.put (some 27) (.int .i64 y)) W' := by
  refine ⟨?_, h.grown.trans hg, h.dlt, fun p => ?_, fun _ => ⟨y, Act.eval_put_same _ _ _ hz, hy⟩, fun p => ?_, fun p => ?_⟩
  · rw [upd_same, upd_ne (by decide), n1_t]
    rw [h7, n1_f] at hd
    exact hd.more (by omega)
  · rw [upd_ne (by decide)] at p; rw [eval_ne (by decide)]; exact h.v3 p
  · rw [upd_ne (by decide)] at p; rw [eval_ne (by decide)]; exact h.v8 p
  · rw [upd_ne (by decide)] at p; rw [eval_ne (by decide)]
    obtain ⟨g, e, h1, hb⟩ := h.v9 p
    exact ⟨g, e, h1, h.blk hg h1 hb⟩
theorem Deal4.step8 (h : Deal4 w0 d A l c mm W0 N done a W) {x y : Nat} (hx : x < N) (hy : y < N) (hz : 28 < a.tmps.size) : Deal4 w0 d A l c mm W0 N (upd done 8) (a.put (some 28) (.agg #[.int .i64 x, .int .i64 y])) W := by
  refine ⟨?_, h.grown, h.dlt, fun p => ?_, fun p => ?_, fun _ => ⟨x, y, Act.eval_put_same _ _ _ hz, hx, hy⟩, fun p => ?_⟩
  · rw [upd_ne (by decide), upd_ne (by decide)]; exact h.deck
  · rw [upd_ne (by decide)] at p; rw [eval_ne (by decide)]; exact h.v3 p
  · rw [upd_ne (by decide)] at p; rw [eval_ne (by decide)]; exact h.v7 p
  · rw [upd_ne (by decide)] at p; rw [eval_ne (by decide)]; exact h.v9 p
theorem Deal4.step9 (h : Deal4 w0 d A l c mm W0 N done a W) (hz : 6 < a.tmps.size) : Deal4 w0 d A l c mm W0 N (upd done 9) (a.put (some 6) (.pointer (some ⟨W.heap.size, 0, none⟩))) (W.alloc (.cells #[.int .i64 0, .int .i64 0] 57)) := by
  refine ⟨?_, only_aft h.grown (Aft.alloc _ _), h.dlt, fun p => ?_, fun p => ?_, fun p => ?_, fun _ => ⟨_, Act.eval_put_same _ _ _ hz, h.grown.size, Blk.new _ _ _⟩⟩
  · rw [upd_ne (by decide), upd_ne (by decide)]; exact h.deck.aft (Aft.alloc _ _)
  · rw [upd_ne (by decide)] at p; rw [eval_ne (by decide)]; exact h.v3 p
  · rw [upd_ne (by decide)] at p; rw [eval_ne (by decide)]; exact h.v7 p
  · rw [upd_ne (by decide)] at p; rw [eval_ne (by decide)]; exact h.v8 p
end
structure Deal12 (w0 : World) (d : Nat) (A : Option Addr) (l : List Int) (c mm : Nat) (W0 : World) (N : Nat) (done : Nat → Bool) (a : Act) (W : World) : Prop where
  deck : DeckAt w0 d A l c (mm + n1 (done 3) N + n1 (done 8) 1) W
  grown : W0.grownBy W (some d)
  dlt : d < W0.heap.size
  v3 : done 3 = true → ∃ P : List Int, ∃ g cap, a.eval (.tmp 71) = .slice (some ⟨g, 0, none⟩) N cap ∧ W.ownsRow W0.heap.size 3 1 (.slice (some ⟨g, 0, none⟩) N cap) N (P.map (Value.int .i64)) ∧ P.Perm (Court.allN N)
  v8 : done 8 = true → ∃ q : Nat, a.eval (.tmp 76) = .int .i64 q ∧ 1 ≤ q ∧ q ≤ 3 ∧ q ≤ N
  v9 : done 9 = true → ∃ P : List Int, ∃ g cap, ∃ q : Nat, a.eval (.tmp 77) = .slice (some ⟨g, 0, none⟩) q cap ∧ W.ownsRow W0.heap.size 3 1 (.slice (some ⟨g, 0, none⟩) q cap) q (P.map (Value.int .i64)) ∧ 1 ≤ q ∧ q ≤ 3 ∧ P.Nodup ∧ ∀ x ∈ P, 0 ≤ x ∧ x < N
section
variable {w0 : World} {d : Nat} {A : Option Addr} {l : List Int} {c mm : Nat} {W0 W W' : World} {N : Nat} {done : Nat → Bool} {a : Act}
theorem Deal12.start (h : DeckAt w0 d A l c mm W0) : Deal12 w0 d A l c mm W0 N (fun _ => false) a W0.drew :=
  ⟨by rw [n1_f, n1_f]; exact h.aft (Aft.drew _), only_drew (only_refl _ _), h.lt, (fun h => by cases h), (fun h => by cases h), (fun h => by cases h)⟩
theorem Deal12.keep (h : Deal12 w0 d A l c mm W0 N done a W) {i : Nat} {dst : Option Tmp} {v : Value} (hi : i ≠ 3 ∧ i ≠ 8 ∧ i ≠ 9) (hd : dst ≠ some 71 ∧ dst ≠ some 76 ∧ dst ≠ some 77) : Deal12 w0 d A l c mm W0 N (upd done i) (a.put dst v) W := by
  obtain ⟨i3, i8, i9⟩ := hi
  obtain ⟨d1, d2, d3⟩ := hd
  refine ⟨?_, h.grown, h.dlt, fun p => ?_, fun p => ?_, fun p => ?_⟩
  · rw [upd_ne (Ne.symm i3), upd_ne (Ne.symm i8)]; exact h.deck
  · rw [upd_ne (Ne.symm i3)] at p; rw [eval_ne d1]; exact h.v3 p
  · rw [upd_ne (Ne.symm i8)] at p; rw [eval_ne d2]; exact h.v8 p
  · rw [upd_ne (Ne.symm i9)] at p; rw [eval_ne d3]; exact h.v9 p
theorem Deal12.own (h : Deal12 w0 d A l c mm W0 N done a W) (hg : W.grownBy W' (some d)) {v : Value} {n : Nat} {xs : List Value} (ho : W.ownsRow W0.heap.size 3 1 v n xs) : W'.ownsRow W0.heap.size 3 1 v n xs :=
  own_sm ho (Sm.of_grown (b := W0.heap.size) hg fun k e => by cases e; exact .inl h.dlt) (Nat.le_refl _)
theorem Deal12.step3 (h : Deal12 w0 d A l c mm W0 N done a W) (h3 : done 3 = false) {P : List Int} {g cap : Nat} (ho : W'.ownsRow W.heap.size 3 1 (.slice (some ⟨g, 0, none⟩) N cap) N (P.map (Value.int .i64))) (hp : P.Perm (Court.allN N)) (hd : DeckAt w0 d A l c (mm + n1 (done 3) N + n1 (done 8) 1 + N) W') (hg : W.grownBy W' (some d)) (hz : 71 < a.tmps.size) : Deal12 w0 d A l c mm W0 N (upd done 3) (a.put (some 71) (.slice (some ⟨g, 0, none⟩) N cap)) W' := by
  refine ⟨?_, h.grown.trans hg, h.dlt, fun _ => ⟨P, g, cap, Act.eval_put_same _ _ _ hz, World.ownsRow.mono ho h.grown.size, hp⟩, fun p => ?_, fun p => ?_⟩
  · rw [upd_same, upd_ne (by decide), n1_t]
    rw [h3, n1_f] at hd
    exact hd.more (by omega)
  · rw [upd_ne (by decide)] at p; rw [eval_ne (by decide)]; exact h.v8 p
  · rw [upd_ne (by decide)] at p; rw [eval_ne (by decide)]
    obtain ⟨P', g', cap', q, e, ho', h1⟩ := h.v9 p
    exact ⟨P', g', cap', q, e, h.own hg ho', h1⟩
theorem Deal12.step8 (h : Deal12 w0 d A l c mm W0 N done a W) (h8 : done 8 = false) {q : Nat} (h1 : 1 ≤ q) (h2 : q ≤ 3) (h3 : q ≤ N) (hd : DeckAt w0 d A l c (mm + n1 (done 3) N + n1 (done 8) 1 + 1) W') (hg : W.grownBy W' (some d)) (hz : 76 < a.tmps.size) : Deal12 w0 d A l c mm W0 N (upd done 8) (a.put (some 76) (.int .i64 q)) W' := by
  refine ⟨?_, h.grown.trans hg, h.dlt, fun p => ?_, fun _ => ⟨q, Act.eval_put_same _ _ _ hz, h1, h2, h3⟩, fun p => ?_⟩
  · rw [upd_same, upd_ne (by decide), n1_t]
    rw [h8, n1_f] at hd
    exact hd.more (by omega)
  · rw [upd_ne (by decide)] at p; rw [eval_ne (by decide)]
    obtain ⟨P, g, cap, e, ho, h1⟩ := h.v3 p
    exact ⟨P, g, cap, e, h.own hg ho, h1⟩
  · rw [upd_ne (by decide)] at p; rw [eval_ne (by decide)]
    obtain ⟨P', g', cap', q, e, ho', h1⟩ := h.v9 p
    exact ⟨P', g', cap', q, e, h.own hg ho', h1⟩
theorem own_take {w : World} {base g cap n q : Nat} {P : List Int} (h : w.ownsRow base 3 1 (.slice (some ⟨g, 0, none⟩) n cap) n (P.map (Value.int .i64))) (hq : q ≤ n) : w.ownsRow base 3 1 (.slice (some ⟨g, 0, none⟩) q cap) q ((P.take q).map (Value.int .i64)) := by
  have hl : P.length = n := by have := h.1; simpa using this
  rcases h.2 with ⟨h0, _⟩ | ⟨g', cap', cur, hv, hg, hb, hn, hcap, hcs, htk⟩
  · cases h0
  cases hv
  refine ⟨by simp; omega, .inr ⟨g, cap, cur, rfl, hg, hb, by omega, hcap, hcs, ?_⟩⟩
  rw [Nat.mul_one] at htk ⊢
  rw [List.map_take, ← htk, List.take_take, Nat.min_eq_left hq]
theorem Deal12.step9 (h : Deal12 w0 d A l c mm W0 N done a W) {P : List Int} {g cap q : Nat} (ho : W.ownsRow W0.heap.size 3 1 (.slice (some ⟨g, 0, none⟩) N cap) N (P.map (Value.int .i64))) (hp : P.Perm (Court.allN N)) (h1 : 1 ≤ q) (h2 : q ≤ 3) (h3 : q ≤ N) (hz : 77 < a.tmps.size) : Deal12 w0 d A l c mm W0 N (upd done 9) (a.put (some 77) (.slice (some ⟨g, 0, none⟩) q cap)) W := by
  refine ⟨?_, h.grown, h.dlt, fun p => ?_, fun p => ?_, fun _ => ⟨P.take q, g, cap, q, Act.eval_put_same _ _ _ hz, own_take ho h3, h1, h2, ?_, fun x hx => ?_⟩⟩
  · rw [upd_ne (by decide), upd_ne (by decide)]; exact h.deck
  · rw [upd_ne (by decide)] at p; rw [eval_ne (by decide)]; exact h.v3 p
  · rw [upd_ne (by decide)] at p; rw [eval_ne (by decide)]; exact h.v8 p
  · have : P.Nodup := hp.nodup_iff.2 (by
      have := Court.allN_sorted N
      exact this.imp fun h e => by omega)
    exact this.sublist (List.take_sublist _ _)
  · exact Court.mem_allN.1 (hp.subset (List.mem_of_mem_take hx))
end
end Go.Proofs
end

section
namespace Court
section
variable {S : List (Int × Int)} {N : Nat} {c : Int}
def winB (S : List (Int × Int)) (N : Nat) (c : Int) (l : List Int) : Bool := decide (award S noS N (begF (refL l)) c = 1)
def tryW (S : List (Int × Int)) (N : Nat) (c : Int) (k n m : Nat) (l : List Int) : Option (List Int) := (combos c k n m l).find? (winB S N c)
theorem combos_zero (c : Int) (k n : Nat) (l : List Int) : combos c k n 0 l = [l] := by cases k <;> rfl
theorem tryW_zero (k n : Nat) (l : List Int) : tryW S N c k n 0 l = if winB S N c l then some l else none := by
  unfold tryW
  rw [combos_zero]
  cases h : winB S N c l <;> simp [h]
theorem tryW_end (n m : Nat) (l : List Int) : tryW S N c 0 n (m + 1) l = none := rfl
theorem tryW_step (k n m : Nat) (l : List Int) : tryW S N c (k + 1) n (m + 1) l = (if (n : Int) ≠ c then tryW S N c k (n + 1) m (l ++ [(n : Int)]) else none).or (tryW S N c k (n + 1) (m + 1) l) := by
  have e : combos c (k + 1) n (m + 1) l = (if (n : Int) ≠ c then combos c k (n + 1) m (l ++ [(n : Int)]) else []) ++ combos c k (n + 1) (m + 1) l := rfl
  unfold tryW
  rw [e, List.find?_append]
  by_cases h : (n : Int) ≠ c
  · rw [if_pos h, if_pos h]
  · rw [if_neg h, if_neg h]; rfl
def FewIs (S : List (Int × Int)) (N : Nat) (c : Int) (L : List Int) : Prop := ∃ m, tryW S N c N 0 m [] = some L ∧ ∀ j, j < m → tryW S N c N 0 j [] = none
theorem try_all (hc : 0 ≤ c ∧ c < N) (hs : (c, c) ∉ S) (hS : ∀ s ∈ S, 0 ≤ s.1 ∧ s.1 < N) : tryW S N c N 0 (N - 1) [] ≠ none := fun h => by
  unfold tryW at h
  rw [List.find?_eq_none] at h
  have hm : (allN N).filter (fun n => decide (n ≠ c)) ∈ combos c N 0 (N - 1) [] := by
    refine (mem_combos N 0 (N - 1) [] _).2 ⟨_, (List.nil_append _).symm, ?_, fun x hx => ?_, ?_⟩
    · refine List.Pairwise.filter _ ?_
      unfold allN
      rw [List.pairwise_map]
      exact List.pairwise_lt_range.imp fun h => by omega
    · have := List.mem_filter.1 hx
      have h1 := mem_allN.1 this.1
      have h2 := of_decide_eq_true this.2
      exact ⟨by omega, by omega, h2⟩
    · have h1 : (allN N).countP (fun n => decide (n ≠ c)) = N - 1 := by
        obtain ⟨k, rfl⟩ := Int.eq_ofNat_of_zero_le hc.1
        have h2 : (allN N).countP (fun n => decide (n = (k : Int))) = 1 := by
          unfold allN
          rw [List.countP_map]
          have : ((fun n : Int => decide (n = (k : Int))) ∘ fun (i : Nat) => (i : Int)) = fun i => i == k := by
            funext i
            by_cases e : i = k
            · subst e; simp
            · show decide ((i : Int) = (k : Int)) = (i == k)
              rw [decide_eq_false (show ¬ ((i : Int) = (k : Int)) from fun h => e (Int.ofNat.inj h)), beq_eq_false_iff_ne.2 e]
          rw [this]
          have h3 : (List.range N).count k = 1 := by
            have h6 := (List.nodup_range (n := N)).count (a := k)
            rw [h6, if_pos (List.mem_range.2 (by have := hc.2; omega))]
          exact h3
        have h4 := List.length_eq_countP_add_countP (p := fun n : Int => decide (n = (k : Int))) (l := allN N)
        have h5 : (allN N).length = N := by unfold allN; simp
        have h6 : (fun n : Int => decide (¬ (decide (n = (k : Int))) = true)) = fun n : Int => decide (n ≠ (k : Int)) := by
          funext n; simp
        rw [h6] at h4
        omega
      rw [← h1, List.countP_eq_length_filter]
  refine h _ hm ?_
  unfold winB
  rw [all_refuted hc hs hS (fun n h1 h2 h3 => List.mem_filter.2 ⟨mem_allN.2 ⟨h1, h2⟩, by simpa using h3⟩) (fun h => by simpa using (List.mem_filter.1 h).2)]
  rfl
theorem few_bound (hc : 0 ≤ c ∧ c < N) (hs : (c, c) ∉ S) (hS : ∀ s ∈ S, 0 ≤ s.1 ∧ s.1 < N) {m : Nat} (h : ∀ j, j < m → tryW S N c N 0 j [] = none) : m < N := by
  by_cases e : m < N
  · exact e
  · exact absurd (h (N - 1) (by omega)) (try_all hc hs hS)
theorem FewIs.facts {L : List Int} (h : FewIs S N c L) : (L.Pairwise (· < ·) ∧ (∀ x ∈ L, 0 ≤ x ∧ x < N ∧ x ≠ c)) ∧ winB S N c L = true ∧ ∀ l : List Int, l.Pairwise (· < ·) → (∀ x ∈ l, 0 ≤ x ∧ x < N ∧ x ≠ c) → winB S N c l = true → L.length ≤ l.length := by
  obtain ⟨m, h1, h2⟩ := h
  unfold tryW at h1
  have hm := List.mem_of_find?_eq_some h1
  obtain ⟨t, ht, h3, h4, h5⟩ := (mem_combos N 0 m [] L).1 hm
  rw [List.nil_append] at ht
  subst ht
  refine ⟨⟨h3, fun x hx => ?_⟩, List.find?_some h1, fun l hl hr hw => ?_⟩
  · have := h4 x hx; omega
  · by_cases e : l.length < m
    · have := h2 l.length e
      unfold tryW at this
      rw [List.find?_eq_none] at this
      exact absurd hw (this l ((mem_combos N 0 l.length [] l).2 ⟨l, (List.nil_append _).symm, hl, fun x hx => by have := hr x hx; omega, rfl⟩))
    · omega
end
end Court
end
