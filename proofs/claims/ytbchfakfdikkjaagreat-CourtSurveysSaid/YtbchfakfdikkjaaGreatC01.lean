/- Own texts, merged: CtSv0 CtL6. -/
import Derived.Test.YtbchfakfdikkjaaGreatW01
import Derived.BigGuard
set_option linter.unusedSimpArgs false
set_option linter.unusedVariables false
set_option linter.unnecessarySimpa false
section
namespace Go.Proofs
open Go.RowKit
open Court (refL begF noS award)
theorem on_off {m : Nat} {l : List Int} (hl : l.Nodup) {x : Int} : x ∈ onTo m l l.length ↔ x ∈ l ∧ x ∉ offTo m l l.length := by
  constructor
  · intro h
    refine ⟨onTo_mem h, fun h2 => ?_⟩
    unfold onTo at h
    unfold offTo at h2
    obtain ⟨i, hi, e1⟩ := List.mem_map.1 h
    obtain ⟨j, hj, e2⟩ := List.mem_map.1 h2
    obtain ⟨hi1, hi2⟩ := List.mem_filter.1 hi
    obtain ⟨hj1, hj2⟩ := List.mem_filter.1 hj
    have hi1 := List.mem_range.1 hi1
    have hj1 := List.mem_range.1 hj1
    have e : l[i] = l[j] := by
      have a1 : l.getD i 0 = l[i] := by rw [List.getD_eq_getElem?_getD, List.getElem?_eq_getElem hi1]; rfl
      have a2 : l.getD j 0 = l[j] := by rw [List.getD_eq_getElem?_getD, List.getElem?_eq_getElem hj1]; rfl
      rw [← a1, ← a2, e1, e2]
    have hij : i = j := by
      have hp := List.pairwise_iff_getElem.1 hl
      rcases Nat.lt_trichotomy i j with h | h | h
      · exact absurd e (hp i j hi1 hj1 h)
      · exact h
      · exact absurd e.symm (hp j i hj1 hi1 h)
    subst hij
    rw [hi2] at hj2
    cases hj2
  · rintro ⟨h1, h2⟩
    obtain ⟨i, hi, e⟩ := List.getElem_of_mem h1
    have a1 : l.getD i 0 = x := by rw [List.getD_eq_getElem?_getD, List.getElem?_eq_getElem hi]; exact e
    cases hb : m.testBit i
    · exact absurd (show x ∈ offTo m l l.length from List.mem_map.2 ⟨i, List.mem_filter.2 ⟨List.mem_range.2 hi, by simp [hb]⟩, a1⟩) h2
    · exact List.mem_map.2 ⟨i, List.mem_filter.2 ⟨List.mem_range.2 hi, by simp [hb]⟩, a1⟩
theorem off_sorted {m : Nat} {l : List Int} (hl : l.Pairwise (· < ·)) : (offTo m l l.length).Pairwise (· < ·) := by
  unfold offTo
  rw [List.pairwise_map]
  have hr : ((List.range l.length).filter fun i => !m.testBit i).Pairwise (· < ·) := List.pairwise_lt_range.filter _
  refine hr.imp_of_mem fun {i j} hi hj hij => ?_
  have hi1 := List.mem_range.1 (List.mem_filter.1 hi).1
  have hj1 := List.mem_range.1 (List.mem_filter.1 hj).1
  rw [List.getD_eq_getElem?_getD, List.getD_eq_getElem?_getD, List.getElem?_eq_getElem hi1, List.getElem?_eq_getElem hj1]
  exact List.pairwise_iff_getElem.1 hl i j hi1 hj1 hij
def keptB (l no : List Int) (s : Int × Int) : Bool := !hasB l s.2 || hasB no s.2
theorem kept_eq (S : List (Int × Int)) {m : Nat} {l : List Int} (hl : l.Nodup) : S.filter (keptB l (offTo m l l.length)) = S.filter fun s => !refL (onTo m l l.length) s.2 := by
  congr 1
  funext s
  unfold keptB refL
  have h := on_off (m := m) hl (x := s.2)
  by_cases h1 : s.2 ∈ onTo m l l.length
  · have h2 := h.1 h1
    have e1 : hasB l s.2 = true := hasB_iff.2 h2.1
    have e2 : hasB (offTo m l l.length) s.2 = false := by
      rw [Bool.eq_false_iff]; exact fun e => h2.2 (hasB_iff.1 e)
    rw [e1, e2]
    simp [h1]
  · have e0 : (onTo m l l.length).contains s.2 = false := by simpa using h1
    rw [e0]
    by_cases h2 : s.2 ∈ l
    · have h3 : s.2 ∈ offTo m l l.length := Classical.byContradiction fun h3 => h1 (h.2 ⟨h2, h3⟩)
      rw [hasB_iff.2 h3]; simp
    · have e1 : hasB l s.2 = false := by rw [Bool.eq_false_iff]; exact fun e => h2 (hasB_iff.1 e)
      rw [e1]; simp
theorem told_award (C : CaseL) {m N : Nat} {l : List Int} (hl : l.Nodup) : award (C.strikes.filter (keptB l (offTo m l l.length))) noS N (begF (refL (offTo m l l.length))) = foundM C l N m := by
  unfold foundM
  rw [kept_eq _ hl, Court.award_filter]
theorem own_decided (C : CaseL) {N M : Nat} {l : List Int} (hl : l.Nodup) {n : Int} (hn : n ∈ l) (hr : 0 ≤ n ∧ n < N) : decT C l N M n = true := by
  unfold decT
  rw [decide_eq_true hr, Bool.true_and, List.all_eq_true]
  intro m _
  refine decide_eq_true fun h0 => ?_
  unfold foundM at h0
  have hd := Court.award_done C.strikes (refL (onTo m l l.length)) N (begF (refL (offTo m l l.length))) n hr.1 hr.2 h0
  have hhas := (Court.award_reach C.strikes (refL (onTo m l l.length)) N (begF (refL (offTo m l l.length)))).has
  by_cases h : n ∈ offTo m l l.length
  · have hb : begF (refL (offTo m l l.length)) n = 2 := by unfold begF refL; simp [h]
    have := hhas n (by rw [hb]; decide)
    rw [h0, hb] at this
    cases this
  · have h1 : n ∈ onTo m l l.length := (on_off hl).2 ⟨hn, h⟩
    have hs : refL (onTo m l l.length) n = true := by unfold refL; simp [h1]
    have := (Court.rule_zero.1 hd).2
    obtain ⟨hf, -⟩ := Court.struck_iff.1 this
    rw [hs] at hf
    cases hf
def blR (N : Nat) (f : Nat → Bool) : Array Value := ((List.range N).map fun i => Value.bool (f i)).toArray
theorem blR_get {N : Nat} (f : Nat → Bool) {i : Nat} (h : i < N) : (blR N f)[i]? = some (.bool (f i)) := by unfold blR; simp [h]
theorem blR_set {N : Nat} (f : Nat → Bool) {i : Nat} (v : Bool) : (blR N f).setIfInBounds i (.bool v) = blR N (fun k => if k = i then v else f k) := by
  unfold blR
  rw [List.setIfInBounds_toArray]
  congr 1
  apply List.ext_getElem?
  intro k
  rw [List.getElem?_set, List.getElem?_map, List.getElem?_map]
  by_cases hk : k < N
  · rw [List.getElem?_range hk]
    by_cases e : i = k
    · subst e; simp [hk]
    · rw [if_neg e]; simp [Ne.symm e]
  · rw [List.getElem?_eq_none (by simp; omega)]
    by_cases e : i = k
    · subst e; rw [if_pos rfl, if_neg (by simp; omega)]; simp
    · rw [if_neg e]; rfl
theorem blR_no (N : Nat) : (Go.madeCells #[.bool false] N) = blR N (fun _ => false) := by
  apply Array.ext_getElem?
  intro i
  by_cases h : i < N
  · rw [blR_get _ h]
    simp [Go.madeCells, h, Nat.mod_one]
  · rw [Array.getElem?_eq_none (by simp [Go.madeCells]; omega), Array.getElem?_eq_none (by unfold blR; simp; omega)]
theorem bits_zero : ∀ x : Fin 64, (bits .and .i64 ((x.val : Nat) : Int) 1 == 0) = !x.val.testBit 0 := by decide
theorem bits_at0 {m k : Nat} (hm : m < 64) : (bits .and .i64 ((m : Int) / 2 ^ k) 1 == 0) = !m.testBit k := by
  have h := bits_zero ⟨m / 2 ^ k, Nat.lt_of_le_of_lt (Nat.div_le_self _ _) hm⟩
  have e : ((m : Int) / 2 ^ k) = ((m / 2 ^ k : Nat) : Int) := by push_cast; rfl
  rw [e]
  rw [Nat.testBit_div_two_pow, Nat.zero_add] at h
  exact h
theorem hasB_idx {p : Nat → Bool} {k n : Nat} (h : n < k) : hasB (idxL p k) n = p n := by
  unfold idxL
  cases e : p n
  · rw [hasB_false]
    intro hm
    obtain ⟨i, hi, e2⟩ := List.mem_map.1 hm
    have : i = n := Int.ofNat.inj e2
    subst this
    rw [(List.mem_filter.1 hi).2] at e
    cases e
  · rw [hasB_iff]
    exact List.mem_map.2 ⟨n, List.mem_filter.2 ⟨List.mem_range.2 h, e⟩, rfl⟩
theorem Ex.of_aft {d : Nat} {w W : World} (h : Aft w W) : Ex d w W := (Ex.refl d w).aft h
end Go.Proofs
end

section
namespace Go.Proofs
open Go.RowKit
open Court (refL begF noS struckB nextR hears award Done HeldP)
theorem ty66 : SliceTy Tryz.prog 66 4 1 1 := .mk' (z := .bool false) Tryz.underlying66 (by kernel_rfl) rfl (by decide)

set_option maxRecDepth 100000 in
set_option maxHeartbeats 16000000 in
theorem surveyed_any (w : World) (A : Option Addr) (l : List Int) (c : Nat) (hA : Bytes w A l) : Calls Tryz.prog 6 #[.slice A l.length c] w fun e w' => e = .returned (.bool true) ∧ Aft w w' := by
  have HA := Lib.hid hA
  clear hA
  go_enter Tryz.func6, Tryz.ntmps6
  (repeat (first | go_big_skip | go_big_want | go_big_move | go_big_op | go_step | go_upon | go_back))
  go_at_call 37
  refine (of_any A l c w HA.out).mono ?_
  rintro e x ⟨rfl, hdk⟩
  dsimp only
  have HDK := Lib.hid hdk
  clear hdk
  (repeat (first | go_big_skip | go_big_want | go_big_move | go_big_op | go_step | go_upon | go_back))
  go_at_call 36
  refine (made_any w w.heap.size A l c 0 9 x HDK.out (by omega) (by omega) (by omega)).mono ?_
  rintro e y ⟨N, L, T, a1, a2, c1, c2, rfl, hN1, hN14, hdr, hT3, hrep, hd1, hg1⟩
  dsimp only
  have HDR := Lib.hid hdr
  have HY0 := Lib.hid (hd1.2.2.1)
  have HCY := Lib.hid (hrep y (Sm.refl _ _))
  clear hd1 hdr hrep hg1 HDK
  go_upto_region 2 with (refine wpList_store_new rfl 25 (.tmp 3) (.tmp 26) rfl rfl rfl info25b rfl (all_oneCell_toArray (by intro v hv; simp at hv; rcases hv with rfl | rfl | rfl <;> rfl)) ?_)
  try simp only [Act.put]
  have HY := Lib.hid (Aft.alloc y (.cells #[.int .i64 N, .slice a1 L.length c1, .slice a2 T.length c2] 25))
  have HBX := Lib.hid (Blk.new y 25 #[.int .i64 N, .slice a1 L.length c1, .slice a2 T.length c2])
  have HCY := Lib.hid (HCY.out.aft HY.out)
  have HWY := Lib.hid (HY0.out.trans HY.out)
  obtain ⟨b7, hb7⟩ : ∃ b7, y.heap.size = b7 := ⟨_, rfl⟩
  rw [hb7] at HBX ⊢
  clear HY hb7 HY0
  generalize y.alloc (.cells #[.int .i64 N, .slice a1 L.length c1, .slice a2 T.length c2] 25) = Y at *
  have hcase : caseE ⟨N, L, T⟩ = 0 := HDR.out.ok ⟨hN1, by omega⟩ (by omega)
  have HCASE := Lib.hid hcase
  have hlS := HCY.out.strikes.len
  clear hcase HA
  have HB7 : Hid (∀ W, Aft Y W → Blk W b7 25 #[.int .i64 N, .slice a1 L.length c1, .slice a2 T.length c2]) := Lib.hid fun W h => HBX.out.aft h
  have HREP : Hid (∀ W, Aft Y W → CRep W ⟨N, L, T⟩ a1 a2) := Lib.hid fun W h => HCY.out.aft h
  obtain ⟨k0, k1, k2⟩ := box25 (HB7.out Y (Aft.refl _))
  have k3 := (HB7.out Y (Aft.refl _)).lt
  clear HBX HCY
  go_upto_block 0 with fail
  clear k0 k1 k2 k3
  refine wp_block ?_
  go_loopw [30] (fun i wr => ∃ k : Nat, i = .int .i64 k ∧ k ≤ T.length ∧ Aft Y wr) (fun i _ => T.length - (intOf i).toNat)
  case atStart => exact ⟨0, rfl, by omega, Aft.refl _⟩
  case round =>
    obtain ⟨k, rfl, hk, hx⟩ := hrel
    have HX := Lib.hid hx
    clear hx
    by_cases hkT : k < T.length
    · have t1 : decide (k < T.length) = true := by simpa using hkT
      have ik : (0 : Int) ≤ (k : Int) ∧ (k : Int) < (T.length : Int) := by omega
      obtain ⟨bT, oT, hbT, hltT, hcT⟩ := (HREP.out wr HX.out).surveys.at hkT
      subst hbT
      obtain ⟨lA, lc, x0, hil⟩ := hcT k hkT
      have HIL : Hid (∀ W, Aft wr W → Ints W lA T[k]) := Lib.hid fun W h => hil.aft h
      have hls := HDR.out.lists _ (List.getElem_mem hkT)
      have hde : decidingE ⟨N, L, T⟩ k = 0 := by
        unfold decidingE
        rw [if_pos HCASE.out, if_pos (fromB_iff.2 ⟨by omega, by show (k : Int) ≤ (T.length : Int) - 1; omega⟩)]
      have HRS := Lib.hid (rises_pair hls.2.2.2)
      obtain ⟨S, hS⟩ : ∃ S, T[k] = S := ⟨_, rfl⟩
      have x1 : wr.cell? ⟨bT, oT + k, none⟩ = some (.slice lA S.length lc) := by rw [← hS]; exact x0
      clear x0
      rw [hS] at HIL hls HRS
      have hSin := hls.2.2.1
      have HSIN := Lib.hid hSin
      have hS1 := hls.1
      have hS3 := hls.2.1
      have hgetD : T.getD k [] = S := by rw [List.getD_eq_getElem?_getD, List.getElem?_eq_getElem hkT]; exact hS
      have hdb : ∀ n : Int, decidesB ⟨N, L, T⟩ k n = decT ⟨N, L, T⟩ S N (2 ^ S.length) n := fun n => by
        unfold decidesB
        show decT ⟨N, L, T⟩ (T.getD k []) ((N : Int).toNat) (2 ^ (T.getD k []).length) n = _
        rw [hgetD, Int.toNat_natCast]
      have HDB := Lib.hid hdb
      have h15 := decides15_good ⟨N, L, T⟩ a1 (some ⟨bT, oT, none⟩) c1 c2 k wr (HREP.out wr HX.out) hde
      obtain ⟨D, hD⟩ : ∃ D, idxL (fun (i : Nat) => decidesB ⟨N, L, T⟩ k i) 14 = D := ⟨_, rfl⟩
      have HDH : Hid (∀ n : Nat, n < N → hasB D n = decT ⟨N, L, T⟩ S N (2 ^ S.length) n) := Lib.hid fun n hn => by
        rw [← hD, hasB_idx (by omega)]
        exact hdb n
      rw [hD] at h15
      have H15 := Lib.hid h15
      obtain ⟨W0, rfl⟩ : ∃ W0, W0 = wr := ⟨_, rfl⟩
      have HX0 := Lib.hid HX.out
      clear hcT hil hls hSin hS hgetD hdb h15 hD hde
      obtain ⟨k0, k1, k2⟩ := box25 (HB7.out W0 HX.out)
      have k3 := (HB7.out W0 HX.out).lt
      go_upto_region 5 with fail
      obtain ⟨bS, oS, rfl, hltS, hxS⟩ := (HIL.out W0 (Aft.refl _)).at (show 0 < S.length by omega)
      have HXS : Hid (∀ W, Aft W0 W → ∀ j, (h : j < S.length) → W.cell? ⟨bS, oS + j, none⟩ = some (.int .i64 S[j])) := Lib.hid fun W h j hj => by
        obtain ⟨b', o', e', _, hc'⟩ := (HIL.out W h).at hj
        cases e'
        exact hc' j hj
      clear x1 hxS
      go_upto_region 8 with (go_at_call 15; refine H15.out.mono ?_; rintro e w5 ⟨DA, Dc, rfl, hi, ha⟩; have HID := Lib.hid hi; have HX5 := Lib.hid ha; clear hi ha k0 k1 k2 k3)
      obtain ⟨k0, k1, k2⟩ := box25 (HB7.out w5 (HX.out.trans HX5.out))
      have k3 := (HB7.out w5 (HX.out.trans HX5.out)).lt
      have hmk : (Instr.makeSlice 66 (.int .i64 N) (.int .i64 N)).run Tryz.prog w5 = .ok (.slice (some ⟨w5.heap.size, 0, none⟩) N N) (w5.alloc (.cells (blR N fun _ => false) 4)) := by
        obtain ⟨ht, ⟨i, z, hi, hz, hsize, hby, hzs⟩, hsz⟩ := ty66
        have hzz : (Tryz.prog.info? 4).bind (·.zero) = some (.bool false) := by kernel_rfl
        rw [hi] at hzz
        have hzz : i.zero = some (.bool false) := hzz
        rw [hz] at hzz
        cases hzz
        have h := run_makeSlice (P := Tryz.prog) (w := w5) 66 4 i (.bool false) ht hi hz .i64 .i64 N N (by omega) (Int.le_refl _) (by rw [hsize]; simp; omega) (by rw [hby]; omega) (by omega)
        rw [Int.toNat_natCast, hsize, Nat.mul_one] at h
        rw [← blR_no]
        exact h
      go_upto_region 9 with fail
      clear hmk k0 k1 k2 k3
      have HX6 := Lib.hid (HX5.out.then_alloc (.cells (blR N fun _ => false) 4))
      have HEX0 := Lib.hid (Ex.refl w5.heap.size (w5.alloc (.cells (blR N fun _ => false) 4)))
      have HBL : Hid (Blk (w5.alloc (.cells (blR N fun _ => false) 4)) w5.heap.size 4 (blR N fun n => !decT ⟨N, L, T⟩ S N 0 n)) := Lib.hid (by
        have e : (fun n : Nat => !decT ⟨N, L, T⟩ S N 0 n) = fun n => !decide (n < N) := by
          funext n
          unfold decT
          simp
        have e2 : blR N (fun n => !decide (n < N)) = blR N fun _ => false := by
          unfold blR
          congr 1
          refine List.map_congr_left fun i hi => ?_
          show Value.bool (!decide (i < N)) = _
          rw [decide_eq_true (List.mem_range.1 hi)]; rfl
        rw [e, e2]
        exact Blk.new w5 4 _)
      have HDI : Hid (∀ W, Ex w5.heap.size (w5.alloc (.cells (blR N fun _ => false) 4)) W → Ints W DA D) := Lib.hid fun W hW => by
        have h1 : Sm 0 w5 W := ⟨Nat.le_trans (by simp) hW.size, fun q _ hq => (hW.same q (by simp; omega) (by omega)).trans ((Aft.alloc w5 (.cells (blR N fun _ => false) 4)).below.block q hq)⟩
        exact ints_same HID.out h1
      have hw05 : W0.heap.size ≤ w5.heap.size := HX5.out.size
      obtain ⟨b8, hb8⟩ : ∃ b8, w5.heap.size = b8 := ⟨_, rfl⟩
      rw [hb8] at HEX0 HBL HDI hw05 ⊢
      have hb8w : b8 < (w5.alloc (.cells (blR N fun _ => false) 4)).heap.size := by simp; omega
      clear hb8 HX5 HID
      generalize w5.alloc (.cells (blR N fun _ => false) 4) = W5 at *
      have HY8 := Lib.hid (show Y.heap.size ≤ b8 by have := HX.out.size; omega)
      obtain ⟨Q, hQ⟩ : ∃ Q, 2 ^ S.length = Q := ⟨_, rfl⟩
      have hQ64 : Q ≤ 64 := by rw [← hQ]; exact Nat.le_trans (Nat.pow_le_pow_right (by omega) hS3) (by decide)
      have HQI : Hid ((2 : Int) ^ S.length = (Q : Int)) := Lib.hid (by rw [← hQ]; push_cast; rfl)
      rw [hQ] at HDH HDB
      clear hQ
      go_upto_block 2 with fail
      rw [HQI.out, show wrap64 (Q : Int) = (Q : Int) from by unfold wrap64; omega]
      refine wp_block ?_
      go_loopw [49] (fun i wr => ∃ m : Nat, i = .int .i64 m ∧ m ≤ Q ∧ Aft W0 wr ∧ Ex b8 W5 wr ∧ Blk wr b8 4 (blR N fun n => !decT ⟨N, L, T⟩ S N m n)) (fun i _ => Q - (intOf i).toNat)
      case atStart => exact ⟨0, rfl, by omega, HX6.out, HEX0.out, HBL.out⟩
      case round =>
        obtain ⟨m, rfl, hm, hx1, hx2, hx3⟩ := hrel
        have HX := Lib.hid hx1
        have HE := Lib.hid hx2
        have HBL := Lib.hid hx3
        clear hx1 hx2 hx3
        by_cases hmQ : m < Q
        · have t2 : decide (m < Q) = true := by simpa using hmQ
          have HXY : Hid (Aft Y wr) := Lib.hid (HX0.out.trans HX.out)
          obtain ⟨k0, k1, k2⟩ := box25 (HB7.out wr HXY.out)
          have k3 := (HB7.out wr HXY.out).lt
          go_upto_region 13 with (refine wpList_store_new rfl 25 (.tmp 10) (.tmp 54) rfl rfl rfl info25b rfl (all_oneCell_toArray (by intro v hv; simp at hv; rcases hv with rfl | rfl | rfl <;> rfl)) ?_)
          try simp only [Act.put]
          clear k0 k1 k2 k3
          have HB10 := Lib.hid (Blk.new wr 25 #[.int .i64 N, .slice none 0 0, .slice none 0 0])
          have HA10 := Lib.hid (Aft.alloc wr (.cells #[.int .i64 N, .slice none 0 0, .slice none 0 0] 25))
          obtain ⟨b10, hb10⟩ : ∃ b10, wr.heap.size = b10 := ⟨_, rfl⟩
          have hb10w : b10 < (wr.alloc (.cells #[.int .i64 N, .slice none 0 0, .slice none 0 0] 25)).heap.size := by simp; omega
          have h810 : b8 < b10 := by have := HE.out.size; omega
          have h510 : W5.heap.size ≤ b10 := by have := HE.out.size; omega
          rw [hb10] at HB10 ⊢
          have HX := Lib.hid (HX.out.trans HA10.out)
          have HXY := Lib.hid (HXY.out.trans HA10.out)
          have HE := Lib.hid (HE.out.aft HA10.out)
          have HBL := Lib.hid (HBL.out.aft HA10.out)
          clear hb10 HA10
          generalize wr.alloc (.cells #[.int .i64 N, .slice none 0 0, .slice none 0 0] 25) = Wm at *
          go_upto_block 4 with fail
          have HN0 := Lib.hid (World.ownsRow_nil Wm Wm.heap.size 3 1)
          refine wp_block ?_
          go_loopw [11, 57] (fun v i wr2 => ∃ j : Nat, i = .int .i64 j ∧ j ≤ S.length ∧ wr2.ownsRow Wm.heap.size 3 1 v (offTo m S j).length ((offTo m S j).map (Value.int .i64)) ∧ Aft Wm wr2) (fun _ i _ => S.length - (intOf i).toNat)
          case atStart => exact ⟨0, rfl, by omega, HN0.out, Aft.refl _⟩
          case round =>
            obtain ⟨j, rfl, hj, hown, hax⟩ := hrel
            have HOW := Lib.hid hown
            have HAX := Lib.hid hax
            have hof := offTo_len m S j
            clear hown hax
            by_cases hjS : j < S.length
            · have t3 : decide (j < S.length) = true := by simpa using hjS
              have ij : (0 : Int) ≤ (j : Int) ∧ (j : Int) < (S.length : Int) := by omega
              have ij64 : (0 : Int) ≤ (j : Int) ∧ (j : Int) ≤ 64 := by omega
              have x0 := HXS.out wr (HX.out.trans HAX.out) j hjS
              have hbit := bits_at0 (m := m) (k := j) (by omega)
              have HOF := Lib.hid (offTo_succ m S j)
              have hxj : S.getD j 0 = S[j] := by rw [List.getD_eq_getElem?_getD, List.getElem?_eq_getElem hjS]; rfl
              have hbase : Wm.heap.size ≤ wr.heap.size := HAX.out.size
              rw [hxj] at HOF
              clear hxj
              generalize S[j] = y1 at *
              cases hb : m.testBit j
              · rw [hb] at hbit HOF
                clear hb
                have HTA := Lib.hid (own_aft HOW.out (Aft.alloc wr (.cells #[.int .i64 y1] 3)))
                have hbase2 : Wm.heap.size ≤ (wr.alloc (.cells #[.int .i64 y1] 3)).heap.size := by simp; omega
                go_wp2_with (at_builtin; refine wpList_push rfl _ _ rfl HTA.out hbase2 rfl rfl (cell_new1 _ _ _) (by omega) ?_; intro v2 w2 h2 hg2; have H2 := Lib.hid h2; have HG2 := Lib.hid hg2; clear h2 hg2)
                exact ⟨⟨j + 1, by go_num, by omega, by rw [HOF.out]; exact H2.out, (HAX.out.then_alloc _).grown HG2.out (fun g hg => own_ge HTA.out g hg)⟩, by simp [intOf]; omega⟩
              · rw [hb] at hbit HOF
                clear hb
                go_wp2_with fail
                exact ⟨⟨j + 1, by go_num, by omega, by rw [HOF.out]; simpa using HOW.out, HAX.out⟩, by simp [intOf]; omega⟩
            · have t3 : decide (j < S.length) = false := by simpa using hjS
              obtain rfl : S.length = j := by omega
              obtain ⟨Wn, rfl⟩ : ∃ Wn, Wn = wr := ⟨_, rfl⟩
              obtain ⟨NO, hNO⟩ : ∃ NO, offTo m S S.length = NO := ⟨_, rfl⟩
              have HNE := Lib.hid hNO
              have HNS : Hid (NO.Pairwise (· < ·)) := Lib.hid (by rw [← hNO]; exact off_sorted HRS.out)
              have HNM : Hid (∀ x ∈ NO, 0 ≤ x ∧ x < N) := Lib.hid fun x hx => HSIN.out x (offTo_mem (by rw [hNO]; exact hx))
              rw [hNO] at HOW hof
              clear hNO hjS
              obtain ⟨NA, nc, rfl, hni⟩ := own_intsX (d := b10) HOW.out (by omega) hb10w
              have HNI := Lib.hid hni
              have HXY := Lib.hid (HXY.out.trans HAX.out)
              have HX := Lib.hid (HX.out.trans HAX.out)
              have HE := Lib.hid (HE.out.aft HAX.out)
              have HBL := Lib.hid (HBL.out.aft HAX.out)
              have HB10 := Lib.hid (HB10.out.aft HAX.out)
              have hnw : b10 < Wn.heap.size := Nat.lt_of_lt_of_le hb10w HAX.out.size
              obtain ⟨k0, k1, k2⟩ := box25 (HB7.out Wn HXY.out)
              have k3 := (HB7.out Wn HXY.out).lt
              clear hni HOW HAX HN0
              go_upto_block 6 with fail
              clear k0 k1 k2 k3
              have HS0 := Lib.hid (World.ownsRow_nil Wn Wn.heap.size 57 2)
              refine wp_block ?_
              go_loopw [75] (fun i wr2 => ∃ (j : Nat) (vS : Value) (L2 : List (Int × Int)), i = .int .i64 j ∧ j ≤ L.length ∧ Hid (L2 = (L.take j).filter (keptB S NO)) ∧ wr2.ownsRow Wn.heap.size 57 2 vS L2.length (strC L2) ∧ Blk wr2 b10 25 #[.int .i64 N, vS, .slice none 0 0] ∧ Ex b10 Wn wr2 ∧ Aft W0 wr2) (fun i _ => L.length - (intOf i).toNat)
              case atStart => exact ⟨0, _, [], rfl, by omega, Lib.hid (by simp), HS0.out, HB10.out, Ex.refl _ _, HX.out⟩
              case round =>
                obtain ⟨j, vS, L2, rfl, hj, HL2, hown, hbk, hex, hax⟩ := hrel
                have HOS := Lib.hid hown
                have HBK := Lib.hid hbk
                have HEX := Lib.hid hex
                have HAX := Lib.hid hax
                clear hown hbk hex hax
                have hL60 := HDR.out.len
                have hL2j : L2.length ≤ j := by rw [HL2.out]; exact Nat.le_trans (List.length_filter_le _ _) (by rw [List.length_take]; omega)
                by_cases hjL : j < L.length
                · have t4 : decide (j < L.length) = true := by simpa using hjL
                  obtain ⟨bs, os, hbs, hlts, hcs⟩ := (HREP.out wr (HX0.out.trans HAX.out)).strikes.at hjL
                  subst hbs
                  obtain ⟨x0, x1⟩ := hcs j hjL
                  have hin : (0 : Int) ≤ (j : Int) ∧ (j : Int) < (L.length : Int) := by omega
                  have HTK : Hid ((L.take (j + 1)).filter (keptB S NO) = (L.take j).filter (keptB S NO) ++ if keptB S NO L[j] then [L[j]] else []) := Lib.hid (by rw [List.take_succ_eq_append_getElem hjL, List.filter_append]; congr 1; by_cases h : keptB S NO L[j] = true <;> simp [h])
                  clear hcs
                  obtain ⟨⟨y0, y1⟩, hy⟩ : ∃ y, L[j] = y := ⟨_, rfl⟩
                  rw [hy] at x0 x1 HTK
                  clear hy
                  go_upto_region 23 with (refine wpList_store_new rfl 57 (.tmp 15) (.tmp 78) rfl rfl rfl info57' rfl (all_oneCell_toArray (by intro v hv; simp at hv; rcases hv with rfl | rfl <;> rfl)) ?_)
                  try simp only [Act.put]
                  have HBX := Lib.hid (Blk.new wr 57 #[.int .i64 y0, .int .i64 y1])
                  have HAL := Lib.hid (Aft.alloc wr (.cells #[.int .i64 y0, .int .i64 y1] 57))
                  obtain ⟨b15, hb15⟩ : ∃ b15, wr.heap.size = b15 := ⟨_, rfl⟩
                  rw [hb15] at HBX ⊢
                  have HOS := Lib.hid (own_aft HOS.out HAL.out)
                  have HBK := Lib.hid (HBK.out.aft HAL.out)
                  have HEX := Lib.hid (HEX.out.aft HAL.out)
                  have HAX := Lib.hid (HAX.out.trans HAL.out)
                  clear hb15 HAL x0 x1
                  generalize wr.alloc (.cells #[.int .i64 y0, .int .i64 y1] 57) = W6 at *
                  have j0 : W6.cell? ⟨b15, 0, none⟩ = some (.int .i64 y0) := HBX.out.cell 0
                  have j1 : W6.cell? ⟨b15, 1, none⟩ = some (.int .i64 y1) := HBX.out.cell 1
                  have j2 := HBX.out.lt
                  have h38 := contains_any (some ⟨bS, oS, none⟩) S lc y1 W6 (HIL.out W6 HAX.out)
                  have h39 := contains_any NA NO nc y1 W6 (HNI.out W6 HEX.out)
                  cases hs : hasB S y1
                  · have HKP : Hid (keptB S NO (y0, y1) = true) := Lib.hid (by unfold keptB; rw [hs]; rfl)
                    rw [hs] at h38
                    have H38 := Lib.hid h38
                    clear h38 h39 hs
                    apply wp_region_lit
                    (repeat (first | go_big_skip | go_big_want | go_big_move | go_big_op | go_step | go_upon | go_back))
                    go_at_call 38
                    refine H38.out.mono ?_
                    rintro e w7 ⟨rfl, rfl⟩
                    dsimp only
                    go_upto_region 24 with fail
                    obtain ⟨k0, k1, k2⟩ := box25 HBK.out
                    have k3 := HBK.out.lt
                    have k4 := HBK.out.frozen 1
                    have HTA := Lib.hid (own_aft HOS.out (Aft.alloc W6 (.cells #[.int .i64 y0, .int .i64 y1] 57)))
                    have hbase2 : Wn.heap.size ≤ (W6.alloc (.cells #[.int .i64 y0, .int .i64 y1] 57)).heap.size := Nat.le_trans HEX.out.size (by simp)
                    have HC0 : Hid ((W6.alloc (.cells #[.int .i64 y0, .int .i64 y1] 57)).cell? ⟨W6.heap.size, 0, none⟩ = some (.int .i64 y0)) := Lib.hid ((Blk.new W6 57 #[.int .i64 y0, .int .i64 y1]).cell 0)
                    have HC1 : Hid ((W6.alloc (.cells #[.int .i64 y0, .int .i64 y1] 57)).cell? ⟨W6.heap.size, 1, none⟩ = some (.int .i64 y1)) := Lib.hid ((Blk.new W6 57 #[.int .i64 y0, .int .i64 y1]).cell 1)
                    have HBK2 := Lib.hid (HBK.out.alloc (.cells #[.int .i64 y0, .int .i64 y1] 57))
                    have hge := own_ge HTA.out
                    go_wp2_with (at_builtin; refine wpList_push22 rfl _ _ rfl HTA.out hbase2 rfl rfl HC0.out HC1.out (by omega) ?_; intro v8 w8 ho8 hg8; obtain ⟨A8, c8, rfl, _, _⟩ := own_strs ho8 (by simp; omega); have HO8 := Lib.hid ho8; have HG8 := Lib.hid hg8; have y2 := HBK2.out.grown hg8 (fun e => by have := hge b10 e.symm; omega); have HB8 := Lib.hid y2; have z1 := y2.cell 1; have z2 := y2.frozen 1; have z3 := y2.lt; clear ho8 hg8)
                    have hset : w8.grownBy (w8.setCell ⟨b10, 1, none⟩ (.slice A8 (L2.length + 1) c8)) (some b10) := only_setCell (only_refl w8 (some b10)) (p := ⟨b10, 1, none⟩) (.inl rfl) _
                    have hO9 := HO8.out
                    rw [show (L2 ++ [(y0, y1)]).length = L2.length + 1 by simp] at hO9
                    have hO9 := own_sm hO9 (Sm.of_grown (b := b10 + 1) hset fun k e => by cases e; omega) (by omega)
                    have hX9 := ((HEX.out.aft (Aft.alloc W6 (.cells #[.int .i64 y0, .int .i64 y1] 57))).next HG8.out (fun g e => .inr (hge g e))).next hset (fun g e => by cases e; exact .inl rfl)
                    have hA9 := ((HAX.out.then_alloc (.cells #[.int .i64 y0, .int .i64 y1] 57)).grown HG8.out (fun g e => by have := hge g e; have := HX.out.size; omega)).grown hset (fun g e => by cases e; omega)
                    have hB9 : Blk (w8.setCell ⟨b10, 1, none⟩ (.slice A8 (L2.length + 1) c8)) b10 25 #[.int .i64 N, .slice A8 (L2.length + 1) c8, .slice none 0 0] := by
                      have := HB8.out.store 1 (.slice A8 (L2.length + 1) c8)
                      simpa using this
                    have hO10 : (w8.setCell ⟨b10, 1, none⟩ (.slice A8 (L2.length + 1) c8)).ownsRow Wn.heap.size 57 2 (.slice A8 (L2.length + 1) c8) (L2 ++ [(y0, y1)]).length (strC (L2 ++ [(y0, y1)])) := by
                      rw [show (L2 ++ [(y0, y1)]).length = L2.length + 1 by simp]
                      exact hO9
                    exact ⟨⟨j + 1, _, L2 ++ [(y0, y1)], by go_num, by omega, Lib.hid (by rw [HTK.out, HKP.out, if_pos rfl, HL2.out]), hO10, hB9, hX9, hA9⟩, by simp [intOf]; omega⟩
                  · rw [hs] at h38
                    have H38 := Lib.hid h38
                    cases hn : hasB NO y1
                    · have HKP : Hid (keptB S NO (y0, y1) = false) := Lib.hid (by unfold keptB; rw [hs, hn]; rfl)
                      rw [hn] at h39
                      have H39 := Lib.hid h39
                      clear h38 h39 hs hn
                      apply wp_region_lit
                      (repeat (first | go_big_skip | go_big_want | go_big_move | go_big_op | go_step | go_upon | go_back))
                      go_at_call 38
                      refine H38.out.mono ?_
                      rintro e w7 ⟨rfl, rfl⟩
                      dsimp only
                      (repeat (first | go_big_skip | go_big_want | go_big_move | go_big_op | go_step | go_upon | go_back))
                      go_at_call 38
                      refine H39.out.mono ?_
                      rintro e w7 ⟨rfl, rfl⟩
                      dsimp only
                      (repeat (first | go_big_skip | go_big_want | go_big_move | go_big_op | go_step | go_upon | go_back))
                      exact ⟨⟨j + 1, _, L2, by go_num, by omega, Lib.hid (by rw [HTK.out, HKP.out, if_neg (by decide), List.append_nil]; exact HL2.out), HOS.out, HBK.out, HEX.out, HAX.out⟩, by simp [intOf]; omega⟩
                    · have HKP : Hid (keptB S NO (y0, y1) = true) := Lib.hid (by unfold keptB; rw [hs, hn]; rfl)
                      rw [hn] at h39
                      have H39 := Lib.hid h39
                      clear h38 h39 hs hn
                      apply wp_region_lit
                      (repeat (first | go_big_skip | go_big_want | go_big_move | go_big_op | go_step | go_upon | go_back))
                      go_at_call 38
                      refine H38.out.mono ?_
                      rintro e w7 ⟨rfl, rfl⟩
                      dsimp only
                      (repeat (first | go_big_skip | go_big_want | go_big_move | go_big_op | go_step | go_upon | go_back))
                      go_at_call 38
                      refine H39.out.mono ?_
                      rintro e w7 ⟨rfl, rfl⟩
                      dsimp only
                      go_upto_region 24 with fail
                      obtain ⟨k0, k1, k2⟩ := box25 HBK.out
                      have k3 := HBK.out.lt
                      have k4 := HBK.out.frozen 1
                      have HTA := Lib.hid (own_aft HOS.out (Aft.alloc W6 (.cells #[.int .i64 y0, .int .i64 y1] 57)))
                      have hbase2 : Wn.heap.size ≤ (W6.alloc (.cells #[.int .i64 y0, .int .i64 y1] 57)).heap.size := Nat.le_trans HEX.out.size (by simp)
                      have HC0 : Hid ((W6.alloc (.cells #[.int .i64 y0, .int .i64 y1] 57)).cell? ⟨W6.heap.size, 0, none⟩ = some (.int .i64 y0)) := Lib.hid ((Blk.new W6 57 #[.int .i64 y0, .int .i64 y1]).cell 0)
                      have HC1 : Hid ((W6.alloc (.cells #[.int .i64 y0, .int .i64 y1] 57)).cell? ⟨W6.heap.size, 1, none⟩ = some (.int .i64 y1)) := Lib.hid ((Blk.new W6 57 #[.int .i64 y0, .int .i64 y1]).cell 1)
                      have HBK2 := Lib.hid (HBK.out.alloc (.cells #[.int .i64 y0, .int .i64 y1] 57))
                      have hge := own_ge HTA.out
                      go_wp2_with (at_builtin; refine wpList_push22 rfl _ _ rfl HTA.out hbase2 rfl rfl HC0.out HC1.out (by omega) ?_; intro v8 w8 ho8 hg8; obtain ⟨A8, c8, rfl, _, _⟩ := own_strs ho8 (by simp; omega); have HO8 := Lib.hid ho8; have HG8 := Lib.hid hg8; have y2 := HBK2.out.grown hg8 (fun e => by have := hge b10 e.symm; omega); have HB8 := Lib.hid y2; have z1 := y2.cell 1; have z2 := y2.frozen 1; have z3 := y2.lt; clear ho8 hg8)
                      have hset : w8.grownBy (w8.setCell ⟨b10, 1, none⟩ (.slice A8 (L2.length + 1) c8)) (some b10) := only_setCell (only_refl w8 (some b10)) (p := ⟨b10, 1, none⟩) (.inl rfl) _
                      have hO9 := HO8.out
                      rw [show (L2 ++ [(y0, y1)]).length = L2.length + 1 by simp] at hO9
                      have hO9 := own_sm hO9 (Sm.of_grown (b := b10 + 1) hset fun k e => by cases e; omega) (by omega)
                      have hX9 := ((HEX.out.aft (Aft.alloc W6 (.cells #[.int .i64 y0, .int .i64 y1] 57))).next HG8.out (fun g e => .inr (hge g e))).next hset (fun g e => by cases e; exact .inl rfl)
                      have hA9 := ((HAX.out.then_alloc (.cells #[.int .i64 y0, .int .i64 y1] 57)).grown HG8.out (fun g e => by have := hge g e; have := HX.out.size; omega)).grown hset (fun g e => by cases e; omega)
                      have hB9 : Blk (w8.setCell ⟨b10, 1, none⟩ (.slice A8 (L2.length + 1) c8)) b10 25 #[.int .i64 N, .slice A8 (L2.length + 1) c8, .slice none 0 0] := by
                        have := HB8.out.store 1 (.slice A8 (L2.length + 1) c8)
                        simpa using this
                      have hO10 : (w8.setCell ⟨b10, 1, none⟩ (.slice A8 (L2.length + 1) c8)).ownsRow Wn.heap.size 57 2 (.slice A8 (L2.length + 1) c8) (L2 ++ [(y0, y1)]).length (strC (L2 ++ [(y0, y1)])) := by
                        rw [show (L2 ++ [(y0, y1)]).length = L2.length + 1 by simp]
                        exact hO9
                      exact ⟨⟨j + 1, _, L2 ++ [(y0, y1)], by go_num, by omega, Lib.hid (by rw [HTK.out, HKP.out, if_pos rfl, HL2.out]), hO10, hB9, hX9, hA9⟩, by simp [intOf]; omega⟩
                · have t4 : decide (j < L.length) = false := by simpa using hjL
                  obtain rfl : L.length = j := by omega
                  have hL2 : L2 = L.filter (keptB S NO) := by have := HL2.out; rwa [List.take_length] at this
                  obtain ⟨W6, rfl⟩ : ∃ W6, W6 = wr := ⟨_, rfl⟩
                  have hdr2 : Drawn N L2 [] := ⟨fun s hs => HDR.out.ins s (by rw [hL2] at hs; exact (List.mem_filter.1 hs).1), by rw [hL2]; exact HDR.out.nodup.filter _, by omega, fun l h => by cases h⟩
                  have hc2 : caseE ⟨N, L2, []⟩ = 0 := hdr2.ok ⟨hN1, by omega⟩ (by simp)
                  obtain ⟨A10, c10, rfl, hstr, hbs10⟩ := own_strs HOS.out (by omega)
                  have hr2 : CRep W6 ⟨N, L2, []⟩ A10 none := ⟨hstr, ⟨by simp, .inl rfl⟩⟩
                  have h39 := award_good ⟨N, L2, []⟩ A10 none c10 0 NO NA nc W6 hr2 (HNI.out W6 HEX.out) (openE_zero hc2 HNM.out (rises_of HNS.out)) N rfl
                  have hfo : award L2 noS N (begF (refL NO)) = foundM ⟨N, L, T⟩ S N m := by
                    rw [hL2, ← HNE.out]
                    exact told_award ⟨N, L, T⟩ (HRS.out.imp fun h => by omega)
                  have h39 : Calls Tryz.prog 39 #[.agg #[.int .i64 N, .slice A10 L2.length c10, .slice none 0 0], .slice NA NO.length nc] W6 (GoodL (foundL (award L2 noS N (begF (refL NO))) N) W6) := h39
                  rw [hfo] at h39
                  obtain ⟨aw, haw⟩ : ∃ aw, foundL (foundM ⟨N, L, T⟩ S N m) N = aw := ⟨_, rfl⟩
                  have hawl : aw.length = N := by rw [← haw, foundL_len]
                  have HAWG : Hid (∀ i, (h : i < N) → (h1 : i < aw.length) → aw[i] = ((foundM ⟨N, L, T⟩ S N m i : Nat) : Int)) := Lib.hid fun i h h1 => by
                    have : (foundL (foundM ⟨N, L, T⟩ S N m) N)[i]'(by rw [foundL_len]; exact h) = ((foundM ⟨N, L, T⟩ S N m i : Nat) : Int) := foundL_get _ _ _
                    simpa only [haw] using this
                  rw [haw] at h39
                  have H39 := Lib.hid h39
                  have HAWL := Lib.hid hawl
                  have h68 : b8 < W6.heap.size := by have := HEX.out.size; omega
                  have HBL6 := Lib.hid (blk_ex HBL.out HEX.out (by omega))
                  have HE6 : Hid (Ex b8 W5 W6) := Lib.hid ⟨Nat.le_trans HE.out.size HEX.out.size, fun q h1 h2 => (HEX.out.same q (Nat.lt_of_lt_of_le h1 HE.out.size) (by omega)).trans (HE.out.same q h1 h2)⟩
                  clear hc2 hdr2 hr2 h39 hfo haw hawl hstr hbs10 hjL hL2
                  obtain ⟨k0, k1, k2⟩ := box25 HBK.out
                  have k3 := HBK.out.lt
                  go_upto_region 27 with (go_at_call 39; refine H39.out.mono ?_; rintro e w7 ⟨v, rfl, ho, ha⟩; obtain ⟨A16, c16, rfl, hi⟩ := own_intsX (d := b8) ho (by have := HAWL.out; omega) h68; have HI16 := Lib.hid hi; have HX7 := Lib.hid (HAX.out.trans ha); have HE7 := Lib.hid (HE6.out.aft ha); have HBL7 := Lib.hid (HBL6.out.aft ha); rw [HAWL.out]; clear ho hi ha k0 k1 k2 k3)
                  obtain ⟨k0, k1, k2⟩ := box25 (HB7.out w7 (HX0.out.trans HX7.out))
                  have k3 := (HB7.out w7 (HX0.out.trans HX7.out)).lt
                  go_upto_block 8 with fail
                  clear k0 k1 k2 k3
                  obtain ⟨b16, o16, rfl, hlt16, -⟩ := (HI16.out w7 (Ex.refl _ _)).at (show 0 < aw.length by rw [HAWL.out]; omega)
                  have HX16 : Hid (∀ W, Ex b8 w7 W → ∀ i, (h : i < aw.length) → W.cell? ⟨b16, o16 + i, none⟩ = some (.int .i64 aw[i])) := Lib.hid fun W h i hi => by
                    obtain ⟨b', o', e', _, hc'⟩ := (HI16.out W h).at hi
                    cases e'
                    exact hc' i hi
                  refine wp_block ?_
                  go_loopw [114] (fun i wr2 => ∃ n : Nat, i = .int .i64 n ∧ n ≤ N ∧ Blk wr2 b8 4 (blR N fun q => if q < n then !decT ⟨N, L, T⟩ S N (m + 1) q else !decT ⟨N, L, T⟩ S N m q) ∧ Ex b8 w7 wr2 ∧ Aft W0 wr2) (fun i _ => N - (intOf i).toNat)
                  case atStart => exact ⟨0, rfl, by omega, by simpa using HBL7.out, Ex.refl _ _, HX7.out⟩
                  case round =>
                    obtain ⟨n, rfl, hn, hbl, hex, hax⟩ := hrel
                    have HBN := Lib.hid hbl
                    have HEN := Lib.hid hex
                    have HAN := Lib.hid hax
                    clear hbl hex hax
                    by_cases hnN : n < N
                    · have t5 : decide (n < N) = true := by simpa using hnN
                      have inn : (0 : Int) ≤ (n : Int) ∧ (n : Int) < (N : Int) := by omega
                      have z0 := HX16.out wr HEN.out n (by rw [HAWL.out]; exact hnN)
                      rw [HAWG.out n hnN] at z0
                      have z1 : wr.cell? ⟨b8, n, none⟩ = some (.bool (!decT ⟨N, L, T⟩ S N m n)) := by
                        rw [HBN.out.cell n, blR_get _ hnN]
                        rw [if_neg (by omega)]
                      have z2 := HBN.out.frozen n
                      have z3 := HBN.out.lt
                      have HST : Hid (∀ v, v = (!decT ⟨N, L, T⟩ S N (m + 1) n) → Blk (wr.setCell ⟨b8, n, none⟩ (.bool v)) b8 4 (blR N fun q => if q < n + 1 then !decT ⟨N, L, T⟩ S N (m + 1) q else !decT ⟨N, L, T⟩ S N m q)) := Lib.hid fun v hv => by
                        have := HBN.out.store n (.bool v)
                        rw [blR_set] at this
                        refine (congrArg (fun a => Blk (wr.setCell ⟨b8, n, none⟩ (.bool v)) b8 4 a) ?_).mp this
                        congr 1
                        funext q
                        by_cases e : q = n
                        · subst e
                          rw [if_pos rfl, if_pos (by omega), hv]
                        · rw [if_neg e]
                          by_cases h : q < n
                          · rw [if_pos h, if_pos (by omega)]
                          · rw [if_neg h, if_neg (by omega)]
                      have HDS := Lib.hid (decT_succ ⟨N, L, T⟩ S N m n)
                      have hset : ∀ v, wr.grownBy (wr.setCell ⟨b8, n, none⟩ v) (some b8) := fun v => only_setCell (only_refl wr (some b8)) (p := ⟨b8, n, none⟩) (.inl rfl) v
                      have HSE := Lib.hid hset
                      clear hset
                      obtain ⟨dv, hdv⟩ : ∃ dv, decT ⟨N, L, T⟩ S N m n = dv := ⟨_, rfl⟩
                      obtain ⟨fv, hfv⟩ : ∃ fv, foundM ⟨N, L, T⟩ S N m n = fv := ⟨_, rfl⟩
                      rw [hdv] at z1
                      rw [hfv] at z0
                      rw [hdv, hfv] at HDS
                      clear hdv hfv
                      cases dv
                      · rw [Bool.false_and] at HDS
                        go_wp2_with fail
                        exact ⟨⟨n + 1, by go_num, by omega, HST.out true (by rw [HDS.out]; rfl), HEN.out.next (HSE.out _) (fun g e => by cases e; exact .inl rfl), HAN.out.grown (HSE.out _) (fun g e => by cases e; omega)⟩, by simp [intOf]; omega⟩
                      · rw [Bool.true_and] at HDS
                        by_cases hf0 : fv = 0
                        · subst hf0
                          go_wp2_with fail
                          exact ⟨⟨n + 1, by go_num, by omega, HST.out true (by rw [HDS.out]; rfl), HEN.out.next (HSE.out _) (fun g e => by cases e; exact .inl rfl), HAN.out.grown (HSE.out _) (fun g e => by cases e; omega)⟩, by simp [intOf]; omega⟩
                        · have t6 : (((fv : Nat) : Int) == 0) = false := beq_eq_false_iff_ne.2 (by omega)
                          go_wp2_with fail
                          exact ⟨⟨n + 1, by go_num, by omega, HST.out false (by rw [HDS.out, decide_eq_true hf0]; rfl), HEN.out.next (HSE.out _) (fun g e => by cases e; exact .inl rfl), HAN.out.grown (HSE.out _) (fun g e => by cases e; omega)⟩, by simp [intOf]; omega⟩
                    · have t5 : decide (n < N) = false := by simpa using hnN
                      obtain rfl : N = n := by omega
                      have HBE : Hid (Blk wr b8 4 (blR N fun q => !decT ⟨N, L, T⟩ S N (m + 1) q)) := Lib.hid (by
                        have e : blR N (fun q => if q < N then !decT ⟨N, L, T⟩ S N (m + 1) q else !decT ⟨N, L, T⟩ S N m q) = blR N fun q => !decT ⟨N, L, T⟩ S N (m + 1) q := by
                          unfold blR
                          congr 1
                          refine List.map_congr_left fun i hi => ?_
                          show Value.bool (if i < N then _ else _) = _
                          rw [if_pos (List.mem_range.1 hi)]
                        rw [← e]
                        exact HBN.out)
                      have hEE := HE7.out.trans HEN.out
                      go_wp2_with fail
                      exact ⟨⟨m + 1, by go_num, by omega, HAN.out, hEE, HBE.out⟩, by simp [intOf]; omega⟩
        · have t2 : decide (m < Q) = false := by simpa using hmQ
          obtain rfl : Q = m := by omega
          obtain ⟨W9, rfl⟩ : ∃ W9, W9 = wr := ⟨_, rfl⟩
          clear hmQ
          have HE9 := Lib.hid HE.out
          have HI9 := Lib.hid (HDI.out W9 HE.out)
          obtain ⟨k0, k1, k2⟩ := box25 (HB7.out W9 (HX0.out.trans HX.out))
          have k3 := (HB7.out W9 (HX0.out.trans HX.out)).lt
          go_upto_block 10 with fail
          clear k0 k1 k2 k3
          refine wp_block ?_
          go_loopw [134] (fun i wr2 => ∃ n : Nat, i = .int .i64 n ∧ n ≤ N ∧ Aft W9 wr2) (fun i _ => N - (intOf i).toNat)
          case atStart => exact ⟨0, rfl, by omega, Aft.refl _⟩
          case round =>
            obtain ⟨n, rfl, hn, hax⟩ := hrel
            have HAN := Lib.hid hax
            clear hax
            by_cases hnN : n < N
            · have t5 : decide (n < N) = true := by simpa using hnN
              have inn : (0 : Int) ≤ (n : Int) ∧ (n : Int) < (N : Int) := by omega
              have HXA := Lib.hid (HX0.out.trans (HX.out.trans HAN.out))
              have hse : surveyingE ⟨N, L, T⟩ n = 0 := by
                unfold surveyingE
                rw [if_pos HCASE.out, if_pos (Cl_iff.2 inn)]
              have h18 := surveys_good ⟨N, L, T⟩ a1 (some ⟨bT, oT, none⟩) c1 c2 n wr (HREP.out wr HXA.out) hse
              obtain ⟨SV, hSV⟩ : ∃ SV, idxL (fun i => decidesB ⟨N, L, T⟩ i n) T.length = SV := ⟨_, rfl⟩
              have hsv : hasB SV k = decT ⟨N, L, T⟩ S N Q n := by
                rw [← hSV, hasB_idx hkT]
                exact HDB.out n
              have h18 : Calls Tryz.prog 18 #[.agg #[.int .i64 N, .slice a1 L.length c1, .slice (some ⟨bT, oT, none⟩) T.length c2], .int .i64 n] wr (GoodI SV wr) := by rw [← hSV]; exact h18
              have H18 := Lib.hid h18
              have hdd := HDH.out n hnN
              have hown : hasB S n = true → decT ⟨N, L, T⟩ S N Q n = true := fun h => own_decided ⟨N, L, T⟩ (HRS.out.imp fun h => by omega) (hasB_iff.1 h) inn
              have z9 : ∀ W, Aft wr W → W.cell? ⟨b8, n, none⟩ = some (.bool (!decT ⟨N, L, T⟩ S N Q n)) := fun W hW => by
                rw [((HBL.out.aft HAN.out).aft hW).cell n, blR_get _ hnN]
              obtain ⟨dv, hdv⟩ : ∃ dv, decT ⟨N, L, T⟩ S N Q n = dv := ⟨_, rfl⟩
              rw [hdv] at hsv hdd hown
              simp only [hdv] at z9
              have HZ9 := Lib.hid z9
              have HSV := Lib.hid hsv
              have HDD := Lib.hid hdd
              have HOWN := Lib.hid hown
              clear hse h18 hSV hsv hdd hown z9 hdv
              obtain ⟨k0, k1, k2⟩ := box25 (HB7.out wr HXA.out)
              have k3 := (HB7.out wr HXA.out).lt
              go_upto_region 39 with (go_at_call 18; refine H18.out.mono ?_; rintro e w7 ⟨VA, vc, rfl, hi, ha⟩; have HIV := Lib.hid hi; have HA7 := Lib.hid ha; have HAN := Lib.hid (HAN.out.trans ha); clear hi ha k0 k1 k2 k3)
              have hD := contains_any DA D Dc n w7 (HI9.out.aft HAN.out)
              have hV := contains_any VA SV vc k w7 HIV.out
              have hSS := contains_any (some ⟨bS, oS, none⟩) S lc n w7 (HIL.out w7 (HX.out.trans HAN.out))
              rw [HDD.out] at hD
              rw [HSV.out] at hV
              have HCD := Lib.hid hD
              have HCV := Lib.hid hV
              have z0 := HZ9.out w7 HA7.out
              have z1 : b8 < w7.heap.size := ((HBL.out.aft HAN.out)).lt
              have HOW2 := Lib.hid (HOWN.out)
              obtain ⟨sv, hsv⟩ : ∃ sv, hasB S n = sv := ⟨_, rfl⟩
              rw [hsv] at hSS HOW2
              have HCS := Lib.hid hSS
              clear hD hV hSS hsv HOWN
              have hds : sv = true → dv = true := HOW2.out
              have HDS := Lib.hid hds
              clear hds HOW2
              apply wp_region_lit
              (repeat (first | go_big_skip | go_big_want | go_big_move | go_big_op | go_step | go_upon | go_back))
              go_at_call 38
              refine HCD.out.mono ?_
              rintro e w8 ⟨rfl, rfl⟩
              dsimp only
              cases dv
              · have hsf : sv = false := by
                  cases sv
                  · rfl
                  · exact absurd (HDS.out rfl) (by decide)
                subst hsf
                (repeat (first | go_big_skip | go_big_want | go_big_move | go_big_op | go_step | go_upon | go_back))
                go_at_call 38
                refine HCV.out.mono ?_
                rintro e w8 ⟨rfl, rfl⟩
                dsimp only
                (repeat (first | go_big_skip | go_big_want | go_big_move | go_big_op | go_step | go_upon | go_back))
                go_at_call 38
                refine HCS.out.mono ?_
                rintro e w8 ⟨rfl, rfl⟩
                dsimp only
                (repeat (first | go_big_skip | go_big_want | go_big_move | go_big_op | go_step | go_upon | go_back))
                exact ⟨⟨n + 1, by go_num, by omega, HAN.out⟩, by simp [intOf]; omega⟩
              · cases sv
                · (repeat (first | go_big_skip | go_big_want | go_big_move | go_big_op | go_step | go_upon | go_back))
                  go_at_call 38
                  refine HCV.out.mono ?_
                  rintro e w8 ⟨rfl, rfl⟩
                  dsimp only
                  (repeat (first | go_big_skip | go_big_want | go_big_move | go_big_op | go_step | go_upon | go_back))
                  go_at_call 38
                  refine HCS.out.mono ?_
                  rintro e w8 ⟨rfl, rfl⟩
                  dsimp only
                  (repeat (first | go_big_skip | go_big_want | go_big_move | go_big_op | go_step | go_upon | go_back))
                  exact ⟨⟨n + 1, by go_num, by omega, HAN.out⟩, by simp [intOf]; omega⟩
                · (repeat (first | go_big_skip | go_big_want | go_big_move | go_big_op | go_step | go_upon | go_back))
                  go_at_call 38
                  refine HCV.out.mono ?_
                  rintro e w8 ⟨rfl, rfl⟩
                  dsimp only
                  (repeat (first | go_big_skip | go_big_want | go_big_move | go_big_op | go_step | go_upon | go_back))
                  go_at_call 38
                  refine HCS.out.mono ?_
                  rintro e w8 ⟨rfl, rfl⟩
                  dsimp only
                  (repeat (first | go_big_skip | go_big_want | go_big_move | go_big_op | go_step | go_upon | go_back))
                  exact ⟨⟨n + 1, by go_num, by omega, HAN.out⟩, by simp [intOf]; omega⟩
            · have t5 : decide (n < N) = false := by simpa using hnN
              have HZ := Lib.hid (HX0.out.trans (HX.out.trans HAN.out))
              go_wp2_with fail
              exact ⟨⟨k + 1, by go_num, by omega, HZ.out⟩, by simp [intOf]; omega⟩
    · have t1 : decide (k < T.length) = false := by simpa using hkT
      have HAE := Lib.hid (HWY.out.trans HX.out)
      go_wp2_with (go_at_call 12; refine (awake_any _).mono ?_; rintro e x21 ⟨rfl, ha⟩; have HAF := Lib.hid (HAE.out.trans ha); clear ha)
      go_ret
      exact ⟨rfl, HAF.out⟩
end Go.Proofs
end
