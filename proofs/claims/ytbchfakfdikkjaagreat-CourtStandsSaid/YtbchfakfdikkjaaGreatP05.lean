/- Own texts, merged: CtB PAw. -/
import Derived.Test.YtbchfakfdikkjaaGreatP04
set_option linter.unusedSimpArgs false
set_option linter.unusedVariables false
set_option linter.unnecessarySimpa false
section
namespace Go.Proofs
open Go.RowKit

set_option maxRecDepth 100000 in
set_option maxHeartbeats 2000000 in
theorem check_count (C : CaseL) (a1 a2 : Option Addr) (c1 c2 : Nat) (w : World) (hC : CRep w C a1 a2) (hbad : (!fromB C.claims 1 14 || decide (60 < C.strikes.length) || decide (6 < C.surveys.length)) = true) :
    Calls Tryz.prog 34 #[(.agg #[.int .i64 C.claims, .slice a1 C.strikes.length c1, .slice a2 C.surveys.length c2])] w fun e w' => e = .returned (.int .i64 3) ∧ Aft w w' := by
  have hl1 := hC.strikes.len
  have hl2 := hC.surveys.len
  clear hC
  go_enter Tryz.func34, Tryz.ntmps34
  cases h1 : fromB C.claims 1 14
  · have H1 := Lib.hid h1
    clear h1 hbad
    go_wp2_with (go_at_call 54; refine (from_any _ _ _).mono ?_; rintro e w' ⟨rfl, rfl⟩; rw [H1.out])
    refine wp_scope_straight ?_
    go_wp2_with (go_at_call 54; refine (from_any _ _ _ _).mono ?_; rintro e w' ⟨rfl, rfl⟩; rw [H1.out])
    simp only [Exit.noGoto_ret, Exit.inBlock, Exit.then]
    go_ret
    exact ⟨rfl, Aft.alloc _ _⟩
  · have H1 := Lib.hid h1
    rw [h1] at hbad
    by_cases h2 : 60 < C.strikes.length
    · have h2' : decide ((60 : Int) < C.strikes.length) = true := by simp; omega
      clear h1 hbad h2
      go_wp2_with fail
      refine wp_scope_straight ?_
      go_wp2_with (go_at_call 54; refine (from_any _ _ _ _).mono ?_; rintro e w' ⟨rfl, rfl⟩; rw [H1.out])
      simp only [Exit.noGoto_ret, Exit.inBlock, Exit.then]
      go_ret
      exact ⟨rfl, Aft.alloc _ _⟩
    · have h2' : decide ((60 : Int) < C.strikes.length) = false := by simp; omega
      have h3 : 6 < C.surveys.length := by simpa [h2] using hbad
      have h3' : decide ((6 : Int) < C.surveys.length) = true := by simp; omega
      clear h1 hbad h2 h3
      go_wp2_with fail
      refine wp_scope_straight ?_
      go_wp2_with (go_at_call 54; refine (from_any _ _ _ _).mono ?_; rintro e w' ⟨rfl, rfl⟩; rw [H1.out])
      simp only [Exit.noGoto_ret, Exit.inBlock, Exit.then]
      go_ret
      exact ⟨rfl, Aft.alloc _ _⟩

structure Counts (C : CaseL) : Prop where
  n : fromB C.claims 1 14 = true
  few : C.strikes.length ≤ 60
  fews : C.surveys.length ≤ 6
theorem Counts.nn {C : CaseL} (h : Counts C) : 1 ≤ C.claims ∧ C.claims ≤ 14 := fromB_iff.1 h.n

set_option maxRecDepth 100000 in
set_option maxHeartbeats 2000000 in
theorem check_arg (C : CaseL) (a1 a2 : Option Addr) (c1 c2 : Nat) (w : World) (hC : CRep w C a1 a2) (hn : Counts C) (hbad : C.strikes.all (inB C.claims) = false) :
    Calls Tryz.prog 34 #[(.agg #[.int .i64 C.claims, .slice a1 C.strikes.length c1, .slice a2 C.surveys.length c2])] w fun e w' => e = .returned (.int .i64 2) ∧ Aft w w' := by
  have H1 := Lib.hid hn.n
  have h2' : decide ((60 : Int) < C.strikes.length) = false := by have := hn.few; simp; omega
  have h3' : decide ((6 : Int) < C.surveys.length) = false := by have := hn.fews; simp; omega
  have hl1 := hC.strikes.len
  have hl2 := hC.surveys.len
  have HB := Lib.hid hbad
  have h0 : Aft w (w.alloc (.cells #[.int .i64 C.claims, .slice a1 C.strikes.length c1, .slice a2 C.surveys.length c2] 25)) := Aft.alloc _ _
  have HN : Hid (∀ w7, Aft (w.alloc (.cells #[.int .i64 C.claims, .slice a1 C.strikes.length c1, .slice a2 C.surveys.length c2] 25)) w7 → Calls Tryz.prog 83 #[.slice a1 C.strikes.length c1, .func (.func 84) #[] #[.pointer (some ⟨w.heap.size, 0, none⟩)]] w7 fun e w' => e = .returned (.bool (C.strikes.all (inB C.claims))) ∧ Aft w7 w') :=
    Lib.hid fun w7 h => none_check1 C.claims a1 a2 _ _ c1 c2 _ a1 C.strikes c1 w7 hn.nn ((Blk.new w 25 _).aft h) (hC.strikes.aft (h0.trans h))
  clear hC hn hbad
  rw [HB.out] at HN
  go_enter Tryz.func34, Tryz.ntmps34
  go_wp2_with fail
  refine wp_scope_straight ?_
  go_wp2_with (first | (go_at_call 54; refine (from_any _ _ _ _).mono ?_; rintro e w' ⟨rfl, rfl⟩; rw [H1.out]) | (go_at_call 83; refine (HN.out _ (Aft.refl _)).mono ?_; rintro e w' ⟨rfl, u, rfl⟩))
  simp only [Exit.noGoto_ret, Exit.inBlock, Exit.then]
  go_ret
  exact ⟨rfl, h0.then_lat _⟩


structure ChkL (C : CaseL) (a1 a2 : Option Addr) (c1 c2 : Nat) (w : World) (M k : Nat) (wr : World) : Prop where
  aft : Aft w wr
  box : Blk wr w.heap.size 25 #[.int .i64 C.claims, .slice a1 C.strikes.length c1, .slice a2 C.surveys.length c2]
  set : SetS wr M k (C.strikes.take k)
  lt : w.heap.size < M
theorem ChkL.later {C : CaseL} {a1 a2 : Option Addr} {c1 c2 : Nat} {w wr w' : World} {M k : Nat} (h : ChkL C a1 a2 c1 c2 w M k wr) (ha : Aft wr w') : ChkL C a1 a2 c1 c2 w M k w' :=
  ⟨h.aft.trans ha, h.box.aft ha, h.set.aft ha, h.lt⟩
theorem ChkL.put {C : CaseL} {a1 a2 : Option Addr} {c1 c2 : Nat} {w wr w' : World} {M k : Nat} (h : ChkL C a1 a2 c1 c2 w M k wr) (hk : k < C.strikes.length) (hs : SetS w' M (k + 1) (C.strikes.take k ++ [C.strikes[k]])) (hg : wr.grownBy w' (some M)) : ChkL C a1 a2 c1 c2 w M (k + 1) w' :=
  ⟨h.aft.grown hg (fun r e => by cases e; exact Nat.le_of_lt h.lt), h.box.grown hg (fun e => by cases e; exact Nat.lt_irrefl _ h.lt), by rw [List.take_succ_eq_append_getElem hk]; exact hs, h.lt⟩

theorem nodup_take_succ {l : List (Int × Int)} {k : Nat} (hk : k < l.length) (h : (l.take k).Nodup) (hn : l[k] ∉ l.take k) : (l.take (k + 1)).Nodup := by
  rw [List.take_succ_eq_append_getElem hk, List.nodup_append]
  refine ⟨h, by simp, fun a ha b hb => ?_⟩
  rw [List.mem_singleton] at hb
  subst hb
  rintro rfl
  exact hn ha
theorem nodup_of_take {l : List (Int × Int)} {k : Nat} (hk : k < l.length) (h : l.Nodup) : l[k] ∉ l.take k := by
  intro hm
  have h2 : (l.take (k + 1)).Nodup := h.sublist (List.take_sublist _ _)
  rw [List.take_succ_eq_append_getElem hk, List.nodup_append] at h2
  exact h2.2.2 _ hm _ (by simp) rfl

set_option maxRecDepth 100000 in
set_option maxHeartbeats 2000000 in
theorem check_twice (C : CaseL) (a1 a2 : Option Addr) (c1 c2 : Nat) (w : World) (hC : CRep w C a1 a2) (hn : Counts C) (hin : C.strikes.all (inB C.claims) = true) (hbad : ¬ C.strikes.Nodup) :
    Calls Tryz.prog 34 #[(.agg #[.int .i64 C.claims, .slice a1 C.strikes.length c1, .slice a2 C.surveys.length c2])] w fun e w' => e = .returned (.int .i64 6) ∧ Aft w w' := by
  have H1 := Lib.hid hn.n
  have h2' : decide ((60 : Int) < C.strikes.length) = false := by have := hn.few; simp; omega
  have h3' : decide ((6 : Int) < C.surveys.length) = false := by have := hn.fews; simp; omega
  have hl1 := hn.few
  have hl2 := hn.fews
  have HBAD := Lib.hid hbad
  have HIN := Lib.hid hin
  have HS : Hid (∀ k, (h : k < C.strikes.length) → SmallS C.strikes[k]) := Lib.hid fun k h => by
    have := inB_iff.1 (List.all_eq_true.1 hin _ (List.getElem_mem h))
    have := hn.nn
    exact ⟨by omega, by omega⟩
  have h0 : Aft w (w.alloc (.cells #[.int .i64 C.claims, .slice a1 C.strikes.length c1, .slice a2 C.surveys.length c2] 25)) := Aft.alloc _ _
  have HN : Hid (∀ w7, Aft (w.alloc (.cells #[.int .i64 C.claims, .slice a1 C.strikes.length c1, .slice a2 C.surveys.length c2] 25)) w7 → Calls Tryz.prog 83 #[.slice a1 C.strikes.length c1, .func (.func 84) #[] #[.pointer (some ⟨w.heap.size, 0, none⟩)]] w7 fun e w' => e = .returned (.bool (C.strikes.all (inB C.claims))) ∧ Aft w7 w') :=
    Lib.hid fun w7 h => none_check1 C.claims a1 a2 _ _ c1 c2 _ a1 C.strikes c1 w7 hn.nn ((Blk.new w 25 _).aft h) (hC.strikes.aft (h0.trans h))
  have HC := Lib.hid hC
  clear hC hn hbad hin
  rw [HIN.out] at HN
  have HBK := Lib.hid (Blk.new w 25 #[.int .i64 C.claims, .slice a1 C.strikes.length c1, .slice a2 C.surveys.length c2])
  have hmm := @run_makeMap Tryz.prog
  go_enter Tryz.func34, Tryz.ntmps34
  go_wp2_with fail
  refine wp_scope_straight ?_
  go_wp2_with (first | (go_at_call 54; refine (from_any _ _ _ _).mono ?_; rintro e w' ⟨rfl, rfl⟩; rw [H1.out]) | (go_at_call 83; refine (HN.out _ (Aft.refl _)).mono ?_; rintro e w' ⟨rfl, u, rfl⟩; obtain ⟨W1, hW1⟩ : ∃ W1, (w.alloc (.cells #[.int .i64 C.claims, .slice a1 C.strikes.length c1, .slice a2 C.surveys.length c2] 25)).lat u = W1 := ⟨_, rfl⟩; have HA1 : Hid (Aft w W1) := Lib.hid (hW1 ▸ h0.then_lat u); have HB1 : Hid (Blk W1 w.heap.size 25 #[.int .i64 C.claims, .slice a1 C.strikes.length c1, .slice a2 C.surveys.length c2]) := Lib.hid (hW1 ▸ HBK.out.lat u); have hb1 := HB1.out.lt; have k0 := HB1.out.cell 0; have k1 := HB1.out.cell 1; have k2 := HB1.out.cell 2; simp only [List.getElem?_toArray, List.getElem?_cons_zero, List.getElem?_cons_succ] at k0 k1 k2; rw [hW1]; clear hW1))
  refine wp_label ?_
  have h0 : ChkL C a1 a2 c1 c2 w W1.heap.size 0 (W1.alloc (.map #[] 0)) := ⟨HA1.out.then_alloc _, HB1.out.alloc _, SetS.made W1, hb1⟩
  have H0 := Lib.hid h0
  clear h0 hmm HBK
  go_wp2_with fail
  generalize (W1.alloc (.map #[] 0)) = W2 at *
  generalize W1.heap.size = M at *
  clear k0 k1 k2 hb1
  go_loopw [4, 35] (fun e i wr => ∃ k : Nat, i = .int .i64 k ∧ e = .int .i64 0 ∧ k ≤ C.strikes.length ∧ (C.strikes.take k).Nodup ∧ ChkL C a1 a2 c1 c2 w M k wr) (fun _ i _ => C.strikes.length - (intOf i).toNat)
  case atStart => exact ⟨0, rfl, rfl, by omega, by simp, H0.out⟩
  case round =>
    obtain ⟨k, rfl, rfl, hk, hnd, hch⟩ := hrel
    by_cases hkl : k < C.strikes.length
    · have HCH := Lib.hid hch
      have HND := Lib.hid hnd
      obtain ⟨b, o, rfl, hb, hc⟩ := (HC.out.strikes.aft hch.aft).at hkl
      obtain ⟨h1, h2⟩ := hc k hkl
      have HK := Lib.hid (HS.out k hkl)
      have HLOOK : Hid (∀ w7, Aft wr w7 → (Instr.lookup 115 (.map (some M)) (.agg #[.int .i64 C.strikes[k].1, .int .i64 C.strikes[k].2]) false).run Tryz.prog w7 = .ok (.bool (decide (C.strikes[k] ∈ C.strikes.take k))) w7) := Lib.hid fun w7 h7 => (HCH.out.set.aft h7).look HK.out
      have HPUT : Hid (∀ w7, Aft wr w7 → ∃ w', (Instr.mapUpdate 115 (.map (some M)) (.agg #[.int .i64 C.strikes[k].1, .int .i64 C.strikes[k].2]) (.bool true)).run Tryz.prog w7 = .ok () w' ∧ ChkL C _ a2 c1 c2 w M (k + 1) w') := Lib.hid fun w7 h7 => by
        obtain ⟨w', h1, h2, h3⟩ := (HCH.out.set.aft h7).put HK.out (by omega)
        exact ⟨w', h1, (HCH.out.later h7).put hkl h2 h3⟩
      have HNX : Hid (C.strikes[k] ∉ C.strikes.take k → (C.strikes.take (k + 1)).Nodup) := Lib.hid (nodup_take_succ hkl hnd)
      have ha3 : Aft wr (wr.alloc (.cells #[.int .i64 C.strikes[k].1, .int .i64 C.strikes[k].2] 57)) := Aft.alloc _ _
      clear hc hch hnd
      by_cases hm : C.strikes[k] ∈ C.strikes.take k
      · have hlk := HLOOK.out _ ha3
        rw [decide_eq_true hm] at hlk
        clear HPUT HLOOK hm HNX HK
        have hc3 := HCH.out.later ha3
        have HC3 := Lib.hid hc3
        have hb3 := hc3.box.lt
        have k2 := hc3.box.cell 2
        simp only [List.getElem?_toArray, List.getElem?_cons_zero, List.getElem?_cons_succ] at k2
        clear ha3 hc3
        go_wp2_with fail
        generalize (wr.alloc (.cells #[.int .i64 C.strikes[k].1, .int .i64 C.strikes[k].2] 57)) = W3 at *
        go_loopw [4, 7] (fun e i wr' => e = .int .i64 6 ∧ i = .int .i64 0 ∧ wr' = W3) (fun _ _ _ => 0)
        case atStart => exact ⟨rfl, rfl, rfl⟩
        case round =>
          obtain ⟨rfl, rfl, rfl⟩ := hrel
          by_cases hz : C.surveys.length = 0
          · have hz' : decide (0 < C.surveys.length) = false := by simp [hz]
            clear hz hlk
            go_wp2_with fail
            simp only [Exit.noGoto_ret, Exit.inBlock, Exit.then]
            go_ret
            exact ⟨rfl, HC3.out.aft⟩
          · have hz' : decide (0 < C.surveys.length) = true := by simp; omega
            clear hz hlk
            go_wp2_with fail
            simp only [Exit.noGoto_ret, Exit.inBlock, Exit.then]
            go_ret
            exact ⟨rfl, HC3.out.aft⟩
      · have hlk := HLOOK.out _ ha3
        rw [decide_eq_false hm] at hlk
        obtain ⟨w', hp1, hp2⟩ := HPUT.out _ ha3
        have HP2 := Lib.hid hp2
        have HN2 := Lib.hid (HNX.out hm)
        clear hp2 HPUT HLOOK hm HNX HK
        go_wp2_with fail
        exact ⟨⟨k + 1, by go_num, rfl, by omega, HN2.out, HP2.out⟩, by simp [intOf]; omega⟩
    · exfalso
      obtain rfl : k = C.strikes.length := by omega
      rw [List.take_of_length_le (Nat.le_refl _)] at hnd
      exact HBAD.out hnd

theorem surveysE_cons (N : Int) (l : List Int) (r : List (List Int)) : surveysE N (l :: r) = if fromB l.length 1 6 then (if listedE N l = 0 then surveysE N r else listedE N l) else 3 := rfl
structure SvL (N : Int) (L : List (List Int)) (j : Nat) (e : Int) : Prop where
  le : j ≤ L.length
  is : (e = 0 ∧ surveysE N L = surveysE N (L.drop j)) ∨ (e ≠ 0 ∧ surveysE N L = e)
theorem SvL.start (N : Int) (L : List (List Int)) : SvL N L 0 0 := ⟨by omega, .inl ⟨rfl, rfl⟩⟩
theorem SvL.count {N : Int} {L : List (List Int)} {j : Nat} (h : SvL N L j 0) (hj : j < L.length) (hf : fromB L[j].length 1 6 = false) : SvL N L (j + 1) 3 := by
  rcases h.is with ⟨-, h1⟩ | ⟨h1, -⟩
  · refine ⟨by omega, .inr ⟨by decide, ?_⟩⟩
    rw [h1, List.drop_eq_getElem_cons hj, surveysE_cons]
    rw [if_neg (by rw [hf]; decide)]
  · exact absurd rfl h1
theorem SvL.listed {N : Int} {L : List (List Int)} {j : Nat} (h : SvL N L j 0) (hj : j < L.length) (hf : fromB L[j].length 1 6 = true) : SvL N L (j + 1) (listedE N L[j]) := by
  rcases h.is with ⟨-, h1⟩ | ⟨h1, -⟩
  · rw [List.drop_eq_getElem_cons hj, surveysE_cons, if_pos hf] at h1
    by_cases e : listedE N L[j] = 0
    · rw [if_pos e] at h1
      exact ⟨by omega, .inl ⟨e, by rw [h1]⟩⟩
    · rw [if_neg e] at h1
      exact ⟨by omega, .inr ⟨e, h1⟩⟩
  · exact absurd rfl h1
theorem SvL.done {N : Int} {L : List (List Int)} {j : Nat} {e : Int} (h : SvL N L j e) (hj : j = L.length ∨ e ≠ 0) : e = surveysE N L := by
  rcases h.is with ⟨rfl, h1⟩ | ⟨_, h1⟩
  · rcases hj with rfl | hj
    · rw [h1, List.drop_of_length_le (Nat.le_refl _)]; rfl
    · exact absurd rfl hj
  · exact h1.symm
theorem Lists.row {w : World} {A : Option Addr} {l : List (List Int)} (h : Lists w A l) {k : Nat} (hk : k < l.length) :
    ∃ b o A' c', A = some ⟨b, o, none⟩ ∧ b < w.heap.size ∧ w.cell? ⟨b, o + k, none⟩ = some (.slice A' l[k].length c') ∧ Ints w A' l[k] := by
  obtain ⟨b, o, e, hb, hc⟩ := h.at hk
  obtain ⟨A', c', h1, h2⟩ := hc k hk
  exact ⟨b, o, A', c', e, hb, h1, h2⟩

set_option maxRecDepth 100000 in
set_option maxHeartbeats 2000000 in
theorem check_once (C : CaseL) (a1 a2 : Option Addr) (c1 c2 : Nat) (w : World) (hC : CRep w C a1 a2) (hn : Counts C) (hin : C.strikes.all (inB C.claims) = true) (hbad : C.strikes.Nodup) :
    Calls Tryz.prog 34 #[(.agg #[.int .i64 C.claims, .slice a1 C.strikes.length c1, .slice a2 C.surveys.length c2])] w fun e w' => e = .returned (.int .i64 (surveysE C.claims C.surveys)) ∧ Aft w w' := by
  have H1 := Lib.hid hn.n
  have h2' : decide ((60 : Int) < C.strikes.length) = false := by have := hn.few; simp; omega
  have h3' : decide ((6 : Int) < C.surveys.length) = false := by have := hn.fews; simp; omega
  have hl1 := hn.few
  have hl2 := hn.fews
  have HBAD := Lib.hid hbad
  have HIN := Lib.hid hin
  have HS : Hid (∀ k, (h : k < C.strikes.length) → SmallS C.strikes[k]) := Lib.hid fun k h => by
    have := inB_iff.1 (List.all_eq_true.1 hin _ (List.getElem_mem h))
    have := hn.nn
    exact ⟨by omega, by omega⟩
  have h0 : Aft w (w.alloc (.cells #[.int .i64 C.claims, .slice a1 C.strikes.length c1, .slice a2 C.surveys.length c2] 25)) := Aft.alloc _ _
  have HN : Hid (∀ w7, Aft (w.alloc (.cells #[.int .i64 C.claims, .slice a1 C.strikes.length c1, .slice a2 C.surveys.length c2] 25)) w7 → Calls Tryz.prog 83 #[.slice a1 C.strikes.length c1, .func (.func 84) #[] #[.pointer (some ⟨w.heap.size, 0, none⟩)]] w7 fun e w' => e = .returned (.bool (C.strikes.all (inB C.claims))) ∧ Aft w7 w') :=
    Lib.hid fun w7 h => none_check1 C.claims a1 a2 _ _ c1 c2 _ a1 C.strikes c1 w7 hn.nn ((Blk.new w 25 _).aft h) (hC.strikes.aft (h0.trans h))
  have HC := Lib.hid hC
  clear hC hn hbad hin
  rw [HIN.out] at HN
  have HBK := Lib.hid (Blk.new w 25 #[.int .i64 C.claims, .slice a1 C.strikes.length c1, .slice a2 C.surveys.length c2])
  have hmm := @run_makeMap Tryz.prog
  go_enter Tryz.func34, Tryz.ntmps34
  go_wp2_with fail
  refine wp_scope_straight ?_
  go_wp2_with (first | (go_at_call 54; refine (from_any _ _ _ _).mono ?_; rintro e w' ⟨rfl, rfl⟩; rw [H1.out]) | (go_at_call 83; refine (HN.out _ (Aft.refl _)).mono ?_; rintro e w' ⟨rfl, u, rfl⟩; obtain ⟨W1, hW1⟩ : ∃ W1, (w.alloc (.cells #[.int .i64 C.claims, .slice a1 C.strikes.length c1, .slice a2 C.surveys.length c2] 25)).lat u = W1 := ⟨_, rfl⟩; have HA1 : Hid (Aft w W1) := Lib.hid (hW1 ▸ h0.then_lat u); have HB1 : Hid (Blk W1 w.heap.size 25 #[.int .i64 C.claims, .slice a1 C.strikes.length c1, .slice a2 C.surveys.length c2]) := Lib.hid (hW1 ▸ HBK.out.lat u); have hb1 := HB1.out.lt; have k0 := HB1.out.cell 0; have k1 := HB1.out.cell 1; have k2 := HB1.out.cell 2; simp only [List.getElem?_toArray, List.getElem?_cons_zero, List.getElem?_cons_succ] at k0 k1 k2; rw [hW1]; clear hW1))
  refine wp_label ?_
  have h0 : ChkL C a1 a2 c1 c2 w W1.heap.size 0 (W1.alloc (.map #[] 0)) := ⟨HA1.out.then_alloc _, HB1.out.alloc _, SetS.made W1, hb1⟩
  have H0 := Lib.hid h0
  clear h0 hmm HBK
  go_wp2_with fail
  generalize (W1.alloc (.map #[] 0)) = W2 at *
  generalize W1.heap.size = M at *
  clear k0 k1 k2 hb1
  go_loopw [4, 35] (fun e i wr => ∃ k : Nat, i = .int .i64 k ∧ e = .int .i64 0 ∧ k ≤ C.strikes.length ∧ ChkL C a1 a2 c1 c2 w M k wr) (fun _ i _ => C.strikes.length - (intOf i).toNat)
  case atStart => exact ⟨0, rfl, rfl, by omega, H0.out⟩
  case round =>
    obtain ⟨k, rfl, rfl, hk, hch⟩ := hrel
    by_cases hkl : k < C.strikes.length
    · have HCH := Lib.hid hch
      obtain ⟨b, o, rfl, hb, hc⟩ := (HC.out.strikes.aft hch.aft).at hkl
      obtain ⟨h1, h2⟩ := hc k hkl
      have HK := Lib.hid (HS.out k hkl)
      have ha3 : Aft wr (wr.alloc (.cells #[.int .i64 C.strikes[k].1, .int .i64 C.strikes[k].2] 57)) := Aft.alloc _ _
      have hlk := (HCH.out.set.aft ha3).look HK.out
      rw [decide_eq_false (nodup_of_take hkl HBAD.out)] at hlk
      unfold strV at hlk
      obtain ⟨w', hp1, hp2, hp3⟩ := (HCH.out.set.aft ha3).put HK.out (by omega)
      unfold strV at hp1
      have HP2 := Lib.hid ((HCH.out.later ha3).put hkl hp2 hp3)
      clear hp2 hp3 hc hch HK
      go_wp2_with fail
      exact ⟨⟨k + 1, by go_num, rfl, by omega, HP2.out⟩, by simp [intOf]; omega⟩
    · obtain rfl : k = C.strikes.length := by omega
      have HC3 : Hid (Aft w wr ∧ Blk wr w.heap.size 25 #[.int .i64 C.claims, .slice a1 C.strikes.length c1, .slice a2 C.surveys.length c2]) := Lib.hid ⟨hch.aft, hch.box⟩
      clear hch HS
      go_wp2_with fail
      go_loopw [4, 7] (fun e i wr => ∃ (j : Nat) (x : Int), i = .int .i64 j ∧ e = .int .i64 x ∧ SvL C.claims C.surveys j x ∧ Aft w wr ∧ Blk wr w.heap.size 25 #[.int .i64 C.claims, .slice a1 C.strikes.length c1, .slice a2 C.surveys.length c2]) (fun _ i _ => C.surveys.length - (intOf i).toNat)
      case atStart => exact ⟨0, 0, rfl, rfl, SvL.start _ _, HC3.out.1, HC3.out.2⟩
      case round =>
        obtain ⟨j, x, rfl, rfl, hsv, haw, hbw⟩ := hrel
        have HSV := Lib.hid hsv
        have hjl := hsv.le
        have k0 := hbw.cell 0
        have k1 := hbw.cell 1
        have k2 := hbw.cell 2
        have hbl := hbw.lt
        simp only [List.getElem?_toArray, List.getElem?_cons_zero, List.getElem?_cons_succ] at k0 k1 k2
        have HAW := Lib.hid haw
        have HBW := Lib.hid hbw
        clear hsv hbw haw HC3
        by_cases hj : j < C.surveys.length
        · have hj' : decide (j < C.surveys.length) = true := by simpa using hj
          by_cases hx : x = 0
          · subst hx
            obtain ⟨b, o, A', c', rfl, hb, h1, h2⟩ := (HC.out.surveys.aft HAW.out).row hj
            have hll := h2.len
            have h2 := Lib.hid h2
            have H69 := Lib.hid (fun W (ha : Aft wr W) => listed_any C.claims a1 (some ⟨b, o, none⟩) C.strikes.length C.surveys.length c1 c2 A' C.surveys[j] c' W (fromB_iff.1 H1.out) (h2.out.aft ha))
            cases hf : fromB C.surveys[j].length 1 6
            · have HF := Lib.hid hf
              have HSV2 := Lib.hid (HSV.out.count hj hf)
              clear hf
              go_wp2_with (go_at_call 54; refine (from_any _ _ _ _).mono ?_; rintro e w' ⟨rfl, rfl⟩; rw [HF.out])
              exact ⟨⟨j + 1, 3, by go_num, rfl, HSV2.out, HAW.out, HBW.out⟩, by simp [intOf]; omega⟩
            · have HF := Lib.hid hf
              have HSV2 := Lib.hid (HSV.out.listed hj hf)
              clear hf
              generalize C.surveys[j] = l at *
              go_wp2_with (go_at_call 54; refine (from_any _ _ _ _).mono ?_; rintro e w' ⟨rfl, rfl⟩; rw [HF.out])
              refine wp_region_tail 6 (by kernel_rfl) (by kernel_rfl) ?_
              simp only [List.take_succ_cons, List.take_zero, List.drop_succ_cons, List.drop_zero]
              repeat (first | go_big_quiet_skip | (go_big_quiet_want; go_big_quiet_op; go_big_quiet_on))
              refine wpQuiet_nil ?_
              go_wp2_with (go_at_call 69; refine (H69.out _ (Aft.drew _)).mono ?_; rintro e w' ⟨rfl, u9, rfl⟩)
              have h9 : Aft wr (wr.drew.lat u9) := (Aft.drew _).then_lat _
              exact ⟨⟨j + 1, _, by go_num, rfl, HSV2.out, HAW.out.trans h9, HBW.out.aft h9⟩, by simp [intOf]; omega⟩
          · have hx' : (x == 0) = false := by simpa using hx
            have HD := Lib.hid (HSV.out.done (.inr hx))
            clear hx
            go_wp2_with fail
            simp only [Exit.noGoto_ret, Exit.inBlock, Exit.then]
            go_ret
            exact ⟨ret_int HD.out, HAW.out⟩
        · have hj' : decide (j < C.surveys.length) = false := by simpa using hj
          have HD := Lib.hid (HSV.out.done (.inl (by omega)))
          clear hj
          go_wp2_with fail
          simp only [Exit.noGoto_ret, Exit.inBlock, Exit.then]
          go_ret
          exact ⟨ret_int HD.out, HAW.out⟩

theorem check_any (C : CaseL) (a1 a2 : Option Addr) (c1 c2 : Nat) (w : World) (hC : CRep w C a1 a2) :
    Calls Tryz.prog 34 #[(.agg #[.int .i64 C.claims, .slice a1 C.strikes.length c1, .slice a2 C.surveys.length c2])] w fun e w' => e = .returned (.int .i64 (caseE C)) ∧ Aft w w' := by
  unfold caseE
  split
  · rename_i h; exact check_count C a1 a2 c1 c2 w hC h
  · rename_i h
    simp only [Bool.or_eq_true, Bool.not_eq_true', decide_eq_true_eq, not_or, Bool.not_eq_false] at h
    have hn : Counts C := ⟨h.1.1, by omega, by omega⟩
    split
    · rename_i h2; exact check_arg C a1 a2 c1 c2 w hC hn (by simpa using h2)
    · rename_i h2
      have h2 : C.strikes.all (inB C.claims) = true := by simpa using h2
      split
      · rename_i h3; exact check_twice C a1 a2 c1 c2 w hC hn h2 h3
      · rename_i h3; exact check_once C a1 a2 c1 c2 w hC hn h2 (by simpa using h3)
end Go.Proofs
end

section
namespace Court

def struckB (S : List (Int × Int)) (sure : Int → Bool) (f : Int → Nat) (n : Int) (v : Nat) : Bool := S.any fun s => decide (s.2 = n) && !sure n && decide (f s.1 = v)
def rule (S : List (Int × Int)) (sure : Int → Bool) (f : Int → Nat) (n : Int) : Nat := if struckB S sure f n 1 then 2 else if struckB S sure f n 0 then 0 else 1
def heard1 (S : List (Int × Int)) (sure : Int → Bool) (f : Int → Nat) (n : Int) : Nat := if f n = 0 then rule S sure f n else f n
def setF (f : Int → Nat) (n : Int) (v : Nat) : Int → Nat := fun k => if k = n then v else f k
def hear (S : List (Int × Int)) (sure : Int → Bool) (f : Int → Nat) (n : Int) : Int → Nat := setF f n (heard1 S sure f n)
def Has (f g : Int → Nat) : Prop := ∀ n, f n ≠ 0 → g n = f n
def Three (f : Int → Nat) : Prop := ∀ n, f n ≤ 2

section
variable {S : List (Int × Int)} {sure : Int → Bool} {f g : Int → Nat} {n : Int} {v : Nat}
theorem struck_iff : struckB S sure f n v = true ↔ sure n = false ∧ ∃ s ∈ S, s.2 = n ∧ f s.1 = v := by
  unfold struckB
  rw [List.any_eq_true]
  constructor
  · rintro ⟨s, hs, h⟩
    simp only [Bool.and_eq_true, decide_eq_true_eq, Bool.not_eq_true'] at h
    exact ⟨h.1.2, s, hs, h.1.1, h.2⟩
  · rintro ⟨h0, s, hs, h1, h2⟩
    exact ⟨s, hs, by simp [h0, h1, h2]⟩
theorem struck_has (h : Has f g) (hv : v ≠ 0) (hs : struckB S sure f n v = true) : struckB S sure g n v = true := by
  obtain ⟨h0, s, h1, h2, h3⟩ := struck_iff.1 hs
  exact struck_iff.2 ⟨h0, s, h1, h2, by rw [h _ (by rw [h3]; exact hv), h3]⟩
theorem rule_has (h : Has f g) (hr : rule S sure f n ≠ 0) (h3 : Three f) : rule S sure g n = rule S sure f n := by
  unfold rule at hr ⊢
  by_cases h1 : struckB S sure f n 1 = true
  · rw [if_pos h1, if_pos (struck_has h (by decide) h1)]
  · rw [if_neg h1] at hr ⊢
    by_cases h0 : struckB S sure f n 0 = true
    · rw [if_pos h0] at hr; exact absurd rfl hr
    · rw [if_neg h0]
      have key : ∀ s ∈ S, s.2 = n → sure n = false → g s.1 = 2 := fun s hs hn hsu => by
        have a1 : f s.1 ≠ 1 := fun e => h1 (struck_iff.2 ⟨hsu, s, hs, hn, e⟩)
        have a0 : f s.1 ≠ 0 := fun e => h0 (struck_iff.2 ⟨hsu, s, hs, hn, e⟩)
        have := h3 s.1
        rw [h _ a0]; omega
      rw [if_neg, if_neg]
      · intro e
        obtain ⟨e0, s, e1, e2, e3⟩ := struck_iff.1 e
        rw [key s e1 e2 e0] at e3; cases e3
      · intro e
        obtain ⟨e0, s, e1, e2, e3⟩ := struck_iff.1 e
        rw [key s e1 e2 e0] at e3; cases e3
theorem rule_le (S : List (Int × Int)) (sure : Int → Bool) (f : Int → Nat) (n : Int) : rule S sure f n ≤ 2 := by
  unfold rule
  split
  · omega
  · split <;> omega
theorem heard_le (h : Three f) (n : Int) : heard1 S sure f n ≤ 2 := by
  unfold heard1
  split
  · exact rule_le _ _ _ _
  · exact h n
theorem hear_three (h : Three f) (n : Int) : Three (hear S sure f n) := fun k => by
  unfold hear setF
  split
  · exact heard_le h n
  · exact h k
theorem has_hear (S : List (Int × Int)) (sure : Int → Bool) (f : Int → Nat) (n : Int) : Has f (hear S sure f n) := fun k hk => by
  unfold hear setF heard1
  by_cases e : k = n
  · subst e
    rw [if_pos rfl, if_neg hk]
  · rw [if_neg e]
theorem Has.refl (f : Int → Nat) : Has f f := fun _ _ => rfl
theorem Has.trans {f g h : Int → Nat} (a : Has f g) (b : Has g h) : Has f h := fun n hn => by
  have e := a n hn
  rw [b n (by rw [e]; exact hn), e]

def Sound (S : List (Int × Int)) (sure : Int → Bool) (f0 f : Int → Nat) : Prop := ∀ n, f n ≠ 0 → f0 n = f n ∨ rule S sure f n = f n
def Done (S : List (Int × Int)) (sure : Int → Bool) (N : Nat) (f : Int → Nat) : Prop := ∀ n : Int, 0 ≤ n → n < N → f n = 0 → rule S sure f n = 0
theorem sound_start (S : List (Int × Int)) (sure : Int → Bool) (f0 : Int → Nat) : Sound S sure f0 f0 := fun _ _ => .inl rfl
theorem sound_hear {f0 : Int → Nat} (h : Sound S sure f0 f) (h3 : Three f) (n : Int) : Sound S sure f0 (hear S sure f n) := fun k hk => by
  have hh := has_hear S sure f n
  by_cases h0 : f k = 0
  · by_cases e : k = n
    · subst e
      have e1 : hear S sure f k k = rule S sure f k := by unfold hear setF heard1; rw [if_pos rfl, if_pos h0]
      right
      rw [e1] at hk ⊢
      exact rule_has hh hk h3
    · have e1 : hear S sure f n k = f k := by unfold hear setF; rw [if_neg e]
      rw [e1] at hk; exact absurd h0 hk
  · have e1 := hh k h0
    rw [e1]
    rcases h k h0 with h1 | h1
    · exact .inl h1
    · right
      rw [← h1]
      exact rule_has hh (by rw [h1]; exact h0) h3
theorem has_of {f0 : Int → Nat} {N : Nat} (hg : Done S sure N g) (hf : Has f g) (hf3 : Three f) (h0 : ∀ n : Int, 0 ≤ n → n < N → g n ≠ 0 → f0 n = g n ∨ rule S sure g n = g n) (n : Int) (hn : 0 ≤ n ∧ n < N) (hst : f0 n = 0 ∨ f n ≠ 0) : Has (hear S sure f n) g := fun k hk => by
  by_cases hk0 : f k = 0
  · by_cases e : k = n
    · subst e
      have e1 : hear S sure f k k = rule S sure f k := by unfold hear setF heard1; rw [if_pos rfl, if_pos hk0]
      rw [e1] at hk ⊢
      have hr := rule_has hf hk hf3
      by_cases hg0 : g k = 0
      · have := hg k hn.1 hn.2 hg0
        rw [hr] at this
        exact absurd this hk
      · rcases h0 k hn.1 hn.2 hg0 with h1 | h1
        · rcases hst with h2 | h2
          · rw [h2] at h1; exact absurd h1.symm hg0
          · exact absurd hk0 h2
        · rw [← h1, hr]
    · have e1 : hear S sure f n k = f k := by unfold hear setF; rw [if_neg e]
      rw [e1] at hk; exact absurd hk0 hk
  · rw [has_hear S sure f n k hk0]
    exact hf k hk0
end

def hears (S : List (Int × Int)) (sure : Int → Bool) (f : Int → Nat) (order : List Int) : Int → Nat := order.foldl (hear S sure) f
section
variable {S : List (Int × Int)} {sure : Int → Bool} {f0 f g : Int → Nat} {N : Nat} {x : (Int → Nat) × (Int → Nat)}
theorem hears_three (h : Three f) : ∀ (o : List Int), Three (hears S sure f o) := by
  intro o
  induction o generalizing f with
  | nil => exact h
  | cons n r ih => exact ih (hear_three h n)
theorem has_hears : ∀ (o : List Int) (f : Int → Nat), Has f (hears S sure f o)
  | [], f => Has.refl f
  | n :: r, f => (has_hear S sure f n).trans (has_hears r _)
theorem sound_hears (h3 : Three f) (h : Sound S sure f0 f) : ∀ (o : List Int), Sound S sure f0 (hears S sure f o) := by
  intro o
  induction o generalizing f with
  | nil => exact h
  | cons n r ih => exact ih (hear_three h3 n) (sound_hear h h3 n)
theorem hears_has (hg : Done S sure N g) (hs : Sound S sure f0 g) : ∀ (o : List Int) (f : Int → Nat), (∀ n, f0 n ≠ 0 → f n ≠ 0) → Three f → Has f g → (∀ n ∈ o, 0 ≤ n ∧ n < N) → Has (hears S sure f o) g
  | [], _, _, _, h, _ => h
  | n :: r, f, hst, h3, h, ho => hears_has hg hs r _ (fun k hk => by
      have := hst k hk
      rw [has_hear S sure f n k this]; exact this) (hear_three h3 n) (has_of hg h h3 (fun n _ _ => hs n) n (ho n List.mem_cons_self) (by
      by_cases e : f0 n = 0
      · exact .inl e
      · exact .inr (hst n e))) fun k hk => ho k (List.mem_cons_of_mem _ hk)
theorem hears_append (S : List (Int × Int)) (sure : Int → Bool) (f : Int → Nat) (a b : List Int) : hears S sure f (a ++ b) = hears S sure (hears S sure f a) b := List.foldl_append

def Reach (S : List (Int × Int)) (sure : Int → Bool) (N : Nat) (f0 f : Int → Nat) : Prop := ∃ o : List Int, (∀ n ∈ o, 0 ≤ n ∧ n < N) ∧ f = hears S sure f0 o
theorem Reach.start (S : List (Int × Int)) (sure : Int → Bool) (N : Nat) (f0 : Int → Nat) : Reach S sure N f0 f0 := ⟨[], by simp, rfl⟩
theorem Reach.step (h : Reach S sure N f0 f) (o : List Int) (ho : ∀ n ∈ o, 0 ≤ n ∧ n < N) : Reach S sure N f0 (hears S sure f o) := by
  obtain ⟨o', h1, rfl⟩ := h
  exact ⟨o' ++ o, fun n hn => (List.mem_append.1 hn).elim (h1 n) (ho n), (hears_append _ _ _ _ _).symm⟩
theorem Reach.three (h : Reach S sure N f0 f) (h0 : Three f0) : Three f := by obtain ⟨o, -, rfl⟩ := h; exact hears_three h0 o
theorem Reach.sound (h : Reach S sure N f0 f) (h0 : Three f0) : Sound S sure f0 f := by obtain ⟨o, -, rfl⟩ := h; exact sound_hears h0 (sound_start _ _ _) o
theorem Reach.has (h : Reach S sure N f0 f) : Has f0 f := by obtain ⟨o, -, rfl⟩ := h; exact has_hears o f0
theorem Reach.le (h : Reach S sure N f0 f) (h0 : Three f0) (hg : Done S sure N g) (hs : Sound S sure f0 g) (hg0 : Has f0 g) : Has f g := by
  obtain ⟨o, ho, rfl⟩ := h
  exact hears_has hg hs o f0 (fun _ h => h) h0 hg0 ho
theorem has_both (h : Has f g) (h' : Has g f) : f = g := by
  funext n
  by_cases hf : f n = 0
  · by_cases hg : g n = 0
    · rw [hf, hg]
    · exact h' n hg
  · exact (h n hf).symm
theorem Reach.unique (h0 : Three f0) (hf : Reach S sure N f0 f) (df : Done S sure N f) (hg : Reach S sure N f0 g) (dg : Done S sure N g) : f = g :=
  has_both (hf.le h0 dg (hg.sound h0) hg.has) (hg.le h0 df (hf.sound h0) hf.has)

def allN (N : Nat) : List Int := (List.range N).map fun (i : Nat) => (i : Int)
theorem mem_allN {N : Nat} {n : Int} : n ∈ allN N ↔ 0 ≤ n ∧ n < N := by
  unfold allN
  rw [List.mem_map]
  constructor
  · rintro ⟨i, hi, rfl⟩
    have := List.mem_range.1 hi
    omega
  · rintro ⟨h0, h1⟩
    obtain ⟨i, rfl⟩ := Int.eq_ofNat_of_zero_le h0
    exact ⟨i, List.mem_range.2 (by omega), rfl⟩
def round (S : List (Int × Int)) (sure : Int → Bool) (N : Nat) (f : Int → Nat) : Int → Nat := hears S sure f (allN N)
theorem hears_same : ∀ (o : List Int) (f : Int → Nat), hears S sure f o = f → ∀ n ∈ o, f n = 0 → rule S sure f n = 0
  | [], _, _, n, hn, _ => by cases hn
  | m :: r, f, h, n, hn, h0 => by
    have e : hear S sure f m = f := has_both (fun k hk => by
        have := has_hears (S := S) (sure := sure) r (hear S sure f m) k hk
        have h' : hears S sure (hear S sure f m) r = f := h
        rw [h'] at this; exact this) (has_hear S sure f m)
    rcases List.mem_cons.1 hn with rfl | hn
    · have := congrFun e n
      unfold hear setF heard1 at this
      rw [if_pos rfl, if_pos h0] at this
      rw [this, h0]
    · have h' : hears S sure (hear S sure f m) r = f := h
      rw [e] at h'
      exact hears_same r f h' n hn h0
theorem done_of_round (h : round S sure N f = f) : Done S sure N f := fun n h1 h2 h0 => hears_same (allN N) f h n (mem_allN.2 ⟨h1, h2⟩) h0
def openN (N : Nat) (f : Int → Nat) : Nat := (allN N).countP fun n => decide (f n = 0)
theorem open_le (N : Nat) (f : Int → Nat) : openN N f ≤ N := by
  unfold openN
  refine Nat.le_trans List.countP_le_length ?_
  unfold allN
  simp
theorem count_lt {l : List Int} {p q : Int → Bool} (h : ∀ x ∈ l, q x = true → p x = true) {a : Int} (ha : a ∈ l) (hp : p a = true) (hq : q a = false) : l.countP q < l.countP p := by
  induction l with
  | nil => cases ha
  | cons b r ih =>
    have hr : r.countP q ≤ r.countP p := List.countP_mono_left fun x hx => h x (List.mem_cons_of_mem _ hx)
    rcases List.mem_cons.1 ha with rfl | ha
    · rw [List.countP_cons_of_pos hp, List.countP_cons_of_neg (by rw [hq]; decide)]; omega
    · have := ih (fun x hx => h x (List.mem_cons_of_mem _ hx)) ha
      by_cases hb : q b = true
      · rw [List.countP_cons_of_pos hb, List.countP_cons_of_pos (h b List.mem_cons_self hb)]; omega
      · rw [List.countP_cons_of_neg hb]
        by_cases hpb : p b = true
        · rw [List.countP_cons_of_pos hpb]; omega
        · rw [List.countP_cons_of_neg hpb]; exact this
theorem open_less (h : Has f g) {n : Int} (hn : 0 ≤ n ∧ n < N) (h0 : f n = 0) (h1 : g n ≠ 0) : openN N g < openN N f :=
  count_lt (fun x _ hx => by
    have hx : g x = 0 := of_decide_eq_true hx
    by_cases e : f x = 0
    · exact decide_eq_true e
    · rw [h x e] at hx; exact absurd hx e) (mem_allN.2 hn) (decide_eq_true h0) (decide_eq_false h1)
theorem hear_out {n k : Int} (h : k ≠ n) : hear S sure f n k = f k := by unfold hear setF; rw [if_neg h]
theorem hears_out : ∀ (o : List Int) (f : Int → Nat) (k : Int), k ∉ o → hears S sure f o k = f k
  | [], _, _, _ => rfl
  | n :: r, f, k, h => by
    have e : hears S sure f (n :: r) = hears S sure (hear S sure f n) r := rfl
    rw [e, hears_out r _ k (fun h' => h (List.mem_cons_of_mem _ h')), hear_out (fun e => h (by rw [e]; exact List.mem_cons_self))]
theorem round_less (h : round S sure N f ≠ f) : openN N (round S sure N f) < openN N f := by
  have hh : Has f (round S sure N f) := has_hears _ _
  have : ∃ n : Int, round S sure N f n ≠ f n := Classical.byContradiction fun hn => h (funext fun n => Classical.byContradiction fun e => hn ⟨n, e⟩)
  obtain ⟨n, hn⟩ := this
  have h0 : f n = 0 := Classical.byContradiction fun e => hn (hh n e)
  have hr : 0 ≤ n ∧ n < N := Classical.byContradiction fun e => hn (hears_out _ _ _ fun h' => e (mem_allN.1 h'))
  exact open_less hh hr h0 (by rw [h0] at hn; exact hn)
def rounds (S : List (Int × Int)) (sure : Int → Bool) (N : Nat) : Nat → (Int → Nat) → Int → Nat
  | 0, f => f
  | k + 1, f => rounds S sure N k (round S sure N f)
theorem rounds_fix : ∀ (k : Nat) (f : Int → Nat), openN N f ≤ k → round S sure N (rounds S sure N k f) = rounds S sure N k f
  | 0, f, h => by
    show round S sure N f = f
    exact Classical.byContradiction fun e => by have := round_less e; omega
  | k + 1, f, h => by
    show round S sure N (rounds S sure N k (round S sure N f)) = rounds S sure N k (round S sure N f)
    by_cases e : round S sure N f = f
    · rw [e]
      by_cases h1 : openN N f ≤ k
      · exact rounds_fix k f h1
      · have : ∀ j, rounds S sure N j f = f := fun j => by
          induction j with
          | zero => rfl
          | succ j ih => show rounds S sure N j (round S sure N f) = f; rw [e]; exact ih
        rw [this]; exact e
    · exact rounds_fix k _ (by have := round_less e; omega)
theorem Reach.rounds (h : Reach S sure N f0 f) (k : Nat) : Reach S sure N f0 (rounds S sure N k f) := by
  induction k generalizing f with
  | zero => exact h
  | succ k ih => exact ih (h.step _ fun n hn => mem_allN.1 hn)
def award (S : List (Int × Int)) (sure : Int → Bool) (N : Nat) (f0 : Int → Nat) : Int → Nat := rounds S sure N N f0
theorem award_done (S : List (Int × Int)) (sure : Int → Bool) (N : Nat) (f0 : Int → Nat) : Done S sure N (award S sure N f0) := done_of_round (rounds_fix N f0 (open_le N f0))
theorem award_reach (S : List (Int × Int)) (sure : Int → Bool) (N : Nat) (f0 : Int → Nat) : Reach S sure N f0 (award S sure N f0) := (Reach.start S sure N f0).rounds N
theorem award_eq (h0 : Three f0) (h : Reach S sure N f0 f) (hd : Done S sure N f) : f = award S sure N f0 := h.unique h0 hd (award_reach S sure N f0) (award_done S sure N f0)

def atOnce (S : List (Int × Int)) (sure : Int → Bool) (N : Nat) (f : Int → Nat) : Int → Nat := fun n => if 0 ≤ n ∧ n < N then heard1 S sure f n else f n
theorem has_atOnce (S : List (Int × Int)) (sure : Int → Bool) (N : Nat) (f : Int → Nat) : Has f (atOnce S sure N f) := fun n hn => by
  by_cases hr : 0 ≤ n ∧ n < N
  · unfold atOnce; rw [if_pos hr]; unfold heard1; rw [if_neg hn]
  · unfold atOnce; rw [if_neg hr]
theorem atOnce_three (h : Three f) : Three (atOnce S sure N f) := fun n => by
  unfold atOnce
  split
  · exact heard_le h n
  · exact h n
theorem sound_atOnce (h : Sound S sure f0 f) (h3 : Three f) : Sound S sure f0 (atOnce S sure N f) := fun k hk => by
  have hh := has_atOnce S sure N f
  by_cases hk0 : f k = 0
  · by_cases hr : 0 ≤ k ∧ k < N
    · have e1 : atOnce S sure N f k = rule S sure f k := by unfold atOnce heard1; rw [if_pos hr, if_pos hk0]
      rw [e1] at hk ⊢
      exact .inr (rule_has hh hk h3)
    · have e1 : atOnce S sure N f k = f k := by unfold atOnce; rw [if_neg hr]
      rw [e1] at hk; exact absurd hk0 hk
  · rw [hh k hk0]
    rcases h k hk0 with h1 | h1
    · exact .inl h1
    · right
      rw [← h1]
      exact rule_has hh (by rw [h1]; exact hk0) h3
def manyOnce (S : List (Int × Int)) (sure : Int → Bool) (N : Nat) : Nat → (Int → Nat) → Int → Nat
  | 0, f => f
  | k + 1, f => manyOnce S sure N k (atOnce S sure N f)
theorem atOnce_done (h : atOnce S sure N f = f) : Done S sure N f := fun n h1 h2 h0 => by
  have := congrFun h n
  unfold atOnce heard1 at this
  rw [if_pos ⟨h1, h2⟩, if_pos h0] at this
  rw [this, h0]
theorem atOnce_less (h : atOnce S sure N f ≠ f) : openN N (atOnce S sure N f) < openN N f := by
  have hh := has_atOnce S sure N f
  have : ∃ n : Int, atOnce S sure N f n ≠ f n := Classical.byContradiction fun hn => h (funext fun n => Classical.byContradiction fun e => hn ⟨n, e⟩)
  obtain ⟨n, hn⟩ := this
  have h0 : f n = 0 := Classical.byContradiction fun e => hn (hh n e)
  have hr : 0 ≤ n ∧ n < N := Classical.byContradiction fun e => hn (by unfold atOnce; rw [if_neg e])
  exact open_less hh hr h0 (by rw [h0] at hn; exact hn)
theorem many_fix : ∀ (k : Nat) (f : Int → Nat), openN N f ≤ k → Done S sure N (manyOnce S sure N k f)
  | 0, f, h => atOnce_done (f := f) (Classical.byContradiction fun e => by have := atOnce_less (f := f) e; omega)
  | k + 1, f, h => by
    by_cases e : atOnce S sure N f = f
    · have : ∀ j, manyOnce S sure N j f = f := fun j => by
        induction j with
        | zero => rfl
        | succ j ih => show manyOnce S sure N j (atOnce S sure N f) = f; rw [e]; exact ih
      rw [this]
      exact atOnce_done e
    · exact many_fix k _ (by have := atOnce_less e; omega)
theorem many_sound : ∀ (k : Nat) (f : Int → Nat), Three f → Sound S sure f0 f → Sound S sure f0 (manyOnce S sure N k f) ∧ Three (manyOnce S sure N k f)
  | 0, _, h3, h => ⟨h, h3⟩
  | k + 1, _, h3, h => many_sound k _ (atOnce_three h3) (sound_atOnce h h3)
theorem many_has : ∀ (k : Nat) (f : Int → Nat), Has f (manyOnce S sure N k f)
  | 0, f => Has.refl f
  | k + 1, f => (has_atOnce S sure N f).trans (many_has k _)
theorem atOnce_has (hg : Done S sure N g) (hs : Sound S sure f0 g) (hst : ∀ n, f0 n ≠ 0 → f n ≠ 0) (h3 : Three f) (h : Has f g) : Has (atOnce S sure N f) g := fun k hk => by
  by_cases hk0 : f k = 0
  · by_cases hr : 0 ≤ k ∧ k < N
    · have e : atOnce S sure N f k = hear S sure f k k := by unfold atOnce hear setF; rw [if_pos hr, if_pos rfl]
      rw [e] at hk ⊢
      exact has_of hg h h3 (fun n _ _ => hs n) k hr (by
        by_cases e : f0 k = 0
        · exact .inl e
        · exact .inr (hst k e)) k hk
    · have e : atOnce S sure N f k = f k := by unfold atOnce; rw [if_neg hr]
      rw [e] at hk; exact absurd hk0 hk
  · rw [has_atOnce S sure N f k hk0]
    exact h k hk0
theorem many_le (hg : Done S sure N g) (hs : Sound S sure f0 g) : ∀ (k : Nat) (f : Int → Nat), (∀ n, f0 n ≠ 0 → f n ≠ 0) → Three f → Has f g → Has (manyOnce S sure N k f) g
  | 0, _, _, _, h => h
  | k + 1, f, hst, h3, h => many_le hg hs k _ (fun n hn => by
      have := hst n hn
      rw [has_atOnce S sure N f n this]; exact this) (atOnce_three h3) (atOnce_has hg hs hst h3 h)
theorem many_award (h0 : Three f0) {k : Nat} (hk : N ≤ k) : manyOnce S sure N k f0 = award S sure N f0 := by
  have hd := many_fix (S := S) (sure := sure) (N := N) k f0 (Nat.le_trans (open_le N f0) hk)
  have hs := (many_sound (S := S) (sure := sure) (N := N) (f0 := f0) k f0 h0 (sound_start _ _ _)).1
  have ha := award_reach S sure N f0
  exact has_both (many_le (award_done S sure N f0) (ha.sound h0) k f0 (fun _ h => h) h0 ha.has) (ha.le h0 hd hs (many_has k f0))

def nextR (S : List (Int × Int)) (sure : Int → Bool) (r : Int → Nat) (n : Int) : Nat := S.foldl (fun m s => if decide (s.2 = n) && !sure n then max m (r s.1 + 1) else m) 1
theorem foldl_max_ge : ∀ (L : List (Int × Int)) (p : Int × Int → Bool) (v : Int × Int → Nat) (m : Nat), m ≤ L.foldl (fun m s => if p s then max m (v s) else m) m ∧ ∀ s ∈ L, p s = true → v s ≤ L.foldl (fun m s => if p s then max m (v s) else m) m
  | [], _, _, m => ⟨Nat.le_refl _, fun s h => by cases h⟩
  | x :: L, p, v, m => by
    obtain ⟨h1, h2⟩ := foldl_max_ge L p v (if p x then max m (v x) else m)
    rw [List.foldl_cons]
    refine ⟨Nat.le_trans (by split <;> omega) h1, fun s hs hp => ?_⟩
    rcases List.mem_cons.1 hs with rfl | hs
    · exact Nat.le_trans (by rw [if_pos hp]; omega) h1
    · exact h2 s hs hp
theorem foldl_max_le : ∀ (L : List (Int × Int)) (p : Int × Int → Bool) (v : Int × Int → Nat) (m b : Nat), m ≤ b → (∀ s ∈ L, p s = true → v s ≤ b) → L.foldl (fun m s => if p s then max m (v s) else m) m ≤ b
  | [], _, _, _, _, h, _ => h
  | x :: L, p, v, m, b, h, h2 => by
    rw [List.foldl_cons]
    refine foldl_max_le L p v _ b ?_ fun s hs => h2 s (List.mem_cons_of_mem _ hs)
    by_cases hp : p x = true
    · rw [if_pos hp]; have := h2 x List.mem_cons_self hp; omega
    · rw [if_neg hp]; exact h
theorem next_ge {r : Int → Nat} {n : Int} (hs : sure n = false) {s : Int × Int} (h : s ∈ S) (h2 : s.2 = n) : r s.1 + 1 ≤ nextR S sure r n :=
  (foldl_max_ge S (fun s => decide (s.2 = n) && !sure n) (fun s => r s.1 + 1) 1).2 s h (by simp [h2, hs])
theorem next_pos (S : List (Int × Int)) (sure : Int → Bool) (r : Int → Nat) (n : Int) : 1 ≤ nextR S sure r n := (foldl_max_ge S (fun s => decide (s.2 = n) && !sure n) (fun s => r s.1 + 1) 1).1
theorem next_le {r : Int → Nat} {n : Int} {b : Nat} (hb : 1 ≤ b) (h : ∀ s ∈ S, s.2 = n → sure n = false → r s.1 + 1 ≤ b) : nextR S sure r n ≤ b :=
  foldl_max_le S _ _ 1 b hb fun s hs hp => by
    simp only [Bool.and_eq_true, decide_eq_true_eq, Bool.not_eq_true'] at hp
    exact h s hs hp.1 hp.2
def hearR (S : List (Int × Int)) (sure : Int → Bool) (x : (Int → Nat) × (Int → Nat)) (n : Int) : (Int → Nat) × (Int → Nat) :=
  if x.1 n = 0 ∧ rule S sure x.1 n ≠ 0 then (setF x.1 n (rule S sure x.1 n), setF x.2 n (nextR S sure x.2 n)) else x
theorem hearR_fst (S : List (Int × Int)) (sure : Int → Bool) (x : (Int → Nat) × (Int → Nat)) (n : Int) : (hearR S sure x n).1 = hear S sure x.1 n := by
  unfold hearR hear heard1
  by_cases h0 : x.1 n = 0
  · rw [if_pos h0]
    by_cases h1 : rule S sure x.1 n = 0
    · rw [if_neg (fun h => h.2 h1)]
      funext k
      unfold setF
      by_cases e : k = n
      · rw [if_pos e, h1, e, h0]
      · rw [if_neg e]
    · rw [if_pos ⟨h0, h1⟩]
  · rw [if_neg (fun h => h0 h.1), if_neg h0]
    funext k
    unfold setF
    by_cases e : k = n
    · rw [if_pos e, e]
    · rw [if_neg e]
def hearsR (S : List (Int × Int)) (sure : Int → Bool) (x : (Int → Nat) × (Int → Nat)) (o : List Int) : (Int → Nat) × (Int → Nat) := o.foldl (hearR S sure) x
theorem hearsR_fst : ∀ (o : List Int) (x : (Int → Nat) × (Int → Nat)), (hearsR S sure x o).1 = hears S sure x.1 o
  | [], _ => rfl
  | n :: r, x => by
    show (hearsR S sure (hearR S sure x n) r).1 = hears S sure (hear S sure x.1 n) r
    rw [hearsR_fst r, hearR_fst]

structure RankOk (S : List (Int × Int)) (sure : Int → Bool) (N : Nat) (f0 : Int → Nat) (x : (Int → Nat) × (Int → Nat)) : Prop where
  three : Three x.1
  zero : ∀ n, x.1 n = 0 → x.2 n = 0
  old : ∀ n, f0 n ≠ 0 → x.1 n = f0 n ∧ x.2 n = 0
  up : ∀ n, f0 n = 0 → x.1 n = 1 → 1 ≤ x.2 n ∧ ∀ s ∈ S, s.2 = n → sure n = false → x.1 s.1 = 2 ∧ x.2 s.1 < x.2 n
  down : ∀ n, f0 n = 0 → x.1 n = 2 → sure n = false ∧ ∃ s ∈ S, s.2 = n ∧ x.1 s.1 = 1 ∧ x.2 s.1 < x.2 n
  few : ∀ n, x.2 n + openN N x.1 ≤ N
theorem RankOk.start (h3 : Three f0) (N : Nat) : RankOk S sure N f0 (f0, fun _ => 0) :=
  ⟨h3, fun _ _ => rfl, fun _ _ => ⟨rfl, rfl⟩, fun n h (h1 : f0 n = 1) => by omega, fun n h (h1 : f0 n = 2) => by omega, fun n => by have := open_le N f0; simpa using this⟩
theorem RankOk.hear (h : RankOk S sure N f0 x) {n : Int} (hn : 0 ≤ n ∧ n < N) : RankOk S sure N f0 (hearR S sure x n) := by
  unfold hearR
  by_cases hc : x.1 n = 0 ∧ rule S sure x.1 n ≠ 0
  · rw [if_pos hc]
    obtain ⟨h0, h1⟩ := hc
    have hr := rule_le S sure x.1 n
    have hfo : f0 n = 0 := Classical.byContradiction fun e => by have := (h.old n e).1; omega
    have keep : ∀ k, x.1 k ≠ 0 → setF x.1 n (rule S sure x.1 n) k = x.1 k ∧ setF x.2 n (nextR S sure x.2 n) k = x.2 k := fun k hk => by
      have e : k ≠ n := fun e => by rw [e] at hk; exact hk h0
      unfold setF; rw [if_neg e, if_neg e]; exact ⟨rfl, rfl⟩
    have at1 : setF x.1 n (rule S sure x.1 n) n = rule S sure x.1 n := by unfold setF; rw [if_pos rfl]
    have at2 : setF x.2 n (nextR S sure x.2 n) n = nextR S sure x.2 n := by unfold setF; rw [if_pos rfl]
    have ne1 : ∀ k, k ≠ n → setF x.1 n (rule S sure x.1 n) k = x.1 k ∧ setF x.2 n (nextR S sure x.2 n) k = x.2 k := fun k e => by unfold setF; rw [if_neg e, if_neg e]; exact ⟨rfl, rfl⟩
    refine ⟨fun k => ?_, fun k hk => ?_, fun k hk => ?_, fun k hk h1' => ?_, fun k hk h2' => ?_, fun k => ?_⟩
    · show setF x.1 n _ k ≤ 2
      unfold setF; split
      · exact hr
      · exact h.three k
    · by_cases e : k = n
      · subst e
        have hk : setF x.1 k (rule S sure x.1 k) k = 0 := hk
        rw [at1] at hk; exact absurd hk h1
      · have hk : setF x.1 n (rule S sure x.1 n) k = 0 := hk
        rw [(ne1 k e).1] at hk
        show setF x.2 n _ k = 0
        rw [(ne1 k e).2]; exact h.zero k hk
    · obtain ⟨a, b⟩ := h.old k hk
      obtain ⟨c, d⟩ := keep k (by rw [a]; exact hk)
      exact ⟨c.trans a, d.trans b⟩
    · by_cases e : k = n
      · subst e
        have h1' : setF x.1 k (rule S sure x.1 k) k = 1 := h1'
        rw [at1] at h1'
        refine ⟨by show 1 ≤ setF x.2 k _ k; rw [at2]; exact next_pos _ _ _ _, fun s hs h2 hsu => ?_⟩
        have hfree : x.1 s.1 = 2 := by
          have a1 : x.1 s.1 ≠ 1 := fun e => by
            unfold rule at h1'
            rw [if_pos (struck_iff.2 ⟨hsu, s, hs, h2, e⟩)] at h1'; cases h1'
          have a0 : x.1 s.1 ≠ 0 := fun e => by
            unfold rule at h1'
            by_cases q : struckB S sure x.1 k 1 = true
            · rw [if_pos q] at h1'; cases h1'
            · rw [if_neg q, if_pos (struck_iff.2 ⟨hsu, s, hs, h2, e⟩)] at h1'; cases h1'
          have := h.three s.1
          omega
        obtain ⟨c, d⟩ := keep s.1 (by rw [hfree]; decide)
        refine ⟨c.trans hfree, ?_⟩
        show setF x.2 k _ s.1 < setF x.2 k _ k
        rw [d, at2]
        exact next_ge hsu hs h2
      · have h1' : setF x.1 n (rule S sure x.1 n) k = 1 := h1'
        rw [(ne1 k e).1] at h1'
        obtain ⟨a, b⟩ := h.up k hk h1'
        refine ⟨by show 1 ≤ setF x.2 n _ k; rw [(ne1 k e).2]; exact a, fun s hs h2 hsu => ?_⟩
        obtain ⟨b1, b2⟩ := b s hs h2 hsu
        obtain ⟨c, d⟩ := keep s.1 (by rw [b1]; decide)
        refine ⟨c.trans b1, ?_⟩
        show setF x.2 n _ s.1 < setF x.2 n _ k
        rw [d, (ne1 k e).2]; exact b2
    · by_cases e : k = n
      · subst e
        have h2' : setF x.1 k (rule S sure x.1 k) k = 2 := h2'
        rw [at1] at h2'
        have hst : struckB S sure x.1 k 1 = true := Classical.byContradiction fun q => by
          unfold rule at h2'
          rw [if_neg q] at h2'
          split at h2' <;> cases h2'
        obtain ⟨hsu, s, hs, e1, e2⟩ := struck_iff.1 hst
        obtain ⟨c, d⟩ := keep s.1 (by rw [e2]; decide)
        refine ⟨hsu, s, hs, e1, c.trans e2, ?_⟩
        show setF x.2 k _ s.1 < setF x.2 k _ k
        rw [d, at2]
        exact next_ge hsu hs e1
      · have h2' : setF x.1 n (rule S sure x.1 n) k = 2 := h2'
        rw [(ne1 k e).1] at h2'
        obtain ⟨hsu, s, hs, e1, e2, e3⟩ := h.down k hk h2'
        obtain ⟨c, d⟩ := keep s.1 (by rw [e2]; decide)
        refine ⟨hsu, s, hs, e1, c.trans e2, ?_⟩
        show setF x.2 n _ s.1 < setF x.2 n _ k
        rw [d, (ne1 k e).2]; exact e3
    · have hhas : Has x.1 (setF x.1 n (rule S sure x.1 n)) := fun k hk => (keep k hk).1
      have hlt := open_less (N := N) hhas hn h0 (by rw [at1]; exact h1)
      show setF x.2 n _ k + openN N (setF x.1 n _) ≤ N
      by_cases e : k = n
      · subst e
        rw [at2]
        have hop : 1 ≤ openN N x.1 := Nat.lt_of_le_of_lt (Nat.zero_le _) hlt
        have hN : openN N x.1 ≤ N := open_le N x.1
        have := next_le (S := S) (sure := sure) (r := x.2) (n := k) (b := N + 1 - openN N x.1) (by omega) fun s _ _ _ => by have := h.few s.1; omega
        omega
      · rw [(ne1 k e).2]
        have := h.few k
        omega
  · rw [if_neg hc]; exact h
theorem RankOk.hears (h : RankOk S sure N f0 x) : ∀ (o : List Int), (∀ n ∈ o, 0 ≤ n ∧ n < N) → RankOk S sure N f0 (hearsR S sure x o) := by
  intro o
  induction o generalizing x with
  | nil => exact fun _ => h
  | cons n r ih => exact fun ho => ih (h.hear (ho n List.mem_cons_self)) fun k hk => ho k (List.mem_cons_of_mem _ hk)

def HeldP (S : List (Int × Int)) (sure ref : Int → Bool) (f r : Int → Nat) (n : Int) : Prop :=
  if ref n then f n = 2 ∧ r n = 0 else if f n = 0 then r n = 0 ∧ struckB S sure f n 1 = false ∧ struckB S sure f n 0 = true else if f n = 1 then struckB S sure f n 1 = false ∧ struckB S sure f n 0 = false ∧ nextR S sure r n ≤ r n
  else sure n = false ∧ ∃ s ∈ S, s.2 = n ∧ f s.1 = 1 ∧ r s.1 < r n
def begF (ref : Int → Bool) : Int → Nat := fun n => if ref n then 2 else 0
theorem begF_three (ref : Int → Bool) : Three (begF ref) := fun n => by unfold begF; split <;> omega
theorem rule_zero {n : Int} : rule S sure f n = 0 ↔ struckB S sure f n 1 = false ∧ struckB S sure f n 0 = true := by
  unfold rule
  cases struckB S sure f n 1 <;> cases struckB S sure f n 0 <;> simp
theorem rule_one {n : Int} : rule S sure f n = 1 ↔ struckB S sure f n 1 = false ∧ struckB S sure f n 0 = false := by
  unfold rule
  cases struckB S sure f n 1 <;> cases struckB S sure f n 0 <;> simp
theorem rule_two {n : Int} : rule S sure f n = 2 ↔ struckB S sure f n 1 = true := by
  unfold rule
  cases struckB S sure f n 1 <;> cases struckB S sure f n 0 <;> simp
theorem ranks_hold {ref : Int → Bool} {x : (Int → Nat) × (Int → Nat)} (h : RankOk S sure N (begF ref) x) (hd : Done S sure N x.1) {n : Int} (hn : 0 ≤ n ∧ n < N) : HeldP S sure ref x.1 x.2 n := by
  unfold HeldP
  by_cases hr : ref n = true
  · rw [if_pos hr]
    have := h.old n (by unfold begF; rw [if_pos hr]; decide)
    unfold begF at this
    rw [if_pos hr] at this
    exact this
  · rw [if_neg hr]
    have hb : begF ref n = 0 := by unfold begF; rw [if_neg hr]
    by_cases h0 : x.1 n = 0
    · rw [if_pos h0]
      have := rule_zero.1 (hd n hn.1 hn.2 h0)
      exact ⟨h.zero n h0, this.1, this.2⟩
    · rw [if_neg h0]
      by_cases h1 : x.1 n = 1
      · rw [if_pos h1]
        obtain ⟨a, b⟩ := h.up n hb h1
        refine ⟨?_, ?_, next_le a fun s hs h2 hsu => (b s hs h2 hsu).2⟩
        · cases q : struckB S sure x.1 n 1 with
          | false => rfl
          | true =>
            obtain ⟨hsu, s, hs, e1, e2⟩ := struck_iff.1 q
            have := (b s hs e1 hsu).1; omega
        · cases q : struckB S sure x.1 n 0 with
          | false => rfl
          | true =>
            obtain ⟨hsu, s, hs, e1, e2⟩ := struck_iff.1 q
            have := (b s hs e1 hsu).1; omega
      · rw [if_neg h1]
        have := h.three n
        exact h.down n hb (by omega)
theorem held_award {ref : Int → Bool} {r : Int → Nat} (h3 : Three f) (hout : ∀ n : Int, ¬ (0 ≤ n ∧ n < N) → f n = 0) (hS : ∀ s ∈ S, 0 ≤ s.1 ∧ s.1 < N) (href : ∀ n, ref n = true → 0 ≤ n ∧ n < N) (h : ∀ n : Int, 0 ≤ n ∧ n < N → HeldP S sure ref f r n) : f = award S sure N (begF ref) := by
  have hb3 := begF_three ref
  have ha := award_reach S sure N (begF ref)
  have hd := award_done S sure N (begF ref)
  have hsd := ha.sound hb3
  have hh := ha.has
  generalize award S sure N (begF ref) = a at *
  have begz : ∀ n, ref n ≠ true → begF ref n = 0 := fun n hn => by unfold begF; rw [if_neg hn]
  have begt : ∀ n, ref n = true → begF ref n = 2 := fun n hn => by unfold begF; rw [if_pos hn]
  have settle : ∀ n : Int, 0 ≤ n ∧ n < N → ref n ≠ true → ∀ v, v ≠ 0 → rule S sure a n = v → a n = v := fun n hn hr v hv hrule => by
    by_cases e : a n = 0
    · have := hd n hn.1 hn.2 e
      rw [hrule] at this; exact absurd this hv
    · rcases hsd n e with h1 | h1
      · rw [begz n hr] at h1; exact absurd h1.symm e
      · rw [← h1, hrule]
  have up : ∀ k : Nat, ∀ n : Int, 0 ≤ n ∧ n < N → f n ≠ 0 → r n < k → a n = f n := by
    intro k
    induction k with
    | zero => intro n _ _ h; omega
    | succ k ih =>
      intro n hn hf hk
      have hp := h n hn
      unfold HeldP at hp
      by_cases hr : ref n = true
      · rw [if_pos hr] at hp
        rw [hh n (by rw [begt n hr]; decide), begt n hr, hp.1]
      · rw [if_neg hr, if_neg hf] at hp
        by_cases h1 : f n = 1
        · rw [if_pos h1] at hp
          rw [h1]
          refine settle n hn hr 1 (by decide) (rule_one.2 ?_)
          have key : ∀ s ∈ S, s.2 = n → sure n = false → a s.1 = 2 := fun s hs h2 hsu => by
            have f2 : f s.1 = 2 := by
              have q1 : f s.1 ≠ 1 := fun e => by rw [struck_iff.2 ⟨hsu, s, hs, h2, e⟩] at hp; exact absurd hp.1 (by decide)
              have q0 : f s.1 ≠ 0 := fun e => by rw [struck_iff.2 ⟨hsu, s, hs, h2, e⟩] at hp; exact absurd hp.2.1 (by decide)
              have := h3 s.1; omega
            have hlt := next_ge (r := r) hsu hs h2
            rw [ih s.1 (hS s hs) (by rw [f2]; decide) (by omega), f2]
          constructor
          · cases q : struckB S sure a n 1 with
            | false => rfl
            | true =>
              obtain ⟨hsu, s, hs, e1, e2⟩ := struck_iff.1 q
              have := key s hs e1 hsu; omega
          · cases q : struckB S sure a n 0 with
            | false => rfl
            | true =>
              obtain ⟨hsu, s, hs, e1, e2⟩ := struck_iff.1 q
              have := key s hs e1 hsu; omega
        · rw [if_neg h1] at hp
          obtain ⟨hsu, s, hs, e1, e2, e3⟩ := hp
          have hf2 : f n = 2 := by have := h3 n; omega
          rw [hf2]
          refine settle n hn hr 2 (by decide) (rule_two.2 (struck_iff.2 ⟨hsu, s, hs, e1, ?_⟩))
          rw [ih s.1 (hS s hs) (by rw [e2]; decide) (by omega), e2]
  have h1 : Has f a := fun n hn => by
    by_cases hr : 0 ≤ n ∧ n < N
    · exact up (r n + 1) n hr hn (by omega)
    · exact absurd (hout n hr) hn
  have fd : Done S sure N f := fun n n0 n1 hz => by
    have hp := h n ⟨n0, n1⟩
    unfold HeldP at hp
    by_cases hr : ref n = true
    · rw [if_pos hr] at hp; have := hp.1; omega
    · rw [if_neg hr, if_pos hz] at hp
      exact rule_zero.2 ⟨hp.2.1, hp.2.2⟩
  have fs : Sound S sure (begF ref) f := fun n hn => by
    have hr : 0 ≤ n ∧ n < N := Classical.byContradiction fun e => hn (hout n e)
    have hp := h n hr
    unfold HeldP at hp
    by_cases hrf : ref n = true
    · rw [if_pos hrf] at hp; exact .inl ((begt n hrf).trans hp.1.symm)
    · rw [if_neg hrf, if_neg hn] at hp
      right
      by_cases h1 : f n = 1
      · rw [if_pos h1] at hp; rw [h1]; exact rule_one.2 ⟨hp.1, hp.2.1⟩
      · rw [if_neg h1] at hp
        obtain ⟨hsu, s, hs, e1, e2, -⟩ := hp
        have hf2 : f n = 2 := by have := h3 n; omega
        rw [hf2]
        exact rule_two.2 (struck_iff.2 ⟨hsu, s, hs, e1, e2⟩)
  have f0f : Has (begF ref) f := fun n hn => by
    by_cases hrf : ref n = true
    · have hp := h n (href n hrf)
      unfold HeldP at hp
      rw [if_pos hrf] at hp
      rw [hp.1, begt n hrf]
    · exact absurd (begz n hrf) hn
  exact has_both h1 (ha.le hb3 fd fs f0f)
end
end Court
end
