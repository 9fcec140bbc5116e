/- Own texts, merged: CtB0 CtB1 CtB PAw PSt PSo PDe PNm CtC0 WkD CtC CtD CtRa CtE. -/
import Derived.Test.YtbchfakfdikkjaaP02
import Derived.Maps.OwnSet
import Derived.DeepKeys4
import Derived.Deep.MidRow
import Derived.Handy
import Derived.BigGuard
import Derived.Deep.CutRange
set_option linter.unusedSimpArgs false
set_option linter.unusedVariables false
set_option linter.unnecessarySimpa false
section
namespace Go.Proofs
open Go.RowKit Go.Maps Go.WideMaps

def strV (s : Int × Int) : Value := .agg #[.int .i64 s.1, .int .i64 s.2]
def SmallS (s : Int × Int) : Prop := (0 ≤ s.1 ∧ s.1 ≤ 13) ∧ (0 ≤ s.2 ∧ s.2 ≤ 13)
theorem strV_inj {s t : Int × Int} (h : strV s = strV t) : s = t := by
  unfold strV at h
  obtain ⟨a, b⟩ := s
  obtain ⟨c, d⟩ := t
  simpa using h

theorem laidOutZ : laidOutB Try.prog = true := by kernel_rfl
theorem rowZ57 : (56 : TypeId) < Try.prog.types.size := of_decide_eq_true (by kernel_rfl)
theorem keyZ57 : Try.prog.keyTypeAt 2 56 = true := by kernel_rfl
theorem strKeyed : Keyed Try.prog 56 := Keyed.of_law (deep_law_laid laidOutZ (m := 2) (Nat.le_of_ble_eq_true (by kernel_rfl)) rowZ57 keyZ57 (by rw [Try.underlying56]))
theorem keysOk_true : ((List.range 14).all fun a => (List.range 14).all fun b => (keyOf Try.prog 56 (.agg #[.int .i64 (a : Int), .int .i64 (b : Int)])).isSome) = true := by kernel_rfl
theorem SmallS.key {s : Int × Int} (h : SmallS s) : ∃ kl, keyOf Try.prog 56 (strV s) = some kl := by
  obtain ⟨⟨h1, h2⟩, h3, h4⟩ := h
  have := keysOk_true
  have := List.all_eq_true.1 this s.1.toNat (List.mem_range.2 (by omega))
  have := List.all_eq_true.1 this s.2.toNat (List.mem_range.2 (by omega))
  rw [Int.toNat_of_nonneg h1, Int.toNat_of_nonneg h3] at this
  exact Option.isSome_iff_exists.1 this

def SetS (W : World) (b n : Nat) (S : List (Int × Int)) : Prop :=
  ∃ D : DataW Unit, W.ownsMap Try.prog 56 (plainElem Try.prog 4) b n D ∧ ∀ s kl, SmallS s → keyOf Try.prog 56 (strV s) = some kl → D.atKey kl (.lit (.bool false)) = .lit (.bool (decide (s ∈ S)))
theorem SetS.made (W : World) : SetS (W.alloc (.map #[] 0)) W.heap.size 0 [] := ⟨_, World.ownsMap_made _ _ _ _, fun l _ _ _ => by simp [WideAt.atKey_nil, DataW.atKey]⟩
theorem SetS.kept {W W' : World} {b n : Nat} {S : List (Int × Int)} (h : SetS W b n S) {row : Option Nat} (hg : W.grownBy W' row) (hne : some b ≠ row) : SetS W' b n S := let ⟨D, h1, h2⟩ := h; ⟨D, h1.kept hg hne, h2⟩
theorem SetS.aft {W W' : World} {b n : Nat} {S : List (Int × Int)} (h : SetS W b n S) (ha : Aft W W') : SetS W' b n S := h.kept (only_aft (only_refl W none) ha) (by simp)
theorem SetS.look {W : World} {b n : Nat} {S : List (Int × Int)} (h : SetS W b n S) {s : Int × Int} (hs : SmallS s) : (Instr.lookup 63 (.map (some b)) (strV s) false).run Try.prog W = .ok (.bool (decide (s ∈ S))) W := by
  obtain ⟨D, h1, h2⟩ := h
  obtain ⟨kl, hk⟩ := hs.key
  obtain ⟨v, ps, hrun, hv⟩ := h1.lookup strKeyed (e := 4) (t := 63) Try.underlying63 (Try.zeroValue4 W) (plainElem_bool Try.underlying4 false) hk
  rw [h2 s kl hs hk] at hv
  have hv' : v = .bool (decide (s ∈ S)) := by
    unfold plainElem at hv
    cases v <;> simp_all [Try.underlying4]
  rw [hrun, hv']
theorem SetS.put {W : World} {b n : Nat} {S : List (Int × Int)} (h : SetS W b n S) {s : Int × Int} (hs : SmallS s) (hn : n < 1000000) : ∃ w', (Instr.mapUpdate 63 (.map (some b)) (strV s) (.bool true)).run Try.prog W = .ok () w' ∧ SetS w' b (n + 1) (S ++ [s]) ∧ W.grownBy w' (some b) := by
  obtain ⟨D, h1, h2⟩ := h
  obtain ⟨kl, hk⟩ := hs.key
  obtain ⟨w', hrun, h3, h4⟩ := h1.update strKeyed (e := 4) (t := 63) Try.underlying63 (by unfold maxLen; omega) hk (plainElem_bool Try.underlying4 true)
  refine ⟨w', hrun, ⟨_, h3, fun s' kl' hs' hk' => ?_⟩, h4⟩
  by_cases e : s' = s
  · subst e
    rw [hk] at hk'
    cases hk'
    rw [atKey_put_same h1.isMap (strKeyed.key hk)]
    simp
  · have hne : kl' ≠ kl := fun e' => e (by
      subst e'
      exact strV_inj (strKeyed.inj hk' hk))
    rw [atKey_put_other hne, h2 s' kl' hs' hk']
    have : decide (s' ∈ S ++ [s]) = decide (s' ∈ S) := by simp [e]
    rw [this]
end Go.Proofs
end

section
namespace Go.Proofs
open Go.RowKit

def surveysE (N : Int) : List (List Int) → Int
  | [] => 0
  | l :: r => if fromB l.length 1 6 then (if listedE N l = 0 then surveysE N r else listedE N l) else 3
def inB (N : Int) (s : Int × Int) : Bool := Cl s.1 N && Cl s.2 N
def caseE (C : CaseL) : Int :=
  if !fromB C.claims 1 14 || decide (60 < C.strikes.length) || decide (6 < C.surveys.length) then 3
  else if !C.strikes.all (inB C.claims) then 2
  else if ¬ C.strikes.Nodup then 6
  else surveysE C.claims C.surveys

theorem fromB_iff {n a b : Int} : fromB n a b = true ↔ a ≤ n ∧ n ≤ b := by unfold fromB; simp
theorem Cl_iff {n N : Int} : Cl n N = true ↔ 0 ≤ n ∧ n < N := by unfold Cl; rw [fromB_iff]; omega
theorem inB_iff {N : Int} {s : Int × Int} : inB N s = true ↔ (0 ≤ s.1 ∧ s.1 < N) ∧ (0 ≤ s.2 ∧ s.2 < N) := by unfold inB; rw [Bool.and_eq_true, Cl_iff, Cl_iff]

structure CaseOk (C : CaseL) : Prop where
  n1 : 1 ≤ C.claims
  n2 : C.claims ≤ 14
  few : C.strikes.length ≤ 60
  fews : C.surveys.length ≤ 6
  ins : ∀ s ∈ C.strikes, (0 ≤ s.1 ∧ s.1 < C.claims) ∧ (0 ≤ s.2 ∧ s.2 < C.claims)
  once : C.strikes.Nodup
  svs : ∀ l ∈ C.surveys, (1 ≤ l.length ∧ l.length ≤ 6) ∧ listedE C.claims l = 0

theorem surveysE_ok {N : Int} : ∀ {L : List (List Int)}, surveysE N L = 0 → ∀ l ∈ L, (1 ≤ l.length ∧ l.length ≤ 6) ∧ listedE N l = 0
  | [], _, l, hl => by simp at hl
  | l :: r, h, l', hl => by
    unfold surveysE at h
    split at h
    · rename_i hf
      have hf := fromB_iff.1 hf
      split at h
      · rename_i he
        rcases List.mem_cons.1 hl with rfl | hl
        · exact ⟨by omega, he⟩
        · exact surveysE_ok h l' hl
      · rename_i he; exact absurd h he
    · cases h
theorem caseE_ok {C : CaseL} (h : caseE C = 0) : CaseOk C := by
  unfold caseE at h
  split at h
  · cases h
  rename_i h1
  split at h
  · cases h
  rename_i h2
  split at h
  · cases h
  rename_i h3
  simp only [Bool.or_eq_true, Bool.not_eq_true', decide_eq_true_eq, not_or, Bool.not_eq_false] at h1 h2
  obtain ⟨⟨a, b⟩, c⟩ := h1
  have a := fromB_iff.1 a
  refine ⟨a.1, a.2, by omega, by omega, fun s hs => inB_iff.1 (List.all_eq_true.1 h2 s hs), by simpa using h3, surveysE_ok h⟩

theorem runs_84 (args : Array Value) (w : World) : (callFunc 31 args).run Try.prog w = .ok (.enter 31 args) w := by simp [go_sem]

set_option maxHeartbeats 400000 in
theorem check1_any (x y N : Int) (a1 a2 : Option Addr) (n1 n2 c1 c2 b : Nat) (w : World) (hN : 1 ≤ N ∧ N ≤ 14) (hb : Blk w b 25 #[.int .i64 N, .slice a1 n1 c1, .slice a2 n2 c2]) :
    Calls Try.prog 31 #[.agg #[.int .i64 x, .int .i64 y], .pointer (some ⟨b, 0, none⟩)] w fun e w' => e = .returned (.bool (!Cl x N || !Cl y N)) ∧ Aft w w' := by
  have k0 := hb.cell 0
  have k1 := hb.cell 1
  have k2 := hb.cell 2
  have hlt := hb.lt
  simp only [List.getElem?_toArray, List.getElem?_cons_zero, List.getElem?_cons_succ] at k0 k1 k2
  have HB := Lib.hid hb
  clear hb
  go_enter Try.func31, Try.ntmps31
  cases h1 : Cl x N
  · have H1 := Lib.hid h1
    clear h1
    go_wp2_with (go_at_call 32; refine (strange_any N x a1 a2 n1 n2 c1 c2 _ hN).mono ?_; rintro e w' ⟨rfl, u, rfl⟩; rw [H1.out])
    go_ret
    exact ⟨rfl, (Aft.alloc _ _).then_lat _⟩
  · have H1 := Lib.hid h1
    clear h1
    go_wp2_with (first | (go_at_call_of 32 (Value.int IntKind.i64 x); refine (strange_any N x a1 a2 n1 n2 c1 c2 _ hN).mono ?_; rintro e w' ⟨rfl, u, rfl⟩; rw [H1.out]) | (go_at_call_of 32 (Value.int IntKind.i64 y); refine (strange_any N y a1 a2 n1 n2 c1 c2 _ hN).mono ?_; rintro e w' ⟨rfl, u2, rfl⟩))
    go_ret
    exact ⟨rfl, ((Aft.alloc _ _).then_lat _).then_lat _⟩
theorem check1_asks (x y N : Int) (a1 a2 : Option Addr) (n1 n2 c1 c2 b : Nat) (w : World) (hN : 1 ≤ N ∧ N ≤ 14) (hb : Blk w b 25 #[.int .i64 N, .slice a1 n1 c1, .slice a2 n2 c2]) :
    Asks Try.prog 31 [.pointer (some ⟨b, 0, none⟩)] w (.agg #[.int .i64 x, .int .i64 y]) (!Cl x N || !Cl y N) := fun u => check1_any x y N a1 a2 n1 n2 c1 c2 b _ hN (hb.lat u)

theorem none_check1 (N : Int) (a1 a2 : Option Addr) (n1 n2 c1 c2 b : Nat) (A : Option Addr) (l : List (Int × Int)) (c : Nat) (w : World) (hN : 1 ≤ N ∧ N ≤ 14) (hb : Blk w b 25 #[.int .i64 N, .slice a1 n1 c1, .slice a2 n2 c2]) (hA : Strs w A l) :
    Calls Try.prog 30 #[.slice A l.length c, .func (.func 31) #[] #[.pointer (some ⟨b, 0, none⟩)]] w fun e w' => e = .returned (.bool (l.all (inB N))) ∧ Aft w w' :=
  (none_strike StrR 31 [.pointer (some ⟨b, 0, none⟩)] (fun s => !Cl s.1 N || !Cl s.2 N) A l c w hA runs_84 (fun s _ v0 v1 hv => by cases hv; exact check1_asks s.1 s.2 N a1 a2 n1 n2 c1 c2 b w hN hb)).mono
    fun _ _ ⟨h, ha⟩ => ⟨by rw [h]; exact ret_bool (by
      rw [List.all_eq_not_any_not]
      congr 1
      congr 1
      funext s
      unfold inB
      rw [Bool.not_and]), ha⟩
end Go.Proofs
end

section
namespace Go.Proofs
open Go.RowKit

set_option maxRecDepth 100000 in
set_option maxHeartbeats 2000000 in
theorem check_count (C : CaseL) (a1 a2 : Option Addr) (c1 c2 : Nat) (w : World) (hC : CRep w C a1 a2) (hbad : (!fromB C.claims 1 14 || decide (60 < C.strikes.length) || decide (6 < C.surveys.length)) = true) :
    Calls Try.prog 9 #[(.agg #[.int .i64 C.claims, .slice a1 C.strikes.length c1, .slice a2 C.surveys.length c2])] w fun e w' => e = .returned (.int .i64 3) ∧ Aft w w' := by
  have hl1 := hC.strikes.len
  have hl2 := hC.surveys.len
  clear hC
  go_enter Try.func9, Try.ntmps9
  cases h1 : fromB C.claims 1 14
  · have H1 := Lib.hid h1
    clear h1 hbad
    go_wp2_with (go_at_call 29; refine (from_any _ _ _).mono ?_; rintro e w' ⟨rfl, rfl⟩; rw [H1.out])
    refine wp_scope_straight ?_
    go_wp2_with (go_at_call 29; refine (from_any _ _ _ _).mono ?_; rintro e w' ⟨rfl, rfl⟩; rw [H1.out])
    simp only [Exit.noGoto_ret, Exit.inBlock, Exit.then]
    go_ret
    exact ⟨rfl, Aft.alloc _ _⟩
  · have H1 := Lib.hid h1
    rw [h1] at hbad
    by_cases h2 : 60 < C.strikes.length
    · have h2' : decide ((60 : Int) < C.strikes.length) = true := by simp; omega
      clear h1 hbad h2
      go_wp2_with fail
      refine wp_scope_straight ?_
      go_wp2_with (go_at_call 29; refine (from_any _ _ _ _).mono ?_; rintro e w' ⟨rfl, rfl⟩; rw [H1.out])
      simp only [Exit.noGoto_ret, Exit.inBlock, Exit.then]
      go_ret
      exact ⟨rfl, Aft.alloc _ _⟩
    · have h2' : decide ((60 : Int) < C.strikes.length) = false := by simp; omega
      have h3 : 6 < C.surveys.length := by simpa [h2] using hbad
      have h3' : decide ((6 : Int) < C.surveys.length) = true := by simp; omega
      clear h1 hbad h2 h3
      go_wp2_with fail
      refine wp_scope_straight ?_
      go_wp2_with (go_at_call 29; refine (from_any _ _ _ _).mono ?_; rintro e w' ⟨rfl, rfl⟩; rw [H1.out])
      simp only [Exit.noGoto_ret, Exit.inBlock, Exit.then]
      go_ret
      exact ⟨rfl, Aft.alloc _ _⟩

structure Counts (C : CaseL) : Prop where
  n : fromB C.claims 1 14 = true
  few : C.strikes.length ≤ 60
  fews : C.surveys.length ≤ 6
theorem Counts.nn {C : CaseL} (h : Counts C) : 1 ≤ C.claims ∧ C.claims ≤ 14 := fromB_iff.1 h.n

set_option maxRecDepth 100000 in
set_option maxHeartbeats 2000000 in
theorem check_arg (C : CaseL) (a1 a2 : Option Addr) (c1 c2 : Nat) (w : World) (hC : CRep w C a1 a2) (hn : Counts C) (hbad : C.strikes.all (inB C.claims) = false) :
    Calls Try.prog 9 #[(.agg #[.int .i64 C.claims, .slice a1 C.strikes.length c1, .slice a2 C.surveys.length c2])] w fun e w' => e = .returned (.int .i64 2) ∧ Aft w w' := by
  have H1 := Lib.hid hn.n
  have h2' : decide ((60 : Int) < C.strikes.length) = false := by have := hn.few; simp; omega
  have h3' : decide ((6 : Int) < C.surveys.length) = false := by have := hn.fews; simp; omega
  have hl1 := hC.strikes.len
  have hl2 := hC.surveys.len
  have HB := Lib.hid hbad
  have h0 : Aft w (w.alloc (.cells #[.int .i64 C.claims, .slice a1 C.strikes.length c1, .slice a2 C.surveys.length c2] 25)) := Aft.alloc _ _
  have HN : Hid (∀ w7, Aft (w.alloc (.cells #[.int .i64 C.claims, .slice a1 C.strikes.length c1, .slice a2 C.surveys.length c2] 25)) w7 → Calls Try.prog 30 #[.slice a1 C.strikes.length c1, .func (.func 31) #[] #[.pointer (some ⟨w.heap.size, 0, none⟩)]] w7 fun e w' => e = .returned (.bool (C.strikes.all (inB C.claims))) ∧ Aft w7 w') :=
    Lib.hid fun w7 h => none_check1 C.claims a1 a2 _ _ c1 c2 _ a1 C.strikes c1 w7 hn.nn ((Blk.new w 25 _).aft h) (hC.strikes.aft (h0.trans h))
  clear hC hn hbad
  rw [HB.out] at HN
  go_enter Try.func9, Try.ntmps9
  go_wp2_with fail
  refine wp_scope_straight ?_
  go_wp2_with (first | (go_at_call 29; refine (from_any _ _ _ _).mono ?_; rintro e w' ⟨rfl, rfl⟩; rw [H1.out]) | (go_at_call 30; refine (HN.out _ (Aft.refl _)).mono ?_; rintro e w' ⟨rfl, u, rfl⟩))
  simp only [Exit.noGoto_ret, Exit.inBlock, Exit.then]
  go_ret
  exact ⟨rfl, h0.then_lat _⟩


structure ChkL (C : CaseL) (a1 a2 : Option Addr) (c1 c2 : Nat) (w : World) (M k : Nat) (wr : World) : Prop where
  aft : Aft w wr
  box : Blk wr w.heap.size 25 #[.int .i64 C.claims, .slice a1 C.strikes.length c1, .slice a2 C.surveys.length c2]
  set : SetS wr M k (C.strikes.take k)
  lt : w.heap.size < M
theorem ChkL.later {C : CaseL} {a1 a2 : Option Addr} {c1 c2 : Nat} {w wr w' : World} {M k : Nat} (h : ChkL C a1 a2 c1 c2 w M k wr) (ha : Aft wr w') : ChkL C a1 a2 c1 c2 w M k w' :=
  ⟨h.aft.trans ha, h.box.aft ha, h.set.aft ha, h.lt⟩
theorem ChkL.put {C : CaseL} {a1 a2 : Option Addr} {c1 c2 : Nat} {w wr w' : World} {M k : Nat} (h : ChkL C a1 a2 c1 c2 w M k wr) (hk : k < C.strikes.length) (hs : SetS w' M (k + 1) (C.strikes.take k ++ [C.strikes[k]])) (hg : wr.grownBy w' (some M)) : ChkL C a1 a2 c1 c2 w M (k + 1) w' :=
  ⟨h.aft.grown hg (fun r e => by cases e; exact Nat.le_of_lt h.lt), h.box.grown hg (fun e => by cases e; exact Nat.lt_irrefl _ h.lt), by rw [List.take_succ_eq_append_getElem hk]; exact hs, h.lt⟩

theorem nodup_take_succ {l : List (Int × Int)} {k : Nat} (hk : k < l.length) (h : (l.take k).Nodup) (hn : l[k] ∉ l.take k) : (l.take (k + 1)).Nodup := by
  rw [List.take_succ_eq_append_getElem hk, List.nodup_append]
  refine ⟨h, by simp, fun a ha b hb => ?_⟩
  rw [List.mem_singleton] at hb
  subst hb
  rintro rfl
  exact hn ha
theorem nodup_of_take {l : List (Int × Int)} {k : Nat} (hk : k < l.length) (h : l.Nodup) : l[k] ∉ l.take k := by
  intro hm
  have h2 : (l.take (k + 1)).Nodup := h.sublist (List.take_sublist _ _)
  rw [List.take_succ_eq_append_getElem hk, List.nodup_append] at h2
  exact h2.2.2 _ hm _ (by simp) rfl

set_option maxRecDepth 100000 in
set_option maxHeartbeats 2000000 in
theorem check_twice (C : CaseL) (a1 a2 : Option Addr) (c1 c2 : Nat) (w : World) (hC : CRep w C a1 a2) (hn : Counts C) (hin : C.strikes.all (inB C.claims) = true) (hbad : ¬ C.strikes.Nodup) :
    Calls Try.prog 9 #[(.agg #[.int .i64 C.claims, .slice a1 C.strikes.length c1, .slice a2 C.surveys.length c2])] w fun e w' => e = .returned (.int .i64 6) ∧ Aft w w' := by
  have H1 := Lib.hid hn.n
  have h2' : decide ((60 : Int) < C.strikes.length) = false := by have := hn.few; simp; omega
  have h3' : decide ((6 : Int) < C.surveys.length) = false := by have := hn.fews; simp; omega
  have hl1 := hn.few
  have hl2 := hn.fews
  have HBAD := Lib.hid hbad
  have HIN := Lib.hid hin
  have HS : Hid (∀ k, (h : k < C.strikes.length) → SmallS C.strikes[k]) := Lib.hid fun k h => by
    have := inB_iff.1 (List.all_eq_true.1 hin _ (List.getElem_mem h))
    have := hn.nn
    exact ⟨by omega, by omega⟩
  have h0 : Aft w (w.alloc (.cells #[.int .i64 C.claims, .slice a1 C.strikes.length c1, .slice a2 C.surveys.length c2] 25)) := Aft.alloc _ _
  have HN : Hid (∀ w7, Aft (w.alloc (.cells #[.int .i64 C.claims, .slice a1 C.strikes.length c1, .slice a2 C.surveys.length c2] 25)) w7 → Calls Try.prog 30 #[.slice a1 C.strikes.length c1, .func (.func 31) #[] #[.pointer (some ⟨w.heap.size, 0, none⟩)]] w7 fun e w' => e = .returned (.bool (C.strikes.all (inB C.claims))) ∧ Aft w7 w') :=
    Lib.hid fun w7 h => none_check1 C.claims a1 a2 _ _ c1 c2 _ a1 C.strikes c1 w7 hn.nn ((Blk.new w 25 _).aft h) (hC.strikes.aft (h0.trans h))
  have HC := Lib.hid hC
  clear hC hn hbad hin
  rw [HIN.out] at HN
  have HBK := Lib.hid (Blk.new w 25 #[.int .i64 C.claims, .slice a1 C.strikes.length c1, .slice a2 C.surveys.length c2])
  have hmm := @run_makeMap Try.prog
  go_enter Try.func9, Try.ntmps9
  go_wp2_with fail
  refine wp_scope_straight ?_
  go_wp2_with (first | (go_at_call 29; refine (from_any _ _ _ _).mono ?_; rintro e w' ⟨rfl, rfl⟩; rw [H1.out]) | (go_at_call 30; refine (HN.out _ (Aft.refl _)).mono ?_; rintro e w' ⟨rfl, u, rfl⟩; obtain ⟨W1, hW1⟩ : ∃ W1, (w.alloc (.cells #[.int .i64 C.claims, .slice a1 C.strikes.length c1, .slice a2 C.surveys.length c2] 25)).lat u = W1 := ⟨_, rfl⟩; have HA1 : Hid (Aft w W1) := Lib.hid (hW1 ▸ h0.then_lat u); have HB1 : Hid (Blk W1 w.heap.size 25 #[.int .i64 C.claims, .slice a1 C.strikes.length c1, .slice a2 C.surveys.length c2]) := Lib.hid (hW1 ▸ HBK.out.lat u); have hb1 := HB1.out.lt; have k0 := HB1.out.cell 0; have k1 := HB1.out.cell 1; have k2 := HB1.out.cell 2; simp only [List.getElem?_toArray, List.getElem?_cons_zero, List.getElem?_cons_succ] at k0 k1 k2; rw [hW1]; clear hW1))
  refine wp_label ?_
  have h0 : ChkL C a1 a2 c1 c2 w W1.heap.size 0 (W1.alloc (.map #[] 0)) := ⟨HA1.out.then_alloc _, HB1.out.alloc _, SetS.made W1, hb1⟩
  have H0 := Lib.hid h0
  clear h0 hmm HBK
  go_wp2_with fail
  generalize (W1.alloc (.map #[] 0)) = W2 at *
  generalize W1.heap.size = M at *
  clear k0 k1 k2 hb1
  go_loopw [4, 35] (fun e i wr => ∃ k : Nat, i = .int .i64 k ∧ e = .int .i64 0 ∧ k ≤ C.strikes.length ∧ (C.strikes.take k).Nodup ∧ ChkL C a1 a2 c1 c2 w M k wr) (fun _ i _ => C.strikes.length - (intOf i).toNat)
  case atStart => exact ⟨0, rfl, rfl, by omega, by simp, H0.out⟩
  case round =>
    obtain ⟨k, rfl, rfl, hk, hnd, hch⟩ := hrel
    by_cases hkl : k < C.strikes.length
    · have HCH := Lib.hid hch
      have HND := Lib.hid hnd
      obtain ⟨b, o, rfl, hb, hc⟩ := (HC.out.strikes.aft hch.aft).at hkl
      obtain ⟨h1, h2⟩ := hc k hkl
      have HK := Lib.hid (HS.out k hkl)
      have HLOOK : Hid (∀ w7, Aft wr w7 → (Instr.lookup 63 (.map (some M)) (.agg #[.int .i64 C.strikes[k].1, .int .i64 C.strikes[k].2]) false).run Try.prog w7 = .ok (.bool (decide (C.strikes[k] ∈ C.strikes.take k))) w7) := Lib.hid fun w7 h7 => (HCH.out.set.aft h7).look HK.out
      have HPUT : Hid (∀ w7, Aft wr w7 → ∃ w', (Instr.mapUpdate 63 (.map (some M)) (.agg #[.int .i64 C.strikes[k].1, .int .i64 C.strikes[k].2]) (.bool true)).run Try.prog w7 = .ok () w' ∧ ChkL C _ a2 c1 c2 w M (k + 1) w') := Lib.hid fun w7 h7 => by
        obtain ⟨w', h1, h2, h3⟩ := (HCH.out.set.aft h7).put HK.out (by omega)
        exact ⟨w', h1, (HCH.out.later h7).put hkl h2 h3⟩
      have HNX : Hid (C.strikes[k] ∉ C.strikes.take k → (C.strikes.take (k + 1)).Nodup) := Lib.hid (nodup_take_succ hkl hnd)
      have ha3 : Aft wr (wr.alloc (.cells #[.int .i64 C.strikes[k].1, .int .i64 C.strikes[k].2] 56)) := Aft.alloc _ _
      clear hc hch hnd
      by_cases hm : C.strikes[k] ∈ C.strikes.take k
      · have hlk := HLOOK.out _ ha3
        rw [decide_eq_true hm] at hlk
        clear HPUT HLOOK hm HNX HK
        have hc3 := HCH.out.later ha3
        have HC3 := Lib.hid hc3
        have hb3 := hc3.box.lt
        have k2 := hc3.box.cell 2
        simp only [List.getElem?_toArray, List.getElem?_cons_zero, List.getElem?_cons_succ] at k2
        clear ha3 hc3
        go_wp2_with fail
        generalize (wr.alloc (.cells #[.int .i64 C.strikes[k].1, .int .i64 C.strikes[k].2] 56)) = W3 at *
        go_loopw [4, 7] (fun e i wr' => e = .int .i64 6 ∧ i = .int .i64 0 ∧ wr' = W3) (fun _ _ _ => 0)
        case atStart => exact ⟨rfl, rfl, rfl⟩
        case round =>
          obtain ⟨rfl, rfl, rfl⟩ := hrel
          by_cases hz : C.surveys.length = 0
          · have hz' : decide (0 < C.surveys.length) = false := by simp [hz]
            clear hz hlk
            go_wp2_with fail
            simp only [Exit.noGoto_ret, Exit.inBlock, Exit.then]
            go_ret
            exact ⟨rfl, HC3.out.aft⟩
          · have hz' : decide (0 < C.surveys.length) = true := by simp; omega
            clear hz hlk
            go_wp2_with fail
            simp only [Exit.noGoto_ret, Exit.inBlock, Exit.then]
            go_ret
            exact ⟨rfl, HC3.out.aft⟩
      · have hlk := HLOOK.out _ ha3
        rw [decide_eq_false hm] at hlk
        obtain ⟨w', hp1, hp2⟩ := HPUT.out _ ha3
        have HP2 := Lib.hid hp2
        have HN2 := Lib.hid (HNX.out hm)
        clear hp2 HPUT HLOOK hm HNX HK
        go_wp2_with fail
        exact ⟨⟨k + 1, by go_num, rfl, by omega, HN2.out, HP2.out⟩, by simp [intOf]; omega⟩
    · exfalso
      obtain rfl : k = C.strikes.length := by omega
      rw [List.take_of_length_le (Nat.le_refl _)] at hnd
      exact HBAD.out hnd

theorem surveysE_cons (N : Int) (l : List Int) (r : List (List Int)) : surveysE N (l :: r) = if fromB l.length 1 6 then (if listedE N l = 0 then surveysE N r else listedE N l) else 3 := rfl
structure SvL (N : Int) (L : List (List Int)) (j : Nat) (e : Int) : Prop where
  le : j ≤ L.length
  is : (e = 0 ∧ surveysE N L = surveysE N (L.drop j)) ∨ (e ≠ 0 ∧ surveysE N L = e)
theorem SvL.start (N : Int) (L : List (List Int)) : SvL N L 0 0 := ⟨by omega, .inl ⟨rfl, rfl⟩⟩
theorem SvL.count {N : Int} {L : List (List Int)} {j : Nat} (h : SvL N L j 0) (hj : j < L.length) (hf : fromB L[j].length 1 6 = false) : SvL N L (j + 1) 3 := by
  rcases h.is with ⟨-, h1⟩ | ⟨h1, -⟩
  · refine ⟨by omega, .inr ⟨by decide, ?_⟩⟩
    rw [h1, List.drop_eq_getElem_cons hj, surveysE_cons]
    rw [if_neg (by rw [hf]; decide)]
  · exact absurd rfl h1
theorem SvL.listed {N : Int} {L : List (List Int)} {j : Nat} (h : SvL N L j 0) (hj : j < L.length) (hf : fromB L[j].length 1 6 = true) : SvL N L (j + 1) (listedE N L[j]) := by
  rcases h.is with ⟨-, h1⟩ | ⟨h1, -⟩
  · rw [List.drop_eq_getElem_cons hj, surveysE_cons, if_pos hf] at h1
    by_cases e : listedE N L[j] = 0
    · rw [if_pos e] at h1
      exact ⟨by omega, .inl ⟨e, by rw [h1]⟩⟩
    · rw [if_neg e] at h1
      exact ⟨by omega, .inr ⟨e, h1⟩⟩
  · exact absurd rfl h1
theorem SvL.done {N : Int} {L : List (List Int)} {j : Nat} {e : Int} (h : SvL N L j e) (hj : j = L.length ∨ e ≠ 0) : e = surveysE N L := by
  rcases h.is with ⟨rfl, h1⟩ | ⟨_, h1⟩
  · rcases hj with rfl | hj
    · rw [h1, List.drop_of_length_le (Nat.le_refl _)]; rfl
    · exact absurd rfl hj
  · exact h1.symm
theorem Lists.row {w : World} {A : Option Addr} {l : List (List Int)} (h : Lists w A l) {k : Nat} (hk : k < l.length) :
    ∃ b o A' c', A = some ⟨b, o, none⟩ ∧ b < w.heap.size ∧ w.cell? ⟨b, o + k, none⟩ = some (.slice A' l[k].length c') ∧ Ints w A' l[k] := by
  obtain ⟨b, o, e, hb, hc⟩ := h.at hk
  obtain ⟨A', c', h1, h2⟩ := hc k hk
  exact ⟨b, o, A', c', e, hb, h1, h2⟩

set_option maxRecDepth 100000 in
set_option maxHeartbeats 2000000 in
theorem check_once (C : CaseL) (a1 a2 : Option Addr) (c1 c2 : Nat) (w : World) (hC : CRep w C a1 a2) (hn : Counts C) (hin : C.strikes.all (inB C.claims) = true) (hbad : C.strikes.Nodup) :
    Calls Try.prog 9 #[(.agg #[.int .i64 C.claims, .slice a1 C.strikes.length c1, .slice a2 C.surveys.length c2])] w fun e w' => e = .returned (.int .i64 (surveysE C.claims C.surveys)) ∧ Aft w w' := by
  have H1 := Lib.hid hn.n
  have h2' : decide ((60 : Int) < C.strikes.length) = false := by have := hn.few; simp; omega
  have h3' : decide ((6 : Int) < C.surveys.length) = false := by have := hn.fews; simp; omega
  have hl1 := hn.few
  have hl2 := hn.fews
  have HBAD := Lib.hid hbad
  have HIN := Lib.hid hin
  have HS : Hid (∀ k, (h : k < C.strikes.length) → SmallS C.strikes[k]) := Lib.hid fun k h => by
    have := inB_iff.1 (List.all_eq_true.1 hin _ (List.getElem_mem h))
    have := hn.nn
    exact ⟨by omega, by omega⟩
  have h0 : Aft w (w.alloc (.cells #[.int .i64 C.claims, .slice a1 C.strikes.length c1, .slice a2 C.surveys.length c2] 25)) := Aft.alloc _ _
  have HN : Hid (∀ w7, Aft (w.alloc (.cells #[.int .i64 C.claims, .slice a1 C.strikes.length c1, .slice a2 C.surveys.length c2] 25)) w7 → Calls Try.prog 30 #[.slice a1 C.strikes.length c1, .func (.func 31) #[] #[.pointer (some ⟨w.heap.size, 0, none⟩)]] w7 fun e w' => e = .returned (.bool (C.strikes.all (inB C.claims))) ∧ Aft w7 w') :=
    Lib.hid fun w7 h => none_check1 C.claims a1 a2 _ _ c1 c2 _ a1 C.strikes c1 w7 hn.nn ((Blk.new w 25 _).aft h) (hC.strikes.aft (h0.trans h))
  have HC := Lib.hid hC
  clear hC hn hbad hin
  rw [HIN.out] at HN
  have HBK := Lib.hid (Blk.new w 25 #[.int .i64 C.claims, .slice a1 C.strikes.length c1, .slice a2 C.surveys.length c2])
  have hmm := @run_makeMap Try.prog
  go_enter Try.func9, Try.ntmps9
  go_wp2_with fail
  refine wp_scope_straight ?_
  go_wp2_with (first | (go_at_call 29; refine (from_any _ _ _ _).mono ?_; rintro e w' ⟨rfl, rfl⟩; rw [H1.out]) | (go_at_call 30; refine (HN.out _ (Aft.refl _)).mono ?_; rintro e w' ⟨rfl, u, rfl⟩; obtain ⟨W1, hW1⟩ : ∃ W1, (w.alloc (.cells #[.int .i64 C.claims, .slice a1 C.strikes.length c1, .slice a2 C.surveys.length c2] 25)).lat u = W1 := ⟨_, rfl⟩; have HA1 : Hid (Aft w W1) := Lib.hid (hW1 ▸ h0.then_lat u); have HB1 : Hid (Blk W1 w.heap.size 25 #[.int .i64 C.claims, .slice a1 C.strikes.length c1, .slice a2 C.surveys.length c2]) := Lib.hid (hW1 ▸ HBK.out.lat u); have hb1 := HB1.out.lt; have k0 := HB1.out.cell 0; have k1 := HB1.out.cell 1; have k2 := HB1.out.cell 2; simp only [List.getElem?_toArray, List.getElem?_cons_zero, List.getElem?_cons_succ] at k0 k1 k2; rw [hW1]; clear hW1))
  refine wp_label ?_
  have h0 : ChkL C a1 a2 c1 c2 w W1.heap.size 0 (W1.alloc (.map #[] 0)) := ⟨HA1.out.then_alloc _, HB1.out.alloc _, SetS.made W1, hb1⟩
  have H0 := Lib.hid h0
  clear h0 hmm HBK
  go_wp2_with fail
  generalize (W1.alloc (.map #[] 0)) = W2 at *
  generalize W1.heap.size = M at *
  clear k0 k1 k2 hb1
  go_loopw [4, 35] (fun e i wr => ∃ k : Nat, i = .int .i64 k ∧ e = .int .i64 0 ∧ k ≤ C.strikes.length ∧ ChkL C a1 a2 c1 c2 w M k wr) (fun _ i _ => C.strikes.length - (intOf i).toNat)
  case atStart => exact ⟨0, rfl, rfl, by omega, H0.out⟩
  case round =>
    obtain ⟨k, rfl, rfl, hk, hch⟩ := hrel
    by_cases hkl : k < C.strikes.length
    · have HCH := Lib.hid hch
      obtain ⟨b, o, rfl, hb, hc⟩ := (HC.out.strikes.aft hch.aft).at hkl
      obtain ⟨h1, h2⟩ := hc k hkl
      have HK := Lib.hid (HS.out k hkl)
      have ha3 : Aft wr (wr.alloc (.cells #[.int .i64 C.strikes[k].1, .int .i64 C.strikes[k].2] 56)) := Aft.alloc _ _
      have hlk := (HCH.out.set.aft ha3).look HK.out
      rw [decide_eq_false (nodup_of_take hkl HBAD.out)] at hlk
      unfold strV at hlk
      obtain ⟨w', hp1, hp2, hp3⟩ := (HCH.out.set.aft ha3).put HK.out (by omega)
      unfold strV at hp1
      have HP2 := Lib.hid ((HCH.out.later ha3).put hkl hp2 hp3)
      clear hp2 hp3 hc hch HK
      go_wp2_with fail
      exact ⟨⟨k + 1, by go_num, rfl, by omega, HP2.out⟩, by simp [intOf]; omega⟩
    · obtain rfl : k = C.strikes.length := by omega
      have HC3 : Hid (Aft w wr ∧ Blk wr w.heap.size 25 #[.int .i64 C.claims, .slice a1 C.strikes.length c1, .slice a2 C.surveys.length c2]) := Lib.hid ⟨hch.aft, hch.box⟩
      clear hch HS
      go_wp2_with fail
      go_loopw [4, 7] (fun e i wr => ∃ (j : Nat) (x : Int), i = .int .i64 j ∧ e = .int .i64 x ∧ SvL C.claims C.surveys j x ∧ Aft w wr ∧ Blk wr w.heap.size 25 #[.int .i64 C.claims, .slice a1 C.strikes.length c1, .slice a2 C.surveys.length c2]) (fun _ i _ => C.surveys.length - (intOf i).toNat)
      case atStart => exact ⟨0, 0, rfl, rfl, SvL.start _ _, HC3.out.1, HC3.out.2⟩
      case round =>
        obtain ⟨j, x, rfl, rfl, hsv, haw, hbw⟩ := hrel
        have HSV := Lib.hid hsv
        have hjl := hsv.le
        have k0 := hbw.cell 0
        have k1 := hbw.cell 1
        have k2 := hbw.cell 2
        have hbl := hbw.lt
        simp only [List.getElem?_toArray, List.getElem?_cons_zero, List.getElem?_cons_succ] at k0 k1 k2
        have HAW := Lib.hid haw
        have HBW := Lib.hid hbw
        clear hsv hbw haw HC3
        by_cases hj : j < C.surveys.length
        · have hj' : decide (j < C.surveys.length) = true := by simpa using hj
          by_cases hx : x = 0
          · subst hx
            obtain ⟨b, o, A', c', rfl, hb, h1, h2⟩ := (HC.out.surveys.aft HAW.out).row hj
            have hll := h2.len
            have h2 := Lib.hid h2
            have H69 := Lib.hid (fun W (ha : Aft wr W) => listed_any C.claims a1 (some ⟨b, o, none⟩) C.strikes.length C.surveys.length c1 c2 A' C.surveys[j] c' W (fromB_iff.1 H1.out) (h2.out.aft ha))
            cases hf : fromB C.surveys[j].length 1 6
            · have HF := Lib.hid hf
              have HSV2 := Lib.hid (HSV.out.count hj hf)
              clear hf
              go_wp2_with (go_at_call 29; refine (from_any _ _ _ _).mono ?_; rintro e w' ⟨rfl, rfl⟩; rw [HF.out])
              exact ⟨⟨j + 1, 3, by go_num, rfl, HSV2.out, HAW.out, HBW.out⟩, by simp [intOf]; omega⟩
            · have HF := Lib.hid hf
              have HSV2 := Lib.hid (HSV.out.listed hj hf)
              clear hf
              generalize C.surveys[j] = l at *
              go_wp2_with (go_at_call 29; refine (from_any _ _ _ _).mono ?_; rintro e w' ⟨rfl, rfl⟩; rw [HF.out])
              refine wp_region_tail 6 (by kernel_rfl) (by kernel_rfl) ?_
              simp only [List.take_succ_cons, List.take_zero, List.drop_succ_cons, List.drop_zero]
              repeat (first | go_big_quiet_skip | (go_big_quiet_want; go_big_quiet_op; go_big_quiet_on))
              refine wpQuiet_nil ?_
              go_wp2_with (go_at_call 33; refine (H69.out _ (Aft.drew _)).mono ?_; rintro e w' ⟨rfl, u9, rfl⟩)
              have h9 : Aft wr (wr.drew.lat u9) := (Aft.drew _).then_lat _
              exact ⟨⟨j + 1, _, by go_num, rfl, HSV2.out, HAW.out.trans h9, HBW.out.aft h9⟩, by simp [intOf]; omega⟩
          · have hx' : (x == 0) = false := by simpa using hx
            have HD := Lib.hid (HSV.out.done (.inr hx))
            clear hx
            go_wp2_with fail
            simp only [Exit.noGoto_ret, Exit.inBlock, Exit.then]
            go_ret
            exact ⟨ret_int HD.out, HAW.out⟩
        · have hj' : decide (j < C.surveys.length) = false := by simpa using hj
          have HD := Lib.hid (HSV.out.done (.inl (by omega)))
          clear hj
          go_wp2_with fail
          simp only [Exit.noGoto_ret, Exit.inBlock, Exit.then]
          go_ret
          exact ⟨ret_int HD.out, HAW.out⟩

theorem check_any (C : CaseL) (a1 a2 : Option Addr) (c1 c2 : Nat) (w : World) (hC : CRep w C a1 a2) :
    Calls Try.prog 9 #[(.agg #[.int .i64 C.claims, .slice a1 C.strikes.length c1, .slice a2 C.surveys.length c2])] w fun e w' => e = .returned (.int .i64 (caseE C)) ∧ Aft w w' := by
  unfold caseE
  split
  · rename_i h; exact check_count C a1 a2 c1 c2 w hC h
  · rename_i h
    simp only [Bool.or_eq_true, Bool.not_eq_true', decide_eq_true_eq, not_or, Bool.not_eq_false] at h
    have hn : Counts C := ⟨h.1.1, by omega, by omega⟩
    split
    · rename_i h2; exact check_arg C a1 a2 c1 c2 w hC hn (by simpa using h2)
    · rename_i h2
      have h2 : C.strikes.all (inB C.claims) = true := by simpa using h2
      split
      · rename_i h3; exact check_twice C a1 a2 c1 c2 w hC hn h2 h3
      · rename_i h3; exact check_once C a1 a2 c1 c2 w hC hn h2 (by simpa using h3)
end Go.Proofs
end

section
namespace Court

def struckB (S : List (Int × Int)) (sure : Int → Bool) (f : Int → Nat) (n : Int) (v : Nat) : Bool := S.any fun s => decide (s.2 = n) && !sure n && decide (f s.1 = v)
def rule (S : List (Int × Int)) (sure : Int → Bool) (f : Int → Nat) (n : Int) : Nat := if struckB S sure f n 1 then 2 else if struckB S sure f n 0 then 0 else 1
def heard1 (S : List (Int × Int)) (sure : Int → Bool) (f : Int → Nat) (n : Int) : Nat := if f n = 0 then rule S sure f n else f n
def setF (f : Int → Nat) (n : Int) (v : Nat) : Int → Nat := fun k => if k = n then v else f k
def hear (S : List (Int × Int)) (sure : Int → Bool) (f : Int → Nat) (n : Int) : Int → Nat := setF f n (heard1 S sure f n)
def Has (f g : Int → Nat) : Prop := ∀ n, f n ≠ 0 → g n = f n
def Three (f : Int → Nat) : Prop := ∀ n, f n ≤ 2

section
variable {S : List (Int × Int)} {sure : Int → Bool} {f g : Int → Nat} {n : Int} {v : Nat}
theorem struck_iff : struckB S sure f n v = true ↔ sure n = false ∧ ∃ s ∈ S, s.2 = n ∧ f s.1 = v := by
  unfold struckB
  rw [List.any_eq_true]
  constructor
  · rintro ⟨s, hs, h⟩
    simp only [Bool.and_eq_true, decide_eq_true_eq, Bool.not_eq_true'] at h
    exact ⟨h.1.2, s, hs, h.1.1, h.2⟩
  · rintro ⟨h0, s, hs, h1, h2⟩
    exact ⟨s, hs, by simp [h0, h1, h2]⟩
theorem struck_has (h : Has f g) (hv : v ≠ 0) (hs : struckB S sure f n v = true) : struckB S sure g n v = true := by
  obtain ⟨h0, s, h1, h2, h3⟩ := struck_iff.1 hs
  exact struck_iff.2 ⟨h0, s, h1, h2, by rw [h _ (by rw [h3]; exact hv), h3]⟩
theorem rule_has (h : Has f g) (hr : rule S sure f n ≠ 0) (h3 : Three f) : rule S sure g n = rule S sure f n := by
  unfold rule at hr ⊢
  by_cases h1 : struckB S sure f n 1 = true
  · rw [if_pos h1, if_pos (struck_has h (by decide) h1)]
  · rw [if_neg h1] at hr ⊢
    by_cases h0 : struckB S sure f n 0 = true
    · rw [if_pos h0] at hr; exact absurd rfl hr
    · rw [if_neg h0]
      have key : ∀ s ∈ S, s.2 = n → sure n = false → g s.1 = 2 := fun s hs hn hsu => by
        have a1 : f s.1 ≠ 1 := fun e => h1 (struck_iff.2 ⟨hsu, s, hs, hn, e⟩)
        have a0 : f s.1 ≠ 0 := fun e => h0 (struck_iff.2 ⟨hsu, s, hs, hn, e⟩)
        have := h3 s.1
        rw [h _ a0]; omega
      rw [if_neg, if_neg]
      · intro e
        obtain ⟨e0, s, e1, e2, e3⟩ := struck_iff.1 e
        rw [key s e1 e2 e0] at e3; cases e3
      · intro e
        obtain ⟨e0, s, e1, e2, e3⟩ := struck_iff.1 e
        rw [key s e1 e2 e0] at e3; cases e3
theorem rule_le (S : List (Int × Int)) (sure : Int → Bool) (f : Int → Nat) (n : Int) : rule S sure f n ≤ 2 := by
  unfold rule
  split
  · omega
  · split <;> omega
theorem heard_le (h : Three f) (n : Int) : heard1 S sure f n ≤ 2 := by
  unfold heard1
  split
  · exact rule_le _ _ _ _
  · exact h n
theorem hear_three (h : Three f) (n : Int) : Three (hear S sure f n) := fun k => by
  unfold hear setF
  split
  · exact heard_le h n
  · exact h k
theorem has_hear (S : List (Int × Int)) (sure : Int → Bool) (f : Int → Nat) (n : Int) : Has f (hear S sure f n) := fun k hk => by
  unfold hear setF heard1
  by_cases e : k = n
  · subst e
    rw [if_pos rfl, if_neg hk]
  · rw [if_neg e]
theorem Has.refl (f : Int → Nat) : Has f f := fun _ _ => rfl
theorem Has.trans {f g h : Int → Nat} (a : Has f g) (b : Has g h) : Has f h := fun n hn => by
  have e := a n hn
  rw [b n (by rw [e]; exact hn), e]

def Sound (S : List (Int × Int)) (sure : Int → Bool) (f0 f : Int → Nat) : Prop := ∀ n, f n ≠ 0 → f0 n = f n ∨ rule S sure f n = f n
def Done (S : List (Int × Int)) (sure : Int → Bool) (N : Nat) (f : Int → Nat) : Prop := ∀ n : Int, 0 ≤ n → n < N → f n = 0 → rule S sure f n = 0
theorem sound_start (S : List (Int × Int)) (sure : Int → Bool) (f0 : Int → Nat) : Sound S sure f0 f0 := fun _ _ => .inl rfl
theorem sound_hear {f0 : Int → Nat} (h : Sound S sure f0 f) (h3 : Three f) (n : Int) : Sound S sure f0 (hear S sure f n) := fun k hk => by
  have hh := has_hear S sure f n
  by_cases h0 : f k = 0
  · by_cases e : k = n
    · subst e
      have e1 : hear S sure f k k = rule S sure f k := by unfold hear setF heard1; rw [if_pos rfl, if_pos h0]
      right
      rw [e1] at hk ⊢
      exact rule_has hh hk h3
    · have e1 : hear S sure f n k = f k := by unfold hear setF; rw [if_neg e]
      rw [e1] at hk; exact absurd h0 hk
  · have e1 := hh k h0
    rw [e1]
    rcases h k h0 with h1 | h1
    · exact .inl h1
    · right
      rw [← h1]
      exact rule_has hh (by rw [h1]; exact h0) h3
theorem has_of {f0 : Int → Nat} {N : Nat} (hg : Done S sure N g) (hf : Has f g) (hf3 : Three f) (h0 : ∀ n : Int, 0 ≤ n → n < N → g n ≠ 0 → f0 n = g n ∨ rule S sure g n = g n) (n : Int) (hn : 0 ≤ n ∧ n < N) (hst : f0 n = 0 ∨ f n ≠ 0) : Has (hear S sure f n) g := fun k hk => by
  by_cases hk0 : f k = 0
  · by_cases e : k = n
    · subst e
      have e1 : hear S sure f k k = rule S sure f k := by unfold hear setF heard1; rw [if_pos rfl, if_pos hk0]
      rw [e1] at hk ⊢
      have hr := rule_has hf hk hf3
      by_cases hg0 : g k = 0
      · have := hg k hn.1 hn.2 hg0
        rw [hr] at this
        exact absurd this hk
      · rcases h0 k hn.1 hn.2 hg0 with h1 | h1
        · rcases hst with h2 | h2
          · rw [h2] at h1; exact absurd h1.symm hg0
          · exact absurd hk0 h2
        · rw [← h1, hr]
    · have e1 : hear S sure f n k = f k := by unfold hear setF; rw [if_neg e]
      rw [e1] at hk; exact absurd hk0 hk
  · rw [has_hear S sure f n k hk0]
    exact hf k hk0
end

def hears (S : List (Int × Int)) (sure : Int → Bool) (f : Int → Nat) (order : List Int) : Int → Nat := order.foldl (hear S sure) f
section
variable {S : List (Int × Int)} {sure : Int → Bool} {f0 f g : Int → Nat} {N : Nat} {x : (Int → Nat) × (Int → Nat)}
theorem hears_three (h : Three f) : ∀ (o : List Int), Three (hears S sure f o) := by
  intro o
  induction o generalizing f with
  | nil => exact h
  | cons n r ih => exact ih (hear_three h n)
theorem has_hears : ∀ (o : List Int) (f : Int → Nat), Has f (hears S sure f o)
  | [], f => Has.refl f
  | n :: r, f => (has_hear S sure f n).trans (has_hears r _)
theorem sound_hears (h3 : Three f) (h : Sound S sure f0 f) : ∀ (o : List Int), Sound S sure f0 (hears S sure f o) := by
  intro o
  induction o generalizing f with
  | nil => exact h
  | cons n r ih => exact ih (hear_three h3 n) (sound_hear h h3 n)
theorem hears_has (hg : Done S sure N g) (hs : Sound S sure f0 g) : ∀ (o : List Int) (f : Int → Nat), (∀ n, f0 n ≠ 0 → f n ≠ 0) → Three f → Has f g → (∀ n ∈ o, 0 ≤ n ∧ n < N) → Has (hears S sure f o) g
  | [], _, _, _, h, _ => h
  | n :: r, f, hst, h3, h, ho => hears_has hg hs r _ (fun k hk => by
      have := hst k hk
      rw [has_hear S sure f n k this]; exact this) (hear_three h3 n) (has_of hg h h3 (fun n _ _ => hs n) n (ho n List.mem_cons_self) (by
      by_cases e : f0 n = 0
      · exact .inl e
      · exact .inr (hst n e))) fun k hk => ho k (List.mem_cons_of_mem _ hk)
theorem hears_append (S : List (Int × Int)) (sure : Int → Bool) (f : Int → Nat) (a b : List Int) : hears S sure f (a ++ b) = hears S sure (hears S sure f a) b := List.foldl_append

def Reach (S : List (Int × Int)) (sure : Int → Bool) (N : Nat) (f0 f : Int → Nat) : Prop := ∃ o : List Int, (∀ n ∈ o, 0 ≤ n ∧ n < N) ∧ f = hears S sure f0 o
theorem Reach.start (S : List (Int × Int)) (sure : Int → Bool) (N : Nat) (f0 : Int → Nat) : Reach S sure N f0 f0 := ⟨[], by simp, rfl⟩
theorem Reach.step (h : Reach S sure N f0 f) (o : List Int) (ho : ∀ n ∈ o, 0 ≤ n ∧ n < N) : Reach S sure N f0 (hears S sure f o) := by
  obtain ⟨o', h1, rfl⟩ := h
  exact ⟨o' ++ o, fun n hn => (List.mem_append.1 hn).elim (h1 n) (ho n), (hears_append _ _ _ _ _).symm⟩
theorem Reach.three (h : Reach S sure N f0 f) (h0 : Three f0) : Three f := by obtain ⟨o, -, rfl⟩ := h; exact hears_three h0 o
theorem Reach.sound (h : Reach S sure N f0 f) (h0 : Three f0) : Sound S sure f0 f := by obtain ⟨o, -, rfl⟩ := h; exact sound_hears h0 (sound_start _ _ _) o
theorem Reach.has (h : Reach S sure N f0 f) : Has f0 f := by obtain ⟨o, -, rfl⟩ := h; exact has_hears o f0
theorem Reach.le (h : Reach S sure N f0 f) (h0 : Three f0) (hg : Done S sure N g) (hs : Sound S sure f0 g) (hg0 : Has f0 g) : Has f g := by
  obtain ⟨o, ho, rfl⟩ := h
  exact hears_has hg hs o f0 (fun _ h => h) h0 hg0 ho
theorem has_both (h : Has f g) (h' : Has g f) : f = g := by
  funext n
  by_cases hf : f n = 0
  · by_cases hg : g n = 0
    · rw [hf, hg]
    · exact h' n hg
  · exact (h n hf).symm
theorem Reach.unique (h0 : Three f0) (hf : Reach S sure N f0 f) (df : Done S sure N f) (hg : Reach S sure N f0 g) (dg : Done S sure N g) : f = g :=
  has_both (hf.le h0 dg (hg.sound h0) hg.has) (hg.le h0 df (hf.sound h0) hf.has)

def allN (N : Nat) : List Int := (List.range N).map fun (i : Nat) => (i : Int)
theorem mem_allN {N : Nat} {n : Int} : n ∈ allN N ↔ 0 ≤ n ∧ n < N := by
  unfold allN
  rw [List.mem_map]
  constructor
  · rintro ⟨i, hi, rfl⟩
    have := List.mem_range.1 hi
    omega
  · rintro ⟨h0, h1⟩
    obtain ⟨i, rfl⟩ := Int.eq_ofNat_of_zero_le h0
    exact ⟨i, List.mem_range.2 (by omega), rfl⟩
def round (S : List (Int × Int)) (sure : Int → Bool) (N : Nat) (f : Int → Nat) : Int → Nat := hears S sure f (allN N)
theorem hears_same : ∀ (o : List Int) (f : Int → Nat), hears S sure f o = f → ∀ n ∈ o, f n = 0 → rule S sure f n = 0
  | [], _, _, n, hn, _ => by cases hn
  | m :: r, f, h, n, hn, h0 => by
    have e : hear S sure f m = f := has_both (fun k hk => by
        have := has_hears (S := S) (sure := sure) r (hear S sure f m) k hk
        have h' : hears S sure (hear S sure f m) r = f := h
        rw [h'] at this; exact this) (has_hear S sure f m)
    rcases List.mem_cons.1 hn with rfl | hn
    · have := congrFun e n
      unfold hear setF heard1 at this
      rw [if_pos rfl, if_pos h0] at this
      rw [this, h0]
    · have h' : hears S sure (hear S sure f m) r = f := h
      rw [e] at h'
      exact hears_same r f h' n hn h0
theorem done_of_round (h : round S sure N f = f) : Done S sure N f := fun n h1 h2 h0 => hears_same (allN N) f h n (mem_allN.2 ⟨h1, h2⟩) h0
def openN (N : Nat) (f : Int → Nat) : Nat := (allN N).countP fun n => decide (f n = 0)
theorem open_le (N : Nat) (f : Int → Nat) : openN N f ≤ N := by
  unfold openN
  refine Nat.le_trans List.countP_le_length ?_
  unfold allN
  simp
theorem count_lt {l : List Int} {p q : Int → Bool} (h : ∀ x ∈ l, q x = true → p x = true) {a : Int} (ha : a ∈ l) (hp : p a = true) (hq : q a = false) : l.countP q < l.countP p := by
  induction l with
  | nil => cases ha
  | cons b r ih =>
    have hr : r.countP q ≤ r.countP p := List.countP_mono_left fun x hx => h x (List.mem_cons_of_mem _ hx)
    rcases List.mem_cons.1 ha with rfl | ha
    · rw [List.countP_cons_of_pos hp, List.countP_cons_of_neg (by rw [hq]; decide)]; omega
    · have := ih (fun x hx => h x (List.mem_cons_of_mem _ hx)) ha
      by_cases hb : q b = true
      · rw [List.countP_cons_of_pos hb, List.countP_cons_of_pos (h b List.mem_cons_self hb)]; omega
      · rw [List.countP_cons_of_neg hb]
        by_cases hpb : p b = true
        · rw [List.countP_cons_of_pos hpb]; omega
        · rw [List.countP_cons_of_neg hpb]; exact this
theorem open_less (h : Has f g) {n : Int} (hn : 0 ≤ n ∧ n < N) (h0 : f n = 0) (h1 : g n ≠ 0) : openN N g < openN N f :=
  count_lt (fun x _ hx => by
    have hx : g x = 0 := of_decide_eq_true hx
    by_cases e : f x = 0
    · exact decide_eq_true e
    · rw [h x e] at hx; exact absurd hx e) (mem_allN.2 hn) (decide_eq_true h0) (decide_eq_false h1)
theorem hear_out {n k : Int} (h : k ≠ n) : hear S sure f n k = f k := by unfold hear setF; rw [if_neg h]
theorem hears_out : ∀ (o : List Int) (f : Int → Nat) (k : Int), k ∉ o → hears S sure f o k = f k
  | [], _, _, _ => rfl
  | n :: r, f, k, h => by
    have e : hears S sure f (n :: r) = hears S sure (hear S sure f n) r := rfl
    rw [e, hears_out r _ k (fun h' => h (List.mem_cons_of_mem _ h')), hear_out (fun e => h (by rw [e]; exact List.mem_cons_self))]
theorem round_less (h : round S sure N f ≠ f) : openN N (round S sure N f) < openN N f := by
  have hh : Has f (round S sure N f) := has_hears _ _
  have : ∃ n : Int, round S sure N f n ≠ f n := Classical.byContradiction fun hn => h (funext fun n => Classical.byContradiction fun e => hn ⟨n, e⟩)
  obtain ⟨n, hn⟩ := this
  have h0 : f n = 0 := Classical.byContradiction fun e => hn (hh n e)
  have hr : 0 ≤ n ∧ n < N := Classical.byContradiction fun e => hn (hears_out _ _ _ fun h' => e (mem_allN.1 h'))
  exact open_less hh hr h0 (by rw [h0] at hn; exact hn)
def rounds (S : List (Int × Int)) (sure : Int → Bool) (N : Nat) : Nat → (Int → Nat) → Int → Nat
  | 0, f => f
  | k + 1, f => rounds S sure N k (round S sure N f)
theorem rounds_fix : ∀ (k : Nat) (f : Int → Nat), openN N f ≤ k → round S sure N (rounds S sure N k f) = rounds S sure N k f
  | 0, f, h => by
    show round S sure N f = f
    exact Classical.byContradiction fun e => by have := round_less e; omega
  | k + 1, f, h => by
    show round S sure N (rounds S sure N k (round S sure N f)) = rounds S sure N k (round S sure N f)
    by_cases e : round S sure N f = f
    · rw [e]
      by_cases h1 : openN N f ≤ k
      · exact rounds_fix k f h1
      · have : ∀ j, rounds S sure N j f = f := fun j => by
          induction j with
          | zero => rfl
          | succ j ih => show rounds S sure N j (round S sure N f) = f; rw [e]; exact ih
        rw [this]; exact e
    · exact rounds_fix k _ (by have := round_less e; omega)
theorem Reach.rounds (h : Reach S sure N f0 f) (k : Nat) : Reach S sure N f0 (rounds S sure N k f) := by
  induction k generalizing f with
  | zero => exact h
  | succ k ih => exact ih (h.step _ fun n hn => mem_allN.1 hn)
def award (S : List (Int × Int)) (sure : Int → Bool) (N : Nat) (f0 : Int → Nat) : Int → Nat := rounds S sure N N f0
theorem award_done (S : List (Int × Int)) (sure : Int → Bool) (N : Nat) (f0 : Int → Nat) : Done S sure N (award S sure N f0) := done_of_round (rounds_fix N f0 (open_le N f0))
theorem award_reach (S : List (Int × Int)) (sure : Int → Bool) (N : Nat) (f0 : Int → Nat) : Reach S sure N f0 (award S sure N f0) := (Reach.start S sure N f0).rounds N
theorem award_eq (h0 : Three f0) (h : Reach S sure N f0 f) (hd : Done S sure N f) : f = award S sure N f0 := h.unique h0 hd (award_reach S sure N f0) (award_done S sure N f0)

def atOnce (S : List (Int × Int)) (sure : Int → Bool) (N : Nat) (f : Int → Nat) : Int → Nat := fun n => if 0 ≤ n ∧ n < N then heard1 S sure f n else f n
theorem has_atOnce (S : List (Int × Int)) (sure : Int → Bool) (N : Nat) (f : Int → Nat) : Has f (atOnce S sure N f) := fun n hn => by
  by_cases hr : 0 ≤ n ∧ n < N
  · unfold atOnce; rw [if_pos hr]; unfold heard1; rw [if_neg hn]
  · unfold atOnce; rw [if_neg hr]
theorem atOnce_three (h : Three f) : Three (atOnce S sure N f) := fun n => by
  unfold atOnce
  split
  · exact heard_le h n
  · exact h n
theorem sound_atOnce (h : Sound S sure f0 f) (h3 : Three f) : Sound S sure f0 (atOnce S sure N f) := fun k hk => by
  have hh := has_atOnce S sure N f
  by_cases hk0 : f k = 0
  · by_cases hr : 0 ≤ k ∧ k < N
    · have e1 : atOnce S sure N f k = rule S sure f k := by unfold atOnce heard1; rw [if_pos hr, if_pos hk0]
      rw [e1] at hk ⊢
      exact .inr (rule_has hh hk h3)
    · have e1 : atOnce S sure N f k = f k := by unfold atOnce; rw [if_neg hr]
      rw [e1] at hk; exact absurd hk0 hk
  · rw [hh k hk0]
    rcases h k hk0 with h1 | h1
    · exact .inl h1
    · right
      rw [← h1]
      exact rule_has hh (by rw [h1]; exact hk0) h3
def manyOnce (S : List (Int × Int)) (sure : Int → Bool) (N : Nat) : Nat → (Int → Nat) → Int → Nat
  | 0, f => f
  | k + 1, f => manyOnce S sure N k (atOnce S sure N f)
theorem atOnce_done (h : atOnce S sure N f = f) : Done S sure N f := fun n h1 h2 h0 => by
  have := congrFun h n
  unfold atOnce heard1 at this
  rw [if_pos ⟨h1, h2⟩, if_pos h0] at this
  rw [this, h0]
theorem atOnce_less (h : atOnce S sure N f ≠ f) : openN N (atOnce S sure N f) < openN N f := by
  have hh := has_atOnce S sure N f
  have : ∃ n : Int, atOnce S sure N f n ≠ f n := Classical.byContradiction fun hn => h (funext fun n => Classical.byContradiction fun e => hn ⟨n, e⟩)
  obtain ⟨n, hn⟩ := this
  have h0 : f n = 0 := Classical.byContradiction fun e => hn (hh n e)
  have hr : 0 ≤ n ∧ n < N := Classical.byContradiction fun e => hn (by unfold atOnce; rw [if_neg e])
  exact open_less hh hr h0 (by rw [h0] at hn; exact hn)
theorem many_fix : ∀ (k : Nat) (f : Int → Nat), openN N f ≤ k → Done S sure N (manyOnce S sure N k f)
  | 0, f, h => atOnce_done (f := f) (Classical.byContradiction fun e => by have := atOnce_less (f := f) e; omega)
  | k + 1, f, h => by
    by_cases e : atOnce S sure N f = f
    · have : ∀ j, manyOnce S sure N j f = f := fun j => by
        induction j with
        | zero => rfl
        | succ j ih => show manyOnce S sure N j (atOnce S sure N f) = f; rw [e]; exact ih
      rw [this]
      exact atOnce_done e
    · exact many_fix k _ (by have := atOnce_less e; omega)
theorem many_sound : ∀ (k : Nat) (f : Int → Nat), Three f → Sound S sure f0 f → Sound S sure f0 (manyOnce S sure N k f) ∧ Three (manyOnce S sure N k f)
  | 0, _, h3, h => ⟨h, h3⟩
  | k + 1, _, h3, h => many_sound k _ (atOnce_three h3) (sound_atOnce h h3)
theorem many_has : ∀ (k : Nat) (f : Int → Nat), Has f (manyOnce S sure N k f)
  | 0, f => Has.refl f
  | k + 1, f => (has_atOnce S sure N f).trans (many_has k _)
theorem atOnce_has (hg : Done S sure N g) (hs : Sound S sure f0 g) (hst : ∀ n, f0 n ≠ 0 → f n ≠ 0) (h3 : Three f) (h : Has f g) : Has (atOnce S sure N f) g := fun k hk => by
  by_cases hk0 : f k = 0
  · by_cases hr : 0 ≤ k ∧ k < N
    · have e : atOnce S sure N f k = hear S sure f k k := by unfold atOnce hear setF; rw [if_pos hr, if_pos rfl]
      rw [e] at hk ⊢
      exact has_of hg h h3 (fun n _ _ => hs n) k hr (by
        by_cases e : f0 k = 0
        · exact .inl e
        · exact .inr (hst k e)) k hk
    · have e : atOnce S sure N f k = f k := by unfold atOnce; rw [if_neg hr]
      rw [e] at hk; exact absurd hk0 hk
  · rw [has_atOnce S sure N f k hk0]
    exact h k hk0
theorem many_le (hg : Done S sure N g) (hs : Sound S sure f0 g) : ∀ (k : Nat) (f : Int → Nat), (∀ n, f0 n ≠ 0 → f n ≠ 0) → Three f → Has f g → Has (manyOnce S sure N k f) g
  | 0, _, _, _, h => h
  | k + 1, f, hst, h3, h => many_le hg hs k _ (fun n hn => by
      have := hst n hn
      rw [has_atOnce S sure N f n this]; exact this) (atOnce_three h3) (atOnce_has hg hs hst h3 h)
theorem many_award (h0 : Three f0) {k : Nat} (hk : N ≤ k) : manyOnce S sure N k f0 = award S sure N f0 := by
  have hd := many_fix (S := S) (sure := sure) (N := N) k f0 (Nat.le_trans (open_le N f0) hk)
  have hs := (many_sound (S := S) (sure := sure) (N := N) (f0 := f0) k f0 h0 (sound_start _ _ _)).1
  have ha := award_reach S sure N f0
  exact has_both (many_le (award_done S sure N f0) (ha.sound h0) k f0 (fun _ h => h) h0 ha.has) (ha.le h0 hd hs (many_has k f0))

def nextR (S : List (Int × Int)) (sure : Int → Bool) (r : Int → Nat) (n : Int) : Nat := S.foldl (fun m s => if decide (s.2 = n) && !sure n then max m (r s.1 + 1) else m) 1
theorem foldl_max_ge : ∀ (L : List (Int × Int)) (p : Int × Int → Bool) (v : Int × Int → Nat) (m : Nat), m ≤ L.foldl (fun m s => if p s then max m (v s) else m) m ∧ ∀ s ∈ L, p s = true → v s ≤ L.foldl (fun m s => if p s then max m (v s) else m) m
  | [], _, _, m => ⟨Nat.le_refl _, fun s h => by cases h⟩
  | x :: L, p, v, m => by
    obtain ⟨h1, h2⟩ := foldl_max_ge L p v (if p x then max m (v x) else m)
    rw [List.foldl_cons]
    refine ⟨Nat.le_trans (by split <;> omega) h1, fun s hs hp => ?_⟩
    rcases List.mem_cons.1 hs with rfl | hs
    · exact Nat.le_trans (by rw [if_pos hp]; omega) h1
    · exact h2 s hs hp
theorem foldl_max_le : ∀ (L : List (Int × Int)) (p : Int × Int → Bool) (v : Int × Int → Nat) (m b : Nat), m ≤ b → (∀ s ∈ L, p s = true → v s ≤ b) → L.foldl (fun m s => if p s then max m (v s) else m) m ≤ b
  | [], _, _, _, _, h, _ => h
  | x :: L, p, v, m, b, h, h2 => by
    rw [List.foldl_cons]
    refine foldl_max_le L p v _ b ?_ fun s hs => h2 s (List.mem_cons_of_mem _ hs)
    by_cases hp : p x = true
    · rw [if_pos hp]; have := h2 x List.mem_cons_self hp; omega
    · rw [if_neg hp]; exact h
theorem next_ge {r : Int → Nat} {n : Int} (hs : sure n = false) {s : Int × Int} (h : s ∈ S) (h2 : s.2 = n) : r s.1 + 1 ≤ nextR S sure r n :=
  (foldl_max_ge S (fun s => decide (s.2 = n) && !sure n) (fun s => r s.1 + 1) 1).2 s h (by simp [h2, hs])
theorem next_pos (S : List (Int × Int)) (sure : Int → Bool) (r : Int → Nat) (n : Int) : 1 ≤ nextR S sure r n := (foldl_max_ge S (fun s => decide (s.2 = n) && !sure n) (fun s => r s.1 + 1) 1).1
theorem next_le {r : Int → Nat} {n : Int} {b : Nat} (hb : 1 ≤ b) (h : ∀ s ∈ S, s.2 = n → sure n = false → r s.1 + 1 ≤ b) : nextR S sure r n ≤ b :=
  foldl_max_le S _ _ 1 b hb fun s hs hp => by
    simp only [Bool.and_eq_true, decide_eq_true_eq, Bool.not_eq_true'] at hp
    exact h s hs hp.1 hp.2
def hearR (S : List (Int × Int)) (sure : Int → Bool) (x : (Int → Nat) × (Int → Nat)) (n : Int) : (Int → Nat) × (Int → Nat) :=
  if x.1 n = 0 ∧ rule S sure x.1 n ≠ 0 then (setF x.1 n (rule S sure x.1 n), setF x.2 n (nextR S sure x.2 n)) else x
theorem hearR_fst (S : List (Int × Int)) (sure : Int → Bool) (x : (Int → Nat) × (Int → Nat)) (n : Int) : (hearR S sure x n).1 = hear S sure x.1 n := by
  unfold hearR hear heard1
  by_cases h0 : x.1 n = 0
  · rw [if_pos h0]
    by_cases h1 : rule S sure x.1 n = 0
    · rw [if_neg (fun h => h.2 h1)]
      funext k
      unfold setF
      by_cases e : k = n
      · rw [if_pos e, h1, e, h0]
      · rw [if_neg e]
    · rw [if_pos ⟨h0, h1⟩]
  · rw [if_neg (fun h => h0 h.1), if_neg h0]
    funext k
    unfold setF
    by_cases e : k = n
    · rw [if_pos e, e]
    · rw [if_neg e]
def hearsR (S : List (Int × Int)) (sure : Int → Bool) (x : (Int → Nat) × (Int → Nat)) (o : List Int) : (Int → Nat) × (Int → Nat) := o.foldl (hearR S sure) x
theorem hearsR_fst : ∀ (o : List Int) (x : (Int → Nat) × (Int → Nat)), (hearsR S sure x o).1 = hears S sure x.1 o
  | [], _ => rfl
  | n :: r, x => by
    show (hearsR S sure (hearR S sure x n) r).1 = hears S sure (hear S sure x.1 n) r
    rw [hearsR_fst r, hearR_fst]

structure RankOk (S : List (Int × Int)) (sure : Int → Bool) (N : Nat) (f0 : Int → Nat) (x : (Int → Nat) × (Int → Nat)) : Prop where
  three : Three x.1
  zero : ∀ n, x.1 n = 0 → x.2 n = 0
  old : ∀ n, f0 n ≠ 0 → x.1 n = f0 n ∧ x.2 n = 0
  up : ∀ n, f0 n = 0 → x.1 n = 1 → 1 ≤ x.2 n ∧ ∀ s ∈ S, s.2 = n → sure n = false → x.1 s.1 = 2 ∧ x.2 s.1 < x.2 n
  down : ∀ n, f0 n = 0 → x.1 n = 2 → sure n = false ∧ ∃ s ∈ S, s.2 = n ∧ x.1 s.1 = 1 ∧ x.2 s.1 < x.2 n
  few : ∀ n, x.2 n + openN N x.1 ≤ N
theorem RankOk.start (h3 : Three f0) (N : Nat) : RankOk S sure N f0 (f0, fun _ => 0) :=
  ⟨h3, fun _ _ => rfl, fun _ _ => ⟨rfl, rfl⟩, fun n h (h1 : f0 n = 1) => by omega, fun n h (h1 : f0 n = 2) => by omega, fun n => by have := open_le N f0; simpa using this⟩
theorem RankOk.hear (h : RankOk S sure N f0 x) {n : Int} (hn : 0 ≤ n ∧ n < N) : RankOk S sure N f0 (hearR S sure x n) := by
  unfold hearR
  by_cases hc : x.1 n = 0 ∧ rule S sure x.1 n ≠ 0
  · rw [if_pos hc]
    obtain ⟨h0, h1⟩ := hc
    have hr := rule_le S sure x.1 n
    have hfo : f0 n = 0 := Classical.byContradiction fun e => by have := (h.old n e).1; omega
    have keep : ∀ k, x.1 k ≠ 0 → setF x.1 n (rule S sure x.1 n) k = x.1 k ∧ setF x.2 n (nextR S sure x.2 n) k = x.2 k := fun k hk => by
      have e : k ≠ n := fun e => by rw [e] at hk; exact hk h0
      unfold setF; rw [if_neg e, if_neg e]; exact ⟨rfl, rfl⟩
    have at1 : setF x.1 n (rule S sure x.1 n) n = rule S sure x.1 n := by unfold setF; rw [if_pos rfl]
    have at2 : setF x.2 n (nextR S sure x.2 n) n = nextR S sure x.2 n := by unfold setF; rw [if_pos rfl]
    have ne1 : ∀ k, k ≠ n → setF x.1 n (rule S sure x.1 n) k = x.1 k ∧ setF x.2 n (nextR S sure x.2 n) k = x.2 k := fun k e => by unfold setF; rw [if_neg e, if_neg e]; exact ⟨rfl, rfl⟩
    refine ⟨fun k => ?_, fun k hk => ?_, fun k hk => ?_, fun k hk h1' => ?_, fun k hk h2' => ?_, fun k => ?_⟩
    · show setF x.1 n _ k ≤ 2
      unfold setF; split
      · exact hr
      · exact h.three k
    · by_cases e : k = n
      · subst e
        have hk : setF x.1 k (rule S sure x.1 k) k = 0 := hk
        rw [at1] at hk; exact absurd hk h1
      · have hk : setF x.1 n (rule S sure x.1 n) k = 0 := hk
        rw [(ne1 k e).1] at hk
        show setF x.2 n _ k = 0
        rw [(ne1 k e).2]; exact h.zero k hk
    · obtain ⟨a, b⟩ := h.old k hk
      obtain ⟨c, d⟩ := keep k (by rw [a]; exact hk)
      exact ⟨c.trans a, d.trans b⟩
    · by_cases e : k = n
      · subst e
        have h1' : setF x.1 k (rule S sure x.1 k) k = 1 := h1'
        rw [at1] at h1'
        refine ⟨by show 1 ≤ setF x.2 k _ k; rw [at2]; exact next_pos _ _ _ _, fun s hs h2 hsu => ?_⟩
        have hfree : x.1 s.1 = 2 := by
          have a1 : x.1 s.1 ≠ 1 := fun e => by
            unfold rule at h1'
            rw [if_pos (struck_iff.2 ⟨hsu, s, hs, h2, e⟩)] at h1'; cases h1'
          have a0 : x.1 s.1 ≠ 0 := fun e => by
            unfold rule at h1'
            by_cases q : struckB S sure x.1 k 1 = true
            · rw [if_pos q] at h1'; cases h1'
            · rw [if_neg q, if_pos (struck_iff.2 ⟨hsu, s, hs, h2, e⟩)] at h1'; cases h1'
          have := h.three s.1
          omega
        obtain ⟨c, d⟩ := keep s.1 (by rw [hfree]; decide)
        refine ⟨c.trans hfree, ?_⟩
        show setF x.2 k _ s.1 < setF x.2 k _ k
        rw [d, at2]
        exact next_ge hsu hs h2
      · have h1' : setF x.1 n (rule S sure x.1 n) k = 1 := h1'
        rw [(ne1 k e).1] at h1'
        obtain ⟨a, b⟩ := h.up k hk h1'
        refine ⟨by show 1 ≤ setF x.2 n _ k; rw [(ne1 k e).2]; exact a, fun s hs h2 hsu => ?_⟩
        obtain ⟨b1, b2⟩ := b s hs h2 hsu
        obtain ⟨c, d⟩ := keep s.1 (by rw [b1]; decide)
        refine ⟨c.trans b1, ?_⟩
        show setF x.2 n _ s.1 < setF x.2 n _ k
        rw [d, (ne1 k e).2]; exact b2
    · by_cases e : k = n
      · subst e
        have h2' : setF x.1 k (rule S sure x.1 k) k = 2 := h2'
        rw [at1] at h2'
        have hst : struckB S sure x.1 k 1 = true := Classical.byContradiction fun q => by
          unfold rule at h2'
          rw [if_neg q] at h2'
          split at h2' <;> cases h2'
        obtain ⟨hsu, s, hs, e1, e2⟩ := struck_iff.1 hst
        obtain ⟨c, d⟩ := keep s.1 (by rw [e2]; decide)
        refine ⟨hsu, s, hs, e1, c.trans e2, ?_⟩
        show setF x.2 k _ s.1 < setF x.2 k _ k
        rw [d, at2]
        exact next_ge hsu hs e1
      · have h2' : setF x.1 n (rule S sure x.1 n) k = 2 := h2'
        rw [(ne1 k e).1] at h2'
        obtain ⟨hsu, s, hs, e1, e2, e3⟩ := h.down k hk h2'
        obtain ⟨c, d⟩ := keep s.1 (by rw [e2]; decide)
        refine ⟨hsu, s, hs, e1, c.trans e2, ?_⟩
        show setF x.2 n _ s.1 < setF x.2 n _ k
        rw [d, (ne1 k e).2]; exact e3
    · have hhas : Has x.1 (setF x.1 n (rule S sure x.1 n)) := fun k hk => (keep k hk).1
      have hlt := open_less (N := N) hhas hn h0 (by rw [at1]; exact h1)
      show setF x.2 n _ k + openN N (setF x.1 n _) ≤ N
      by_cases e : k = n
      · subst e
        rw [at2]
        have hop : 1 ≤ openN N x.1 := Nat.lt_of_le_of_lt (Nat.zero_le _) hlt
        have hN : openN N x.1 ≤ N := open_le N x.1
        have := next_le (S := S) (sure := sure) (r := x.2) (n := k) (b := N + 1 - openN N x.1) (by omega) fun s _ _ _ => by have := h.few s.1; omega
        omega
      · rw [(ne1 k e).2]
        have := h.few k
        omega
  · rw [if_neg hc]; exact h
theorem RankOk.hears (h : RankOk S sure N f0 x) : ∀ (o : List Int), (∀ n ∈ o, 0 ≤ n ∧ n < N) → RankOk S sure N f0 (hearsR S sure x o) := by
  intro o
  induction o generalizing x with
  | nil => exact fun _ => h
  | cons n r ih => exact fun ho => ih (h.hear (ho n List.mem_cons_self)) fun k hk => ho k (List.mem_cons_of_mem _ hk)

def HeldP (S : List (Int × Int)) (sure ref : Int → Bool) (f r : Int → Nat) (n : Int) : Prop :=
  if ref n then f n = 2 ∧ r n = 0 else if f n = 0 then r n = 0 ∧ struckB S sure f n 1 = false ∧ struckB S sure f n 0 = true else if f n = 1 then struckB S sure f n 1 = false ∧ struckB S sure f n 0 = false ∧ nextR S sure r n ≤ r n
  else sure n = false ∧ ∃ s ∈ S, s.2 = n ∧ f s.1 = 1 ∧ r s.1 < r n
def begF (ref : Int → Bool) : Int → Nat := fun n => if ref n then 2 else 0
theorem begF_three (ref : Int → Bool) : Three (begF ref) := fun n => by unfold begF; split <;> omega
theorem rule_zero {n : Int} : rule S sure f n = 0 ↔ struckB S sure f n 1 = false ∧ struckB S sure f n 0 = true := by
  unfold rule
  cases struckB S sure f n 1 <;> cases struckB S sure f n 0 <;> simp
theorem rule_one {n : Int} : rule S sure f n = 1 ↔ struckB S sure f n 1 = false ∧ struckB S sure f n 0 = false := by
  unfold rule
  cases struckB S sure f n 1 <;> cases struckB S sure f n 0 <;> simp
theorem rule_two {n : Int} : rule S sure f n = 2 ↔ struckB S sure f n 1 = true := by
  unfold rule
  cases struckB S sure f n 1 <;> cases struckB S sure f n 0 <;> simp
theorem ranks_hold {ref : Int → Bool} {x : (Int → Nat) × (Int → Nat)} (h : RankOk S sure N (begF ref) x) (hd : Done S sure N x.1) {n : Int} (hn : 0 ≤ n ∧ n < N) : HeldP S sure ref x.1 x.2 n := by
  unfold HeldP
  by_cases hr : ref n = true
  · rw [if_pos hr]
    have := h.old n (by unfold begF; rw [if_pos hr]; decide)
    unfold begF at this
    rw [if_pos hr] at this
    exact this
  · rw [if_neg hr]
    have hb : begF ref n = 0 := by unfold begF; rw [if_neg hr]
    by_cases h0 : x.1 n = 0
    · rw [if_pos h0]
      have := rule_zero.1 (hd n hn.1 hn.2 h0)
      exact ⟨h.zero n h0, this.1, this.2⟩
    · rw [if_neg h0]
      by_cases h1 : x.1 n = 1
      · rw [if_pos h1]
        obtain ⟨a, b⟩ := h.up n hb h1
        refine ⟨?_, ?_, next_le a fun s hs h2 hsu => (b s hs h2 hsu).2⟩
        · cases q : struckB S sure x.1 n 1 with
          | false => rfl
          | true =>
            obtain ⟨hsu, s, hs, e1, e2⟩ := struck_iff.1 q
            have := (b s hs e1 hsu).1; omega
        · cases q : struckB S sure x.1 n 0 with
          | false => rfl
          | true =>
            obtain ⟨hsu, s, hs, e1, e2⟩ := struck_iff.1 q
            have := (b s hs e1 hsu).1; omega
      · rw [if_neg h1]
        have := h.three n
        exact h.down n hb (by omega)
end
end Court
end

section
namespace Court

def strikeL (S : List (Int × Int)) (L : Int → Bool) (n : Int) : Bool := S.any fun s => decide (s.2 = n) && L s.1
def coverB (S : List (Int × Int)) (ref : Int → Bool) (N : Nat) (l : List Int) : Bool := (List.range N).all fun (n : Nat) => l.contains (n : Int) || ref n || strikeL S (fun x => l.contains x) n

def canB (S : List (Int × Int)) (ref : Int → Bool) (l : List Int) (n : Int) : Bool := !ref n && !strikeL S (fun x => (l ++ [n]).contains x) n && l.all fun o => !strikeL S (fun x => decide (x = n)) o
def grow (S : List (Int × Int)) (ref : Int → Bool) (N : Nat) : Nat → Nat → List Int → List (List Int)
  | 0, _, l => if coverB S ref N l then [l] else []
  | k + 1, n, l => (if canB S ref l n then grow S ref N k (n + 1) (l ++ [(n : Int)]) else []) ++ grow S ref N k (n + 1) l
end Court
end

section
namespace Court
section
variable {S : List (Int × Int)} {ref : Int → Bool} {N : Nat} {l : List Int}
def noS : Int → Bool := fun _ => false
def upheld (f : Int → Nat) (N : Nat) : List Int := (allN N).filter fun n => decide (f n = 1)
theorem award_rule {n : Int} (hn : 0 ≤ n ∧ n < N) (hr : ref n ≠ true) : rule S noS (award S noS N (begF ref)) n = award S noS N (begF ref) n := by
  have ha := award_reach S noS N (begF ref)
  by_cases e : award S noS N (begF ref) n = 0
  · rw [award_done S noS N (begF ref) n hn.1 hn.2 e, e]
  · rcases ha.sound (begF_three ref) n e with h | h
    · unfold begF at h; rw [if_neg hr] at h; exact absurd h.symm e
    · exact h
theorem award_ref {n : Int} (hr : ref n = true) : award S noS N (begF ref) n = 2 := by
  have := (award_reach S noS N (begF ref)).has n (by unfold begF; rw [if_pos hr]; decide)
  rw [this]; unfold begF; rw [if_pos hr]
end
end Court
end

section
namespace Court
section
variable {S : List (Int × Int)} {sure : Int → Bool} {f f0 : Int → Nat} {N : Nat}

def combos (c : Int) : Nat → Nat → Nat → List Int → List (List Int)
  | _, _, 0, l => [l]
  | 0, _, _ + 1, _ => []
  | k + 1, n, m + 1, l => (if (n : Int) ≠ c then combos c k (n + 1) m (l ++ [(n : Int)]) else []) ++ combos c k (n + 1) (m + 1) l
theorem mem_combos {c : Int} : ∀ (k n m : Nat) (l l' : List Int), l' ∈ combos c k n m l ↔ ∃ t, l' = l ++ t ∧ t.Pairwise (· < ·) ∧ (∀ x ∈ t, (n : Int) ≤ x ∧ x < n + k ∧ x ≠ c) ∧ t.length = m
  | k, n, 0, l, l' => by
    have e : combos c k n 0 l = [l] := by cases k <;> rfl
    rw [e, List.mem_singleton]
    constructor
    · rintro rfl; exact ⟨[], by simp, .nil, by simp, rfl⟩
    · rintro ⟨t, rfl, -, -, h⟩
      rw [List.eq_nil_of_length_eq_zero h, List.append_nil]
  | 0, n, m + 1, l, l' => by
    have e : combos c 0 n (m + 1) l = [] := rfl
    rw [e]
    constructor
    · intro h; cases h
    · rintro ⟨t, -, -, ht, hl⟩
      cases t with
      | nil => cases hl
      | cons x r => have := ht x List.mem_cons_self; omega
  | k + 1, n, m + 1, l, l' => by
    have e : combos c (k + 1) n (m + 1) l = (if (n : Int) ≠ c then combos c k (n + 1) m (l ++ [(n : Int)]) else []) ++ combos c k (n + 1) (m + 1) l := rfl
    rw [e, List.mem_append]
    constructor
    · rintro (h | h)
      · split at h
        · rename_i hc
          obtain ⟨t, rfl, h1, h2, h3⟩ := (mem_combos k (n + 1) m _ l').1 h
          refine ⟨(n : Int) :: t, by simp, List.pairwise_cons.2 ⟨fun x hx => by have := h2 x hx; omega, h1⟩, fun x hx => ?_, by simp [h3]⟩
          rcases List.mem_cons.1 hx with rfl | hx
          · exact ⟨by omega, by omega, hc⟩
          · have := h2 x hx; exact ⟨by omega, by omega, this.2.2⟩
        · cases h
      · obtain ⟨t, rfl, h1, h2, h3⟩ := (mem_combos k (n + 1) (m + 1) l l').1 h
        exact ⟨t, rfl, h1, fun x hx => by have := h2 x hx; exact ⟨by omega, by omega, this.2.2⟩, h3⟩
    · rintro ⟨t, rfl, h1, h2, h3⟩
      cases t with
      | nil => cases h3
      | cons y r =>
        rw [List.pairwise_cons] at h1
        have hy := h2 y List.mem_cons_self
        by_cases e : y = (n : Int)
        · subst e
          left
          rw [if_pos hy.2.2]
          exact (mem_combos k (n + 1) m _ _).2 ⟨r, by simp, h1.2, fun x hx => by have := h1.1 x hx; have := h2 x (List.mem_cons_of_mem _ hx); exact ⟨by omega, by omega, this.2.2⟩, by simpa using h3⟩
        · right
          refine (mem_combos k (n + 1) (m + 1) l _).2 ⟨y :: r, rfl, List.pairwise_cons.2 h1, fun x hx => ?_, h3⟩
          have hb := h2 x hx
          rcases List.mem_cons.1 hx with rfl | hx
          · exact ⟨by omega, by omega, hb.2.2⟩
          · have := h1.1 x hx; exact ⟨by omega, by omega, hb.2.2⟩
def refL (l : List Int) : Int → Bool := fun n => l.contains n
theorem all_refuted {c : Int} (hc : 0 ≤ c ∧ c < N) (hs : (c, c) ∉ S) (hS : ∀ s ∈ S, 0 ≤ s.1 ∧ s.1 < N) {l : List Int} (hl : ∀ n : Int, 0 ≤ n → n < N → n ≠ c → n ∈ l) (hcl : c ∉ l) : award S noS N (begF (refL l)) c = 1 := by
  have hr : refL l c ≠ true := fun q => hcl (List.contains_iff_mem.1 q)
  have hx := award_rule (S := S) (ref := refL l) (N := N) hc hr
  have two : ∀ s ∈ S, s.2 = c → award S noS N (begF (refL l)) s.1 = 2 := fun s h e => by
    have hsr := hS s h
    have hne : s.1 ≠ c := fun q => hs (by
      have e2 : s = (c, c) := Prod.ext q e
      rw [← e2]; exact h)
    exact award_ref (List.contains_iff_mem.2 (hl s.1 hsr.1 hsr.2 hne))
  have h1 : rule S noS (award S noS N (begF (refL l))) c = 1 := by
    refine rule_one.2 ⟨?_, ?_⟩
    · cases q : struckB S noS (award S noS N (begF (refL l))) c 1 with
      | false => rfl
      | true =>
        obtain ⟨-, s, h, e, v⟩ := struck_iff.1 q
        rw [two s h e] at v; cases v
    · cases q : struckB S noS (award S noS N (begF (refL l))) c 0 with
      | false => rfl
      | true =>
        obtain ⟨-, s, h, e, v⟩ := struck_iff.1 q
        rw [two s h e] at v; cases v
  rw [← hx]; exact h1
end
end Court
end

section
namespace Court
theorem nodup_sub_len {α : Type} [DecidableEq α] : ∀ {l m : List α}, l.Nodup → (∀ x ∈ l, x ∈ m) → l.length ≤ m.length
  | [], m, _, _ => Nat.zero_le _
  | a :: l, m, hn, h => by
    rw [List.nodup_cons] at hn
    have ha := h a List.mem_cons_self
    have := nodup_sub_len (m := m.erase a) hn.2 fun x hx => (List.mem_erase_of_ne (fun e => hn.1 (by rw [← e]; exact hx))).2 (h x (List.mem_cons_of_mem _ hx))
    rw [List.length_erase_of_mem ha] at this
    have := List.length_pos_of_mem ha
    simp only [List.length_cons]; omega

section
variable {S S' : List (Int × Int)} {N : Nat} {p q : Int → Int} {f f' : Int → Nat}

end
end Court
end

section
namespace Go.Proofs
open Go.RowKit

def mkL (m : Int → Bool) : List Value := (List.range 14).map fun (i : Nat) => Value.bool (m i)
def mnL (f : Int → Nat) : List Value := (List.range 14).map fun (i : Nat) => Value.int .i64 (f i : Nat)
def mk (m : Int → Bool) : Array Value := (mkL m).toArray
theorem mkL_len (m : Int → Bool) : (mkL m).length = 14 := by unfold mkL; rw [List.length_map, List.length_range]
theorem mnL_len (f : Int → Nat) : (mnL f).length = 14 := by unfold mnL; rw [List.length_map, List.length_range]
theorem mkL_get (m : Int → Bool) {i : Nat} (h : i < 14) : (mkL m)[i]? = some (.bool (m i)) := by unfold mkL; rw [List.getElem?_map, List.getElem?_range h]; rfl
theorem mnL_get (f : Int → Nat) {i : Nat} (h : i < 14) : (mnL f)[i]? = some (.int .i64 (f i : Nat)) := by unfold mnL; rw [List.getElem?_map, List.getElem?_range h]; rfl
theorem mk_size (m : Int → Bool) : (mk m).size = 14 := by unfold mk; rw [List.size_toArray, mkL_len]
theorem mk_get (m : Int → Bool) {i : Nat} (h : i < 14) : (mk m)[i]? = some (.bool (m i)) := by unfold mk; rw [List.getElem?_toArray, mkL_get m h]
theorem mkL_one (m : Int → Bool) : ∀ v ∈ mkL m, v.oneCell' = true := by intro v hv; unfold mkL at hv; rw [List.mem_map] at hv; obtain ⟨i, -, rfl⟩ := hv; rfl
theorem mnL_one (f : Int → Nat) : ∀ v ∈ mnL f, v.oneCell' = true := by intro v hv; unfold mnL at hv; rw [List.mem_map] at hv; obtain ⟨i, -, rfl⟩ := hv; rfl
def setM (m : Int → Bool) (n : Int) : Int → Bool := fun k => if k = n then true else m k
theorem mkL_set (m : Int → Bool) {n : Nat} (h : n < 14) : (mkL m).set n (.bool true) = mkL (setM m n) := by
  apply List.ext_getElem?
  intro i
  rw [List.getElem?_set]
  by_cases hi : i < 14
  · rw [mkL_get _ hi, mkL_get _ hi, mkL_len]
    unfold setM
    by_cases e : n = i
    · subst e; simp [h]
    · rw [if_neg e, if_neg (by omega)]
  · rw [if_neg (by omega), List.getElem?_eq_none (by rw [mkL_len]; omega), List.getElem?_eq_none (by rw [mkL_len]; omega)]
theorem mnL_set (f : Int → Nat) {n : Nat} (h : n < 14) (v : Nat) : (mnL f).set n (.int .i64 v) = mnL (Court.setF f n v) := by
  apply List.ext_getElem?
  intro i
  rw [List.getElem?_set]
  by_cases hi : i < 14
  · rw [mnL_get _ hi, mnL_get _ hi, mnL_len]
    unfold Court.setF
    by_cases e : n = i
    · subst e; simp [h]
    · rw [if_neg e, if_neg (by omega)]
  · rw [if_neg (by omega), List.getElem?_eq_none (by rw [mnL_len]; omega), List.getElem?_eq_none (by rw [mnL_len]; omega)]
theorem mk_set (m : Int → Bool) {n : Nat} (h : n < 14) : (mk m).setIfInBounds n (.bool true) = mk (setM m n) := by
  unfold mk; rw [List.setIfInBounds_toArray, mkL_set m h]

def deskL (C : CaseL) (a1 a2 : Option Addr) (c1 c2 : Nat) (ref sure : Int → Bool) (f r : Int → Nat) : List Value :=
  [.int .i64 C.claims, .slice a1 C.strikes.length c1, .slice a2 C.surveys.length c2] ++ (mkL ref ++ (mkL sure ++ (mnL f ++ mnL r)))
section
variable (C : CaseL) (a1 a2 : Option Addr) (c1 c2 : Nat) (ref sure : Int → Bool) (f r : Int → Nat)
theorem deskL_len : (deskL C a1 a2 c1 c2 ref sure f r).length = 59 := by unfold deskL; simp only [List.length_append, mkL_len, mnL_len, List.length_cons, List.length_nil]
theorem deskL_0 : (deskL C a1 a2 c1 c2 ref sure f r)[0]? = some (.int .i64 C.claims) := rfl
theorem deskL_1 : (deskL C a1 a2 c1 c2 ref sure f r)[1]? = some (.slice a1 C.strikes.length c1) := rfl
theorem deskL_ref {i : Nat} (h : i < 14) : (deskL C a1 a2 c1 c2 ref sure f r)[3 + i]? = some (.bool (ref i)) := by
  unfold deskL
  rw [List.getElem?_append_right (by simp <;> omega), List.getElem?_append_left (by rw [mkL_len]; simp <;> omega)]
  rw [show 3 + i - [Value.int .i64 C.claims, .slice a1 C.strikes.length c1, .slice a2 C.surveys.length c2].length = i by simp]
  exact mkL_get ref h
theorem deskL_sure {i : Nat} (h : i < 14) : (deskL C a1 a2 c1 c2 ref sure f r)[17 + i]? = some (.bool (sure i)) := by
  unfold deskL
  rw [List.getElem?_append_right (by simp <;> omega), List.getElem?_append_right (by rw [mkL_len]; simp <;> omega), List.getElem?_append_left (by rw [mkL_len, mkL_len]; simp <;> omega)]
  rw [show 17 + i - [Value.int .i64 C.claims, .slice a1 C.strikes.length c1, .slice a2 C.surveys.length c2].length - (mkL ref).length = i by rw [mkL_len]; simp <;> omega]
  exact mkL_get sure h
theorem deskL_found {i : Nat} (h : i < 14) : (deskL C a1 a2 c1 c2 ref sure f r)[31 + i]? = some (.int .i64 (f i : Nat)) := by
  unfold deskL
  rw [List.getElem?_append_right (by simp <;> omega), List.getElem?_append_right (by rw [mkL_len]; simp <;> omega), List.getElem?_append_right (by rw [mkL_len, mkL_len]; simp <;> omega), List.getElem?_append_left (by rw [mkL_len, mkL_len, mnL_len]; simp <;> omega)]
  rw [show 31 + i - [Value.int .i64 C.claims, .slice a1 C.strikes.length c1, .slice a2 C.surveys.length c2].length - (mkL ref).length - (mkL sure).length = i by rw [mkL_len, mkL_len]; simp <;> omega]
  exact mnL_get f h
theorem deskL_rank {i : Nat} (h : i < 14) : (deskL C a1 a2 c1 c2 ref sure f r)[45 + i]? = some (.int .i64 (r i : Nat)) := by
  unfold deskL
  rw [List.getElem?_append_right (by simp <;> omega), List.getElem?_append_right (by rw [mkL_len]; simp <;> omega), List.getElem?_append_right (by rw [mkL_len, mkL_len]; simp <;> omega), List.getElem?_append_right (by rw [mkL_len, mkL_len, mnL_len]; simp <;> omega)]
  rw [show 45 + i - [Value.int .i64 C.claims, .slice a1 C.strikes.length c1, .slice a2 C.surveys.length c2].length - (mkL ref).length - (mkL sure).length - (mnL f).length = i by rw [mkL_len, mkL_len, mnL_len]; simp <;> omega]
  exact mnL_get r h
theorem deskL_set_found {n : Nat} (h : n < 14) (v : Nat) : (deskL C a1 a2 c1 c2 ref sure f r).set (31 + n) (.int .i64 v) = deskL C a1 a2 c1 c2 ref sure (Court.setF f n v) r := by
  unfold deskL
  rw [List.set_append_right _ _ (by simp <;> omega), List.set_append_right _ _ (by rw [mkL_len]; simp <;> omega), List.set_append_right _ _ (by rw [mkL_len, mkL_len]; simp <;> omega), List.set_append_left _ _ (by rw [mkL_len, mkL_len, mnL_len]; simp <;> omega)]
  rw [show 31 + n - [Value.int .i64 C.claims, .slice a1 C.strikes.length c1, .slice a2 C.surveys.length c2].length - (mkL ref).length - (mkL sure).length = n by rw [mkL_len, mkL_len]; simp <;> omega, mnL_set f h]
theorem deskL_set_rank {n : Nat} (h : n < 14) (v : Nat) : (deskL C a1 a2 c1 c2 ref sure f r).set (45 + n) (.int .i64 v) = deskL C a1 a2 c1 c2 ref sure f (Court.setF r n v) := by
  unfold deskL
  rw [List.set_append_right _ _ (by simp <;> omega), List.set_append_right _ _ (by rw [mkL_len]; simp <;> omega), List.set_append_right _ _ (by rw [mkL_len, mkL_len]; simp <;> omega), List.set_append_right _ _ (by rw [mkL_len, mkL_len, mnL_len]; simp <;> omega)]
  rw [show 45 + n - [Value.int .i64 C.claims, .slice a1 C.strikes.length c1, .slice a2 C.surveys.length c2].length - (mkL ref).length - (mkL sure).length - (mnL f).length = n by rw [mkL_len, mkL_len, mnL_len]; simp <;> omega, mnL_set r h]
end

structure DeskAt (w0 w : World) (d : Nat) (C : CaseL) (a1 a2 : Option Addr) (c1 c2 : Nat) (ref sure : Int → Bool) (f r : Int → Nat) : Prop where
  blk : Blk w d 75 (deskL C a1 a2 c1 c2 ref sure f r).toArray
  rep : CRep w0 C a1 a2
  base : w0.heap.size ≤ d
  aft : Aft w0 w
section
variable {w0 w w' : World} {d : Nat} {C : CaseL} {a1 a2 : Option Addr} {c1 c2 : Nat} {ref sure : Int → Bool} {f r : Int → Nat}
theorem DeskAt.lt (h : DeskAt w0 w d C a1 a2 c1 c2 ref sure f r) : d < w.heap.size := h.blk.lt
theorem DeskAt.later (h : DeskAt w0 w d C a1 a2 c1 c2 ref sure f r) (ha : Aft w w') : DeskAt w0 w' d C a1 a2 c1 c2 ref sure f r := ⟨h.blk.aft ha, h.rep, h.base, h.aft.trans ha⟩
theorem DeskAt.strs (h : DeskAt w0 w d C a1 a2 c1 c2 ref sure f r) : Strs w a1 C.strikes := h.rep.strikes.aft h.aft
theorem DeskAt.k0 (h : DeskAt w0 w d C a1 a2 c1 c2 ref sure f r) : w.cell? ⟨d, 0, none⟩ = some (.int .i64 C.claims) := (h.blk.cell 0).trans (by rw [List.getElem?_toArray, deskL_0])
theorem DeskAt.k1 (h : DeskAt w0 w d C a1 a2 c1 c2 ref sure f r) : w.cell? ⟨d, 1, none⟩ = some (.slice a1 C.strikes.length c1) := (h.blk.cell 1).trans (by rw [List.getElem?_toArray, deskL_1])
theorem DeskAt.rf (h : DeskAt w0 w d C a1 a2 c1 c2 ref sure f r) {i : Nat} (hi : i < 14) : w.cell? ⟨d, 3 + i, none⟩ = some (.bool (ref i)) := (h.blk.cell _).trans (by rw [List.getElem?_toArray, deskL_ref _ _ _ _ _ _ _ _ _ hi])
theorem DeskAt.sr (h : DeskAt w0 w d C a1 a2 c1 c2 ref sure f r) {i : Nat} (hi : i < 14) : w.cell? ⟨d, 17 + i, none⟩ = some (.bool (sure i)) := (h.blk.cell _).trans (by rw [List.getElem?_toArray, deskL_sure _ _ _ _ _ _ _ _ _ hi])
theorem DeskAt.found (h : DeskAt w0 w d C a1 a2 c1 c2 ref sure f r) {i : Nat} (hi : i < 14) : w.cell? ⟨d, 31 + i, none⟩ = some (.int .i64 (f i : Nat)) := (h.blk.cell _).trans (by rw [List.getElem?_toArray, deskL_found _ _ _ _ _ _ _ _ _ hi])
theorem DeskAt.rank (h : DeskAt w0 w d C a1 a2 c1 c2 ref sure f r) {i : Nat} (hi : i < 14) : w.cell? ⟨d, 45 + i, none⟩ = some (.int .i64 (r i : Nat)) := (h.blk.cell _).trans (by rw [List.getElem?_toArray, deskL_rank _ _ _ _ _ _ _ _ _ hi])
theorem DeskAt.fz (h : DeskAt w0 w d C a1 a2 c1 c2 ref sure f r) (i : Nat) : w.frozen? ⟨d, i, none⟩ = false := h.blk.frozen i
theorem DeskAt.founds (h : DeskAt w0 w d C a1 a2 c1 c2 ref sure f r) : w.rangeAt d 31 (mnL f) := fun j v hv => by
  have hj : j < 14 := by have := (List.getElem?_eq_some_iff.1 hv).1; rwa [mnL_len] at this
  rw [mnL_get f hj] at hv
  rw [← hv]
  exact h.found hj
theorem DeskAt.setFound (h : DeskAt w0 w d C a1 a2 c1 c2 ref sure f r) {n : Nat} (hn : n < 14) (v : Nat) : DeskAt w0 (w.setCell ⟨d, 31 + n, none⟩ (.int .i64 v)) d C a1 a2 c1 c2 ref sure (Court.setF f n v) r :=
  ⟨by have := h.blk.store (31 + n) (.int .i64 v); rwa [List.setIfInBounds_toArray, deskL_set_found _ _ _ _ _ _ _ _ _ hn] at this, h.rep, h.base, h.aft.then_setCell h.base _⟩
theorem DeskAt.setRank (h : DeskAt w0 w d C a1 a2 c1 c2 ref sure f r) {n : Nat} (hn : n < 14) (v : Nat) : DeskAt w0 (w.setCell ⟨d, 45 + n, none⟩ (.int .i64 v)) d C a1 a2 c1 c2 ref sure f (Court.setF r n v) :=
  ⟨by have := h.blk.store (45 + n) (.int .i64 v); rwa [List.setIfInBounds_toArray, deskL_set_rank _ _ _ _ _ _ _ _ _ hn] at this, h.rep, h.base, h.aft.then_setCell h.base _⟩
end
end Go.Proofs
end

section
namespace Go.Proofs
open Go.RowKit

theorem setCells_blk {g : Nat} {t : TypeId} : ∀ (vs : List Value) (o : Nat) (w : World) (cs : Array Value), Blk w g t cs →
    ∃ cs', cs'.size = cs.size ∧ Blk (w.setCells g o vs) g t cs' ∧ ∀ i, i < o → cs'[i]? = cs[i]?
  | [], _, _, cs, h => ⟨cs, rfl, h, fun _ _ => rfl⟩
  | v :: r, o, w, cs, h => by
    obtain ⟨cs', h1, h2, h3⟩ := setCells_blk r (o + 1) (w.setCell ⟨g, o, none⟩ v) _ (h.store o v)
    refine ⟨cs', by simpa using h1, h2, fun i hi => ?_⟩
    rw [h3 i (by omega), Array.getElem?_setIfInBounds, if_neg (by omega)]
theorem only_setCells {a : World} {g : Nat} : ∀ (vs : List Value) (o : Nat) (w : World), a.grownBy w (some g) → a.grownBy (w.setCells g o vs) (some g)
  | [], _, _, h => h
  | v :: r, o, _, h => only_setCells r (o + 1) _ (only_setCell h (.inl rfl) v)

theorem Nums.ints {w : World} {g : Nat} {cs : Array Value} {l : List Int} (hb : Blk w g 3 cs) (hn : Nums cs l) (hl : l.length ≤ 17592186043904) : Ints w (some ⟨g, 0, none⟩) l :=
  ⟨by omega, .inr ⟨g, 0, rfl, hb.lt, fun i hi => ⟨_, by simp, rfl, fun j hj => by
    simp at hj; subst hj
    simpa using (hb.cell _).trans (hn.at hi)⟩⟩⟩

structure DelAt (p : Int → Bool) (l : List Int) (j : Nat) (cs : Array Value) : Prop where
  le : j ≤ l.length
  size : l.length ≤ cs.size
  few : ((l.take j).filter (fun x => !p x)).length < j
  kept : Nums cs ((l.take j).filter (fun x => !p x))
  rest : ∀ t, (h : t < l.length) → j ≤ t → cs[t]? = some (.int .i64 l[t])

theorem DelAt.skip {p : Int → Bool} {l : List Int} {j : Nat} {cs : Array Value} (h : DelAt p l j cs) (hj : j < l.length) (hp : p l[j] = true) : DelAt p l (j + 1) cs := by
  have e : (l.take (j + 1)).filter (fun x => !p x) = (l.take j).filter (fun x => !p x) := by rw [List.take_succ_eq_append_getElem hj, List.filter_append]; simp [hp]
  exact ⟨by omega, h.size, by rw [e]; have := h.few; omega, by rw [e]; exact h.kept, fun t ht hjt => h.rest t ht (by omega)⟩
theorem DelAt.keep {p : Int → Bool} {l : List Int} {j : Nat} {cs : Array Value} (h : DelAt p l j cs) (hj : j < l.length) (hp : p l[j] = false) :
    DelAt p l (j + 1) (cs.setIfInBounds ((l.take j).filter (fun x => !p x)).length (.int .i64 l[j])) := by
  have e : (l.take (j + 1)).filter (fun x => !p x) = (l.take j).filter (fun x => !p x) ++ [l[j]] := by rw [List.take_succ_eq_append_getElem hj, List.filter_append]; simp [hp]
  refine ⟨by omega, by simpa using h.size, by rw [e]; have := h.few; simp; omega, ?_, fun t ht hjt => ?_⟩
  · have hs := h.size
    have hf := h.few
    have hk := h.kept
    rw [e]
    generalize (l.take j).filter (fun x => !p x) = m at hf hk ⊢
    refine ⟨by simp; omega, fun t ht => ?_⟩
    rw [Array.getElem?_setIfInBounds]
    by_cases et : m.length = t
    · subst et; simp; omega
    · have : t < m.length := by simp at ht; omega
      rw [if_neg et, hk.2 t this, List.getElem_append_left this]
  · have hf := h.few
    rw [Array.getElem?_setIfInBounds, if_neg (by omega)]
    exact h.rest t ht (by omega)
theorem filter_kept_succ {p : Int → Bool} {l : List Int} {j : Nat} (hj : j < l.length) (hp : p l[j] = false) :
    ((l.take (j + 1)).filter (fun x => !p x)).length = ((l.take j).filter (fun x => !p x)).length + 1 := by
  rw [List.take_succ_eq_append_getElem hj, List.filter_append]; simp [hp]
theorem filter_kept_same {p : Int → Bool} {l : List Int} {j : Nat} (hj : j < l.length) (hp : p l[j] = true) :
    ((l.take (j + 1)).filter (fun x => !p x)).length = ((l.take j).filter (fun x => !p x)).length := by
  rw [List.take_succ_eq_append_getElem hj, List.filter_append]; simp [hp]
theorem filter_none {p : Int → Bool} {l : List Int} (h : l.any p = false) : l.filter (fun x => !p x) = l := by
  rw [List.filter_eq_self]; intro x hx; rw [List.any_eq_false] at h; simpa using h x hx

def Kept (p : Int → Bool) (l : List Int) (g c : Nat) (sz : Nat) (w : World) (e : Ending) (w' : World) : Prop :=
  e = .returned (.slice (some ⟨g, 0, none⟩) (l.filter (fun x => !p x)).length c) ∧ w.grownBy w' (some g) ∧ ∃ cs', cs'.size = sz ∧ Blk w' g 3 cs' ∧ Nums cs' (l.filter (fun x => !p x))

theorem zero3 (w : World) : (zeroValue 3).run Try.prog w = .ok (.int .i64 0) w := by kernel_rfl

set_option maxHeartbeats 1600000 in
theorem deleteFunc_blk (I : World → Prop) (g : Nat) (hIa : ∀ W W', I W → Aft W W' → I W') (hIs : ∀ W i v, I W → I (W.setCell ⟨g, i, none⟩ v)) (K : FuncId) (cap : List Value) (p : Int → Bool)
    (l : List Int) (c : Nat) (cs : Array Value) (w : World) (hl : l.length ≤ 17592186043904) (hb : Blk w g 3 cs) (hn : Nums cs l) (hlc : l.length ≤ c) (hI : I w)
    (hK : ∀ args w, (callFunc K args).run Try.prog w = .ok (.enter K args) w)
    (hp : ∀ x ∈ l, ∀ W, I W → Calls Try.prog K (.int .i64 x :: cap).toArray W fun e w' => e = .returned (.bool (p x)) ∧ Aft W w') :
    Calls Try.prog 54 #[.slice (some ⟨g, 0, none⟩) l.length c, .func (.func K) #[] cap.toArray] w (Kept p l g c cs.size w) := by
  have hA := Nums.ints hb hn hl
  have hi := indexFunc_int IntR K cap p _ l c w hA hK (fun x hx v hv u => by cases hv; exact hp x hx _ (hIa _ _ hI ⟨u, rfl⟩))
  have HI := Lib.hid hi
  have HP := Lib.hid hp
  have HS := Lib.hid hIs
  have HAf := Lib.hid hIa
  clear hi hp hIs hIa hA
  go_enter Try.func54, Try.ntmps54
  go_wp2_with (go_at_call 79; refine HI.out.mono ?_; rintro e w1 ⟨(⟨rfl, hany⟩ | ⟨k, hkl, rfl, hpk, hany⟩), u, rfl⟩)
  · have HA := Lib.hid hany; clear hany
    go_wp2
    go_ret
    refine ⟨by rw [filter_none HA.out]; rfl, only_of_aft (Aft.lat _ _) _, cs, rfl, hb.lat u, ?_⟩
    rw [filter_none HA.out]; exact hn
  · have HA := Lib.hid hany; clear hany
    have HPK := Lib.hid hpk; clear hpk
    have hk0 : (0 : Int) ≤ (k : Int) := by omega
    have hkm : ((k : Int) == -1) = false := by rw [beq_eq_false_iff_ne]; omega
    go_wp2
    rw [hkm]
    go_loopw [5, 6] (fun i j wr => ∃ n : Nat, j = .int .i64 n ∧ n ≤ l.length ∧ i = .int .i64 ((l.take n).filter (fun x => !p x)).length ∧ I wr ∧ w.grownBy wr (some g) ∧ ∃ cs', cs'.size = cs.size ∧ Blk wr g 3 cs' ∧ DelAt p l n cs')
      (fun _ j _ => l.length - (intOf j).toNat)
    case atStart =>
      have e : (l.take (k + 1)).filter (fun x => !p x) = l.take k := by
        rw [List.take_succ_eq_append_getElem hkl, List.filter_append, filter_none HA.out]; simp [HPK.out]
      have hkk : (l.take k).length = k := by simp; omega
      exact ⟨k + 1, by go_num, by omega, by rw [e, hkk], HAf.out _ _ hI (Aft.lat _ _), only_of_aft (Aft.lat _ _) _, cs, rfl, hb.lat u, by omega, hn.1, by rw [e, hkk]; omega,
        by rw [e]; exact ⟨by have := hn.1; omega, fun t ht => by rw [hn.2 t (by omega)]; simp⟩, fun t ht _ => hn.2 t ht⟩
    case round =>
      obtain ⟨n, rfl, hnl, rfl, hIw, hg, cs', hs, hb', hd⟩ := hrel
      have hfew := hd.few
      have hsz := hd.size
      by_cases hlt : n < l.length
      · have c1 : wr.cell? ⟨g, n, none⟩ = some (.int .i64 l[n]) := by rw [hb'.cell]; exact hd.rest n hlt (Nat.le_refl _)
        have hcall := HP.out l[n] (List.getElem_mem hlt) wr hIw
        cases hpn : p l[n]
        · have HB := Lib.hid hpn; clear hpn
          rw [HB.out] at hcall
          have e1 := filter_kept_succ hlt HB.out
          have hd' := hd.keep hlt HB.out
          generalize (l.take n).filter (fun x => !p x) = m at *
          have E1 := Lib.hid e1; clear e1
          have HD := Lib.hid hd'; clear hd'
          obtain ⟨x, hx⟩ : ∃ x, cs'[m.length]? = some x := ⟨_, Array.getElem?_eq_getElem (by omega)⟩
          have c2 : wr.cell? ⟨g, m.length, none⟩ = some x := (hb'.cell _).trans hx
          have f2 := hb'.frozen m.length
          have hgl := hb'.lt
          go_wp2_with (refine hcall.mono ?_; rintro e w' ⟨rfl, u1, rfl⟩; clear hcall)
          go_roundw
          case rel =>
            exact ⟨n + 1, by go_num, by omega, by rw [E1.out]; go_num, HS.out _ _ _ (HAf.out _ _ hIw (Aft.lat _ _)), only_setCell (only_aft hg (Aft.lat _ _)) (.inl rfl) _, _, by simp [hs], (hb'.lat u1).store _ _, HD.out⟩
          case measure => simp [intOf]; omega
        · have HB := Lib.hid hpn; clear hpn
          rw [HB.out] at hcall
          have e1 := filter_kept_same hlt HB.out
          have E1 := Lib.hid e1; clear e1
          go_wp2_with (refine hcall.mono ?_; rintro e w' ⟨rfl, u1, rfl⟩; clear hcall)
          go_roundw
          case rel => exact ⟨n + 1, by go_num, by omega, by rw [E1.out], HAf.out _ _ hIw (Aft.lat _ _), only_aft hg (Aft.lat _ _), cs', hs, hb'.lat u1, hd.skip hlt HB.out⟩
          case measure => simp [intOf]; omega
      · have hnn : n = l.length := by omega
        have hall : (l.take n).filter (fun x => !p x) = l.filter (fun x => !p x) := by rw [List.take_of_length_le (by omega)]
        have hkept := hd.kept
        rw [hall] at hkept hfew ⊢
        have HALL := Lib.hid hall
        clear hall
        have hle : n ≤ l.length := by omega
        have hge : l.length ≤ n := by omega
        clear hnn
        generalize hM : l.filter (fun x => !p x) = m at *
        have HM := Lib.hid hM; clear hM
        have hcl : ∀ ty, (Builtin.clear_ #[26] ty #[.slice (some ⟨g, m.length, none⟩) (l.length - m.length) (c - m.length)]).run Try.prog wr = .ok (.tuple #[]) (wr.setCells g m.length (List.replicate (l.length - m.length) (.int .i64 0))) := fun ty =>
          Lib.run_clear_slice wr 26 3 ty (.int .i64 0) Try.underlying26 zero3 rfl rfl g m.length _ _ (by omega)
            (fun j hj => by rw [hb'.cell, Array.getElem?_eq_getElem (by omega)]; rfl) (fun j hj => hb'.frozen _)
        go_wp2
        go_ret
        obtain ⟨cs'', h1, h2, h3⟩ := setCells_blk (g := g) (t := 3) (List.replicate (l.length - m.length) (.int .i64 0)) m.length wr cs' hb'
        refine ⟨by rw [HM.out]; rfl, only_setCells _ _ _ hg, cs'', by omega, h2, ?_⟩
        rw [HM.out]
        exact ⟨by have := hkept.1; omega, fun t ht => (h3 t ht).trans (hkept.2 t ht)⟩

end Go.Proofs
end

section
namespace Go.Proofs
open Go.RowKit
open Court (refL)

theorem refL_succ (l : List Int) (k : Nat) (h : k < l.length) : refL (l.take (k + 1)) = setM (refL (l.take k)) l[k] := by
  funext n
  unfold refL setM
  rw [List.take_succ_eq_append_getElem h]
  show (List.take k l ++ [l[k]]).contains n = if n = l[k] then true else (List.take k l).contains n
  rw [List.contains_eq_mem, List.contains_eq_mem]
  by_cases e : n = l[k]
  · rw [if_pos e]; exact decide_eq_true (List.mem_append.2 (.inr (by rw [e]; simp)))
  · rw [if_neg e]; exact decide_eq_decide.2 ⟨fun h => (List.mem_append.1 h).elim id (fun h => absurd (List.mem_singleton.1 h) e), fun h => List.mem_append.2 (.inl h)⟩

theorem mkL_none : mkL (refL []) = List.replicate 14 (.bool false) := by
  unfold mkL refL
  rfl
theorem info87 : (Try.prog.info? 72).map (·.size) = some 14 := by kernel_rfl
theorem info92 : (Try.prog.info? 73).map (·.size) = some 14 := by kernel_rfl
theorem blk_range {w : World} {g : Nat} {t : TypeId} {cs : List Value} (h : Blk w g t cs.toArray) : w.rangeAt g 0 cs := fun j v hv => by
  rw [h.cell, Nat.zero_add, List.getElem?_toArray]; exact hv
theorem blk_there {w : World} {g : Nat} {t : TypeId} {cs : Array Value} (h : Blk w g t cs) {n : Nat} (hn : n = cs.size) : w.there g 0 n := fun j hj => by
  subst hn
  rw [h.cell, h.frozen, Nat.zero_add]
  exact ⟨by simp [hj], rfl⟩

def Marked (l : List Int) (w : World) (e : Ending) (w' : World) : Prop := e = .returned (.agg (mk (refL l))) ∧ Aft w w'

set_option maxRecDepth 100000 in
set_option maxHeartbeats 2000000 in
theorem marked_any (l : List Int) (A : Option Addr) (c : Nat) (w : World) (hA : Ints w A l) (hl : ∀ n ∈ l, 0 ≤ n ∧ n < 14) :
    Calls Try.prog 73 #[.slice A l.length c] w (Marked l w) := by
  have hll := hA.len
  have HA := Lib.hid hA
  have HL : Hid (∀ k, (h : k < l.length) → 0 ≤ l[k] ∧ l[k] < 14) := Lib.hid fun k h => hl _ (List.getElem_mem h)
  clear hA hl
  go_enter Try.func73, Try.ntmps73
  go_wp2_with fail
  have HB0 : Hid (Blk ((w.alloc (.cells (List.replicate 14 (Value.bool false)).toArray 72)).alloc (.cells (List.replicate 14 (Value.bool false)).toArray 72)) w.heap.size 72 (List.replicate 14 (Value.bool false)).toArray) := Lib.hid ((Blk.new w 72 _).alloc _)
  have HB1 : Hid (Blk ((w.alloc (.cells (List.replicate 14 (Value.bool false)).toArray 72)).alloc (.cells (List.replicate 14 (Value.bool false)).toArray 72)) (w.heap.size + 1) 72 (mk (refL (l.take 0)))) := Lib.hid (by
    have := Blk.new (w.alloc (.cells (List.replicate 14 (Value.bool false)).toArray 72)) 72 (List.replicate 14 (Value.bool false)).toArray
    rw [World.size_alloc] at this
    rw [List.take_zero]
    unfold mk
    rw [mkL_none]
    exact this)
  have HA1 : Hid (Aft w ((w.alloc (.cells (List.replicate 14 (Value.bool false)).toArray 72)).alloc (.cells (List.replicate 14 (Value.bool false)).toArray 72))) := Lib.hid ((Aft.alloc _ _).then_alloc _)
  change Code.wp _ _ _ _ ((w.alloc (.cells (List.replicate 14 (Value.bool false)).toArray 72)).alloc (.cells (List.replicate 14 (Value.bool false)).toArray 72))
  generalize (w.alloc (.cells (List.replicate 14 (Value.bool false)).toArray 72)).alloc (.cells (List.replicate 14 (Value.bool false)).toArray 72) = W1 at *
  go_loopw [8] (fun i wr => ∃ k : Nat, i = .int .i64 k ∧ k ≤ l.length ∧ Blk wr w.heap.size 72 (List.replicate 14 (Value.bool false)).toArray ∧ Blk wr (w.heap.size + 1) 72 (mk (refL (l.take k))) ∧ Aft w wr) (fun i _ => l.length - (intOf i).toNat)
  case atStart => exact ⟨0, rfl, by omega, HB0.out, HB1.out, HA1.out⟩
  case round =>
    obtain ⟨k, rfl, hk, hb0, hb1, ha⟩ := hrel
    have HA2 := Lib.hid ha
    have HB2 := Lib.hid hb0
    have HB3 := Lib.hid hb1
    by_cases hkl : k < l.length
    · obtain ⟨b, o, rfl, hb, hc⟩ := (HA.out.aft ha).at hkl
      have h1 := hc k hkl
      obtain ⟨h2, h3⟩ := HL.out k hkl
      have HS := Lib.hid (refL_succ l k hkl)
      clear hc ha hb0 hb1
      obtain ⟨n, hn⟩ : ∃ n : Nat, l[k] = n := ⟨l[k].toNat, by omega⟩
      rw [hn] at h1 h2 h3 HS
      clear hn
      have hn14 : n < 14 := by omega
      have k1 := (HB3.out.cell n).trans (mk_get _ hn14)
      have k2 := HB3.out.frozen n
      go_wp2_with fail
      exact ⟨⟨k + 1, by go_num, by omega, HB2.out.far (p := ⟨w.heap.size + 1, n, none⟩) (by show w.heap.size ≠ w.heap.size + 1; omega) _, by
        have := HB3.out.store n (.bool true)
        rw [mk_set _ hn14, ← HS.out] at this
        exact this, HA2.out.then_setCell (p := ⟨w.heap.size + 1, n, none⟩) (by show w.heap.size ≤ w.heap.size + 1; omega) _⟩, by simp [intOf]; omega⟩
    · obtain rfl : k = l.length := by omega
      rw [List.take_of_length_le (Nat.le_refl _)] at HB3
      have HR := Lib.hid (blk_range HB3.out)
      have HTH := Lib.hid (blk_there HB2.out (mk_size (refL l)).symm.symm)
      obtain ⟨W9, hW9, hl2, h9⟩ : ∃ W9, wr.setCells w.heap.size 0 (mk (refL l)).toList = W9 ∧ (loadVar 72 ⟨w.heap.size, 0, none⟩).run Try.prog W9 = .ok (.agg (mk (refL l))) W9 ∧ Aft w W9 :=
        ⟨_, rfl, run_loadVar_mid (P := Try.prog) _ w.heap.size 0 72 (mkL (refL l)) _ (World.rangeAt_setCells_same wr w.heap.size 0 (mkL (refL l)) (blk_there HB2.out (mkL_len _))) Try.underlying72 rfl (by rw [info87, mkL_len]),
          HA2.out.grown (only_setCells _ _ _ (only_refl _ _)) (fun k e => by cases e; exact Nat.le_refl _)⟩
      have H9 := Lib.hid h9
      clear hb0 hb1 HL h9 ha
      go_wp2_with (first | (refine wpList_load_mid rfl 72 (.tmp 3) rfl (w.heap.size + 1) 0 rfl (mkL (refL l)) _ HR.out Try.underlying72 rfl (by rw [info87, mkL_len]) ?_) | (refine wpList_store_mid rfl 72 (.tmp 2) (.tmp 15) rfl w.heap.size 0 (mk (refL l)) rfl rfl HTH.out (by rw [info87, mk_size]) (all_oneCell_toArray (mkL_one _)) ?_; rw [hW9]))
      refine bodyPost_ret (v := .agg (mk (refL l))) ?_ rfl ⟨rfl, H9.out⟩
      simp [results, Try.results73, Act.put, asAddr, hl2]
end Go.Proofs
end

section
namespace Go.Proofs
open Go.RowKit
open Court (refL begF noS)

def deskA (N : Int) (a1 : Option Addr) (n1 c1 : Nat) (a2 : Option Addr) (n2 c2 : Nat) (p q : Int → Bool) : Array Value := ([Value.int .i64 N, Value.slice a1 n1 c1, Value.slice a2 n2 c2] ++ (mkL p ++ (mkL q ++ (mnL (fun _ => 0) ++ mnL (fun _ => 0))))).toArray
set_option maxRecDepth 100000 in
theorem build94 (N : Int) (a1 : Option Addr) (n1 c1 : Nat) (a2 : Option Addr) (n2 c2 : Nat) (p q : Int → Bool) (w : World) : (Instr.build 75 #[(0, .agg #[.int .i64 N, .slice a1 n1 c1, .slice a2 n2 c2]), (1, .agg (mk p)), (2, .agg (mk q))]).run Try.prog w = .ok (.agg (deskA N a1 n1 c1 a2 n2 c2 p q)) w := by kernel_rfl
attribute [local go_sem ↓] build94

def begTo (ref : Int → Bool) (k : Nat) : Int → Nat := fun n => if n < k ∧ 0 ≤ n then begF ref n else 0
theorem begTo_zero (ref : Int → Bool) : begTo ref 0 = fun _ => 0 := by
  funext n; unfold begTo; rw [if_neg (by omega)]
theorem begTo_no {ref : Int → Bool} {k : Nat} (h : ref k = false) : begTo ref (k + 1) = begTo ref k := by
  funext n
  unfold begTo begF
  by_cases e : n = k
  · subst e; rw [if_neg (by omega : ¬ ((k : Int) < k ∧ _)), h]; simp
  · by_cases h2 : n < k ∧ 0 ≤ n
    · rw [if_pos h2, if_pos (by omega)]
    · rw [if_neg h2, if_neg (by omega)]
theorem begTo_yes {ref : Int → Bool} {k : Nat} (h : ref k = true) : begTo ref (k + 1) = Court.setF (begTo ref k) k 2 := by
  funext n
  unfold begTo begF Court.setF
  by_cases e : n = k
  · subst e; rw [if_pos (by omega), if_pos rfl, if_pos h]
  · rw [if_neg e]
    dsimp only
    by_cases h2 : n < k ∧ 0 ≤ n
    · rw [if_pos h2, if_pos (by omega)]
    · rw [if_neg h2, if_neg (by omega)]
theorem begTo_all {R : List Int} {N : Int} (hR : ∀ n ∈ R, 0 ≤ n ∧ n < N) (k : Nat) (hk : (k : Int) = N) : begTo (refL R) k = begF (refL R) := by
  funext n
  unfold begTo begF refL
  by_cases h2 : n < k ∧ 0 ≤ n
  · rw [if_pos h2]
  · rw [if_neg h2, if_neg]
    intro h
    have := hR n (by simpa using h)
    omega

theorem box25 {W : World} {b : Nat} {N : Int} {s1 s2 : Value} (h : Blk W b 25 #[.int .i64 N, s1, s2]) : W.cell? ⟨b, 0, none⟩ = some (.int .i64 N) ∧ W.cell? ⟨b, 1, none⟩ = some s1 ∧ W.cell? ⟨b, 2, none⟩ = some s2 :=
  ⟨(h.cell 0).trans rfl, (h.cell 1).trans rfl, (h.cell 2).trans rfl⟩

set_option maxRecDepth 100000 in
set_option maxHeartbeats 2000000 in
theorem begun_any (C : CaseL) (a1 a2 : Option Addr) (c1 c2 : Nat) (R F : List Int) (A A' : Option Addr) (c c' : Nat) (w : World) (hN : 1 ≤ C.claims ∧ C.claims ≤ 14) (hC : CRep w C a1 a2) (hA : Ints w A R) (hA' : Ints w A' F) (hR : ∀ n ∈ R, 0 ≤ n ∧ n < C.claims) (hF : ∀ n ∈ F, 0 ≤ n ∧ n < 14) :
    Calls Try.prog 62 #[(.agg #[.int .i64 C.claims, .slice a1 C.strikes.length c1, .slice a2 C.surveys.length c2]), .slice A R.length c, .slice A' F.length c'] w fun e w' => ∃ d, e = .returned (.pointer (some ⟨d, 0, none⟩)) ∧ DeskAt w w' d C a1 a2 c1 c2 (refL R) (refL F) (begF (refL R)) (fun _ => 0) := by
  have h0 : Aft w (w.alloc (.cells #[.int .i64 C.claims, .slice a1 C.strikes.length c1, .slice a2 C.surveys.length c2] 25)) := Aft.alloc _ _
  have HB := Lib.hid (Blk.new w 25 #[.int .i64 C.claims, .slice a1 C.strikes.length c1, .slice a2 C.surveys.length c2])
  have H1 : Hid (∀ W, Aft w W → Calls Try.prog 73 #[.slice A R.length c] W (Marked R W)) := Lib.hid fun W h => marked_any R A c W (hA.aft h) fun n hn => ⟨(hR n hn).1, by have := (hR n hn).2; omega⟩
  have H2 : Hid (∀ W, Aft w W → Calls Try.prog 73 #[.slice A' F.length c'] W (Marked F W)) := Lib.hid fun W h => marked_any F A' c' W (hA'.aft h) hF
  have HC := Lib.hid hC
  have H0 := Lib.hid h0
  have HR := Lib.hid (begTo_all hR)
  clear hC hA hA' hR hF h0
  go_enter Try.func62, Try.ntmps62
  go_wp2_with fail
  obtain ⟨W1, hW1⟩ : ∃ W1, w.alloc (.cells #[.int .i64 C.claims, .slice a1 C.strikes.length c1, .slice a2 C.surveys.length c2] 25) = W1 := ⟨_, rfl⟩
  rw [hW1] at HB H0
  rw [hW1]
  have hlt := HB.out.lt
  have k0 := HB.out.cell 0
  have k1 := HB.out.cell 1
  have k2 := HB.out.cell 2
  simp only [List.getElem?_toArray, List.getElem?_cons_zero, List.getElem?_cons_succ] at k0 k1 k2
  clear hW1
  clear k0 k1 k2
  refine wp_region_valsT (by kernel_rfl) 5 34 rfl (by kernel_rfl) (by kernel_rfl) (by kernel_rfl) [(.agg #[.int .i64 C.claims, .slice a1 C.strikes.length c1, .slice a2 C.surveys.length c2]), .slice A R.length c, .agg (mk (refL R)), .slice A' F.length c', .agg (mk (refL F))] rfl (fun _ W => Aft W1 W) (Aft.drew _) ?step ?fin
  case step =>
    intro i o v ho hv
    match i, ho, hv with
    | 0, ho, hv =>
      cases ho; cases hv
      refine .inl ⟨rfl, fun done a W hd hp hk hw K hK => ?_⟩
      have e3 := hk.same 3 (by decide)
      obtain ⟨k0, k1, k2⟩ := box25 (HB.out.aft hw)
      exact op_val (by simp [go_sem, ev' e3, k0, k1, k2]) (hK _ hw)
    | 1, ho, hv =>
      cases ho; cases hv
      refine .inl ⟨rfl, fun done a W hd hp hk hw K hK => ?_⟩
      have e1 := hk.same 1 (by decide)
      exact op_val (by simp [go_sem, ev' e1]) (hK _ hw)
    | 2, ho, hv =>
      cases ho; cases hv
      refine .inl ⟨rfl, fun done a W hd hp hk hw K hK => ?_⟩
      have e1 := hk.at_ 1 _ 10 _ rfl (by decide) _ rfl rfl rfl
      refine op_callN rfl rfl rfl _ rfl (vs := #[.slice A R.length c]) (by simp [e1]) (H1.out _ (H0.out.trans hw)) ?_
      rintro e w' ⟨rfl, hw'⟩
      exact ⟨_, rfl, hK _ (hw.trans hw')⟩
    | 3, ho, hv =>
      cases ho; cases hv
      refine .inl ⟨rfl, fun done a W hd hp hk hw K hK => ?_⟩
      have e1 := hk.same 2 (by decide)
      exact op_val (by simp [go_sem, ev' e1]) (hK _ hw)
    | 4, ho, hv =>
      cases ho; cases hv
      refine .inl ⟨rfl, fun done a W hd hp hk hw K hK => ?_⟩
      have e1 := hk.at_ 3 _ 12 _ rfl (by decide) _ rfl rfl rfl
      refine op_callN rfl rfl rfl _ rfl (vs := #[.slice A' F.length c']) (by simp [e1]) (H2.out _ (H0.out.trans hw)) ?_
      rintro e w' ⟨rfl, hw'⟩
      exact ⟨_, rfl, hK _ (hw.trans hw')⟩
    | _ + 5, _, hv => cases hv
  case fin =>
    intro done W hd hw
    simp only [List.drop_succ_cons, List.drop_zero, List.zip_cons_cons, List.zip_nil_right, putAll]
    have HW := Lib.hid hw
    clear hw hd
    refine wpList_val (v := .agg (deskL C a1 a2 c1 c2 (refL R) (refL F) (fun _ => 0) (fun _ => 0)).toArray) (w' := W) rfl (by kernel_rfl) ?_
    refine wpList_val (v := .pointer (some ⟨W.heap.size, 0, none⟩)) (w' := W.alloc (.cells (deskL C a1 a2 c1 c2 (refL R) (refL F) (fun _ => 0) (fun _ => 0)).toArray 75)) rfl (by kernel_rfl) ?_
    have HD : Hid (DeskAt w (W.alloc (.cells (deskL C a1 a2 c1 c2 (refL R) (refL F) (fun _ => 0) (fun _ => 0)).toArray 75)) W.heap.size C a1 a2 c1 c2 (refL R) (refL F) (fun _ => 0) (fun _ => 0)) := Lib.hid ⟨Blk.new _ _ _, HC.out, (H0.out.trans HW.out).size, (H0.out.trans HW.out).then_alloc _⟩
    have HB2 := Lib.hid ((HB.out.aft HW.out).alloc (.cells (deskL C a1 a2 c1 c2 (refL R) (refL F) (fun _ => 0) (fun _ => 0)).toArray 75))
    have hdB : w.heap.size < W.heap.size := Nat.lt_of_lt_of_le hlt HW.out.size
    generalize hD : W.heap.size = D at *
    generalize W.alloc (.cells (deskL C a1 a2 c1 c2 (refL R) (refL F) (fun _ => 0) (fun _ => 0)).toArray 75) = W2 at *
    clear hD
    obtain ⟨k0, k1, k2⟩ := box25 HB2.out
    have hl2 := HB2.out.lt
    simp only [Act.put, List.setIfInBounds_toArray, List.set]
    go_wp2_with fail
    go_loopw [18] (fun i wr => ∃ k : Nat, i = .int .i64 k ∧ (k : Int) ≤ C.claims ∧ DeskAt w wr D C a1 a2 c1 c2 (refL R) (refL F) (begTo (refL R) k) (fun _ => 0)) (fun i _ => C.claims.toNat - (intOf i).toNat)
    case atStart => exact ⟨0, rfl, by omega, by rw [begTo_zero]; exact HD.out⟩
    case round =>
      obtain ⟨k, rfl, hk, hd⟩ := hrel
      have HDE := Lib.hid hd
      have hdl := hd.lt
      clear hd
      by_cases hkl : (k : Int) < C.claims
      · have hk14 : k < 14 := by omega
        have r1 := HDE.out.rf hk14
        have r2 := HDE.out.fz (31 + k)
        have r3 := HDE.out.found hk14
        have t1 : decide ((k : Int) < C.claims) = true := by simpa using hkl
        cases hr : refL R k
        · have HB9 := Lib.hid (begTo_no (ref := refL R) (k := k) hr)
          rw [hr] at r1
          clear hr
          go_wp2_with fail
          exact ⟨⟨k + 1, by go_num, by omega, by rw [HB9.out]; exact HDE.out⟩, by simp [intOf]; omega⟩
        · have HB9 := Lib.hid (begTo_yes (ref := refL R) (k := k) hr)
          rw [hr] at r1
          clear hr
          go_wp2_with fail
          exact ⟨⟨k + 1, by go_num, by omega, by rw [HB9.out]; exact HDE.out.setFound hk14 2⟩, by simp [intOf]; omega⟩
      · have t1 : decide ((k : Int) < C.claims) = false := by simpa using hkl
        have ek : (k : Int) = C.claims := by omega
        have HE : Hid (begTo (refL R) k = begF (refL R)) := Lib.hid (HR.out k ek)
        clear hkl ek
        go_wp2_with fail
        go_ret
        exact ⟨D, rfl, by rw [← HE.out]; exact HDE.out⟩
end Go.Proofs
end

section
namespace Go.Proofs
open Go.RowKit
open Court (refL begF noS struckB)
attribute [local go_sem] Oper.semAt_some

theorem box31 {W : World} {b : Nat} {N : Int} {s1 s2 : Value} (h : Blk W b 33 #[.int .i64 N, s1, s2]) : W.cell? ⟨b, 0, none⟩ = some (.int .i64 N) ∧ W.cell? ⟨b, 1, none⟩ = some s1 ∧ W.cell? ⟨b, 2, none⟩ = some s2 :=
  ⟨h.cell 0, h.cell 1, h.cell 2⟩

theorem cellA {W W' : World} {g i : Nat} {v : Value} (h : W.cell? ⟨g, i, none⟩ = some v) (hg : g < W.heap.size) (ha : Aft W W') : W'.cell? ⟨g, i, none⟩ = some v :=
  (World.cell?_of_block (a := ⟨g, i, none⟩) (ha.below.block g hg)).trans h

theorem not_from (n a b : Int) : (!fromB n a b) = (decide (n < a) || decide (b < n)) := by
  unfold fromB
  rw [Bool.not_and, ← decide_not, ← decide_not]
  congr 1 <;> exact decide_eq_decide.2 (by omega)

set_option maxHeartbeats 400000 in
theorem beside_any (n a b : Int) (w : World) :
    Calls Try.prog 34 #[.int .i64 n, .int .i64 a, .int .i64 b] w fun e w' => e = .returned (.bool (!fromB n a b)) ∧ w = w' := by
  go_enter Try.func34, Try.ntmps34
  go_wp2
  all_goals go_ret
  all_goals exact ⟨ret_bool (by first | exact (not_from n a b).symm | (rw [not_from]; simp_all)), rfl⟩

set_option maxHeartbeats 400000 in
theorem hasR_any (A : Option Addr) (l : List Int) (c : Nat) (x : Int) (w : World) (hA : Ints w A l) :
    Calls Try.prog 45 #[.slice A l.length c, .int .i64 x] w fun e w' => e = .returned (.bool (hasB l x)) ∧ w = w' := by
  have hl := hA.len
  go_enter Try.func45, Try.ntmps45
  go_wp2
  go_loop [5] (fun i => ∃ k : Nat, i = .int .i64 k ∧ k ≤ l.length ∧ hasB (l.take k) x = false) (fun i => l.length - (intOf i).toNat)
  case atStart => exact ⟨0, rfl, by omega, rfl⟩
  case round =>
    obtain ⟨k, rfl, hk, hany⟩ := hrel
    have HA := Lib.hid hany; clear hany
    by_cases hlt : k < l.length
    · obtain ⟨b, o, rfl, hbw, hc⟩ := hA.at hlt
      have hck := hc k hlt
      clear hc
      go_wp2
      · have hx : l[k] = x := by simp_all
        go_ret
        exact ⟨ret_bool (hasB_iff.2 (hx ▸ List.getElem_mem hlt)).symm, rfl⟩
      · have hx : ¬ l[k] = x := by simp_all
        go_round
        case rel => exact ⟨k + 1, by go_num, by omega, by rw [List.take_succ_eq_append_getElem hlt, hasB_false]; have := hasB_false.1 HA.out; simp only [List.mem_append, List.mem_singleton]; rintro (h | h); exact this h; exact hx h.symm⟩
        case measure => simp [intOf]; omega
    · go_wp2
      go_ret
      exact ⟨ret_bool (by have := HA.out; rw [List.take_of_length_le (by omega)] at this; exact this.symm), rfl⟩

theorem all_upto {l : List Int} {p : Int → Bool} (h : ∀ j, (hj : j < l.length) → j < l.length → p l[j] = true) : l.all p = true := by
  rw [List.all_eq_true]
  intro x hx
  obtain ⟨j, hj, rfl⟩ := List.mem_iff_getElem.1 hx
  exact h j hj hj
theorem all_not {l : List Int} {p : Int → Bool} {k : Nat} (hk : k < l.length) (h : p l[k] = false) : l.all p = false := by
  rw [Bool.eq_false_iff]
  intro h'
  have := List.all_eq_true.1 h' _ (List.getElem_mem hk)
  rw [h] at this
  cases this

set_option maxRecDepth 100000 in
set_option maxHeartbeats 2000000 in
theorem listedR_any (N : Int) (s1 s2 : Option Addr) (n1 n2 c1 c2 : Nat) (A : Option Addr) (l : List Int) (c : Nat) (w : World) (hN : 1 ≤ N ∧ N ≤ 14) (hA : Ints w A l) :
    Calls Try.prog 35 #[.agg #[.int .i64 N, .slice s1 n1 c1, .slice s2 n2 c2], .slice A l.length c] w fun e w' => e = .returned (.int .i64 (listedE N l)) ∧ Aft w w' := by
  have hl := hA.len
  have H0 := Lib.hid (Aft.alloc w (.cells #[.int .i64 N, .slice s1 n1 c1, .slice s2 n2 c2] 33))
  have HB := Lib.hid (Blk.new w 33 #[.int .i64 N, .slice s1 n1 c1, .slice s2 n2 c2])
  have HA := Lib.hid (hA.aft H0.out)
  have e1 : IntKind.i64.wrap (N - 1) = N - 1 := by rw [IntWalk.i64_in _ (by omega)]
  clear hA
  obtain ⟨bC, hbC⟩ : ∃ bC, w.heap.size = bC := ⟨_, rfl⟩
  rw [hbC] at HB
  have HBC := Lib.hid hbC
  clear hbC
  go_enter Try.func35, Try.ntmps35
  go_upto_block 0 with fail
  rw [HBC.out]
  generalize w.alloc (.cells #[.int .i64 N, .slice s1 n1 c1, .slice s2 n2 c2] 33) = W0 at *
  clear HBC
  refine wp_block ?_
  go_loopw [5] (fun i wr => ∃ k : Nat, i = .int .i64 k ∧ k ≤ l.length ∧ Aft W0 wr ∧ Hid (∀ j, (h : j < l.length) → j < k → Cl l[j] N = true)) (fun i _ => l.length - (intOf i).toNat)
  case atStart => exact ⟨0, rfl, by omega, Aft.refl _, Lib.hid fun j _ h => by omega⟩
  case round =>
    obtain ⟨k, rfl, hk, hy, HCL⟩ := hrel
    have HY := Lib.hid hy
    clear hy
    by_cases hkl : k < l.length
    · have t1 : decide (k < l.length) = true := by simpa using hkl
      have ik : (0 : Int) ≤ (k : Int) ∧ (k : Int) < (l.length : Int) := by omega
      obtain ⟨b, o, rfl, hb, hc⟩ := (HA.out.aft HY.out).at hkl
      obtain ⟨y, hyk⟩ : ∃ y, l[k] = y := ⟨_, rfl⟩
      have HYK := Lib.hid hyk
      have x0 := hc k hkl
      rw [hyk] at x0
      have HX : Hid (∀ W, Aft wr W → W.cell? ⟨b, o + k, none⟩ = some (.int .i64 y)) := Lib.hid fun W h => cellA x0 hb h
      have HN : Hid (∀ W, Aft wr W → W.cell? ⟨bC, 0, none⟩ = some (.int .i64 N)) := Lib.hid fun W h => (box31 (HB.out.aft (HY.out.trans h))).1
      clear hc hyk x0
      go_upto_region 4 with fail
      obtain ⟨bb, hbb⟩ : ∃ bb, (!fromB y 0 (N - 1)) = bb := ⟨_, rfl⟩
      have H57 : Hid (∀ W, Calls Try.prog 34 #[.int .i64 y, .int .i64 0, .int .i64 (N - 1)] W fun e w' => e = .returned (.bool bb) ∧ W = w') := Lib.hid fun W => by rw [← hbb]; exact beside_any y 0 (N - 1) W
      have HBB := Lib.hid hbb
      clear hbb
      refine wp_region_valsG (by kernel_rfl) 37 rfl (by kernel_rfl) (by kernel_rfl) [.slice (some ⟨b, o, none⟩) l.length c, .int .i64 k, .pointer (some ⟨b, o + k, none⟩), .int .i64 y, .pointer (some ⟨bC, 0, none⟩), .int .i64 N, .int .i64 (N - 1), .bool bb] rfl (fun W => Aft wr W) (Aft.drew _) ?st1 ?fi1
      case st1 =>
        intro i o v ho hv
        match i, ho, hv with
        | 0, ho, hv =>
          cases ho; cases hv
          refine .inl ⟨rfl, fun a W hk hw K hK => ?_⟩
          have e1 := hk.same 1 (by decide)
          exact op_val (by simp [go_sem, ev' e1]) (hK _ hw)
        | 1, ho, hv =>
          cases ho; cases hv
          refine .inl ⟨rfl, fun a W hk hw K hK => ?_⟩
          have e5 := hk.same 5 (by decide)
          exact op_val (by simp [go_sem, ev' e5]) (hK _ hw)
        | 2, ho, hv =>
          cases ho; cases hv
          refine .inl ⟨rfl, fun a W hk hw K hK => ?_⟩
          have e13 := hk.at_ 0 _ 13 _ rfl (by decide) _ rfl rfl rfl
          have e14 := hk.at_ 1 _ 14 _ rfl (by decide) _ rfl rfl rfl
          exact op_val (by simp [go_sem, ev' e13, ev' e14, ik]) (hK _ hw)
        | 3, ho, hv =>
          cases ho; cases hv
          refine .inl ⟨rfl, fun a W hk hw K hK => ?_⟩
          have e15 := hk.at_ 2 _ 15 _ rfl (by decide) _ rfl rfl rfl
          exact op_val (by simp [go_sem, ev' e15, HX.out W hw]) (hK _ hw)
        | 4, ho, hv =>
          cases ho; cases hv
          refine .inl ⟨rfl, fun a W hk hw K hK => ?_⟩
          have e2 := hk.same 2 (by decide)
          exact op_val (by simp [go_sem, ev' e2]) (hK _ hw)
        | 5, ho, hv =>
          cases ho; cases hv
          refine .inl ⟨rfl, fun a W hk hw K hK => ?_⟩
          have e17 := hk.at_ 4 _ 17 _ rfl (by decide) _ rfl rfl rfl
          exact op_val (by simp [go_sem, ev' e17, HN.out W hw]) (hK _ hw)
        | 6, ho, hv =>
          cases ho; cases hv
          refine .inl ⟨rfl, fun a W hk hw K hK => ?_⟩
          have e18 := hk.at_ 5 _ 18 _ rfl (by decide) _ rfl rfl rfl
          exact op_val (by simp [go_sem, ev' e18, e1]) (hK _ hw)
        | 7, ho, hv =>
          cases ho; cases hv
          refine .inl ⟨rfl, fun a W hk hw K hK => ?_⟩
          have e16 := hk.at_ 3 _ 16 _ rfl (by decide) _ rfl rfl rfl
          have e19 := hk.at_ 6 _ 19 _ rfl (by decide) _ rfl rfl rfl
          refine op_callN rfl rfl rfl _ rfl (vs := #[.int .i64 y, .int .i64 0, .int .i64 (N - 1)]) (by simp [e16, e19, show ∀ v, a.eval (.const v) = v from fun _ => rfl]) (H57.out W) fun e w' h => ?_
          obtain ⟨rfl, rfl⟩ := h
          exact ⟨_, rfl, hK _ hw⟩
        | _ + 8, _, hv => cases hv
      intro W hw
      simp only [List.drop_succ_cons, List.drop_zero, List.zip_cons_cons, List.zip_nil_right, putAll]
      simp only [Act.put, List.setIfInBounds_toArray, List.set]
      cases bb
      · have HCL2 : Hid (∀ j, (h : j < l.length) → j < k + 1 → Cl l[j] N = true) := Lib.hid fun j h h' => by
          by_cases e : j = k
          · subst e
            rw [HYK.out]
            unfold Cl
            simpa using HBB.out
          · exact HCL.out j h (by omega)
        go_wp2_with fail
        exact ⟨⟨k + 1, by go_num, by omega, HY.out.trans hw, HCL2⟩, by simp [intOf]; omega⟩
      · go_wp2_with fail
        go_ret
        refine ⟨ret_int ?_, H0.out.trans (HY.out.trans hw)⟩
        unfold listedE
        rw [if_neg]
        rw [all_not hkl (by rw [HYK.out]; unfold Cl; simpa using HBB.out)]
        decide
    · have t1 : decide (k < l.length) = false := by simpa using hkl
      have HAL : Hid (l.all (fun n => Cl n N) = true) := Lib.hid (all_upto fun j h h' => HCL.out j h (by omega))
      obtain ⟨W1, rfl⟩ : ∃ W1, W1 = wr := ⟨_, rfl⟩
      replace HA := Lib.hid (HA.out.aft HY.out)
      replace H0 := Lib.hid (H0.out.trans HY.out)
      clear HCL HY hkl HB
      go_upto_block 2 with fail
      refine wp_block ?_
      go_loopw [6] (fun i wr => ∃ k : Nat, 1 ≤ k ∧ i = .int .i64 k ∧ (k ≤ l.length ∨ k = 1) ∧ Aft W1 wr ∧ Hid (∀ j, j + 1 < k → (h : j + 1 < l.length) → l[j] < l[j+1])) (fun i _ => l.length - (intOf i).toNat)
      case atStart => exact ⟨1, by omega, rfl, by omega, Aft.refl _, Lib.hid fun j h => by omega⟩
      case round =>
        obtain ⟨k, hk1, rfl, hk, hy, HLT⟩ := hrel
        have HY := Lib.hid hy
        clear hy
        by_cases hkl : k < l.length
        · have t2 : decide (k < l.length) = true := by simpa using hkl
          have ik : (0 : Int) ≤ (k : Int) ∧ (k : Int) < (l.length : Int) := by omega
          have ik2 : (0 : Int) ≤ ((k - 1 : Nat) : Int) ∧ ((k - 1 : Nat) : Int) < (l.length : Int) := by omega
          have e2 : IntKind.i64.wrap ((k : Int) - 1) = ((k - 1 : Nat) : Int) := by rw [IntWalk.i64_in _ (by omega)]; omega
          obtain ⟨b, o, rfl, hb, hc⟩ := (HA.out.aft HY.out).at hkl
          obtain ⟨y, hyk⟩ : ∃ y, l[k] = y := ⟨_, rfl⟩
          obtain ⟨z, hzk⟩ : ∃ z, l[k-1] = z := ⟨_, rfl⟩
          have HYK := Lib.hid hyk
          have HZK := Lib.hid hzk
          have x0 := hc k hkl
          have x1 := hc (k - 1) (by omega)
          rw [hyk] at x0
          rw [hzk] at x1
          have HX : Hid (∀ W, Aft wr W → W.cell? ⟨b, o + k, none⟩ = some (.int .i64 y)) := Lib.hid fun W h => cellA x0 hb h
          have HX1 : Hid (∀ W, Aft wr W → W.cell? ⟨b, o + (k - 1), none⟩ = some (.int .i64 z)) := Lib.hid fun W h => cellA x1 hb h
          clear hc hyk x0 x1 hzk
          go_upto_region 9 with fail
          obtain ⟨bb, hbb⟩ : ∃ bb, decide (y ≤ z) = bb := ⟨_, rfl⟩
          refine wp_region_valsG (by kernel_rfl) 37 rfl (by kernel_rfl) (by kernel_rfl) [.slice (some ⟨b, o, none⟩) l.length c, .int .i64 k, .pointer (some ⟨b, o + k, none⟩), .int .i64 y, .slice (some ⟨b, o, none⟩) l.length c, .int .i64 k, .int .i64 ((k - 1 : Nat) : Int), .pointer (some ⟨b, o + (k - 1), none⟩), .int .i64 z, .bool bb] rfl (fun W => Aft wr W) (Aft.drew _) ?st2 ?fi2
          case st2 =>
            intro i o v ho hv
            match i, ho, hv with
            | 0, ho, hv =>
              cases ho; cases hv
              refine .inl ⟨rfl, fun a W hk hw K hK => ?_⟩
              have e1 := hk.same 1 (by decide)
              exact op_val (by simp [go_sem, ev' e1]) (hK _ hw)
            | 1, ho, hv =>
              cases ho; cases hv
              refine .inl ⟨rfl, fun a W hk hw K hK => ?_⟩
              have e6 := hk.same 6 (by decide)
              exact op_val (by simp [go_sem, ev' e6]) (hK _ hw)
            | 2, ho, hv =>
              cases ho; cases hv
              refine .inl ⟨rfl, fun a W hk hw K hK => ?_⟩
              have e27 := hk.at_ 0 _ 27 _ rfl (by decide) _ rfl rfl rfl
              have e28 := hk.at_ 1 _ 28 _ rfl (by decide) _ rfl rfl rfl
              exact op_val (by simp [go_sem, ev' e27, ev' e28, ik]) (hK _ hw)
            | 3, ho, hv =>
              cases ho; cases hv
              refine .inl ⟨rfl, fun a W hk hw K hK => ?_⟩
              have e29 := hk.at_ 2 _ 29 _ rfl (by decide) _ rfl rfl rfl
              exact op_val (by simp [go_sem, ev' e29, HX.out W hw]) (hK _ hw)
            | 4, ho, hv =>
              cases ho; cases hv
              refine .inl ⟨rfl, fun a W hk hw K hK => ?_⟩
              have e1 := hk.same 1 (by decide)
              exact op_val (by simp [go_sem, ev' e1]) (hK _ hw)
            | 5, ho, hv =>
              cases ho; cases hv
              refine .inl ⟨rfl, fun a W hk hw K hK => ?_⟩
              have e6 := hk.same 6 (by decide)
              exact op_val (by simp [go_sem, ev' e6]) (hK _ hw)
            | 6, ho, hv =>
              cases ho; cases hv
              refine .inl ⟨rfl, fun a W hk hw K hK => ?_⟩
              have e32 := hk.at_ 5 _ 32 _ rfl (by decide) _ rfl rfl rfl
              exact op_val (by simp [go_sem, ev' e32, e2]) (hK _ hw)
            | 7, ho, hv =>
              cases ho; cases hv
              refine .inl ⟨rfl, fun a W hk hw K hK => ?_⟩
              have e31 := hk.at_ 4 _ 31 _ rfl (by decide) _ rfl rfl rfl
              have e33 := hk.at_ 6 _ 33 _ rfl (by decide) _ rfl rfl rfl
              exact op_val (by simp [go_sem, ev' e31, ev' e33, ik2]) (hK _ hw)
            | 8, ho, hv =>
              cases ho; cases hv
              refine .inl ⟨rfl, fun a W hk hw K hK => ?_⟩
              have e34 := hk.at_ 7 _ 34 _ rfl (by decide) _ rfl rfl rfl
              exact op_val (by simp [go_sem, ev' e34, HX1.out W hw]) (hK _ hw)
            | 9, ho, hv =>
              cases ho; cases hv
              refine .inl ⟨rfl, fun a W hk hw K hK => ?_⟩
              have e30 := hk.at_ 3 _ 30 _ rfl (by decide) _ rfl rfl rfl
              have e35 := hk.at_ 8 _ 35 _ rfl (by decide) _ rfl rfl rfl
              exact op_val (by simp [go_sem, ev' e30, ev' e35, hbb]) (hK _ hw)
            | _ + 10, _, hv => cases hv
          intro W hw
          simp only [List.drop_succ_cons, List.drop_zero, List.zip_cons_cons, List.zip_nil_right, putAll]
          simp only [Act.put, List.setIfInBounds_toArray, List.set]
          cases bb
          · have HLT2 : Hid (∀ j, j + 1 < k + 1 → (h : j + 1 < l.length) → l[j] < l[j+1]) := Lib.hid fun j hj hjl => by
              by_cases hjk : j + 1 < k
              · exact HLT.out j hjk hjl
              · obtain rfl : j = k - 1 := by omega
                have h3 := of_decide_eq_false hbb
                have h4 := HYK.out
                simp only [Nat.sub_add_cancel hk1]
                rw [HZK.out, h4]
                omega
            go_wp2_with fail
            exact ⟨⟨k + 1, by omega, by go_num, by omega, HY.out.trans hw, HLT2⟩, by simp [intOf]; omega⟩
          · go_wp2_with fail
            go_ret
            refine ⟨ret_int ?_, H0.out.trans (HY.out.trans hw)⟩
            unfold listedE
            rw [if_pos HAL.out, if_neg]
            rw [risesB_false l (k-1) (by omega) (by simp only [Nat.sub_add_cancel hk1]; rw [HZK.out, HYK.out]; exact of_decide_eq_true hbb)]
            decide
        · have t2 : decide (k < l.length) = false := by simpa using hkl
          go_wp2_with fail
          go_ret
          refine ⟨ret_int ?_, H0.out.trans HY.out⟩
          unfold listedE
          rw [if_pos HAL.out, if_pos (risesB_true l fun j hj => HLT.out j (by omega) hj)]
end Go.Proofs
end

section
namespace Go.Proofs
open Go.RowKit
open Court (refL begF noS)

def openE (C : CaseL) (R : List Int) : Int := if caseE C = 0 then listedE C.claims R else caseE C
theorem openE_ok {C : CaseL} {R : List Int} (h : openE C R = 0) : caseE C = 0 ∧ listedE C.claims R = 0 := by
  unfold openE at h
  split at h
  · rename_i h1; exact ⟨h1, h⟩
  · rename_i h1; exact absurd h h1
theorem listedE_ok {N : Int} {l : List Int} (h : listedE N l = 0) : (∀ n ∈ l, 0 ≤ n ∧ n < N) ∧ risesB l = true := by
  unfold listedE at h
  split at h
  · rename_i h1
    split at h
    · rename_i h2; exact ⟨fun n hn => Cl_iff.1 (List.all_eq_true.1 h1 n hn), h2⟩
    · cases h
  · cases h
theorem refL_nil : refL [] = noS := by funext n; rfl

set_option maxRecDepth 100000 in
set_option maxHeartbeats 2000000 in
theorem opened_bad (C : CaseL) (a1 a2 : Option Addr) (c1 c2 : Nat) (R : List Int) (A : Option Addr) (c : Nat) (w : World) (hC : CRep w C a1 a2) (hA : Ints w A R) (he : openE C R ≠ 0) :
    Calls Try.prog 36 #[(.agg #[.int .i64 C.claims, .slice a1 C.strikes.length c1, .slice a2 C.surveys.length c2]), .slice A R.length c] w fun e w' => e = .returned (.tuple #[.pointer none, .int .i64 (openE C R)]) ∧ Aft w w' := by
  have h0 : Aft w (w.alloc (.cells #[.int .i64 C.claims, .slice a1 C.strikes.length c1, .slice a2 C.surveys.length c2] 25)) := Aft.alloc _ _
  have H1 : Hid (∀ W, Aft w W → Calls Try.prog 9 #[(.agg #[.int .i64 C.claims, .slice a1 C.strikes.length c1, .slice a2 C.surveys.length c2])] W fun e w' => e = .returned (.int .i64 (caseE C)) ∧ Aft W w') := Lib.hid fun W h => check_any C a1 a2 c1 c2 W (hC.aft h)
  have hA := Lib.hid hA
  have H0 := Lib.hid h0
  clear hC h0
  unfold openE at he ⊢
  go_enter Try.func36, Try.ntmps36
  by_cases h1 : caseE C = 0
  · rw [if_pos h1] at he ⊢
    have hn := (caseE_ok h1)
    have H2 : Hid (∀ W, Aft w W → Calls Try.prog 33 #[(.agg #[.int .i64 C.claims, .slice a1 C.strikes.length c1, .slice a2 C.surveys.length c2]), .slice A R.length c] W fun e w' => e = .returned (.int .i64 (listedE C.claims R)) ∧ Aft W w') := Lib.hid fun W h => listed_any C.claims a1 a2 _ _ c1 c2 A R c W ⟨hn.n1, hn.n2⟩ (hA.out.aft h)
    have t1 : (listedE C.claims R != 0) = true := by simpa using he
    rw [h1] at H1
    clear h1 he hn
    generalize listedE C.claims R = E at *
    go_wp2_with (first | (go_at_call 9; refine (H1.out _ H0.out).mono ?_; rintro e w' ⟨rfl, u, rfl⟩) | (go_at_call 33; refine (H2.out _ (H0.out.then_lat _)).mono ?_; rintro e w' ⟨rfl, u2, rfl⟩))
    go_ret2
    exact ⟨rfl, (H0.out.then_lat _).then_lat _⟩
  · rw [if_neg h1] at he ⊢
    have t1 : (caseE C != 0) = true := by simpa using he
    have t2 : (caseE C == 0) = false := by simpa using he
    clear h1 he
    generalize caseE C = E at *
    go_wp2_with (go_at_call 9; refine (H1.out _ H0.out).mono ?_; rintro e w' ⟨rfl, u, rfl⟩)
    go_ret2
    exact ⟨rfl, H0.out.then_lat _⟩

def Opened (C : CaseL) (a1 a2 : Option Addr) (c1 c2 : Nat) (R : List Int) (w : World) (e : Ending) (w' : World) : Prop := ∃ d, e = .returned (.tuple #[.pointer (some ⟨d, 0, none⟩), .int .i64 0]) ∧ DeskAt w w' d C a1 a2 c1 c2 (refL R) noS (begF (refL R)) (fun _ => 0)

set_option maxRecDepth 100000 in
set_option maxHeartbeats 2000000 in
theorem opened_good (C : CaseL) (a1 a2 : Option Addr) (c1 c2 : Nat) (R : List Int) (A : Option Addr) (c : Nat) (w : World) (hC : CRep w C a1 a2) (hA : Ints w A R) (he : openE C R = 0) :
    Calls Try.prog 36 #[(.agg #[.int .i64 C.claims, .slice a1 C.strikes.length c1, .slice a2 C.surveys.length c2]), .slice A R.length c] w (Opened C a1 a2 c1 c2 R w) := by
  obtain ⟨hc, hl⟩ := openE_ok he
  have hn := caseE_ok hc
  have hr := (listedE_ok hl).1
  have h0 : Aft w (w.alloc (.cells #[.int .i64 C.claims, .slice a1 C.strikes.length c1, .slice a2 C.surveys.length c2] 25)) := Aft.alloc _ _
  have H1 : Hid (∀ W, Aft w W → Calls Try.prog 9 #[(.agg #[.int .i64 C.claims, .slice a1 C.strikes.length c1, .slice a2 C.surveys.length c2])] W fun e w' => e = .returned (.int .i64 (caseE C)) ∧ Aft W w') := Lib.hid fun W h => check_any C a1 a2 c1 c2 W (hC.aft h)
  have H2 : Hid (∀ W, Aft w W → Calls Try.prog 33 #[(.agg #[.int .i64 C.claims, .slice a1 C.strikes.length c1, .slice a2 C.surveys.length c2]), .slice A R.length c] W fun e w' => e = .returned (.int .i64 (listedE C.claims R)) ∧ Aft W w') := Lib.hid fun W h => listed_any C.claims a1 a2 _ _ c1 c2 A R c W ⟨hn.n1, hn.n2⟩ (hA.aft h)
  have H3 : Hid (∀ W, Aft w W → Calls Try.prog 62 #[(.agg #[.int .i64 C.claims, .slice a1 C.strikes.length c1, .slice a2 C.surveys.length c2]), .slice A R.length c, .slice none 0 0] W fun e w' => ∃ d, e = .returned (.pointer (some ⟨d, 0, none⟩)) ∧ DeskAt w w' d C a1 a2 c1 c2 (refL R) noS (begF (refL R)) (fun _ => 0)) := Lib.hid fun W h =>
    (begun_any C a1 a2 c1 c2 R [] A none c 0 W ⟨hn.n1, hn.n2⟩ (hC.aft h) (hA.aft h) RowsP.nil hr (by simp)).mono fun e w' ⟨d, h1, h2⟩ => ⟨d, h1, by rw [← refL_nil]; exact ⟨h2.blk, hC, Nat.le_trans h.size h2.base, h.trans h2.aft⟩⟩
  rw [hc] at H1
  rw [hl] at H2
  have H0 := Lib.hid h0
  clear hC h0 hA he hc hl hn hr
  go_enter Try.func36, Try.ntmps36
  go_wp2_with (first | (go_at_call 9; refine (H1.out _ H0.out).mono ?_; rintro e w' ⟨rfl, u, rfl⟩) | (go_at_call 33; refine (H2.out _ (H0.out.then_lat _)).mono ?_; rintro e w' ⟨rfl, u2, rfl⟩) | (go_at_call 62; refine (H3.out _ ((H0.out.then_lat _).then_lat _)).mono ?_; rintro e w' ⟨d, rfl, hd⟩; have HD := Lib.hid hd; clear hd))
  go_ret2
  exact ⟨d, rfl, HD.out⟩
end Go.Proofs
end
