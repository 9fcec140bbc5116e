/- Own texts, merged: WkA WkB Tail Lst Lim2 Own2 Own3 Ya. -/
import Derived.Test.YthegmhnaiabcpaaE01
import Derived.Test.YthegmhnaiabcpaaProg
import Derived.StillTailTactics
import Derived.Deep.RegionHeld3
import Derived.Deep.RegionLaw
import Derived.Laws.EntriesVeiled
import Derived.Deep.CutBlock
import Derived.Deep.LoopGhost
import Derived.Deep.Cut
import Derived.LoopIn
import Derived.BigGuard
import Derived.Maps.AppendAt
import Derived.Deep.Onto
set_option linter.unusedSimpArgs false
set_option linter.unusedVariables false
set_option linter.unnecessarySimpa false
section
/- Walks: the library's searches of slices, and every, at each element type of package sheet. -/
namespace Go.Proofs
open Go.RowKit

def fromB (n a b : Int) : Bool := decide (a ≤ n) && decide (n ≤ b)
theorem fromB_iff {n a b : Int} : fromB n a b = true ↔ a ≤ n ∧ n ≤ b := by unfold fromB; simp

set_option maxHeartbeats 400000 in
theorem in_any (n a b : Int) (w : World) :
    Calls Try.prog 45 #[.int .i64 n, .int .i64 a, .int .i64 b] w fun e w' => e = .returned (.bool (fromB n a b)) ∧ w = w' := by
  go_enter Try.func45, Try.ntmps45
  go_wp2
  all_goals go_ret
  · exact ⟨ret_bool (by unfold fromB; simp; omega), rfl⟩
  · exact ⟨ret_bool (by unfold fromB; simp; omega), rfl⟩

/-- An index, or less than 0. -/
def IdxSign (b : Bool) (e : Ending) : Prop := ∃ n : Int, e = .returned (.int .i64 n) ∧ decide (n < 0) = !b
theorem IdxSign.yes {b : Bool} (hb : b = true) (k : Nat) : IdxSign b (.returned (.int .i64 k)) := ⟨k, rfl, by rw [hb]; simp⟩
theorem IdxSign.no {b : Bool} (hb : b = false) : IdxSign b (.returned (.int .i64 (-1))) := ⟨-1, rfl, by rw [hb]; rfl⟩

/-- The first index of which something is so, or -1. -/
def IdxRes {α : Type} (p : α → Bool) (l : List α) (e : Ending) : Prop :=
  (e = .returned (.int .i64 (-1)) ∧ l.any p = false) ∨ ∃ k, ∃ h : k < l.length, e = .returned (.int .i64 (k : Nat)) ∧ p l[k] = true ∧ (l.take k).any p = false
theorem IdxRes.sign {α : Type} {p : α → Bool} {l : List α} {e : Ending} (h : IdxRes p l e) : IdxSign (l.any p) e := by
  rcases h with ⟨rfl, h⟩ | ⟨k, h, rfl, h1, _⟩
  · exact IdxSign.no h
  · exact IdxSign.yes (any_of_get _ _ _ h h1) _
theorem all_not_any {α : Type} (p : α → Bool) (l : List α) : (!l.any fun x => !p x) = l.all p := by rw [List.all_eq_not_any_not]


set_option maxHeartbeats 1000000 in
theorem indexFuncPair {α : Type} (R : World → α → List Value → Prop) (K : FuncId) (cap : List Value) (p : α → Bool) (A : Option Addr) (l : List α) (c : Nat) (w : World) (hA : RowsP w A 2 R l)
    (hK : ∀ args w, (callFunc K args).run Try.prog w = .ok (.enter K args) w)
    (hp : ∀ x ∈ l, ∀ v0 v1, R w x [v0, v1] → Asks Try.prog K cap w (.agg #[v0, v1]) (p x)) :
    Calls Try.prog 114 #[.slice A l.length c, .func (.func K) #[] cap.toArray] w fun e w' => IdxRes p l e ∧ Aft w w' := by
  have hl := hA.len (by decide)
  have HP := Lib.hid hp
  clear hp
  go_enter Try.func114, Try.ntmps114
  go_wp2
  go_loopw [8] (fun i wr => ∃ k : Nat, i = .int .i64 k ∧ k ≤ l.length ∧ (l.take k).any p = false ∧ Aft w wr) (fun i _ => l.length - (intOf i).toNat)
  case atStart => exact ⟨0, rfl, by omega, by simp, Aft.refl _⟩
  case round =>
    obtain ⟨k, rfl, hk, hany, u, rfl⟩ := hrel
    have HA := Lib.hid hany; clear hany
    by_cases hlt : k < l.length
    · obtain ⟨b, o, rfl, hbw, hc⟩ := hA.at hlt
      obtain ⟨vs, hv1, hv2, hv3⟩ := hc k hlt
      obtain ⟨v0, v1, rfl⟩ : ∃ v0 v1, vs = [v0, v1] := by match vs, hv1 with | [v0, v1], _ => exact ⟨v0, v1, rfl⟩
      have hc0 := hv3 0 (by simp); have hc1 := hv3 1 (by simp)
      simp only [Nat.add_zero, List.getElem_cons_zero, List.getElem_cons_succ] at hc0 hc1
      have hpk := HP.out l[k] (List.getElem_mem hlt) v0 v1 hv2 u
      clear hc hv3 hv2
      cases hb : p l[k]
      · have HB := Lib.hid hb; clear hb
        rw [HB.out] at hpk
        go_wp2_with (refine hpk.mono ?_; rintro e w' ⟨rfl, u1, rfl⟩; clear hpk)
        go_roundw
        case rel => exact ⟨k + 1, by go_num, by omega, by rw [any_take_succ _ _ _ hlt, HA.out, HB.out]; rfl, _, rfl⟩
        case measure => simp [intOf]; omega
      · have HB := Lib.hid hb; clear hb
        rw [HB.out] at hpk
        go_wp2_with (refine hpk.mono ?_; rintro e w' ⟨rfl, u1, rfl⟩; clear hpk)
        go_ret
        exact ⟨.inr ⟨k, hlt, rfl, HB.out, HA.out⟩, _, rfl⟩
    · go_wp2
      go_ret
      exact ⟨.inl ⟨rfl, by have := HA.out; rwa [List.take_of_length_le (by omega)] at this⟩, _, rfl⟩

set_option maxHeartbeats 400000 in
theorem containsPair {α : Type} (R : World → α → List Value → Prop) (K : FuncId) (cap : List Value) (p : α → Bool) (A : Option Addr) (l : List α) (c : Nat) (w : World) (hA : RowsP w A 2 R l)
    (hK : ∀ args w, (callFunc K args).run Try.prog w = .ok (.enter K args) w)
    (hp : ∀ x ∈ l, ∀ v0 v1, R w x [v0, v1] → Asks Try.prog K cap w (.agg #[v0, v1]) (p x)) :
    Calls Try.prog 91 #[.slice A l.length c, .func (.func K) #[] cap.toArray] w fun e w' => e = .returned (.bool (l.any p)) ∧ Aft w w' := by
  go_enter Try.func91, Try.ntmps91
  go_wp2_with (go_at_call 114; refine (indexFuncPair R K cap p A l c w hA hK hp).mono ?_; rintro e w' ⟨hr, u, rfl⟩; obtain ⟨n, rfl, hn⟩ := hr.sign; clear hr; have HN := Lib.hid hn; clear hn)
  go_ret
  exact ⟨ret_bool (by have := HN.out; cases h : l.any p <;> simp_all), u, rfl⟩

theorem runs_92 (args : Array Value) (w : World) : (callFunc 92 args).run Try.prog w = .ok (.enter 92 args) w := by simp [go_sem]
set_option maxHeartbeats 400000 in
theorem notPair_any (K : FuncId) (cap : List Value) (b : Nat) (v0 v1 : Value) (q : Bool) (w : World) (hb : Blk w b 136 #[.func (.func K) #[] cap.toArray])
    (hK : ∀ args w, (callFunc K args).run Try.prog w = .ok (.enter K args) w) (hp : Asks Try.prog K cap w (.agg #[v0, v1]) q) :
    Calls Try.prog 92 #[.agg #[v0, v1], .pointer (some ⟨b, 0, none⟩)] w fun e w' => e = .returned (.bool (!q)) ∧ Aft w w' := by
  have k0 : w.cell? ⟨b, 0, none⟩ = some (.func (.func K) #[] cap.toArray) := hb.cell 0
  have hlt := hb.lt
  have hpk := hp.at (W := w.alloc (.cells #[v0, v1] 57)) (Aft.alloc _ _)
  clear hp hb
  go_enter Try.func92, Try.ntmps92
  go_wp2_with (refine hpk.mono ?_; rintro e w' ⟨rfl, u1, rfl⟩; clear hpk)
  go_ret
  exact ⟨rfl, (Aft.alloc _ _).then_lat _⟩
set_option maxHeartbeats 400000 in
theorem everyPair {α : Type} (R : World → α → List Value → Prop) (hR : MonoR R) (K : FuncId) (cap : List Value) (p : α → Bool) (A : Option Addr) (l : List α) (c : Nat) (w : World) (hA : RowsP w A 2 R l)
    (hK : ∀ args w, (callFunc K args).run Try.prog w = .ok (.enter K args) w)
    (hp : ∀ x ∈ l, ∀ W, Aft w W → ∀ v0 v1, R W x [v0, v1] → Asks Try.prog K cap W (.agg #[v0, v1]) (p x)) :
    Calls Try.prog 57 #[.slice A l.length c, .func (.func K) #[] cap.toArray] w fun e w' => e = .returned (.bool (l.all p)) ∧ Aft w w' := by
  have ha := Aft.alloc w (.cells #[.func (.func K) #[] cap.toArray] 136)
  have H := Lib.hid (containsPair R 92 [.pointer (some ⟨w.heap.size, 0, none⟩)] (fun x => !p x) A l c (w.alloc (.cells #[.func (.func K) #[] cap.toArray] 136)) (hA.aft hR ha) runs_92 fun x hx v0 v1 hv u => by
    exact notPair_any K cap _ v0 v1 (p x) _ ((Blk.new w 136 #[.func (.func K) #[] cap.toArray]).lat u) hK ((hp x hx _ ha v0 v1 hv).lat u))
  clear hp hA
  go_enter Try.func57, Try.ntmps57
  go_wp2_with (go_at_call 91; refine H.out.mono ?_; rintro e w' ⟨rfl, u, rfl⟩)
  go_ret
  exact ⟨ret_bool (all_not_any p l), ha.then_lat _⟩


set_option maxHeartbeats 1000000 in
theorem indexFuncList {α : Type} (R : World → α → List Value → Prop) (K : FuncId) (cap : List Value) (p : α → Bool) (A : Option Addr) (l : List α) (c : Nat) (w : World) (hA : RowsP w A 1 R l)
    (hK : ∀ args w, (callFunc K args).run Try.prog w = .ok (.enter K args) w)
    (hp : ∀ x ∈ l, ∀ v0, R w x [v0] → Asks Try.prog K cap w (v0) (p x)) :
    Calls Try.prog 115 #[.slice A l.length c, .func (.func K) #[] cap.toArray] w fun e w' => IdxRes p l e ∧ Aft w w' := by
  have hl := hA.len (by decide)
  have HP := Lib.hid hp
  clear hp
  go_enter Try.func115, Try.ntmps115
  go_wp2
  go_loopw [8] (fun i wr => ∃ k : Nat, i = .int .i64 k ∧ k ≤ l.length ∧ (l.take k).any p = false ∧ Aft w wr) (fun i _ => l.length - (intOf i).toNat)
  case atStart => exact ⟨0, rfl, by omega, by simp, Aft.refl _⟩
  case round =>
    obtain ⟨k, rfl, hk, hany, u, rfl⟩ := hrel
    have HA := Lib.hid hany; clear hany
    by_cases hlt : k < l.length
    · obtain ⟨b, o, rfl, hbw, hc⟩ := hA.at hlt
      obtain ⟨vs, hv1, hv2, hv3⟩ := hc k hlt
      obtain ⟨v0, rfl⟩ : ∃ v0, vs = [v0] := by match vs, hv1 with | [v0], _ => exact ⟨v0, rfl⟩
      have hc0 := hv3 0 (by simp)
      simp only [Nat.mul_one, Nat.add_zero, List.getElem_cons_zero] at hc0
      have hpk := HP.out l[k] (List.getElem_mem hlt) v0 hv2 u
      clear hc hv3 hv2
      cases hb : p l[k]
      · have HB := Lib.hid hb; clear hb
        rw [HB.out] at hpk
        go_wp2_with (refine hpk.mono ?_; rintro e w' ⟨rfl, u1, rfl⟩; clear hpk)
        go_roundw
        case rel => exact ⟨k + 1, by go_num, by omega, by rw [any_take_succ _ _ _ hlt, HA.out, HB.out]; rfl, _, rfl⟩
        case measure => simp [intOf]; omega
      · have HB := Lib.hid hb; clear hb
        rw [HB.out] at hpk
        go_wp2_with (refine hpk.mono ?_; rintro e w' ⟨rfl, u1, rfl⟩; clear hpk)
        go_ret
        exact ⟨.inr ⟨k, hlt, rfl, HB.out, HA.out⟩, _, rfl⟩
    · go_wp2
      go_ret
      exact ⟨.inl ⟨rfl, by have := HA.out; rwa [List.take_of_length_le (by omega)] at this⟩, _, rfl⟩

set_option maxHeartbeats 400000 in
theorem containsList {α : Type} (R : World → α → List Value → Prop) (K : FuncId) (cap : List Value) (p : α → Bool) (A : Option Addr) (l : List α) (c : Nat) (w : World) (hA : RowsP w A 1 R l)
    (hK : ∀ args w, (callFunc K args).run Try.prog w = .ok (.enter K args) w)
    (hp : ∀ x ∈ l, ∀ v0, R w x [v0] → Asks Try.prog K cap w (v0) (p x)) :
    Calls Try.prog 93 #[.slice A l.length c, .func (.func K) #[] cap.toArray] w fun e w' => e = .returned (.bool (l.any p)) ∧ Aft w w' := by
  go_enter Try.func93, Try.ntmps93
  go_wp2_with (go_at_call 115; refine (indexFuncList R K cap p A l c w hA hK hp).mono ?_; rintro e w' ⟨hr, u, rfl⟩; obtain ⟨n, rfl, hn⟩ := hr.sign; clear hr; have HN := Lib.hid hn; clear hn)
  go_ret
  exact ⟨ret_bool (by have := HN.out; cases h : l.any p <;> simp_all), u, rfl⟩

theorem runs_94 (args : Array Value) (w : World) : (callFunc 94 args).run Try.prog w = .ok (.enter 94 args) w := by simp [go_sem]
set_option maxHeartbeats 400000 in
theorem notList_any (K : FuncId) (cap : List Value) (b : Nat) (v0 : Value) (q : Bool) (w : World) (hb : Blk w b 141 #[.func (.func K) #[] cap.toArray])
    (hK : ∀ args w, (callFunc K args).run Try.prog w = .ok (.enter K args) w) (hp : Asks Try.prog K cap w (v0) q) :
    Calls Try.prog 94 #[v0, .pointer (some ⟨b, 0, none⟩)] w fun e w' => e = .returned (.bool (!q)) ∧ Aft w w' := by
  have k0 : w.cell? ⟨b, 0, none⟩ = some (.func (.func K) #[] cap.toArray) := hb.cell 0
  have hlt := hb.lt
  have hpk := hp.at (W := w) (Aft.refl _)
  clear hp hb
  go_enter Try.func94, Try.ntmps94
  go_wp2_with (refine hpk.mono ?_; rintro e w' ⟨rfl, u1, rfl⟩; clear hpk)
  go_ret
  exact ⟨rfl, (Aft.refl _).then_lat _⟩
set_option maxHeartbeats 400000 in
theorem everyList {α : Type} (R : World → α → List Value → Prop) (hR : MonoR R) (K : FuncId) (cap : List Value) (p : α → Bool) (A : Option Addr) (l : List α) (c : Nat) (w : World) (hA : RowsP w A 1 R l)
    (hK : ∀ args w, (callFunc K args).run Try.prog w = .ok (.enter K args) w)
    (hp : ∀ x ∈ l, ∀ W, Aft w W → ∀ v0, R W x [v0] → Asks Try.prog K cap W (v0) (p x)) :
    Calls Try.prog 63 #[.slice A l.length c, .func (.func K) #[] cap.toArray] w fun e w' => e = .returned (.bool (l.all p)) ∧ Aft w w' := by
  have ha := Aft.alloc w (.cells #[.func (.func K) #[] cap.toArray] 141)
  have H := Lib.hid (containsList R 94 [.pointer (some ⟨w.heap.size, 0, none⟩)] (fun x => !p x) A l c (w.alloc (.cells #[.func (.func K) #[] cap.toArray] 141)) (hA.aft hR ha) runs_94 fun x hx v0 hv u => by
    exact notList_any K cap _ v0 (p x) _ ((Blk.new w 141 #[.func (.func K) #[] cap.toArray]).lat u) hK ((hp x hx _ ha v0 hv).lat u))
  clear hp hA
  go_enter Try.func63, Try.ntmps63
  go_wp2_with (go_at_call 93; refine H.out.mono ?_; rintro e w' ⟨rfl, u, rfl⟩)
  go_ret
  exact ⟨ret_bool (all_not_any p l), ha.then_lat _⟩


set_option maxHeartbeats 1000000 in
theorem indexFuncInt {α : Type} (R : World → α → List Value → Prop) (K : FuncId) (cap : List Value) (p : α → Bool) (A : Option Addr) (l : List α) (c : Nat) (w : World) (hA : RowsP w A 1 R l)
    (hK : ∀ args w, (callFunc K args).run Try.prog w = .ok (.enter K args) w)
    (hp : ∀ x ∈ l, ∀ v0, R w x [v0] → Asks Try.prog K cap w (v0) (p x)) :
    Calls Try.prog 116 #[.slice A l.length c, .func (.func K) #[] cap.toArray] w fun e w' => IdxRes p l e ∧ Aft w w' := by
  have hl := hA.len (by decide)
  have HP := Lib.hid hp
  clear hp
  go_enter Try.func116, Try.ntmps116
  go_wp2
  go_loopw [8] (fun i wr => ∃ k : Nat, i = .int .i64 k ∧ k ≤ l.length ∧ (l.take k).any p = false ∧ Aft w wr) (fun i _ => l.length - (intOf i).toNat)
  case atStart => exact ⟨0, rfl, by omega, by simp, Aft.refl _⟩
  case round =>
    obtain ⟨k, rfl, hk, hany, u, rfl⟩ := hrel
    have HA := Lib.hid hany; clear hany
    by_cases hlt : k < l.length
    · obtain ⟨b, o, rfl, hbw, hc⟩ := hA.at hlt
      obtain ⟨vs, hv1, hv2, hv3⟩ := hc k hlt
      obtain ⟨v0, rfl⟩ : ∃ v0, vs = [v0] := by match vs, hv1 with | [v0], _ => exact ⟨v0, rfl⟩
      have hc0 := hv3 0 (by simp)
      simp only [Nat.mul_one, Nat.add_zero, List.getElem_cons_zero] at hc0
      have hpk := HP.out l[k] (List.getElem_mem hlt) v0 hv2 u
      clear hc hv3 hv2
      cases hb : p l[k]
      · have HB := Lib.hid hb; clear hb
        rw [HB.out] at hpk
        go_wp2_with (refine hpk.mono ?_; rintro e w' ⟨rfl, u1, rfl⟩; clear hpk)
        go_roundw
        case rel => exact ⟨k + 1, by go_num, by omega, by rw [any_take_succ _ _ _ hlt, HA.out, HB.out]; rfl, _, rfl⟩
        case measure => simp [intOf]; omega
      · have HB := Lib.hid hb; clear hb
        rw [HB.out] at hpk
        go_wp2_with (refine hpk.mono ?_; rintro e w' ⟨rfl, u1, rfl⟩; clear hpk)
        go_ret
        exact ⟨.inr ⟨k, hlt, rfl, HB.out, HA.out⟩, _, rfl⟩
    · go_wp2
      go_ret
      exact ⟨.inl ⟨rfl, by have := HA.out; rwa [List.take_of_length_le (by omega)] at this⟩, _, rfl⟩

set_option maxHeartbeats 400000 in
theorem containsInt {α : Type} (R : World → α → List Value → Prop) (K : FuncId) (cap : List Value) (p : α → Bool) (A : Option Addr) (l : List α) (c : Nat) (w : World) (hA : RowsP w A 1 R l)
    (hK : ∀ args w, (callFunc K args).run Try.prog w = .ok (.enter K args) w)
    (hp : ∀ x ∈ l, ∀ v0, R w x [v0] → Asks Try.prog K cap w (v0) (p x)) :
    Calls Try.prog 95 #[.slice A l.length c, .func (.func K) #[] cap.toArray] w fun e w' => e = .returned (.bool (l.any p)) ∧ Aft w w' := by
  go_enter Try.func95, Try.ntmps95
  go_wp2_with (go_at_call 116; refine (indexFuncInt R K cap p A l c w hA hK hp).mono ?_; rintro e w' ⟨hr, u, rfl⟩; obtain ⟨n, rfl, hn⟩ := hr.sign; clear hr; have HN := Lib.hid hn; clear hn)
  go_ret
  exact ⟨ret_bool (by have := HN.out; cases h : l.any p <;> simp_all), u, rfl⟩

theorem runs_96 (args : Array Value) (w : World) : (callFunc 96 args).run Try.prog w = .ok (.enter 96 args) w := by simp [go_sem]
set_option maxHeartbeats 400000 in
theorem notInt_any (K : FuncId) (cap : List Value) (b : Nat) (v0 : Value) (q : Bool) (w : World) (hb : Blk w b 143 #[.func (.func K) #[] cap.toArray])
    (hK : ∀ args w, (callFunc K args).run Try.prog w = .ok (.enter K args) w) (hp : Asks Try.prog K cap w (v0) q) :
    Calls Try.prog 96 #[v0, .pointer (some ⟨b, 0, none⟩)] w fun e w' => e = .returned (.bool (!q)) ∧ Aft w w' := by
  have k0 : w.cell? ⟨b, 0, none⟩ = some (.func (.func K) #[] cap.toArray) := hb.cell 0
  have hlt := hb.lt
  have hpk := hp.at (W := w) (Aft.refl _)
  clear hp hb
  go_enter Try.func96, Try.ntmps96
  go_wp2_with (refine hpk.mono ?_; rintro e w' ⟨rfl, u1, rfl⟩; clear hpk)
  go_ret
  exact ⟨rfl, (Aft.refl _).then_lat _⟩
set_option maxHeartbeats 400000 in
theorem everyInt {α : Type} (R : World → α → List Value → Prop) (hR : MonoR R) (K : FuncId) (cap : List Value) (p : α → Bool) (A : Option Addr) (l : List α) (c : Nat) (w : World) (hA : RowsP w A 1 R l)
    (hK : ∀ args w, (callFunc K args).run Try.prog w = .ok (.enter K args) w)
    (hp : ∀ x ∈ l, ∀ W, Aft w W → ∀ v0, R W x [v0] → Asks Try.prog K cap W (v0) (p x)) :
    Calls Try.prog 66 #[.slice A l.length c, .func (.func K) #[] cap.toArray] w fun e w' => e = .returned (.bool (l.all p)) ∧ Aft w w' := by
  have ha := Aft.alloc w (.cells #[.func (.func K) #[] cap.toArray] 143)
  have H := Lib.hid (containsInt R 96 [.pointer (some ⟨w.heap.size, 0, none⟩)] (fun x => !p x) A l c (w.alloc (.cells #[.func (.func K) #[] cap.toArray] 143)) (hA.aft hR ha) runs_96 fun x hx v0 hv u => by
    exact notInt_any K cap _ v0 (p x) _ ((Blk.new w 143 #[.func (.func K) #[] cap.toArray]).lat u) hK ((hp x hx _ ha v0 hv).lat u))
  clear hp hA
  go_enter Try.func66, Try.ntmps66
  go_wp2_with (go_at_call 95; refine H.out.mono ?_; rintro e w' ⟨rfl, u, rfl⟩)
  go_ret
  exact ⟨ret_bool (all_not_any p l), ha.then_lat _⟩


set_option maxHeartbeats 1000000 in
theorem indexFuncShift {α : Type} (R : World → α → List Value → Prop) (K : FuncId) (cap : List Value) (p : α → Bool) (A : Option Addr) (l : List α) (c : Nat) (w : World) (hA : RowsP w A 4 R l)
    (hK : ∀ args w, (callFunc K args).run Try.prog w = .ok (.enter K args) w)
    (hp : ∀ x ∈ l, ∀ v0 v1 v2 v3, R w x [v0, v1, v2, v3] → Asks Try.prog K cap w (.agg #[v0, v1, v2, v3]) (p x)) :
    Calls Try.prog 119 #[.slice A l.length c, .func (.func K) #[] cap.toArray] w fun e w' => IdxRes p l e ∧ Aft w w' := by
  have hl := hA.len (by decide)
  have HP := Lib.hid hp
  clear hp
  go_enter Try.func119, Try.ntmps119
  go_wp2
  go_loopw [8] (fun i wr => ∃ k : Nat, i = .int .i64 k ∧ k ≤ l.length ∧ (l.take k).any p = false ∧ Aft w wr) (fun i _ => l.length - (intOf i).toNat)
  case atStart => exact ⟨0, rfl, by omega, by simp, Aft.refl _⟩
  case round =>
    obtain ⟨k, rfl, hk, hany, u, rfl⟩ := hrel
    have HA := Lib.hid hany; clear hany
    by_cases hlt : k < l.length
    · obtain ⟨b, o, rfl, hbw, hc⟩ := hA.at hlt
      obtain ⟨vs, hv1, hv2, hv3⟩ := hc k hlt
      obtain ⟨v0, v1, v2, v3, rfl⟩ : ∃ v0 v1 v2 v3, vs = [v0, v1, v2, v3] := by match vs, hv1 with | [v0, v1, v2, v3], _ => exact ⟨v0, v1, v2, v3, rfl⟩
      have hc0 := hv3 0 (by simp); have hc1 := hv3 1 (by simp); have hc2 := hv3 2 (by simp); have hc3 := hv3 3 (by simp)
      simp only [Nat.add_zero, List.getElem_cons_zero, List.getElem_cons_succ] at hc0 hc1 hc2 hc3
      have hpk := HP.out l[k] (List.getElem_mem hlt) v0 v1 v2 v3 hv2 u
      clear hc hv3 hv2
      cases hb : p l[k]
      · have HB := Lib.hid hb; clear hb
        rw [HB.out] at hpk
        go_wp2_with (refine hpk.mono ?_; rintro e w' ⟨rfl, u1, rfl⟩; clear hpk)
        go_roundw
        case rel => exact ⟨k + 1, by go_num, by omega, by rw [any_take_succ _ _ _ hlt, HA.out, HB.out]; rfl, _, rfl⟩
        case measure => simp [intOf]; omega
      · have HB := Lib.hid hb; clear hb
        rw [HB.out] at hpk
        go_wp2_with (refine hpk.mono ?_; rintro e w' ⟨rfl, u1, rfl⟩; clear hpk)
        go_ret
        exact ⟨.inr ⟨k, hlt, rfl, HB.out, HA.out⟩, _, rfl⟩
    · go_wp2
      go_ret
      exact ⟨.inl ⟨rfl, by have := HA.out; rwa [List.take_of_length_le (by omega)] at this⟩, _, rfl⟩

set_option maxHeartbeats 400000 in
theorem containsShift {α : Type} (R : World → α → List Value → Prop) (K : FuncId) (cap : List Value) (p : α → Bool) (A : Option Addr) (l : List α) (c : Nat) (w : World) (hA : RowsP w A 4 R l)
    (hK : ∀ args w, (callFunc K args).run Try.prog w = .ok (.enter K args) w)
    (hp : ∀ x ∈ l, ∀ v0 v1 v2 v3, R w x [v0, v1, v2, v3] → Asks Try.prog K cap w (.agg #[v0, v1, v2, v3]) (p x)) :
    Calls Try.prog 102 #[.slice A l.length c, .func (.func K) #[] cap.toArray] w fun e w' => e = .returned (.bool (l.any p)) ∧ Aft w w' := by
  go_enter Try.func102, Try.ntmps102
  go_wp2_with (go_at_call 119; refine (indexFuncShift R K cap p A l c w hA hK hp).mono ?_; rintro e w' ⟨hr, u, rfl⟩; obtain ⟨n, rfl, hn⟩ := hr.sign; clear hr; have HN := Lib.hid hn; clear hn)
  go_ret
  exact ⟨ret_bool (by have := HN.out; cases h : l.any p <;> simp_all), u, rfl⟩

theorem runs_103 (args : Array Value) (w : World) : (callFunc 103 args).run Try.prog w = .ok (.enter 103 args) w := by simp [go_sem]
set_option maxHeartbeats 400000 in
theorem notShift_any (K : FuncId) (cap : List Value) (b : Nat) (v0 v1 v2 v3 : Value) (q : Bool) (w : World) (hb : Blk w b 153 #[.func (.func K) #[] cap.toArray])
    (hK : ∀ args w, (callFunc K args).run Try.prog w = .ok (.enter K args) w) (hp : Asks Try.prog K cap w (.agg #[v0, v1, v2, v3]) q) :
    Calls Try.prog 103 #[.agg #[v0, v1, v2, v3], .pointer (some ⟨b, 0, none⟩)] w fun e w' => e = .returned (.bool (!q)) ∧ Aft w w' := by
  have k0 : w.cell? ⟨b, 0, none⟩ = some (.func (.func K) #[] cap.toArray) := hb.cell 0
  have hlt := hb.lt
  have hpk := hp.at (W := w.alloc (.cells #[v0, v1, v2, v3] 93)) (Aft.alloc _ _)
  clear hp hb
  go_enter Try.func103, Try.ntmps103
  go_wp2_with (refine hpk.mono ?_; rintro e w' ⟨rfl, u1, rfl⟩; clear hpk)
  go_ret
  exact ⟨rfl, (Aft.alloc _ _).then_lat _⟩
set_option maxHeartbeats 400000 in
theorem everyShift {α : Type} (R : World → α → List Value → Prop) (hR : MonoR R) (K : FuncId) (cap : List Value) (p : α → Bool) (A : Option Addr) (l : List α) (c : Nat) (w : World) (hA : RowsP w A 4 R l)
    (hK : ∀ args w, (callFunc K args).run Try.prog w = .ok (.enter K args) w)
    (hp : ∀ x ∈ l, ∀ W, Aft w W → ∀ v0 v1 v2 v3, R W x [v0, v1, v2, v3] → Asks Try.prog K cap W (.agg #[v0, v1, v2, v3]) (p x)) :
    Calls Try.prog 76 #[.slice A l.length c, .func (.func K) #[] cap.toArray] w fun e w' => e = .returned (.bool (l.all p)) ∧ Aft w w' := by
  have ha := Aft.alloc w (.cells #[.func (.func K) #[] cap.toArray] 153)
  have H := Lib.hid (containsShift R 103 [.pointer (some ⟨w.heap.size, 0, none⟩)] (fun x => !p x) A l c (w.alloc (.cells #[.func (.func K) #[] cap.toArray] 153)) (hA.aft hR ha) runs_103 fun x hx v0 v1 v2 v3 hv u => by
    exact notShift_any K cap _ v0 v1 v2 v3 (p x) _ ((Blk.new w 153 #[.func (.func K) #[] cap.toArray]).lat u) hK ((hp x hx _ ha v0 v1 v2 v3 hv).lat u))
  clear hp hA
  go_enter Try.func76, Try.ntmps76
  go_wp2_with (go_at_call 102; refine H.out.mono ?_; rintro e w' ⟨rfl, u, rfl⟩)
  go_ret
  exact ⟨ret_bool (all_not_any p l), ha.then_lat _⟩


set_option maxHeartbeats 1000000 in
theorem indexFuncLeg {α : Type} (R : World → α → List Value → Prop) (K : FuncId) (cap : List Value) (p : α → Bool) (A : Option Addr) (l : List α) (c : Nat) (w : World) (hA : RowsP w A 2 R l)
    (hK : ∀ args w, (callFunc K args).run Try.prog w = .ok (.enter K args) w)
    (hp : ∀ x ∈ l, ∀ v0 v1, R w x [v0, v1] → Asks Try.prog K cap w (.agg #[v0, v1]) (p x)) :
    Calls Try.prog 121 #[.slice A l.length c, .func (.func K) #[] cap.toArray] w fun e w' => IdxRes p l e ∧ Aft w w' := by
  have hl := hA.len (by decide)
  have HP := Lib.hid hp
  clear hp
  go_enter Try.func121, Try.ntmps121
  go_wp2
  go_loopw [8] (fun i wr => ∃ k : Nat, i = .int .i64 k ∧ k ≤ l.length ∧ (l.take k).any p = false ∧ Aft w wr) (fun i _ => l.length - (intOf i).toNat)
  case atStart => exact ⟨0, rfl, by omega, by simp, Aft.refl _⟩
  case round =>
    obtain ⟨k, rfl, hk, hany, u, rfl⟩ := hrel
    have HA := Lib.hid hany; clear hany
    by_cases hlt : k < l.length
    · obtain ⟨b, o, rfl, hbw, hc⟩ := hA.at hlt
      obtain ⟨vs, hv1, hv2, hv3⟩ := hc k hlt
      obtain ⟨v0, v1, rfl⟩ : ∃ v0 v1, vs = [v0, v1] := by match vs, hv1 with | [v0, v1], _ => exact ⟨v0, v1, rfl⟩
      have hc0 := hv3 0 (by simp); have hc1 := hv3 1 (by simp)
      simp only [Nat.add_zero, List.getElem_cons_zero, List.getElem_cons_succ] at hc0 hc1
      have hpk := HP.out l[k] (List.getElem_mem hlt) v0 v1 hv2 u
      clear hc hv3 hv2
      cases hb : p l[k]
      · have HB := Lib.hid hb; clear hb
        rw [HB.out] at hpk
        go_wp2_with (refine hpk.mono ?_; rintro e w' ⟨rfl, u1, rfl⟩; clear hpk)
        go_roundw
        case rel => exact ⟨k + 1, by go_num, by omega, by rw [any_take_succ _ _ _ hlt, HA.out, HB.out]; rfl, _, rfl⟩
        case measure => simp [intOf]; omega
      · have HB := Lib.hid hb; clear hb
        rw [HB.out] at hpk
        go_wp2_with (refine hpk.mono ?_; rintro e w' ⟨rfl, u1, rfl⟩; clear hpk)
        go_ret
        exact ⟨.inr ⟨k, hlt, rfl, HB.out, HA.out⟩, _, rfl⟩
    · go_wp2
      go_ret
      exact ⟨.inl ⟨rfl, by have := HA.out; rwa [List.take_of_length_le (by omega)] at this⟩, _, rfl⟩

set_option maxHeartbeats 400000 in
theorem containsLeg {α : Type} (R : World → α → List Value → Prop) (K : FuncId) (cap : List Value) (p : α → Bool) (A : Option Addr) (l : List α) (c : Nat) (w : World) (hA : RowsP w A 2 R l)
    (hK : ∀ args w, (callFunc K args).run Try.prog w = .ok (.enter K args) w)
    (hp : ∀ x ∈ l, ∀ v0 v1, R w x [v0, v1] → Asks Try.prog K cap w (.agg #[v0, v1]) (p x)) :
    Calls Try.prog 110 #[.slice A l.length c, .func (.func K) #[] cap.toArray] w fun e w' => e = .returned (.bool (l.any p)) ∧ Aft w w' := by
  go_enter Try.func110, Try.ntmps110
  go_wp2_with (go_at_call 121; refine (indexFuncLeg R K cap p A l c w hA hK hp).mono ?_; rintro e w' ⟨hr, u, rfl⟩; obtain ⟨n, rfl, hn⟩ := hr.sign; clear hr; have HN := Lib.hid hn; clear hn)
  go_ret
  exact ⟨ret_bool (by have := HN.out; cases h : l.any p <;> simp_all), u, rfl⟩

theorem runs_111 (args : Array Value) (w : World) : (callFunc 111 args).run Try.prog w = .ok (.enter 111 args) w := by simp [go_sem]
set_option maxHeartbeats 400000 in
theorem notLeg_any (K : FuncId) (cap : List Value) (b : Nat) (v0 v1 : Value) (q : Bool) (w : World) (hb : Blk w b 161 #[.func (.func K) #[] cap.toArray])
    (hK : ∀ args w, (callFunc K args).run Try.prog w = .ok (.enter K args) w) (hp : Asks Try.prog K cap w (.agg #[v0, v1]) q) :
    Calls Try.prog 111 #[.agg #[v0, v1], .pointer (some ⟨b, 0, none⟩)] w fun e w' => e = .returned (.bool (!q)) ∧ Aft w w' := by
  have k0 : w.cell? ⟨b, 0, none⟩ = some (.func (.func K) #[] cap.toArray) := hb.cell 0
  have hlt := hb.lt
  have hpk := hp.at (W := w.alloc (.cells #[v0, v1] 120)) (Aft.alloc _ _)
  clear hp hb
  go_enter Try.func111, Try.ntmps111
  go_wp2_with (refine hpk.mono ?_; rintro e w' ⟨rfl, u1, rfl⟩; clear hpk)
  go_ret
  exact ⟨rfl, (Aft.alloc _ _).then_lat _⟩
set_option maxHeartbeats 400000 in
theorem everyLeg {α : Type} (R : World → α → List Value → Prop) (hR : MonoR R) (K : FuncId) (cap : List Value) (p : α → Bool) (A : Option Addr) (l : List α) (c : Nat) (w : World) (hA : RowsP w A 2 R l)
    (hK : ∀ args w, (callFunc K args).run Try.prog w = .ok (.enter K args) w)
    (hp : ∀ x ∈ l, ∀ W, Aft w W → ∀ v0 v1, R W x [v0, v1] → Asks Try.prog K cap W (.agg #[v0, v1]) (p x)) :
    Calls Try.prog 85 #[.slice A l.length c, .func (.func K) #[] cap.toArray] w fun e w' => e = .returned (.bool (l.all p)) ∧ Aft w w' := by
  have ha := Aft.alloc w (.cells #[.func (.func K) #[] cap.toArray] 161)
  have H := Lib.hid (containsLeg R 111 [.pointer (some ⟨w.heap.size, 0, none⟩)] (fun x => !p x) A l c (w.alloc (.cells #[.func (.func K) #[] cap.toArray] 161)) (hA.aft hR ha) runs_111 fun x hx v0 v1 hv u => by
    exact notLeg_any K cap _ v0 v1 (p x) _ ((Blk.new w 161 #[.func (.func K) #[] cap.toArray]).lat u) hK ((hp x hx _ ha v0 v1 hv).lat u))
  clear hp hA
  go_enter Try.func85, Try.ntmps85
  go_wp2_with (go_at_call 110; refine H.out.mono ?_; rintro e w' ⟨rfl, u, rfl⟩)
  go_ret
  exact ⟨ret_bool (all_not_any p l), ha.then_lat _⟩


set_option maxHeartbeats 1000000 in
theorem indexFuncMark {α : Type} (R : World → α → List Value → Prop) (K : FuncId) (cap : List Value) (p : α → Bool) (A : Option Addr) (l : List α) (c : Nat) (w : World) (hA : RowsP w A 2 R l)
    (hK : ∀ args w, (callFunc K args).run Try.prog w = .ok (.enter K args) w)
    (hp : ∀ x ∈ l, ∀ v0 v1, R w x [v0, v1] → Asks Try.prog K cap w (.agg #[v0, v1]) (p x)) :
    Calls Try.prog 122 #[.slice A l.length c, .func (.func K) #[] cap.toArray] w fun e w' => IdxRes p l e ∧ Aft w w' := by
  have hl := hA.len (by decide)
  have HP := Lib.hid hp
  clear hp
  go_enter Try.func122, Try.ntmps122
  go_wp2
  go_loopw [8] (fun i wr => ∃ k : Nat, i = .int .i64 k ∧ k ≤ l.length ∧ (l.take k).any p = false ∧ Aft w wr) (fun i _ => l.length - (intOf i).toNat)
  case atStart => exact ⟨0, rfl, by omega, by simp, Aft.refl _⟩
  case round =>
    obtain ⟨k, rfl, hk, hany, u, rfl⟩ := hrel
    have HA := Lib.hid hany; clear hany
    by_cases hlt : k < l.length
    · obtain ⟨b, o, rfl, hbw, hc⟩ := hA.at hlt
      obtain ⟨vs, hv1, hv2, hv3⟩ := hc k hlt
      obtain ⟨v0, v1, rfl⟩ : ∃ v0 v1, vs = [v0, v1] := by match vs, hv1 with | [v0, v1], _ => exact ⟨v0, v1, rfl⟩
      have hc0 := hv3 0 (by simp); have hc1 := hv3 1 (by simp)
      simp only [Nat.add_zero, List.getElem_cons_zero, List.getElem_cons_succ] at hc0 hc1
      have hpk := HP.out l[k] (List.getElem_mem hlt) v0 v1 hv2 u
      clear hc hv3 hv2
      cases hb : p l[k]
      · have HB := Lib.hid hb; clear hb
        rw [HB.out] at hpk
        go_wp2_with (refine hpk.mono ?_; rintro e w' ⟨rfl, u1, rfl⟩; clear hpk)
        go_roundw
        case rel => exact ⟨k + 1, by go_num, by omega, by rw [any_take_succ _ _ _ hlt, HA.out, HB.out]; rfl, _, rfl⟩
        case measure => simp [intOf]; omega
      · have HB := Lib.hid hb; clear hb
        rw [HB.out] at hpk
        go_wp2_with (refine hpk.mono ?_; rintro e w' ⟨rfl, u1, rfl⟩; clear hpk)
        go_ret
        exact ⟨.inr ⟨k, hlt, rfl, HB.out, HA.out⟩, _, rfl⟩
    · go_wp2
      go_ret
      exact ⟨.inl ⟨rfl, by have := HA.out; rwa [List.take_of_length_le (by omega)] at this⟩, _, rfl⟩

set_option maxHeartbeats 400000 in
theorem containsMark {α : Type} (R : World → α → List Value → Prop) (K : FuncId) (cap : List Value) (p : α → Bool) (A : Option Addr) (l : List α) (c : Nat) (w : World) (hA : RowsP w A 2 R l)
    (hK : ∀ args w, (callFunc K args).run Try.prog w = .ok (.enter K args) w)
    (hp : ∀ x ∈ l, ∀ v0 v1, R w x [v0, v1] → Asks Try.prog K cap w (.agg #[v0, v1]) (p x)) :
    Calls Try.prog 112 #[.slice A l.length c, .func (.func K) #[] cap.toArray] w fun e w' => e = .returned (.bool (l.any p)) ∧ Aft w w' := by
  go_enter Try.func112, Try.ntmps112
  go_wp2_with (go_at_call 122; refine (indexFuncMark R K cap p A l c w hA hK hp).mono ?_; rintro e w' ⟨hr, u, rfl⟩; obtain ⟨n, rfl, hn⟩ := hr.sign; clear hr; have HN := Lib.hid hn; clear hn)
  go_ret
  exact ⟨ret_bool (by have := HN.out; cases h : l.any p <;> simp_all), u, rfl⟩

theorem runs_113 (args : Array Value) (w : World) : (callFunc 113 args).run Try.prog w = .ok (.enter 113 args) w := by simp [go_sem]
set_option maxHeartbeats 400000 in
theorem notMark_any (K : FuncId) (cap : List Value) (b : Nat) (v0 v1 : Value) (q : Bool) (w : World) (hb : Blk w b 165 #[.func (.func K) #[] cap.toArray])
    (hK : ∀ args w, (callFunc K args).run Try.prog w = .ok (.enter K args) w) (hp : Asks Try.prog K cap w (.agg #[v0, v1]) q) :
    Calls Try.prog 113 #[.agg #[v0, v1], .pointer (some ⟨b, 0, none⟩)] w fun e w' => e = .returned (.bool (!q)) ∧ Aft w w' := by
  have k0 : w.cell? ⟨b, 0, none⟩ = some (.func (.func K) #[] cap.toArray) := hb.cell 0
  have hlt := hb.lt
  have hpk := hp.at (W := w.alloc (.cells #[v0, v1] 54)) (Aft.alloc _ _)
  clear hp hb
  go_enter Try.func113, Try.ntmps113
  go_wp2_with (refine hpk.mono ?_; rintro e w' ⟨rfl, u1, rfl⟩; clear hpk)
  go_ret
  exact ⟨rfl, (Aft.alloc _ _).then_lat _⟩
set_option maxHeartbeats 400000 in
theorem everyMark {α : Type} (R : World → α → List Value → Prop) (hR : MonoR R) (K : FuncId) (cap : List Value) (p : α → Bool) (A : Option Addr) (l : List α) (c : Nat) (w : World) (hA : RowsP w A 2 R l)
    (hK : ∀ args w, (callFunc K args).run Try.prog w = .ok (.enter K args) w)
    (hp : ∀ x ∈ l, ∀ W, Aft w W → ∀ v0 v1, R W x [v0, v1] → Asks Try.prog K cap W (.agg #[v0, v1]) (p x)) :
    Calls Try.prog 90 #[.slice A l.length c, .func (.func K) #[] cap.toArray] w fun e w' => e = .returned (.bool (l.all p)) ∧ Aft w w' := by
  have ha := Aft.alloc w (.cells #[.func (.func K) #[] cap.toArray] 165)
  have H := Lib.hid (containsMark R 113 [.pointer (some ⟨w.heap.size, 0, none⟩)] (fun x => !p x) A l c (w.alloc (.cells #[.func (.func K) #[] cap.toArray] 165)) (hA.aft hR ha) runs_113 fun x hx v0 v1 hv u => by
    exact notMark_any K cap _ v0 v1 (p x) _ ((Blk.new w 165 #[.func (.func K) #[] cap.toArray]).lat u) hK ((hp x hx _ ha v0 v1 hv).lat u))
  clear hp hA
  go_enter Try.func90, Try.ntmps90
  go_wp2_with (go_at_call 112; refine H.out.mono ?_; rintro e w' ⟨rfl, u, rfl⟩)
  go_ret
  exact ⟨ret_bool (all_not_any p l), ha.then_lat _⟩


set_option maxHeartbeats 1000000 in
theorem indexFuncJoint {α : Type} (R : World → α → List Value → Prop) (K : FuncId) (cap : List Value) (p : α → Bool) (A : Option Addr) (l : List α) (c : Nat) (w : World) (hA : RowsP w A 4 R l)
    (hK : ∀ args w, (callFunc K args).run Try.prog w = .ok (.enter K args) w)
    (hp : ∀ x ∈ l, ∀ v0 v1 v2 v3, R w x [v0, v1, v2, v3] → Asks Try.prog K cap w (.agg #[v0, v1, v2, v3]) (p x)) :
    Calls Try.prog 123 #[.slice A l.length c, .func (.func K) #[] cap.toArray] w fun e w' => IdxRes p l e ∧ Aft w w' := by
  have hl := hA.len (by decide)
  have HP := Lib.hid hp
  clear hp
  go_enter Try.func123, Try.ntmps123
  go_wp2
  go_loopw [8] (fun i wr => ∃ k : Nat, i = .int .i64 k ∧ k ≤ l.length ∧ (l.take k).any p = false ∧ Aft w wr) (fun i _ => l.length - (intOf i).toNat)
  case atStart => exact ⟨0, rfl, by omega, by simp, Aft.refl _⟩
  case round =>
    obtain ⟨k, rfl, hk, hany, u, rfl⟩ := hrel
    have HA := Lib.hid hany; clear hany
    by_cases hlt : k < l.length
    · obtain ⟨b, o, rfl, hbw, hc⟩ := hA.at hlt
      obtain ⟨vs, hv1, hv2, hv3⟩ := hc k hlt
      obtain ⟨v0, v1, v2, v3, rfl⟩ : ∃ v0 v1 v2 v3, vs = [v0, v1, v2, v3] := by match vs, hv1 with | [v0, v1, v2, v3], _ => exact ⟨v0, v1, v2, v3, rfl⟩
      have hc0 := hv3 0 (by simp); have hc1 := hv3 1 (by simp); have hc2 := hv3 2 (by simp); have hc3 := hv3 3 (by simp)
      simp only [Nat.add_zero, List.getElem_cons_zero, List.getElem_cons_succ] at hc0 hc1 hc2 hc3
      have hpk := HP.out l[k] (List.getElem_mem hlt) v0 v1 v2 v3 hv2 u
      clear hc hv3 hv2
      cases hb : p l[k]
      · have HB := Lib.hid hb; clear hb
        rw [HB.out] at hpk
        go_wp2_with (refine hpk.mono ?_; rintro e w' ⟨rfl, u1, rfl⟩; clear hpk)
        go_roundw
        case rel => exact ⟨k + 1, by go_num, by omega, by rw [any_take_succ _ _ _ hlt, HA.out, HB.out]; rfl, _, rfl⟩
        case measure => simp [intOf]; omega
      · have HB := Lib.hid hb; clear hb
        rw [HB.out] at hpk
        go_wp2_with (refine hpk.mono ?_; rintro e w' ⟨rfl, u1, rfl⟩; clear hpk)
        go_ret
        exact ⟨.inr ⟨k, hlt, rfl, HB.out, HA.out⟩, _, rfl⟩
    · go_wp2
      go_ret
      exact ⟨.inl ⟨rfl, by have := HA.out; rwa [List.take_of_length_le (by omega)] at this⟩, _, rfl⟩

set_option maxHeartbeats 400000 in
theorem containsJoint {α : Type} (R : World → α → List Value → Prop) (K : FuncId) (cap : List Value) (p : α → Bool) (A : Option Addr) (l : List α) (c : Nat) (w : World) (hA : RowsP w A 4 R l)
    (hK : ∀ args w, (callFunc K args).run Try.prog w = .ok (.enter K args) w)
    (hp : ∀ x ∈ l, ∀ v0 v1 v2 v3, R w x [v0, v1, v2, v3] → Asks Try.prog K cap w (.agg #[v0, v1, v2, v3]) (p x)) :
    Calls Try.prog 117 #[.slice A l.length c, .func (.func K) #[] cap.toArray] w fun e w' => e = .returned (.bool (l.any p)) ∧ Aft w w' := by
  go_enter Try.func117, Try.ntmps117
  go_wp2_with (go_at_call 123; refine (indexFuncJoint R K cap p A l c w hA hK hp).mono ?_; rintro e w' ⟨hr, u, rfl⟩; obtain ⟨n, rfl, hn⟩ := hr.sign; clear hr; have HN := Lib.hid hn; clear hn)
  go_ret
  exact ⟨ret_bool (by have := HN.out; cases h : l.any p <;> simp_all), u, rfl⟩

theorem runs_118 (args : Array Value) (w : World) : (callFunc 118 args).run Try.prog w = .ok (.enter 118 args) w := by simp [go_sem]
set_option maxHeartbeats 400000 in
theorem notJoint_any (K : FuncId) (cap : List Value) (b : Nat) (v0 v1 v2 v3 : Value) (q : Bool) (w : World) (hb : Blk w b 171 #[.func (.func K) #[] cap.toArray])
    (hK : ∀ args w, (callFunc K args).run Try.prog w = .ok (.enter K args) w) (hp : Asks Try.prog K cap w (.agg #[v0, v1, v2, v3]) q) :
    Calls Try.prog 118 #[.agg #[v0, v1, v2, v3], .pointer (some ⟨b, 0, none⟩)] w fun e w' => e = .returned (.bool (!q)) ∧ Aft w w' := by
  have k0 : w.cell? ⟨b, 0, none⟩ = some (.func (.func K) #[] cap.toArray) := hb.cell 0
  have hlt := hb.lt
  have hpk := hp.at (W := w.alloc (.cells #[v0, v1, v2, v3] 35)) (Aft.alloc _ _)
  clear hp hb
  go_enter Try.func118, Try.ntmps118
  go_wp2_with (refine hpk.mono ?_; rintro e w' ⟨rfl, u1, rfl⟩; clear hpk)
  go_ret
  exact ⟨rfl, (Aft.alloc _ _).then_lat _⟩
set_option maxHeartbeats 400000 in
theorem everyJoint {α : Type} (R : World → α → List Value → Prop) (hR : MonoR R) (K : FuncId) (cap : List Value) (p : α → Bool) (A : Option Addr) (l : List α) (c : Nat) (w : World) (hA : RowsP w A 4 R l)
    (hK : ∀ args w, (callFunc K args).run Try.prog w = .ok (.enter K args) w)
    (hp : ∀ x ∈ l, ∀ W, Aft w W → ∀ v0 v1 v2 v3, R W x [v0, v1, v2, v3] → Asks Try.prog K cap W (.agg #[v0, v1, v2, v3]) (p x)) :
    Calls Try.prog 99 #[.slice A l.length c, .func (.func K) #[] cap.toArray] w fun e w' => e = .returned (.bool (l.all p)) ∧ Aft w w' := by
  have ha := Aft.alloc w (.cells #[.func (.func K) #[] cap.toArray] 171)
  have H := Lib.hid (containsJoint R 118 [.pointer (some ⟨w.heap.size, 0, none⟩)] (fun x => !p x) A l c (w.alloc (.cells #[.func (.func K) #[] cap.toArray] 171)) (hA.aft hR ha) runs_118 fun x hx v0 v1 v2 v3 hv u => by
    exact notJoint_any K cap _ v0 v1 v2 v3 (p x) _ ((Blk.new w 171 #[.func (.func K) #[] cap.toArray]).lat u) hK ((hp x hx _ ha v0 v1 v2 v3 hv).lat u))
  clear hp hA
  go_enter Try.func99, Try.ntmps99
  go_wp2_with (go_at_call 117; refine H.out.mono ?_; rintro e w' ⟨rfl, u, rfl⟩)
  go_ret
  exact ⟨ret_bool (all_not_any p l), ha.then_lat _⟩

end Go.Proofs
end

section
/- Walks: slices that are cloned, compared, turned round, and what is deleted of them. -/
namespace Go.Proofs
open Go.RowKit

theorem ty24 : SliceTy Try.prog 51 3 1 8 := .mk' (z := .int .i64 0) Try.underlying51 (by kernel_rfl) rfl (by decide)

/-- A list of numbers in memory of the call's own. -/
def OwnInts (w0 : World) (l : List Int) (e : Ending) (w' : World) : Prop := ∃ v, e = .returned v ∧ w'.ownsRow w0.heap.size 3 1 v l.length (l.map (Value.int .i64)) ∧ Aft w0 w'


theorem ints_src {w : World} {A : Option Addr} {l : List Int} (h : Ints w A l) : ∀ ad, A = some ad → ∀ j u, (l.map (Value.int .i64))[j]? = some u → w.cell? (ad.add j) = some u := by
  intro ad e j u hj
  have hlt : j < l.length := by have := (List.getElem?_eq_some_iff.1 hj).1; simpa using this
  obtain ⟨b, o, e2, _, hc⟩ := h.at hlt
  rw [e] at e2; cases e2
  rw [Addr.add_lit, hc j hlt]
  simp [hlt] at hj; simp [hj]
theorem ints_nil {w : World} {A : Option Addr} {l : List Int} (h : Ints w A l) (e : A = none) : l.length = 0 := by
  rcases Nat.eq_zero_or_pos l.length with h0 | h0
  · exact h0
  · obtain ⟨b, o, e2, _⟩ := h.at h0
    rw [e] at e2; cases e2
theorem ints_one (l : List Int) : ∀ u ∈ l.map (Value.int .i64), u.oneCell' = true := by
  intro u hu; obtain ⟨x, _, rfl⟩ := List.mem_map.1 hu; rfl

theorem kitClone_int (A : Option Addr) (l : List Int) (c : Nat) (w : World) (hA : Ints w A l) :
    Calls Try.prog 55 #[.slice A l.length c] w (OwnInts w l) := by
  have hl := hA.len
  go_enter Try.func55, Try.ntmps55
  go_wp2_with (at_builtin; refine wpList_app ty24 rfl _ _ rfl (Aft.refl w) rfl (World.ownsRow_nil w _ 3 1) rfl (by simp) (ints_nil hA) (ints_src hA) (ints_one l) (by omega) (by decide) ?_; intro v' w1 hown' hgrow haft)
  go_ret
  exact ⟨_, rfl, by simpa using hown', haft⟩



end Go.Proofs
end

section
/- A region that draws its order and ends in a store, by the quick step of a quiet walk. -/
namespace Go

theorem Oper.still_of_quiet {P : Program} {o : Oper} {a : Act} {w : World} {K : Act → Prop} (h : o.quiet P a (fun w' => w' = w) K) : o.still P a w K := by
  obtain ⟨v, h1, h2⟩ := h
  have h3 := h1 w rfl
  unfold Oper.quietAt at h3
  unfold Oper.still
  generalize (execOp a.eval o).run P w = r at *
  cases r with
  | ok n w' =>
    cases n <;> simp only [Oper.quietUpon] at h3 <;> simp only [Oper.stillUpon]
    case value u => obtain ⟨e1, e2⟩ := h3; exact ⟨e1, by rw [e2]; exact h2⟩
    case skip => obtain ⟨e1, e2⟩ := h3; exact ⟨e1, by rw [← e2]; exact h2⟩
    case enter f args => obtain ⟨e1, hc⟩ := h3; exact ⟨e1, v, hc, h2⟩
  | halt x w' => simp only [Oper.quietUpon] at h3

theorem wpStill_of_quiet {P : Program} {ops : Array Oper} {w : World} {Q : Act → Prop} : ∀ (l : List Oper) (a : Act), wpQuiet P ops (fun w' => w' = w) Q l a → wpStill P ops w Q l a
  | [], _, h => h
  | o :: rest, a, h => by
    unfold wpQuiet at h
    unfold wpStill
    split
    · rename_i hw
      rw [if_pos hw] at h
      exact Oper.still_mono (fun a' h' => wpStill_of_quiet rest a' h') (Oper.still_of_quiet h)
    · rename_i hw
      rw [if_neg hw] at h
      exact wpStill_of_quiet rest _ h

theorem wp_region_tail {P : Program} {id : Nat} {Q : Exit → Act → World → Prop} {a : Act} {w : World} {l : List Oper} (n : Nat) (hm : P.follows .mixedOrders = true) (hB : Region.lexTailB .any l.toArray n = true)
    (h : wpQuiet P l.toArray (fun w' => w' = w.drew) (fun a' => wpList P l.toArray Q (l.drop n) a' w.drew) (l.take n) a) : (Code.region id l.toArray true).wp P Q a w :=
  wp_region_still_tail n hm hB (wpStill_of_quiet _ _ h)

end Go
end

section
/- Lists of lists of numbers. -/
namespace Go.Proofs
open Go.RowKit

def ListR : World → List Int → List Value → Prop := fun w l vs => ∃ A c, vs = [.slice A l.length c] ∧ Ints w A l
theorem ListR.mono : MonoR ListR := fun _ u _ _ ⟨A, c, h1, h2⟩ => ⟨A, c, h1, h2.lat u⟩
def Lists (w : World) (A : Option Addr) (l : List (List Int)) : Prop := RowsP w A 1 ListR l
theorem Lists.aft {w w' : World} {A : Option Addr} {l : List (List Int)} (h : Lists w A l) (hl : Aft w w') : Lists w' A l := RowsP.aft ListR.mono h hl
theorem Lists.len {w : World} {A : Option Addr} {l : List (List Int)} (h : Lists w A l) : l.length ≤ 17592186043904 := RowsP.len h (by decide)
theorem Lists.at {w : World} {A : Option Addr} {l : List (List Int)} (h : Lists w A l) {k : Nat} (hk : k < l.length) :
    ∃ b o, A = some ⟨b, o, none⟩ ∧ b < w.heap.size ∧ ∀ i, (h : i < l.length) → ∃ A' c', w.cell? ⟨b, o + i, none⟩ = some (.slice A' l[i].length c') ∧ Ints w A' l[i] := by
  obtain ⟨b, o, rfl, hb, hc⟩ := RowsP.at h hk
  refine ⟨b, o, rfl, hb, fun i hi => ?_⟩
  obtain ⟨vs, h1, ⟨A', c', rfl, h2⟩, h3⟩ := hc i hi
  exact ⟨A', c', by simpa using h3 0 (by simp), h2⟩

end Go.Proofs
end

section
/- More words for memory. -/
namespace Go
open Go.RowKit

/-- append(v, x...) to a slice of the call's own, from whatever source. -/
theorem wpList_app_at {P : Program} {w : World} {ops : Array Oper} {rest : List Oper} {o : Oper} {a : Act} {Q : Exit → Act → World → Prop} {t e : TypeId} {size bytes : Nat} (hT : SliceTy P t e size bytes)
    (hgd : o.guard = none) (s x : Operand) (ho : o.op = .call { callee := .builtin .append, args := #[s, x], argTypes := #[t, t] })
    {base : Nat} (hbase : base ≤ w.heap.size) {v : Value} {n : Nat} {xs : List Value} (hs : a.eval s = v) (hown : w.ownsRow base e size v n xs)
    {A : Option Addr} {m c : Nat} {news : List Value} (hx : a.eval x = .slice A m c) (hl : news.length = m * size) (hA : A = none → m = 0)
    (hnews : ∀ ad, A = some ad → ∀ j u, news[j]? = some u → w.cell? (ad.add j) = some u) (h1 : ∀ u ∈ news, u.oneCell' = true)
    (hbytes : (n + m) * bytes ≤ 140737488355328) (hpos : 0 < bytes)
    (h : ∀ v' w', w'.ownsRow base e size v' (n + m) (xs ++ news) → w.grownBy w' v.ownBlock → wpList P ops Q rest (a.put o.dst v') w') : wpList P ops Q (o :: rest) a w := by
  obtain ⟨ht, ⟨i, z, hi, hz, hsize, hby, hzs⟩, hsz⟩ := hT
  have h63 : n + m ≤ maxLen := by
    have : (n + m) * 1 ≤ (n + m) * bytes := Nat.mul_le_mul_left _ hpos
    unfold maxLen; omega
  cases A with
  | some ad =>
    exact wpList_append_own w hgd s x t ho base e i z size bytes ht hi hz hsize hby hzs hsz v n xs hs hown ad m c news hx hl (hnews ad rfl) h1 h63 hbytes hbase
      fun v' w' h2 h3 _ => h v' w' h2 h3
  | none =>
    have hm := hA rfl
    subst hm
    have hn : news = [] := List.eq_nil_of_length_eq_zero (by simpa using hl)
    subst hn
    refine wpList_plain hgd fun K hK => ?_
    have hr := run_app_none (ty := o.type) ht hi hown c
    unfold Oper.wp execOp
    simp only [ho, resolve, invoke, builtin, Sem.run_bind, Sem.run_pure, Result.andThen_ok, List.map_toArray, List.map_cons, List.map_nil, hs, hx, hr]
    exact hK _ _ (h v w (by simpa using hown) (World.grownBy.refl w _))

theorem one_int (x : Int) : ∀ u ∈ [Value.int .i64 x], u.oneCell' = true := by intro u hu; rw [List.mem_singleton] at hu; subst hu; rfl
end Go
end

section
/- Words for memory: a slice of slices of the call's own. -/
namespace Go.Proofs
open Go.RowKit

theorem ty41 : SliceTy Try.prog 50 51 1 24 := .mk' (z := .slice none 0 0) Try.underlying50 (by kernel_rfl) rfl (by decide)

/-- A slice of slices of numbers, all of its memory of the call's own, no two rows in one block. -/
structure OwnLs (W : World) (base : Nat) (v : Value) (vs : List Value) (ls : List (List Int)) : Prop where
  own : W.ownsRow base 51 1 v ls.length vs
  rows : ∀ i, (h : i < ls.length) → (h' : i < vs.length) → W.ownsRow base 3 1 vs[i] ls[i].length (ls[i].map (Value.int .i64))
  apart : ∀ i, (h : i < vs.length) → ∀ g, vs[i].ownBlock = some g → v.ownBlock ≠ some g ∧ ∀ j, (h' : j < vs.length) → j ≠ i → vs[j].ownBlock ≠ some g

def OwnLists (W : World) (base : Nat) (v : Value) (ls : List (List Int)) : Prop := ∃ vs, OwnLs W base v vs ls

section
variable {W W' : World} {base : Nat} {v : Value} {vs : List Value} {ls : List (List Int)}
theorem OwnLs.len (h : OwnLs W base v vs ls) : vs.length = ls.length := by simpa using h.own.1
theorem OwnLs.nil : OwnLs W base (.slice none 0 0) [] [] := ⟨World.ownsRow_nil _ _ 51 1, fun i h => by simp at h, fun i h => by simp at h⟩
theorem OwnLs.aft (h : OwnLs W base v vs ls) (ha : Aft W W') : OwnLs W' base v vs ls :=
  ⟨own_aft h.own ha, fun i hi hi' => own_aft (h.rows i hi hi') ha, h.apart⟩
theorem OwnLists.aft (h : OwnLists W base v ls) (ha : Aft W W') : OwnLists W' base v ls := let ⟨vs, h⟩ := h; ⟨vs, h.aft ha⟩
theorem OwnLs.mono (h : OwnLs W base v vs ls) {b : Nat} (hb : b ≤ base) : OwnLs W b v vs ls :=
  ⟨World.ownsRow.mono h.own hb, fun i hi hi' => World.ownsRow.mono (h.rows i hi hi') hb, h.apart⟩

/-- What append leaves of it. -/
theorem OwnLs.push (h : OwnLs W base v vs ls) {W2 W3 : World} (ha : Aft W W2) {r v' : Value} {l : List Int} (hr : W2.ownsRow W.heap.size 3 1 r l.length (l.map (Value.int .i64))) (hbase : base ≤ W.heap.size)
    (hown : W3.ownsRow base 51 1 v' (ls.length + 1) (vs ++ [r])) (hg : W2.grownBy W3 v.ownBlock) (hat : v'.ownBlock = v.ownBlock ∨ v'.ownBlock = some W2.heap.size) : OwnLs W3 base v' (vs ++ [r]) (ls ++ [l]) := by
  have hlen := h.len
  have old : ∀ i, (hi : i < vs.length) → ∀ g, vs[i].ownBlock = some g → g < W.heap.size := fun i hi g hg => ((h.rows i (by omega) hi).lt g hg).2
  have vold : ∀ g, v.ownBlock = some g → g < W.heap.size := fun g hg => (h.own.lt g hg).2
  have rnew : ∀ g, r.ownBlock = some g → W.heap.size ≤ g ∧ g < W2.heap.size := fun g hg => hr.lt g hg
  have hs := ha.size
  refine ⟨by simpa using hown, fun i hi hi' => ?_, fun i hi g hgi => ?_⟩
  · by_cases e : i < vs.length
    · rw [List.getElem_append_left e]
      have e' : i < ls.length := by omega
      simp only [List.getElem_append_left e']
      refine (own_aft (h.rows i e' e) ha).kept hg ?_
      cases hb : vs[i].ownBlock with
      | none => left; rfl
      | some g => right; intro e2; exact (h.apart i e g hb).1 e2.symm
    · have e2 : i = vs.length := by simp at hi'; omega
      subst e2
      have e3 : vs.length = ls.length := hlen
      rw [List.getElem_append_right (Nat.le_refl _)]
      simp only [Nat.sub_self, List.getElem_cons_zero]
      have : (ls ++ [l])[vs.length]'hi = l := by simp [e3]
      rw [this]
      refine World.ownsRow.mono (hr.kept hg ?_) hbase
      cases hb : r.ownBlock with
      | none => left; rfl
      | some g => right; intro e2; have := vold g e2.symm; have := (rnew g hb).1; omega
  · by_cases e : i < vs.length
    · rw [List.getElem_append_left e] at hgi
      have hlt := old i e g hgi
      refine ⟨fun e2 => ?_, fun j hj hne => ?_⟩
      · rcases hat with h1 | h1
        · rw [h1] at e2; exact (h.apart i e g hgi).1 e2
        · rw [h1] at e2; cases e2; omega
      · by_cases ej : j < vs.length
        · rw [List.getElem_append_left ej]; exact (h.apart i e g hgi).2 j ej hne
        · have e2 : j = vs.length := by simp at hj; omega
          subst e2
          rw [List.getElem_append_right (Nat.le_refl _)]
          simp only [Nat.sub_self, List.getElem_cons_zero]
          intro e2; have := (rnew g e2).1; omega
    · have e2 : i = vs.length := by simp at hi; omega
      subst e2
      rw [List.getElem_append_right (Nat.le_refl _)] at hgi
      simp only [Nat.sub_self, List.getElem_cons_zero] at hgi
      have := rnew g hgi
      refine ⟨fun e2 => ?_, fun j hj hne => ?_⟩
      · rcases hat with h1 | h1
        · rw [h1] at e2; have := vold g e2; omega
        · rw [h1] at e2; cases e2; omega
      · have ej : j < vs.length := by simp at hj; omega
        rw [List.getElem_append_left ej]
        intro e2; have := old j ej g e2; omega

/-- It reads as a list of lists. -/
theorem OwnLs.lists (h : OwnLs W base v vs ls) (hl : ls.length ≤ 17592186043904) (hr : ∀ l ∈ ls, l.length ≤ 17592186043904) : ∃ A c, v = .slice A ls.length c ∧ ls.length ≤ c ∧ Lists W A ls := by
  rcases h.own.2 with ⟨rfl, h0⟩ | ⟨g, cap, cur, rfl, hg, hh, hc, hm, hs, ht⟩
  · have : ls = [] := List.eq_nil_of_length_eq_zero h0
    subst this
    exact ⟨none, 0, rfl, Nat.le_refl _, by simp, .inl rfl⟩
  · refine ⟨_, cap, rfl, hc, by omega, .inr ⟨g, 0, rfl, (Array.getElem?_eq_some_iff.1 hh).1, fun i hi => ?_⟩⟩
    have hiv : i < vs.length := by rw [h.len]; exact hi
    obtain ⟨A, c, e, _, hi2⟩ := own_ints (h.rows i hi hiv) (hr _ (List.getElem_mem hi))
    refine ⟨[vs[i]], rfl, ⟨A, c, by rw [e], hi2⟩, fun j hj => ?_⟩
    have := h.own.cells (g := g) rfl i vs[i] (by simp [hiv])
    rw [Addr.add_lit] at this
    simp at hj
    subst hj
    simpa using this
theorem OwnLists.lists (h : OwnLists W base v ls) (hl : ls.length ≤ 17592186043904) (hr : ∀ l ∈ ls, l.length ≤ 17592186043904) : ∃ A c, v = .slice A ls.length c ∧ ls.length ≤ c ∧ Lists W A ls := let ⟨_, h⟩ := h; h.lists hl hr
end

/-- append(v, one list) to a slice of slices of the call's own: the new row lies in a block just laid. -/
theorem wpList_app_list {w : World} {ops : Array Oper} {rest : List Oper} {o : Oper} {a : Act} {Q : Exit → Act → World → Prop}
    (hgd : o.guard = none) (s x : Operand) (ho : o.op = .call { callee := .builtin .append, args := #[s, x], argTypes := #[50, 50] })
    {base : Nat} {v : Value} {vs : List Value} {ls : List (List Int)} {W : World} (h : OwnLs W base v vs ls) (hbase : base ≤ W.heap.size) (hs : a.eval s = v)
    {r : Value} {l : List Int} {c : Nat} {b : Nat} (hx : a.eval x = .slice (some ⟨b, 0, none⟩) 1 c) (hb : w.cell? ⟨b, 0, none⟩ = some r) (h1 : r.oneCell' = true)
    (ha : Aft W w) (hr : w.ownsRow W.heap.size 3 1 r l.length (l.map (Value.int .i64))) (hl : ls.length ≤ 1000000)
    (hn : ∀ v' vs' w', OwnLs w' base v' vs' (ls ++ [l]) → w.grownBy w' v.ownBlock → wpList Try.prog ops Q rest (a.put o.dst v') w') : wpList Try.prog ops Q (o :: rest) a w := by
  obtain ⟨ht, ⟨i, z, hi, hz, hsize, hby, hzs⟩, hsz⟩ := ty41
  refine wpList_append_own_at (w := w) hgd s x 50 ho base 51 i z 1 24 ht hi hz hsize hby hzs hsz v ls.length vs hs (own_aft h.own ha) ⟨b, 0, none⟩ 1 c [r] hx rfl (fun j u hj => ?_) (fun u hu => by rw [List.mem_singleton] at hu; subst hu; exact h1)
    (by unfold maxLen; omega) (by omega) (Nat.le_trans hbase ha.size) fun v' w' h2 h3 _ h5 => hn v' _ w' (h.push ha hr hbase h2 h3 h5) h3
  match j, hj with
  | 0, hj => simp at hj; subst hj; rw [Addr.add_lit]; simpa using hb



end Go.Proofs
end

section
/- Words for memory: append of one number to a list of the call's own. -/
namespace Go.Proofs
open Go.RowKit

theorem cell_new1 (w : World) (v : Value) (t : TypeId) : (w.alloc (.cells #[v] t)).cell? ⟨w.heap.size, 0, none⟩ = some v := by simp

/-- append(v, y) to a list of the call's own. -/
theorem wpList_push {w : World} {ops : Array Oper} {rest : List Oper} {o : Oper} {a : Act} {Q : Exit → Act → World → Prop}
    (hgd : o.guard = none) (s x : Operand) (ho : o.op = .call { callee := .builtin .append, args := #[s, x], argTypes := #[51, 51] })
    {base : Nat} {v : Value} {l : List Int} (hown : w.ownsRow base 3 1 v l.length (l.map (Value.int .i64))) (hbase : base ≤ w.heap.size) (hs : a.eval s = v)
    {y : Int} {c : Nat} {b : Nat} (hx : a.eval x = .slice (some ⟨b, 0, none⟩) 1 c) (hb : w.cell? ⟨b, 0, none⟩ = some (.int .i64 y)) (hl : l.length ≤ 1000000)
    (hn : ∀ v' w', w'.ownsRow base 3 1 v' (l ++ [y]).length ((l ++ [y]).map (Value.int .i64)) → w.grownBy w' v.ownBlock → wpList Try.prog ops Q rest (a.put o.dst v') w') : wpList Try.prog ops Q (o :: rest) a w := by
  refine wpList_app_at ty24 hgd s x ho hbase hs hown hx (news := [.int .i64 y]) rfl (by intro h; cases h) (fun ad e j u h => ?_) (one_int y) (by omega) (by decide) fun v' w' h1 h2 => hn v' w' (by simpa using h1) h2
  cases e
  match j, h with
  | 0, h => simp at h; subst h; rw [Addr.add_lit]; simpa using hb

end Go.Proofs
end

section
/- Walks: lists of lists cloned, and compared. -/
namespace Go.Proofs
open Go.RowKit

set_option maxHeartbeats 1000000 in
theorem cloneAll_any (w : World) (A : Option Addr) (ls : List (List Int)) (c : Nat) (hA : Lists w A ls) (hl : ls.length ≤ 1000) :
    Calls Try.prog 18 #[.slice A ls.length c] w fun e w' => ∃ v, e = .returned v ∧ OwnLists w' w.heap.size v ls ∧ Aft w w' := by
  go_enter Try.func18, Try.ntmps18
  go_wp2_with fail
  go_loopw [3, 8] (fun v i wr => ∃ k : Nat, i = .int .i64 k ∧ k ≤ ls.length ∧ Aft w wr ∧ ∃ vs, OwnLs wr w.heap.size v vs (ls.take k)) (fun _ i _ => ls.length - (intOf i).toNat)
  case atStart => exact ⟨0, rfl, by omega, Aft.refl _, [], OwnLs.nil⟩
  case round =>
    obtain ⟨k, rfl, hk, hw, vs, hown⟩ := hrel
    have HO := Lib.hid hown
    clear hown
    by_cases hkl : k < ls.length
    · obtain ⟨b, o, rfl, hb, hc⟩ := (hA.aft hw).at hkl
      obtain ⟨Ai, ci, h1, h2⟩ := hc k hkl
      have hlr := h2.len
      have HCL := Lib.hid (kitClone_int Ai ls[k] ci wr h2)
      have HT := Lib.hid (show ls.take (k + 1) = ls.take k ++ [ls[k]] from List.take_succ_eq_append_getElem hkl)
      have hll : (ls.take k).length ≤ 1000000 := by rw [List.length_take]; omega
      have hws : w.heap.size ≤ wr.heap.size := hw.size
      clear hc h2
      generalize ls[k] = r at *
      go_wp2_with (first
        | (go_at_call 55; refine HCL.out.mono ?_; rintro e w1 ⟨v1, rfl, hrow, u, rfl⟩; obtain ⟨A1, c1, rfl, _, _⟩ := own_ints hrow hlr; have HROW := Lib.hid hrow; clear hrow)
        | (at_builtin; refine wpList_app_list rfl _ _ rfl (W := wr) HO.out hws rfl rfl (cell_new1 _ _ _) rfl ((Aft.lat _ _).then_alloc _) (own_aft HROW.out (Aft.alloc _ _)) hll ?_; intro v' vs' w5 hown5 hg5))
      have hlt : ∀ g, u3.ownBlock = some g → w.heap.size ≤ g := fun g hg => (HO.out.own.lt g hg).1
      refine ⟨⟨k + 1, by go_num, by omega, (((hw.then_lat u).then_alloc _).grown hg5 hlt), vs', ?_⟩, by simp [intOf]; omega⟩
      rw [HT.out]
      exact hown5
    · obtain rfl : k = ls.length := by omega
      have ho := HO.out
      rw [List.take_of_length_le (Nat.le_refl _)] at ho
      go_wp2_with fail
      go_ret
      exact ⟨_, rfl, ⟨vs, ho⟩, hw⟩

end Go.Proofs
end
