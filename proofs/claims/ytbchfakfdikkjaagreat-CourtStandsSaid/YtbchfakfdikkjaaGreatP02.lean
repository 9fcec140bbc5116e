/- Own texts, merged: WkA WkB Tail Lst Lim2 Own2 Own3 Xg CtA Xh Sc. -/
import Derived.Test.YtbchfakfdikkjaaGreatP01
import Derived.Test.YtbchfakfdikkjaaGreatProg
import Derived.StillTailTactics
import Derived.Deep.RegionHeld3
import Derived.Deep.RegionLaw
import Derived.Laws.EntriesVeiled
import Derived.Deep.CutBlock
import Derived.Deep.LoopGhost
import Derived.Deep.Cut
import Derived.LoopIn
import Derived.BigGuard
import Derived.Maps.AppendAt
import Derived.Deep.Onto
set_option linter.unusedSimpArgs false
set_option linter.unusedVariables false
set_option linter.unnecessarySimpa false
section
namespace Go.Proofs
open Go.RowKit

def fromB (n a b : Int) : Bool := decide (a ≤ n) && decide (n ≤ b)

def risesB : List Int → Bool
  | a :: b :: r => decide (a < b) && risesB (b :: r)
  | _ => true

theorem risesB_false (l : List Int) (k : Nat) (h : k + 1 < l.length) (hh : l[k+1] ≤ l[k]) : risesB l = false := by
  induction l generalizing k with
  | nil => simp at h
  | cons a r ih =>
    cases r with
    | nil => simp at h
    | cons b r =>
      cases k with
      | zero => simp at hh; simp [risesB]; intro; omega
      | succ k => simp only [risesB]; rw [ih k (by simpa using h) (by simpa using hh)]; simp

theorem risesB_true (l : List Int) (h : ∀ k, (h : k + 1 < l.length) → l[k] < l[k+1]) : risesB l = true := by
  induction l with
  | nil => rfl
  | cons a r ih =>
    cases r with
    | nil => rfl
    | cons b r =>
      simp only [risesB, Bool.and_eq_true, decide_eq_true_eq]
      exact ⟨h 0 (by simp), ih fun k hk => h (k+1) (by simp at hk ⊢; omega)⟩

set_option maxHeartbeats 400000 in
theorem from_any (n a b : Int) (w : World) :
    Calls Tryz.prog 54 #[.int .i64 n, .int .i64 a, .int .i64 b] w fun e w' => e = .returned (.bool (fromB n a b)) ∧ w = w' := by
  go_enter Tryz.func54, Tryz.ntmps54
  go_wp2
  all_goals go_ret
  · exact ⟨ret_bool (by unfold fromB; simp; omega), rfl⟩
  · exact ⟨ret_bool (by unfold fromB; simp; omega), rfl⟩

set_option maxHeartbeats 400000 in
theorem rises_any (A : Option Addr) (l : List Int) (c : Nat) (w : World) (hA : Ints w A l) :
    Calls Tryz.prog 101 #[.slice A l.length c] w fun e w' => e = .returned (.bool (risesB l)) ∧ Aft w w' := by
  have hl := hA.len
  go_enter Tryz.func101, Tryz.ntmps101
  go_wp2
  go_loopw [3] (fun i wr => ∃ k : Nat, 1 ≤ k ∧ i = .int .i64 k ∧ (k ≤ l.length ∨ k = 1) ∧ (∀ j, j + 1 < k → (h : j + 1 < l.length) → l[j] < l[j+1]) ∧ ∃ n, wr = w.drewN n) (fun i _ => l.length - (intOf i).toNat)
  case atStart => exact ⟨1, by omega, rfl, by omega, fun j hj => by omega, 0, rfl⟩
  case round =>
    obtain ⟨k, hk1, rfl, hk, hlt, n, rfl⟩ := hrel
    have HL := Lib.hid hlt
    clear hlt
    by_cases hkl : k < l.length
    · obtain ⟨b, o, rfl, hb, hc⟩ := hA.at hkl
      have h1 : w.cell? ⟨b, o + k, none⟩ = some (.int .i64 l[k]) := hc k hkl
      have h2 : w.cell? ⟨b, o + (k - 1), none⟩ = some (.int .i64 l[k-1]) := hc (k-1) (by omega)
      have e1 : IntKind.i64.wrap ((k : Int) - 1) = ((k - 1 : Nat) : Int) := by rw [IntWalk.i64_in _ (by omega)]; omega
      clear hc
      go_wp2
      go_quiet (fail)
      clear e1
      go_wp2
      · go_ret
        have h3 : l[k] ≤ l[k-1] := by assumption
        exact ⟨ret_bool (by rw [risesB_false l (k-1) (by omega) (by simp only [Nat.sub_add_cancel hk1]; exact h3)]), (Aft.drewN _ _).then_drewN _⟩
      · have h3 : l[k-1] < l[k] := by assumption
        go_roundw
        case rel =>
          refine ⟨k + 1, by omega, by go_num, by omega, fun j hj hjl => ?_, _, rfl⟩
          by_cases hjk : j + 1 < k
          · exact HL.out j hjk hjl
          · obtain rfl : j = k - 1 := by omega
            simp only [Nat.sub_add_cancel hk1]; exact h3
        case measure => simp [intOf]; omega
    · go_wp2
      go_ret
      exact ⟨ret_bool (by rw [risesB_true l fun j hj => HL.out j (by omega) hj]), Aft.drewN _ _⟩

def IdxSign (b : Bool) (e : Ending) : Prop := ∃ n : Int, e = .returned (.int .i64 n) ∧ decide (n < 0) = !b
theorem IdxSign.yes {b : Bool} (hb : b = true) (k : Nat) : IdxSign b (.returned (.int .i64 k)) := ⟨k, rfl, by rw [hb]; simp⟩
theorem IdxSign.no {b : Bool} (hb : b = false) : IdxSign b (.returned (.int .i64 (-1))) := ⟨-1, rfl, by rw [hb]; rfl⟩

def IdxRes {α : Type} (p : α → Bool) (l : List α) (e : Ending) : Prop :=
  (e = .returned (.int .i64 (-1)) ∧ l.any p = false) ∨ ∃ k, ∃ h : k < l.length, e = .returned (.int .i64 (k : Nat)) ∧ p l[k] = true ∧ (l.take k).any p = false
theorem IdxRes.sign {α : Type} {p : α → Bool} {l : List α} {e : Ending} (h : IdxRes p l e) : IdxSign (l.any p) e := by
  rcases h with ⟨rfl, h⟩ | ⟨k, h, rfl, h1, _⟩
  · exact IdxSign.no h
  · exact IdxSign.yes (any_of_get _ _ _ h h1) _

theorem index_any (A : Option Addr) (l : List Int) (c : Nat) (x : Int) (w : World) (hA : Ints w A l) :
    Calls Tryz.prog 90 #[.slice A l.length c, .int .i64 x] w fun e w' => IdxSign (hasB l x) e ∧ w = w' := by
  have hl := hA.len
  go_enter Tryz.func90, Tryz.ntmps90
  go_wp2
  go_loop [8] (fun i => ∃ k : Nat, i = .int .i64 k ∧ k ≤ l.length ∧ hasB (l.take k) x = false) (fun i => l.length - (intOf i).toNat)
  case atStart => exact ⟨0, rfl, by omega, rfl⟩
  case round =>
    obtain ⟨k, rfl, hk, hany⟩ := hrel
    have HA := Lib.hid hany; clear hany
    by_cases hlt : k < l.length
    · obtain ⟨b, o, rfl, hbw, hc⟩ := hA.at hlt
      have hck := hc k hlt
      clear hc
      go_wp2
      · have hx : x = l[k] := by simp_all
        go_ret
        exact ⟨IdxSign.yes (hasB_iff.2 (hx ▸ List.getElem_mem hlt)) _, rfl⟩
      · have hx : ¬ x = l[k] := by simp_all
        go_round
        case rel => exact ⟨k + 1, by go_num, by omega, by rw [List.take_succ_eq_append_getElem hlt, hasB_false]; have := hasB_false.1 HA.out; simp only [List.mem_append, List.mem_singleton]; rintro (h | h); exact this h; exact hx h⟩
        case measure => simp [intOf]; omega
    · go_wp2
      go_ret
      exact ⟨IdxSign.no (by have := HA.out; rwa [List.take_of_length_le (by omega)] at this), rfl⟩

theorem contains_any (A : Option Addr) (l : List Int) (c : Nat) (x : Int) (w : World) (hA : Ints w A l) :
    Calls Tryz.prog 38 #[.slice A l.length c, .int .i64 x] w fun e w' => e = .returned (.bool (hasB l x)) ∧ w = w' := by
  go_enter Tryz.func38, Tryz.ntmps38
  go_wp2_with (go_at_call 90; refine (index_any _ _ _ _ _ hA).mono ?_; rintro e w' ⟨⟨n, rfl, hn⟩, rfl⟩; have HN := Lib.hid hn; clear hn)
  go_ret
  exact ⟨ret_bool (by have := HN.out; cases h : hasB l x <;> simp_all), rfl⟩

def AsksB (K : FuncId) (v : Value) (w : World) (arg : Value) (b : Bool) : Prop :=
  ∀ u : Later w, Calls Tryz.prog K #[v, arg] (w.lat u) fun e w' => e = .returned (.bool b) ∧ Aft (w.lat u) w'

set_option maxHeartbeats 800000 in
theorem indexFunc_int {α : Type} (R : World → α → List Value → Prop) (K : FuncId) (cap : List Value) (p : α → Bool) (A : Option Addr) (l : List α) (c : Nat) (w : World) (hA : RowsP w A 1 R l)
    (hK : ∀ args w, (callFunc K args).run Tryz.prog w = .ok (.enter K args) w)
    (hp : ∀ x ∈ l, ∀ v0, R w x [v0] → Asks Tryz.prog K cap w v0 (p x)) :
    Calls Tryz.prog 95 #[.slice A l.length c, .func (.func K) #[] cap.toArray] w fun e w' => IdxRes p l e ∧ Aft w w' := by
  have hl := hA.len (by decide)
  have HP := Lib.hid hp
  clear hp
  go_enter Tryz.func95, Tryz.ntmps95
  go_wp2
  go_loopw [8] (fun i wr => ∃ k : Nat, i = .int .i64 k ∧ k ≤ l.length ∧ (l.take k).any p = false ∧ Aft w wr) (fun i _ => l.length - (intOf i).toNat)
  case atStart => exact ⟨0, rfl, by omega, by simp, Aft.refl _⟩
  case round =>
    obtain ⟨k, rfl, hk, hany, u, rfl⟩ := hrel
    have HA := Lib.hid hany; clear hany
    by_cases hlt : k < l.length
    · obtain ⟨b, o, rfl, hbw, hc⟩ := hA.at hlt
      obtain ⟨vs, hv1, hv2, hv3⟩ := hc k hlt
      obtain ⟨v0, rfl⟩ : ∃ v0, vs = [v0] := by match vs, hv1 with | [v0], _ => exact ⟨v0, rfl⟩
      have hc0 := hv3 0 (by simp)
      simp only [Nat.mul_one, Nat.add_zero, List.getElem_cons_zero] at hc0
      have hpk := HP.out l[k] (List.getElem_mem hlt) v0 hv2 u
      clear hc hv3 hv2
      cases hb : p l[k]
      · have HB := Lib.hid hb; clear hb
        rw [HB.out] at hpk
        go_wp2_with (refine hpk.mono ?_; rintro e w' ⟨rfl, u1, rfl⟩; clear hpk)
        go_roundw
        case rel => exact ⟨k + 1, by go_num, by omega, by rw [any_take_succ _ _ _ hlt, HA.out, HB.out]; rfl, _, rfl⟩
        case measure => simp [intOf]; omega
      · have HB := Lib.hid hb; clear hb
        rw [HB.out] at hpk
        go_wp2_with (refine hpk.mono ?_; rintro e w' ⟨rfl, u1, rfl⟩; clear hpk)
        go_ret
        exact ⟨.inr ⟨k, hlt, rfl, HB.out, HA.out⟩, _, rfl⟩
    · go_wp2
      go_ret
      exact ⟨.inl ⟨rfl, by have := HA.out; rwa [List.take_of_length_le (by omega)] at this⟩, _, rfl⟩

set_option maxHeartbeats 800000 in
theorem indexFunc_bound {α : Type} (R : World → α → List Value → Prop) (K : FuncId) (v : Value) (p : α → Bool) (A : Option Addr) (l : List α) (c : Nat) (w : World) (hA : RowsP w A 1 R l)
    (hK : ∀ args w, (callFunc K args).run Tryz.prog w = .ok (.enter K args) w)
    (hp : ∀ x ∈ l, ∀ v0, R w x [v0] → AsksB K v w v0 (p x)) :
    Calls Tryz.prog 95 #[.slice A l.length c, .func (.func K) #[v] #[]] w fun e w' => IdxRes p l e ∧ Aft w w' := by
  have hl := hA.len (by decide)
  have HP := Lib.hid hp
  clear hp
  go_enter Tryz.func95, Tryz.ntmps95
  go_wp2
  go_loopw [8] (fun i wr => ∃ k : Nat, i = .int .i64 k ∧ k ≤ l.length ∧ (l.take k).any p = false ∧ Aft w wr) (fun i _ => l.length - (intOf i).toNat)
  case atStart => exact ⟨0, rfl, by omega, by simp, Aft.refl _⟩
  case round =>
    obtain ⟨k, rfl, hk, hany, u, rfl⟩ := hrel
    have HA := Lib.hid hany; clear hany
    by_cases hlt : k < l.length
    · obtain ⟨b, o, rfl, hbw, hc⟩ := hA.at hlt
      obtain ⟨vs, hv1, hv2, hv3⟩ := hc k hlt
      obtain ⟨v0, rfl⟩ : ∃ v0, vs = [v0] := by match vs, hv1 with | [v0], _ => exact ⟨v0, rfl⟩
      have hc0 := hv3 0 (by simp)
      simp only [Nat.mul_one, Nat.add_zero, List.getElem_cons_zero] at hc0
      have hpk := HP.out l[k] (List.getElem_mem hlt) v0 hv2 u
      clear hc hv3 hv2
      cases hb : p l[k]
      · have HB := Lib.hid hb; clear hb
        rw [HB.out] at hpk
        go_wp2_with (refine hpk.mono ?_; rintro e w' ⟨rfl, u1, rfl⟩; clear hpk)
        go_roundw
        case rel => exact ⟨k + 1, by go_num, by omega, by rw [any_take_succ _ _ _ hlt, HA.out, HB.out]; rfl, _, rfl⟩
        case measure => simp [intOf]; omega
      · have HB := Lib.hid hb; clear hb
        rw [HB.out] at hpk
        go_wp2_with (refine hpk.mono ?_; rintro e w' ⟨rfl, u1, rfl⟩; clear hpk)
        go_ret
        exact ⟨.inr ⟨k, hlt, rfl, HB.out, HA.out⟩, _, rfl⟩
    · go_wp2
      go_ret
      exact ⟨.inl ⟨rfl, by have := HA.out; rwa [List.take_of_length_le (by omega)] at this⟩, _, rfl⟩

set_option maxHeartbeats 800000 in
theorem indexFunc_strike {α : Type} (R : World → α → List Value → Prop) (K : FuncId) (cap : List Value) (p : α → Bool) (A : Option Addr) (l : List α) (c : Nat) (w : World) (hA : RowsP w A 2 R l)
    (hK : ∀ args w, (callFunc K args).run Tryz.prog w = .ok (.enter K args) w)
    (hp : ∀ x ∈ l, ∀ v0 v1, R w x [v0, v1] → Asks Tryz.prog K cap w (.agg #[v0, v1]) (p x)) :
    Calls Tryz.prog 129 #[.slice A l.length c, .func (.func K) #[] cap.toArray] w fun e w' => IdxRes p l e ∧ Aft w w' := by
  have hl := hA.len (by decide)
  have HP := Lib.hid hp
  clear hp
  go_enter Tryz.func129, Tryz.ntmps129
  go_wp2
  go_loopw [8] (fun i wr => ∃ k : Nat, i = .int .i64 k ∧ k ≤ l.length ∧ (l.take k).any p = false ∧ Aft w wr) (fun i _ => l.length - (intOf i).toNat)
  case atStart => exact ⟨0, rfl, by omega, by simp, Aft.refl _⟩
  case round =>
    obtain ⟨k, rfl, hk, hany, u, rfl⟩ := hrel
    have HA := Lib.hid hany; clear hany
    by_cases hlt : k < l.length
    · obtain ⟨b, o, rfl, hbw, hc⟩ := hA.at hlt
      obtain ⟨vs, hv1, hv2, hv3⟩ := hc k hlt
      obtain ⟨v0, v1, rfl⟩ : ∃ v0 v1, vs = [v0, v1] := by match vs, hv1 with | [v0, v1], _ => exact ⟨v0, v1, rfl⟩
      have hc0 := hv3 0 (by simp); have hc1 := hv3 1 (by simp)
      simp only [Nat.add_zero, List.getElem_cons_zero, List.getElem_cons_succ] at hc0 hc1
      have hpk := HP.out l[k] (List.getElem_mem hlt) v0 v1 hv2 u
      clear hc hv3 hv2
      cases hb : p l[k]
      · have HB := Lib.hid hb; clear hb
        rw [HB.out] at hpk
        go_wp2_with (refine hpk.mono ?_; rintro e w' ⟨rfl, u1, rfl⟩; clear hpk)
        go_roundw
        case rel => exact ⟨k + 1, by go_num, by omega, by rw [any_take_succ _ _ _ hlt, HA.out, HB.out]; rfl, _, rfl⟩
        case measure => simp [intOf]; omega
      · have HB := Lib.hid hb; clear hb
        rw [HB.out] at hpk
        go_wp2_with (refine hpk.mono ?_; rintro e w' ⟨rfl, u1, rfl⟩; clear hpk)
        go_ret
        exact ⟨.inr ⟨k, hlt, rfl, HB.out, HA.out⟩, _, rfl⟩
    · go_wp2
      go_ret
      exact ⟨.inl ⟨rfl, by have := HA.out; rwa [List.take_of_length_le (by omega)] at this⟩, _, rfl⟩

set_option maxHeartbeats 800000 in
theorem indexFunc_lists {α : Type} (R : World → α → List Value → Prop) (K : FuncId) (cap : List Value) (p : α → Bool) (A : Option Addr) (l : List α) (c : Nat) (w : World) (hA : RowsP w A 1 R l)
    (hK : ∀ args w, (callFunc K args).run Tryz.prog w = .ok (.enter K args) w)
    (hp : ∀ x ∈ l, ∀ v0, R w x [v0] → Asks Tryz.prog K cap w v0 (p x)) :
    Calls Tryz.prog 97 #[.slice A l.length c, .func (.func K) #[] cap.toArray] w fun e w' => IdxRes p l e ∧ Aft w w' := by
  have hl := hA.len (by decide)
  have HP := Lib.hid hp
  clear hp
  go_enter Tryz.func97, Tryz.ntmps97
  go_wp2
  go_loopw [8] (fun i wr => ∃ k : Nat, i = .int .i64 k ∧ k ≤ l.length ∧ (l.take k).any p = false ∧ Aft w wr) (fun i _ => l.length - (intOf i).toNat)
  case atStart => exact ⟨0, rfl, by omega, by simp, Aft.refl _⟩
  case round =>
    obtain ⟨k, rfl, hk, hany, u, rfl⟩ := hrel
    have HA := Lib.hid hany; clear hany
    by_cases hlt : k < l.length
    · obtain ⟨b, o, rfl, hbw, hc⟩ := hA.at hlt
      obtain ⟨vs, hv1, hv2, hv3⟩ := hc k hlt
      obtain ⟨v0, rfl⟩ : ∃ v0, vs = [v0] := by match vs, hv1 with | [v0], _ => exact ⟨v0, rfl⟩
      have hc0 := hv3 0 (by simp)
      simp only [Nat.mul_one, Nat.add_zero, List.getElem_cons_zero] at hc0
      have hpk := HP.out l[k] (List.getElem_mem hlt) v0 hv2 u
      clear hc hv3 hv2
      cases hb : p l[k]
      · have HB := Lib.hid hb; clear hb
        rw [HB.out] at hpk
        go_wp2_with (refine hpk.mono ?_; rintro e w' ⟨rfl, u1, rfl⟩; clear hpk)
        go_roundw
        case rel => exact ⟨k + 1, by go_num, by omega, by rw [any_take_succ _ _ _ hlt, HA.out, HB.out]; rfl, _, rfl⟩
        case measure => simp [intOf]; omega
      · have HB := Lib.hid hb; clear hb
        rw [HB.out] at hpk
        go_wp2_with (refine hpk.mono ?_; rintro e w' ⟨rfl, u1, rfl⟩; clear hpk)
        go_ret
        exact ⟨.inr ⟨k, hlt, rfl, HB.out, HA.out⟩, _, rfl⟩
    · go_wp2
      go_ret
      exact ⟨.inl ⟨rfl, by have := HA.out; rwa [List.take_of_length_le (by omega)] at this⟩, _, rfl⟩

set_option maxHeartbeats 400000 in
theorem contains_int {α : Type} (R : World → α → List Value → Prop) (K : FuncId) (cap : List Value) (p : α → Bool) (A : Option Addr) (l : List α) (c : Nat) (w : World) (hA : RowsP w A 1 R l)
    (hK : ∀ args w, (callFunc K args).run Tryz.prog w = .ok (.enter K args) w)
    (hp : ∀ x ∈ l, ∀ v0, R w x [v0] → Asks Tryz.prog K cap w v0 (p x)) :
    Calls Tryz.prog 111 #[.slice A l.length c, .func (.func K) #[] cap.toArray] w fun e w' => e = .returned (.bool (l.any p)) ∧ Aft w w' := by
  go_enter Tryz.func111, Tryz.ntmps111
  go_wp2_with (go_at_call 95; refine (indexFunc_int R K cap p A l c w hA hK hp).mono ?_; rintro e w' ⟨hr, u, rfl⟩; obtain ⟨n, rfl, hn⟩ := hr.sign; clear hr; have HN := Lib.hid hn; clear hn)
  go_ret
  exact ⟨ret_bool (by have := HN.out; cases h : l.any p <;> simp_all), u, rfl⟩

set_option maxHeartbeats 400000 in
theorem none_int {α : Type} (R : World → α → List Value → Prop) (K : FuncId) (cap : List Value) (p : α → Bool) (A : Option Addr) (l : List α) (c : Nat) (w : World) (hA : RowsP w A 1 R l)
    (hK : ∀ args w, (callFunc K args).run Tryz.prog w = .ok (.enter K args) w)
    (hp : ∀ x ∈ l, ∀ v0, R w x [v0] → Asks Tryz.prog K cap w v0 (p x)) :
    Calls Tryz.prog 85 #[.slice A l.length c, .func (.func K) #[] cap.toArray] w fun e w' => e = .returned (.bool (!l.any p)) ∧ Aft w w' := by
  go_enter Tryz.func85, Tryz.ntmps85
  go_wp2_with (go_at_call 111; refine (contains_int R K cap p A l c w hA hK hp).mono ?_; rintro e w' ⟨rfl, u, rfl⟩)
  go_ret
  exact ⟨rfl, u, rfl⟩

set_option maxHeartbeats 400000 in
theorem contains_bound {α : Type} (R : World → α → List Value → Prop) (K : FuncId) (v : Value) (p : α → Bool) (A : Option Addr) (l : List α) (c : Nat) (w : World) (hA : RowsP w A 1 R l)
    (hK : ∀ args w, (callFunc K args).run Tryz.prog w = .ok (.enter K args) w)
    (hp : ∀ x ∈ l, ∀ v0, R w x [v0] → AsksB K v w v0 (p x)) :
    Calls Tryz.prog 111 #[.slice A l.length c, .func (.func K) #[v] #[]] w fun e w' => e = .returned (.bool (l.any p)) ∧ Aft w w' := by
  go_enter Tryz.func111, Tryz.ntmps111
  go_wp2_with (go_at_call 95; refine (indexFunc_bound R K v p A l c w hA hK hp).mono ?_; rintro e w' ⟨hr, u, rfl⟩; obtain ⟨n, rfl, hn⟩ := hr.sign; clear hr; have HN := Lib.hid hn; clear hn)
  go_ret
  exact ⟨ret_bool (by have := HN.out; cases h : l.any p <;> simp_all), u, rfl⟩

set_option maxHeartbeats 400000 in
theorem none_bound {α : Type} (R : World → α → List Value → Prop) (K : FuncId) (v : Value) (p : α → Bool) (A : Option Addr) (l : List α) (c : Nat) (w : World) (hA : RowsP w A 1 R l)
    (hK : ∀ args w, (callFunc K args).run Tryz.prog w = .ok (.enter K args) w)
    (hp : ∀ x ∈ l, ∀ v0, R w x [v0] → AsksB K v w v0 (p x)) :
    Calls Tryz.prog 85 #[.slice A l.length c, .func (.func K) #[v] #[]] w fun e w' => e = .returned (.bool (!l.any p)) ∧ Aft w w' := by
  go_enter Tryz.func85, Tryz.ntmps85
  go_wp2_with (go_at_call 111; refine (contains_bound R K v p A l c w hA hK hp).mono ?_; rintro e w' ⟨rfl, u, rfl⟩)
  go_ret
  exact ⟨rfl, u, rfl⟩

set_option maxHeartbeats 400000 in
theorem contains_strike {α : Type} (R : World → α → List Value → Prop) (K : FuncId) (cap : List Value) (p : α → Bool) (A : Option Addr) (l : List α) (c : Nat) (w : World) (hA : RowsP w A 2 R l)
    (hK : ∀ args w, (callFunc K args).run Tryz.prog w = .ok (.enter K args) w)
    (hp : ∀ x ∈ l, ∀ v0 v1, R w x [v0, v1] → Asks Tryz.prog K cap w (.agg #[v0, v1]) (p x)) :
    Calls Tryz.prog 110 #[.slice A l.length c, .func (.func K) #[] cap.toArray] w fun e w' => e = .returned (.bool (l.any p)) ∧ Aft w w' := by
  go_enter Tryz.func110, Tryz.ntmps110
  go_wp2_with (go_at_call 129; refine (indexFunc_strike R K cap p A l c w hA hK hp).mono ?_; rintro e w' ⟨hr, u, rfl⟩; obtain ⟨n, rfl, hn⟩ := hr.sign; clear hr; have HN := Lib.hid hn; clear hn)
  go_ret
  exact ⟨ret_bool (by have := HN.out; cases h : l.any p <;> simp_all), u, rfl⟩

set_option maxHeartbeats 400000 in
theorem none_strike {α : Type} (R : World → α → List Value → Prop) (K : FuncId) (cap : List Value) (p : α → Bool) (A : Option Addr) (l : List α) (c : Nat) (w : World) (hA : RowsP w A 2 R l)
    (hK : ∀ args w, (callFunc K args).run Tryz.prog w = .ok (.enter K args) w)
    (hp : ∀ x ∈ l, ∀ v0 v1, R w x [v0, v1] → Asks Tryz.prog K cap w (.agg #[v0, v1]) (p x)) :
    Calls Tryz.prog 83 #[.slice A l.length c, .func (.func K) #[] cap.toArray] w fun e w' => e = .returned (.bool (!l.any p)) ∧ Aft w w' := by
  go_enter Tryz.func83, Tryz.ntmps83
  go_wp2_with (go_at_call 110; refine (contains_strike R K cap p A l c w hA hK hp).mono ?_; rintro e w' ⟨rfl, u, rfl⟩)
  go_ret
  exact ⟨rfl, u, rfl⟩

set_option maxHeartbeats 400000 in
theorem contains_lists {α : Type} (R : World → α → List Value → Prop) (K : FuncId) (cap : List Value) (p : α → Bool) (A : Option Addr) (l : List α) (c : Nat) (w : World) (hA : RowsP w A 1 R l)
    (hK : ∀ args w, (callFunc K args).run Tryz.prog w = .ok (.enter K args) w)
    (hp : ∀ x ∈ l, ∀ v0, R w x [v0] → Asks Tryz.prog K cap w v0 (p x)) :
    Calls Tryz.prog 50 #[.slice A l.length c, .func (.func K) #[] cap.toArray] w fun e w' => e = .returned (.bool (l.any p)) ∧ Aft w w' := by
  go_enter Tryz.func50, Tryz.ntmps50
  go_wp2_with (go_at_call 97; refine (indexFunc_lists R K cap p A l c w hA hK hp).mono ?_; rintro e w' ⟨hr, u, rfl⟩; obtain ⟨n, rfl, hn⟩ := hr.sign; clear hr; have HN := Lib.hid hn; clear hn)
  go_ret
  exact ⟨ret_bool (by have := HN.out; cases h : l.any p <;> simp_all), u, rfl⟩

set_option maxHeartbeats 400000 in
theorem none_lists {α : Type} (R : World → α → List Value → Prop) (K : FuncId) (cap : List Value) (p : α → Bool) (A : Option Addr) (l : List α) (c : Nat) (w : World) (hA : RowsP w A 1 R l)
    (hK : ∀ args w, (callFunc K args).run Tryz.prog w = .ok (.enter K args) w)
    (hp : ∀ x ∈ l, ∀ v0, R w x [v0] → Asks Tryz.prog K cap w v0 (p x)) :
    Calls Tryz.prog 78 #[.slice A l.length c, .func (.func K) #[] cap.toArray] w fun e w' => e = .returned (.bool (!l.any p)) ∧ Aft w w' := by
  go_enter Tryz.func78, Tryz.ntmps78
  go_wp2_with (go_at_call 50; refine (contains_lists R K cap p A l c w hA hK hp).mono ?_; rintro e w' ⟨rfl, u, rfl⟩)
  go_ret
  exact ⟨rfl, u, rfl⟩

end Go.Proofs
end

section
namespace Go.Proofs
open Go.RowKit

theorem ty24 : SliceTy Tryz.prog 33 3 1 8 := .mk' (z := .int .i64 0) Tryz.underlying33 (by kernel_rfl) rfl (by decide)

def OwnInts (w0 : World) (l : List Int) (e : Ending) (w' : World) : Prop := ∃ v, e = .returned v ∧ w'.ownsRow w0.heap.size 3 1 v l.length (l.map (Value.int .i64)) ∧ Aft w0 w'


theorem ints_src {w : World} {A : Option Addr} {l : List Int} (h : Ints w A l) : ∀ ad, A = some ad → ∀ j u, (l.map (Value.int .i64))[j]? = some u → w.cell? (ad.add j) = some u := by
  intro ad e j u hj
  have hlt : j < l.length := by have := (List.getElem?_eq_some_iff.1 hj).1; simpa using this
  obtain ⟨b, o, e2, _, hc⟩ := h.at hlt
  rw [e] at e2; cases e2
  rw [Addr.add_lit, hc j hlt]
  simp [hlt] at hj; simp [hj]
theorem ints_nil {w : World} {A : Option Addr} {l : List Int} (h : Ints w A l) (e : A = none) : l.length = 0 := by
  rcases Nat.eq_zero_or_pos l.length with h0 | h0
  · exact h0
  · obtain ⟨b, o, e2, _⟩ := h.at h0
    rw [e] at e2; cases e2
theorem ints_one (l : List Int) : ∀ u ∈ l.map (Value.int .i64), u.oneCell' = true := by
  intro u hu; obtain ⟨x, _, rfl⟩ := List.mem_map.1 hu; rfl

theorem kitClone_int (A : Option Addr) (l : List Int) (c : Nat) (w : World) (hA : Ints w A l) :
    Calls Tryz.prog 24 #[.slice A l.length c] w (OwnInts w l) := by
  have hl := hA.len
  go_enter Tryz.func24, Tryz.ntmps24
  go_wp2_with (at_builtin; refine wpList_app ty24 rfl _ _ rfl (Aft.refl w) rfl (World.ownsRow_nil w _ 3 1) rfl (by simp) (ints_nil hA) (ints_src hA) (ints_one l) (by omega) (by decide) ?_; intro v' w1 hown' hgrow haft)
  go_ret
  exact ⟨_, rfl, by simpa using hown', haft⟩

theorem clone84 (A : Option Addr) (l : List Int) (c : Nat) (w : World) (hA : Ints w A l) :
    Calls Tryz.prog 63 #[.slice A l.length c] w (OwnInts w l) := by
  have hl := hA.len
  have qT : ∀ (w : World) (a : Option Addr) (n c n' c' : Nat), (binOp .eql 33 (.slice a n c) (.slice none n' c')).run Tryz.prog w = .ok (.bool a.isNone) w := fun w a n c n' c' => Lib.run_eql_slice_nil w _ _ a n c n' c' Tryz.underlying33
  cases A with
  | none =>
    have h0 := ints_nil hA rfl
    have : l = [] := List.eq_nil_of_length_eq_zero h0
    subst this
    go_enter Tryz.func63, Tryz.ntmps63
    go_wp2
    go_ret
    exact ⟨_, rfl, World.ownsRow_nil w _ 3 1, Aft.refl _⟩
  | some ad =>
    have hN := Lib.hid (ints_src hA)
    go_enter Tryz.func63, Tryz.ntmps63
    go_wp2_with (at_builtin; refine wpList_app ty24 rfl _ _ rfl (Aft.alloc w _) rfl (World.ownsRow_made w #[] 0 (Nat.le_refl _) (by unfold maxLen; omega) rfl) rfl (by simp) (fun h => by cases h) (ints_src (hA.aft (Aft.alloc w _))) (ints_one l) (by omega) (by decide) ?_; intro v' w1 hown' hgrow haft)
    go_ret
    exact ⟨_, rfl, by simpa using hown', haft⟩

def eqB {α : Type} [DecidableEq α] (a b : List α) : Bool := decide (a = b)

theorem eq_of_steps {α : Type} [DecidableEq α] (a b : List α) (h : ∀ i, (ha : i < a.length) → (hb : i < b.length) → a[i] = b[i]) (hl : a.length = b.length) : a = b :=
  List.ext_getElem hl h

set_option maxHeartbeats 1000000 in
theorem kitEqual_int (A A' : Option Addr) (l l' : List Int) (c c' : Nat) (w : World) (hA : Ints w A l) (hA' : Ints w A' l') :
    Calls Tryz.prog 17 #[.slice A l.length c, .slice A' l'.length c'] w fun e w' => e = .returned (.bool (eqB l l')) ∧ Aft w w' := by
  have hl := hA.len
  have hl' := hA'.len
  go_enter Tryz.func17, Tryz.ntmps17
  go_wp2
  go_loopw [8] (fun i wr => ∃ k : Nat, i = .int .i64 k ∧ k ≤ l.length ∧ (k ≤ l'.length) ∧ (∀ j, (h : j < l.length) → (h' : j < l'.length) → j < k → l[j] = l'[j]) ∧ ∃ n, wr = w.drewN n) (fun i _ => l.length - (intOf i).toNat)
  case atStart => exact ⟨0, rfl, by omega, by omega, fun j _ _ h => by omega, 0, rfl⟩
  case round =>
    obtain ⟨k, rfl, hk, hk', hlt, n, rfl⟩ := hrel
    have HL := Lib.hid hlt
    clear hlt
    by_cases hkl : k < l.length
    · obtain ⟨b, o, rfl, hb, hc⟩ := hA.at hkl
      have h1 : w.cell? ⟨b, o + k, none⟩ = some (.int .i64 l[k]) := hc k hkl
      clear hc
      by_cases hkl' : k < l'.length
      · obtain ⟨b', o', rfl, hb', hc'⟩ := hA'.at hkl'
        have h1' : w.cell? ⟨b', o' + k, none⟩ = some (.int .i64 l'[k]) := hc' k hkl'
        clear hc'
        have d1 : decide ((l'.length : Int) ≤ k) = false := by simp; omega
        go_wp2
        go_quiet (fail)
        clear d1
        go_wp2
        · have h3 : ¬ l[k] = l'[k] := by rcases (by assumption : l'.length ≤ k ∨ (l[k] != l'[k]) = true) with h | h; omega; simpa using h
          go_ret
          exact ⟨ret_bool (by unfold eqB; rw [eq_comm, decide_eq_false_iff_not]; rintro rfl; exact h3 rfl), (Aft.drewN _ _).then_drewN _⟩
        · have h3 : l[k] = l'[k] := by simp_all
          have H3 := Lib.hid h3
          clear h3
          go_roundw
          case rel =>
            refine ⟨k + 1, by go_num, by omega, by omega, fun j hj hj' hjk => ?_, _, rfl⟩
            by_cases e : j = k
            · subst e; exact H3.out
            · exact HL.out j hj hj' (by omega)
          case measure => simp [intOf]; omega
      · have d1 : decide ((l'.length : Int) ≤ k) = true := by simp; omega
        go_wp2
        go_quiet (fail)
        clear d1
        go_wp2
        go_ret
        exact ⟨ret_bool (by unfold eqB; rw [eq_comm, decide_eq_false_iff_not]; rintro rfl; omega), Aft.drewN _ _⟩
    · go_wp2
      go_ret
      refine ⟨ret_bool ?_, Aft.drewN _ _⟩
      unfold eqB
      by_cases e : l.length = l'.length
      · rw [beq_iff_eq.2 (by omega), decide_eq_true]; exact eq_of_steps l l' (fun i ha hb => HL.out i ha hb (by omega)) e
      · rw [beq_eq_false_iff_ne.2 (by omega), decide_eq_false]; intro h; exact e (by rw [h])
end Go.Proofs
end

section
namespace Go

theorem Oper.still_of_quiet {P : Program} {o : Oper} {a : Act} {w : World} {K : Act → Prop} (h : o.quiet P a (fun w' => w' = w) K) : o.still P a w K := by
  obtain ⟨v, h1, h2⟩ := h
  have h3 := h1 w rfl
  unfold Oper.quietAt at h3
  unfold Oper.still
  generalize (execOp a.eval o).run P w = r at *
  cases r with
  | ok n w' =>
    cases n <;> simp only [Oper.quietUpon] at h3 <;> simp only [Oper.stillUpon]
    case value u => obtain ⟨e1, e2⟩ := h3; exact ⟨e1, by rw [e2]; exact h2⟩
    case skip => obtain ⟨e1, e2⟩ := h3; exact ⟨e1, by rw [← e2]; exact h2⟩
    case enter f args => obtain ⟨e1, hc⟩ := h3; exact ⟨e1, v, hc, h2⟩
  | halt x w' => simp only [Oper.quietUpon] at h3

theorem wpStill_of_quiet {P : Program} {ops : Array Oper} {w : World} {Q : Act → Prop} : ∀ (l : List Oper) (a : Act), wpQuiet P ops (fun w' => w' = w) Q l a → wpStill P ops w Q l a
  | [], _, h => h
  | o :: rest, a, h => by
    unfold wpQuiet at h
    unfold wpStill
    split
    · rename_i hw
      rw [if_pos hw] at h
      exact Oper.still_mono (fun a' h' => wpStill_of_quiet rest a' h') (Oper.still_of_quiet h)
    · rename_i hw
      rw [if_neg hw] at h
      exact wpStill_of_quiet rest _ h

theorem wp_region_tail {P : Program} {id : Nat} {Q : Exit → Act → World → Prop} {a : Act} {w : World} {l : List Oper} (n : Nat) (hm : P.follows .mixedOrders = true) (hB : Region.lexTailB .any l.toArray n = true)
    (h : wpQuiet P l.toArray (fun w' => w' = w.drew) (fun a' => wpList P l.toArray Q (l.drop n) a' w.drew) (l.take n) a) : (Code.region id l.toArray true).wp P Q a w :=
  wp_region_still_tail n hm hB (wpStill_of_quiet _ _ h)

end Go
end

section
namespace Go.Proofs
open Go.RowKit

def ListR : World → List Int → List Value → Prop := fun w l vs => ∃ A c, vs = [.slice A l.length c] ∧ Ints w A l
theorem ListR.mono : MonoR ListR := fun _ u _ _ ⟨A, c, h1, h2⟩ => ⟨A, c, h1, h2.lat u⟩
def Lists (w : World) (A : Option Addr) (l : List (List Int)) : Prop := RowsP w A 1 ListR l
theorem Lists.lat {w : World} {A : Option Addr} {l : List (List Int)} (h : Lists w A l) (u : Later w) : Lists (w.lat u) A l := RowsP.lat ListR.mono h u
theorem Lists.aft {w w' : World} {A : Option Addr} {l : List (List Int)} (h : Lists w A l) (hl : Aft w w') : Lists w' A l := RowsP.aft ListR.mono h hl
theorem Lists.len {w : World} {A : Option Addr} {l : List (List Int)} (h : Lists w A l) : l.length ≤ 17592186043904 := RowsP.len h (by decide)
theorem Lists.at {w : World} {A : Option Addr} {l : List (List Int)} (h : Lists w A l) {k : Nat} (hk : k < l.length) :
    ∃ b o, A = some ⟨b, o, none⟩ ∧ b < w.heap.size ∧ ∀ i, (h : i < l.length) → ∃ A' c', w.cell? ⟨b, o + i, none⟩ = some (.slice A' l[i].length c') ∧ Ints w A' l[i] := by
  obtain ⟨b, o, rfl, hb, hc⟩ := RowsP.at h hk
  refine ⟨b, o, rfl, hb, fun i hi => ?_⟩
  obtain ⟨vs, h1, ⟨A', c', rfl, h2⟩, h3⟩ := hc i hi
  exact ⟨A', c', by simpa using h3 0 (by simp), h2⟩

end Go.Proofs
end

section
namespace Go
open Go.RowKit

theorem wpList_app_at {P : Program} {w : World} {ops : Array Oper} {rest : List Oper} {o : Oper} {a : Act} {Q : Exit → Act → World → Prop} {t e : TypeId} {size bytes : Nat} (hT : SliceTy P t e size bytes)
    (hgd : o.guard = none) (s x : Operand) (ho : o.op = .call { callee := .builtin .append, args := #[s, x], argTypes := #[t, t] })
    {base : Nat} (hbase : base ≤ w.heap.size) {v : Value} {n : Nat} {xs : List Value} (hs : a.eval s = v) (hown : w.ownsRow base e size v n xs)
    {A : Option Addr} {m c : Nat} {news : List Value} (hx : a.eval x = .slice A m c) (hl : news.length = m * size) (hA : A = none → m = 0)
    (hnews : ∀ ad, A = some ad → ∀ j u, news[j]? = some u → w.cell? (ad.add j) = some u) (h1 : ∀ u ∈ news, u.oneCell' = true)
    (hbytes : (n + m) * bytes ≤ 140737488355328) (hpos : 0 < bytes)
    (h : ∀ v' w', w'.ownsRow base e size v' (n + m) (xs ++ news) → w.grownBy w' v.ownBlock → wpList P ops Q rest (a.put o.dst v') w') : wpList P ops Q (o :: rest) a w := by
  obtain ⟨ht, ⟨i, z, hi, hz, hsize, hby, hzs⟩, hsz⟩ := hT
  have h63 : n + m ≤ maxLen := by
    have : (n + m) * 1 ≤ (n + m) * bytes := Nat.mul_le_mul_left _ hpos
    unfold maxLen; omega
  cases A with
  | some ad =>
    exact wpList_append_own w hgd s x t ho base e i z size bytes ht hi hz hsize hby hzs hsz v n xs hs hown ad m c news hx hl (hnews ad rfl) h1 h63 hbytes hbase
      fun v' w' h2 h3 _ => h v' w' h2 h3
  | none =>
    have hm := hA rfl
    subst hm
    have hn : news = [] := List.eq_nil_of_length_eq_zero (by simpa using hl)
    subst hn
    refine wpList_plain hgd fun K hK => ?_
    have hr := run_app_none (ty := o.type) ht hi hown c
    unfold Oper.wp execOp
    simp only [ho, resolve, invoke, builtin, Sem.run_bind, Sem.run_pure, Result.andThen_ok, List.map_toArray, List.map_cons, List.map_nil, hs, hx, hr]
    exact hK _ _ (h v w (by simpa using hown) (World.grownBy.refl w _))

theorem src_one (W : World) (v : Value) (t : TypeId) : ∀ ad, some (⟨W.heap.size, 0, none⟩ : Addr) = some ad → ∀ j u, [v][j]? = some u → (W.alloc (.cells #[v] t)).cell? (ad.add j) = some u := by
  intro ad e j u h
  cases e
  exact src_new W #[v] t j u h
theorem src_at (W : World) (v : Value) (t : TypeId) (b : Nat) (hb : b = W.heap.size) : ∀ ad, some (⟨b, 0, none⟩ : Addr) = some ad → ∀ j u, [v][j]? = some u → (W.alloc (.cells #[v] t)).cell? (ad.add j) = some u := by
  subst hb; exact src_one W v t
theorem one_int (x : Int) : ∀ u ∈ [Value.int .i64 x], u.oneCell' = true := by intro u hu; rw [List.mem_singleton] at hu; subst hu; rfl
theorem cell_grown9 {w w' : World} {row : Option Nat} (hg : w.grownBy w' row) {b i : Nat} (hb : b < w.heap.size) (hr : some b ≠ row) : w'.cell? ⟨b, i, none⟩ = w.cell? ⟨b, i, none⟩ := World.cell?_of_block (hg.block b hb hr)
theorem frozen_grown {w w' : World} {row : Option Nat} (hg : w.grownBy w' row) {b i : Nat} (hb : b < w.heap.size) (hr : some b ≠ row) : w'.frozen? ⟨b, i, none⟩ = w.frozen? ⟨b, i, none⟩ := World.frozen?_of_block (hg.block b hb hr)
end Go
end

section
namespace Go.Proofs
open Go.RowKit

theorem ty41 : SliceTy Tryz.prog 23 33 1 24 := .mk' (z := .slice none 0 0) Tryz.underlying23 (by kernel_rfl) rfl (by decide)

structure OwnLs (W : World) (base : Nat) (v : Value) (vs : List Value) (ls : List (List Int)) : Prop where
  own : W.ownsRow base 33 1 v ls.length vs
  rows : ∀ i, (h : i < ls.length) → (h' : i < vs.length) → W.ownsRow base 3 1 vs[i] ls[i].length (ls[i].map (Value.int .i64))
  apart : ∀ i, (h : i < vs.length) → ∀ g, vs[i].ownBlock = some g → v.ownBlock ≠ some g ∧ ∀ j, (h' : j < vs.length) → j ≠ i → vs[j].ownBlock ≠ some g

def OwnLists (W : World) (base : Nat) (v : Value) (ls : List (List Int)) : Prop := ∃ vs, OwnLs W base v vs ls

section
variable {W W' : World} {base : Nat} {v : Value} {vs : List Value} {ls : List (List Int)}
theorem OwnLs.len (h : OwnLs W base v vs ls) : vs.length = ls.length := by simpa using h.own.1
theorem OwnLs.nil : OwnLs W base (.slice none 0 0) [] [] := ⟨World.ownsRow_nil _ _ 33 1, fun i h => by simp at h, fun i h => by simp at h⟩
theorem OwnLists.nil : OwnLists W base (.slice none 0 0) [] := ⟨[], OwnLs.nil⟩
theorem OwnLs.aft (h : OwnLs W base v vs ls) (ha : Aft W W') : OwnLs W' base v vs ls :=
  ⟨own_aft h.own ha, fun i hi hi' => own_aft (h.rows i hi hi') ha, h.apart⟩
theorem OwnLists.aft (h : OwnLists W base v ls) (ha : Aft W W') : OwnLists W' base v ls := let ⟨vs, h⟩ := h; ⟨vs, h.aft ha⟩
theorem OwnLs.mono (h : OwnLs W base v vs ls) {b : Nat} (hb : b ≤ base) : OwnLs W b v vs ls :=
  ⟨World.ownsRow.mono h.own hb, fun i hi hi' => World.ownsRow.mono (h.rows i hi hi') hb, h.apart⟩
theorem OwnLists.mono (h : OwnLists W base v ls) {b : Nat} (hb : b ≤ base) : OwnLists W b v ls := let ⟨vs, h⟩ := h; ⟨vs, h.mono hb⟩

theorem OwnLs.push (h : OwnLs W base v vs ls) {W2 W3 : World} (ha : Aft W W2) {r v' : Value} {l : List Int} (hr : W2.ownsRow W.heap.size 3 1 r l.length (l.map (Value.int .i64))) (hbase : base ≤ W.heap.size)
    (hown : W3.ownsRow base 33 1 v' (ls.length + 1) (vs ++ [r])) (hg : W2.grownBy W3 v.ownBlock) (hat : v'.ownBlock = v.ownBlock ∨ v'.ownBlock = some W2.heap.size) : OwnLs W3 base v' (vs ++ [r]) (ls ++ [l]) := by
  have hlen := h.len
  have old : ∀ i, (hi : i < vs.length) → ∀ g, vs[i].ownBlock = some g → g < W.heap.size := fun i hi g hg => ((h.rows i (by omega) hi).lt g hg).2
  have vold : ∀ g, v.ownBlock = some g → g < W.heap.size := fun g hg => (h.own.lt g hg).2
  have rnew : ∀ g, r.ownBlock = some g → W.heap.size ≤ g ∧ g < W2.heap.size := fun g hg => hr.lt g hg
  have hs := ha.size
  refine ⟨by simpa using hown, fun i hi hi' => ?_, fun i hi g hgi => ?_⟩
  · by_cases e : i < vs.length
    · rw [List.getElem_append_left e]
      have e' : i < ls.length := by omega
      simp only [List.getElem_append_left e']
      refine (own_aft (h.rows i e' e) ha).kept hg ?_
      cases hb : vs[i].ownBlock with
      | none => left; rfl
      | some g => right; intro e2; exact (h.apart i e g hb).1 e2.symm
    · have e2 : i = vs.length := by simp at hi'; omega
      subst e2
      have e3 : vs.length = ls.length := hlen
      rw [List.getElem_append_right (Nat.le_refl _)]
      simp only [Nat.sub_self, List.getElem_cons_zero]
      have : (ls ++ [l])[vs.length]'hi = l := by simp [e3]
      rw [this]
      refine World.ownsRow.mono (hr.kept hg ?_) hbase
      cases hb : r.ownBlock with
      | none => left; rfl
      | some g => right; intro e2; have := vold g e2.symm; have := (rnew g hb).1; omega
  · by_cases e : i < vs.length
    · rw [List.getElem_append_left e] at hgi
      have hlt := old i e g hgi
      refine ⟨fun e2 => ?_, fun j hj hne => ?_⟩
      · rcases hat with h1 | h1
        · rw [h1] at e2; exact (h.apart i e g hgi).1 e2
        · rw [h1] at e2; cases e2; omega
      · by_cases ej : j < vs.length
        · rw [List.getElem_append_left ej]; exact (h.apart i e g hgi).2 j ej hne
        · have e2 : j = vs.length := by simp at hj; omega
          subst e2
          rw [List.getElem_append_right (Nat.le_refl _)]
          simp only [Nat.sub_self, List.getElem_cons_zero]
          intro e2; have := (rnew g e2).1; omega
    · have e2 : i = vs.length := by simp at hi; omega
      subst e2
      rw [List.getElem_append_right (Nat.le_refl _)] at hgi
      simp only [Nat.sub_self, List.getElem_cons_zero] at hgi
      have := rnew g hgi
      refine ⟨fun e2 => ?_, fun j hj hne => ?_⟩
      · rcases hat with h1 | h1
        · rw [h1] at e2; have := vold g e2; omega
        · rw [h1] at e2; cases e2; omega
      · have ej : j < vs.length := by simp at hj; omega
        rw [List.getElem_append_left ej]
        intro e2; have := old j ej g e2; omega

theorem OwnLs.lists (h : OwnLs W base v vs ls) (hl : ls.length ≤ 17592186043904) (hr : ∀ l ∈ ls, l.length ≤ 17592186043904) : ∃ A c, v = .slice A ls.length c ∧ ls.length ≤ c ∧ Lists W A ls := by
  rcases h.own.2 with ⟨rfl, h0⟩ | ⟨g, cap, cur, rfl, hg, hh, hc, hm, hs, ht⟩
  · have : ls = [] := List.eq_nil_of_length_eq_zero h0
    subst this
    exact ⟨none, 0, rfl, Nat.le_refl _, by simp, .inl rfl⟩
  · refine ⟨_, cap, rfl, hc, by omega, .inr ⟨g, 0, rfl, (Array.getElem?_eq_some_iff.1 hh).1, fun i hi => ?_⟩⟩
    have hiv : i < vs.length := by rw [h.len]; exact hi
    obtain ⟨A, c, e, _, hi2⟩ := own_ints (h.rows i hi hiv) (hr _ (List.getElem_mem hi))
    refine ⟨[vs[i]], rfl, ⟨A, c, by rw [e], hi2⟩, fun j hj => ?_⟩
    have := h.own.cells (g := g) rfl i vs[i] (by simp [hiv])
    rw [Addr.add_lit] at this
    simp at hj
    subst hj
    simpa using this
theorem OwnLists.lists (h : OwnLists W base v ls) (hl : ls.length ≤ 17592186043904) (hr : ∀ l ∈ ls, l.length ≤ 17592186043904) : ∃ A c, v = .slice A ls.length c ∧ ls.length ≤ c ∧ Lists W A ls := let ⟨_, h⟩ := h; h.lists hl hr
end

theorem wpList_app_list {w : World} {ops : Array Oper} {rest : List Oper} {o : Oper} {a : Act} {Q : Exit → Act → World → Prop}
    (hgd : o.guard = none) (s x : Operand) (ho : o.op = .call { callee := .builtin .append, args := #[s, x], argTypes := #[23, 23] })
    {base : Nat} {v : Value} {vs : List Value} {ls : List (List Int)} {W : World} (h : OwnLs W base v vs ls) (hbase : base ≤ W.heap.size) (hs : a.eval s = v)
    {r : Value} {l : List Int} {c : Nat} {b : Nat} (hx : a.eval x = .slice (some ⟨b, 0, none⟩) 1 c) (hb : w.cell? ⟨b, 0, none⟩ = some r) (h1 : r.oneCell' = true)
    (ha : Aft W w) (hr : w.ownsRow W.heap.size 3 1 r l.length (l.map (Value.int .i64))) (hl : ls.length ≤ 1000000)
    (hn : ∀ v' vs' w', OwnLs w' base v' vs' (ls ++ [l]) → w.grownBy w' v.ownBlock → wpList Tryz.prog ops Q rest (a.put o.dst v') w') : wpList Tryz.prog ops Q (o :: rest) a w := by
  obtain ⟨ht, ⟨i, z, hi, hz, hsize, hby, hzs⟩, hsz⟩ := ty41
  refine wpList_append_own_at (w := w) hgd s x 23 ho base 33 i z 1 24 ht hi hz hsize hby hzs hsz v ls.length vs hs (own_aft h.own ha) ⟨b, 0, none⟩ 1 c [r] hx rfl (fun j u hj => ?_) (fun u hu => by rw [List.mem_singleton] at hu; subst hu; exact h1)
    (by unfold maxLen; omega) (by omega) (Nat.le_trans hbase ha.size) fun v' w' h2 h3 _ h5 => hn v' _ w' (h.push ha hr hbase h2 h3 h5) h3
  match j, hj with
  | 0, hj => simp at hj; subst hj; rw [Addr.add_lit]; simpa using hb

theorem step_app_list {w : World} {ops : Array Oper} {o : Oper} {a : Act} {K : Act → World → Prop} {Q : Exit → Act → World → Prop} {E : Prop}
    (hgd : o.guard = none) (s x : Operand) (ho : o.op = .call { callee := .builtin .append, args := #[s, x], argTypes := #[23, 23] })
    {base : Nat} {v : Value} {vs : List Value} {ls : List (List Int)} {W : World} (h : OwnLs W base v vs ls) (hbase : base ≤ W.heap.size) (hs : a.eval s = v)
    {r : Value} {l : List Int} {c : Nat} {b : Nat} (hx : a.eval x = .slice (some ⟨b, 0, none⟩) 1 c) (hb : w.cell? ⟨b, 0, none⟩ = some r) (h1 : r.oneCell' = true)
    (ha : Aft W w) (hr : w.ownsRow W.heap.size 3 1 r l.length (l.map (Value.int .i64))) (hl : ls.length ≤ 1000000)
    (hn : ∀ v' vs' w', OwnLs w' base v' vs' (ls ++ [l]) → w.grownBy w' v.ownBlock → K (a.put o.dst v') w') :
    if Region.wanted o (yielded ops a.tmps) = true then Oper.wp Tryz.prog o a w K Q else E := by
  have hw : Region.wanted o (yielded ops a.tmps) = true := by simp [Region.wanted, hgd]
  rw [if_pos hw]
  obtain ⟨ht, ⟨i, z, hi, hz, hsize, hby, hzs⟩, hsz⟩ := ty41
  obtain ⟨v', w', hr', h2, h3, _, h5⟩ := run_append_own_at (P := Tryz.prog) w base 23 o.type 33 i z 1 24 ht hi hz hsize hby hzs hsz v ls.length vs (own_aft h.own ha) ⟨b, 0, none⟩ 1 c [r] rfl (fun j u hj => by
      match j, hj with
      | 0, hj => simp at hj; subst hj; rw [Addr.add_lit]; simpa using hb) (fun u hu => by rw [List.mem_singleton] at hu; subst hu; exact h1) (by unfold maxLen; omega) (by omega) (Nat.le_trans hbase ha.size)
  unfold Oper.wp execOp
  simp only [ho, resolve, invoke, builtin, Sem.run_bind, Sem.run_pure, Result.andThen_ok, List.map_toArray, List.map_cons, List.map_nil, hs, hx, hr', Oper.upon]
  exact hn v' _ w' (h.push ha hr hbase h2 h3 h5) h3

theorem step_app_list2 {w : World} {ops : Array Oper} {o : Oper} {a : Act} {K : Act → World → Prop} {Q : Exit → Act → World → Prop} {E : Prop}
    (hgd : o.guard = none) (s x : Operand) (ho : o.op = .call { callee := .builtin .append, args := #[s, x], argTypes := #[23, 23] })
    {base : Nat} {v : Value} {vs : List Value} {ls : List (List Int)} {W : World} (h : OwnLs W base v vs ls) (hbase : base ≤ W.heap.size) (hs : a.eval s = v)
    {r : Value} {l : List Int} {c : Nat} {b : Nat} (hx : a.eval x = .slice (some ⟨b, 0, none⟩) 1 c) (hb : w.cell? ⟨b, 0, none⟩ = some r) (h1 : r.oneCell' = true)
    (ha : Aft W w) (hr : w.ownsRow W.heap.size 3 1 r l.length (l.map (Value.int .i64))) (hl : ls.length ≤ 1000000)
    (hn : ∀ v' w', OwnLs w' base v' (vs ++ [r]) (ls ++ [l]) → w.grownBy w' v.ownBlock → (v'.ownBlock = v.ownBlock ∨ v'.ownBlock = some w.heap.size) → K (a.put o.dst v') w') :
    if Region.wanted o (yielded ops a.tmps) = true then Oper.wp Tryz.prog o a w K Q else E := by
  have hw : Region.wanted o (yielded ops a.tmps) = true := by simp [Region.wanted, hgd]
  rw [if_pos hw]
  obtain ⟨ht, ⟨i, z, hi, hz, hsize, hby, hzs⟩, hsz⟩ := ty41
  obtain ⟨v', w', hr', h2, h3, _, h5⟩ := run_append_own_at (P := Tryz.prog) w base 23 o.type 33 i z 1 24 ht hi hz hsize hby hzs hsz v ls.length vs (own_aft h.own ha) ⟨b, 0, none⟩ 1 c [r] rfl (fun j u hj => by
      match j, hj with
      | 0, hj => simp at hj; subst hj; rw [Addr.add_lit]; simpa using hb) (fun u hu => by rw [List.mem_singleton] at hu; subst hu; exact h1) (by unfold maxLen; omega) (by omega) (Nat.le_trans hbase ha.size)
  unfold Oper.wp execOp
  simp only [ho, resolve, invoke, builtin, Sem.run_bind, Sem.run_pure, Result.andThen_ok, List.map_toArray, List.map_cons, List.map_nil, hs, hx, hr', Oper.upon]
  exact hn v' w' (h.push ha hr hbase h2 h3 h5) h3 h5

theorem own_cell1 {w : World} {base : Nat} {v : Value} {l : List Int} (h : w.ownsRow base 3 1 v l.length (l.map (Value.int .i64))) : v.oneCell' = true := by
  rcases h.2 with ⟨rfl, _⟩ | ⟨g, cap, cur, rfl, _⟩ <;> rfl
end Go.Proofs
end

section
namespace Go.Proofs
open Go.RowKit

theorem keep_grown {W W' w' : World} {row : Option Nat} {b i : Nat} {x : Value} (ha : Aft W W') (hg : W'.grownBy w' row) (hb : b < W.heap.size) (hne : some b ≠ row) (h : W.cell? ⟨b, i, none⟩ = some x) : w'.cell? ⟨b, i, none⟩ = some x := by
  obtain ⟨u, rfl⟩ := ha
  exact (cell_grown9 hg (Nat.lt_of_lt_of_le hb (W.lat_size u)) hne).trans ((World.lat_cell _ _ _ _ hb).trans h)
theorem keep_grown_z {W W' w' : World} {row : Option Nat} {b i : Nat} {x : Bool} (ha : Aft W W') (hg : W'.grownBy w' row) (hb : b < W.heap.size) (hne : some b ≠ row) (h : W.frozen? ⟨b, i, none⟩ = x) : w'.frozen? ⟨b, i, none⟩ = x := by
  obtain ⟨u, rfl⟩ := ha
  exact (frozen_grown hg (Nat.lt_of_lt_of_le hb (W.lat_size u)) hne).trans ((World.lat_frozen _ _ _ _ hb).trans h)
theorem cell_new1 (w : World) (v : Value) (t : TypeId) : (w.alloc (.cells #[v] t)).cell? ⟨w.heap.size, 0, none⟩ = some v := by simp

theorem wpList_push {w : World} {ops : Array Oper} {rest : List Oper} {o : Oper} {a : Act} {Q : Exit → Act → World → Prop}
    (hgd : o.guard = none) (s x : Operand) (ho : o.op = .call { callee := .builtin .append, args := #[s, x], argTypes := #[33, 33] })
    {base : Nat} {v : Value} {l : List Int} (hown : w.ownsRow base 3 1 v l.length (l.map (Value.int .i64))) (hbase : base ≤ w.heap.size) (hs : a.eval s = v)
    {y : Int} {c : Nat} {b : Nat} (hx : a.eval x = .slice (some ⟨b, 0, none⟩) 1 c) (hb : w.cell? ⟨b, 0, none⟩ = some (.int .i64 y)) (hl : l.length ≤ 1000000)
    (hn : ∀ v' w', w'.ownsRow base 3 1 v' (l ++ [y]).length ((l ++ [y]).map (Value.int .i64)) → w.grownBy w' v.ownBlock → wpList Tryz.prog ops Q rest (a.put o.dst v') w') : wpList Tryz.prog ops Q (o :: rest) a w := by
  refine wpList_app_at ty24 hgd s x ho hbase hs hown hx (news := [.int .i64 y]) rfl (by intro h; cases h) (fun ad e j u h => ?_) (one_int y) (by omega) (by decide) fun v' w' h1 h2 => hn v' w' (by simpa using h1) h2
  cases e
  match j, h with
  | 0, h => simp at h; subst h; rw [Addr.add_lit]; simpa using hb

end Go.Proofs
end

section
namespace Go.Proofs
open Go.RowKit

def Bytes (w : World) (A : Option Addr) (l : List Int) : Prop :=
  l.length ≤ 9223372036854775807 ∧ (l = [] ∨ ∃ b o, A = some ⟨b, o, none⟩ ∧ b < w.heap.size ∧ ∀ i, (h : i < l.length) → w.cell? ⟨b, o + i, none⟩ = some (.int .u8 l[i]) ∧ 0 ≤ l[i] ∧ l[i] ≤ 255)
theorem Bytes.aft {w w' : World} {A : Option Addr} {l : List Int} (h : Bytes w A l) (ha : Aft w w') : Bytes w' A l := by
  obtain ⟨u, rfl⟩ := ha
  refine ⟨h.1, h.2.imp id ?_⟩
  rintro ⟨b, o, e, hb, hc⟩
  exact ⟨b, o, e, Nat.lt_of_lt_of_le hb (World.lat_size _ _), fun i hi => ⟨(World.lat_cell _ _ _ _ hb).trans (hc i hi).1, (hc i hi).2⟩⟩

def DeckAt (w0 : World) (d : Nat) (A : Option Addr) (l : List Int) (c m : Nat) (w : World) : Prop :=
  Bytes w0 A l ∧ w0.heap.size ≤ d ∧ Aft w0 w ∧ ∃ q s : Nat, Blk w d 122 #[.slice A l.length c, .int .i64 q, .int .u32 s] ∧ q ≤ m ∧ s < 4294967296

section
variable {w0 : World} {d : Nat} {A : Option Addr} {l : List Int} {c m : Nat} {w w' : World}
theorem DeckAt.aft (h : DeckAt w0 d A l c m w) (ha : Aft w w') : DeckAt w0 d A l c m w' := by
  obtain ⟨h1, h2, h3, q, s, h4, h5, h6⟩ := h
  exact ⟨h1, h2, h3.trans ha, q, s, h4.aft ha, h5, h6⟩
theorem DeckAt.more (h : DeckAt w0 d A l c m w) {m' : Nat} (hm : m ≤ m') : DeckAt w0 d A l c m' w := by
  obtain ⟨h1, h2, h3, q, s, h4, h5, h6⟩ := h
  exact ⟨h1, h2, h3, q, s, h4, by omega, h6⟩
theorem DeckAt.lt (h : DeckAt w0 d A l c m w) : d < w.heap.size := by
  obtain ⟨h1, h2, h3, q, s, h4, h5, h6⟩ := h
  exact h4.lt
end

theorem DeckAt.put {w0 : World} {d : Nat} {A : Option Addr} {l : List Int} {c m : Nat} {w : World} {q s : Nat} (h : DeckAt w0 d A l c m w) (hb : Blk w d 122 #[.slice A l.length c, .int .i64 q, .int .u32 s]) (hq : q ≤ m)
    {x : Int} (h0 : 0 ≤ x) (h1 : x < 4294967296) :
    DeckAt w0 d A l c (m + 1) ((w.setCell ⟨d, 1, none⟩ (.int .i64 (q + 1))).setCell ⟨d, 2, none⟩ (.int .u32 x)).drew.drew := by
  obtain ⟨h1', h2, h3, -⟩ := h
  obtain ⟨y, rfl⟩ := Int.eq_ofNat_of_zero_le h0
  exact ⟨h1', h2, ((h3.then_setCell h2 _).then_setCell h2 _).then_drew.then_drew, q + 1, y, ((hb.store 1 _).store 2 _).drew.drew, by omega, by omega⟩

theorem only_put {w : World} {d : Nat} (u v : Value) : w.grownBy ((w.setCell ⟨d, 1, none⟩ u).setCell ⟨d, 2, none⟩ v).drew.drew (some d) := by
  have h1 : w.grownBy (w.setCell ⟨d, 1, none⟩ u) (some d) := only_setCell (only_refl w (some d)) (p := ⟨d, 1, none⟩) (.inl rfl) u
  have h2 : w.grownBy ((w.setCell ⟨d, 1, none⟩ u).setCell ⟨d, 2, none⟩ v) (some d) := only_setCell h1 (p := ⟨d, 2, none⟩) (.inl rfl) v
  exact only_drew (only_drew h2)

def Dealt (w0 : World) (d : Nat) (A : Option Addr) (l : List Int) (c m : Nat) (n : Int) (w : World) (e : Ending) (w' : World) : Prop :=
  ∃ x : Int, e = .returned (.int .i64 x) ∧ 0 ≤ x ∧ (x < n ∨ n ≤ 1 ∧ x = 0) ∧ DeckAt w0 d A l c (m + 1) w' ∧ w.grownBy w' (some d)

set_option maxRecDepth 100000 in
set_option maxHeartbeats 2000000 in
theorem draw_any (w0 : World) (d : Nat) (A : Option Addr) (l : List Int) (c m : Nat) (n : Int) (w : World) (hd : DeckAt w0 d A l c m w) (hm : m ≤ 1000000) (hn : -1000000 ≤ n) (hn' : n ≤ 1000000) :
    Calls Tryz.prog 44 #[.pointer (some ⟨d, 0, none⟩), .int .i64 n] w (Dealt w0 d A l c m n w) := by
  have HD := Lib.hid hd
  obtain ⟨h1, h2, h3, q, s, h4, h5, h6⟩ := hd
  have hl := h1.1
  by_cases hn1 : n ≤ 1
  · go_enter Tryz.func44, Tryz.ntmps44
    go_wp2_with fail
    go_ret
    exact ⟨0, rfl, by omega, .inr ⟨hn1, rfl⟩, HD.out.more (by omega), only_refl _ _⟩
  · have k0 : w.cell? ⟨d, 0, none⟩ = some (.slice A l.length c) := h4.cell 0
    have k1 : w.cell? ⟨d, 1, none⟩ = some (.int .i64 q) := h4.cell 1
    have k2 : w.cell? ⟨d, 2, none⟩ = some (.int .u32 s) := h4.cell 2
    have hdn : decide (n ≤ 1) = false := by simpa using hn1
    by_cases hl0 : l.length = 0
    · have hb : ((l.length : Int) == 0) = true := by simp [hl0]
      have hb2 : (l.length == 0) = true := by simp [hl0]
      go_enter Tryz.func44, Tryz.ntmps44
      go_wp2_with fail
      go_ret
      exact ⟨0, rfl, by omega, .inl (by omega), HD.out.more (by omega), only_refl _ _⟩
    · have hb : ((l.length : Int) == 0) = false := by rw [beq_eq_false_iff_ne]; omega
      have hb2 : (l.length == 0) = false := by simpa using hl0
      have hlp : 0 < l.length := by omega
      have hql : q % l.length < l.length := Nat.mod_lt _ hlp
      obtain ⟨b, o, rfl, hbl, hcl⟩ := (h1.aft h3).2.resolve_left (fun e => by rw [e] at hl0; exact hl0 rfl)
      obtain ⟨cB, g2, g3⟩ := hcl (q % l.length) hql
      obtain ⟨y, hy⟩ := Int.eq_ofNat_of_zero_le g2
      have hy255 : y ≤ 255 := by rw [hy] at g3; omega
      rw [hy] at cB
      clear hcl hy g2 g3 h1 h2 h3
      have HB := Lib.hid h4
      have fz1 := h4.frozen 1
      have fz2 := h4.frozen 2
      clear h4
      obtain ⟨r, hr⟩ : ∃ r, q % l.length = r := ⟨_, rfl⟩
      have t1 : ((q : Int).tmod (l.length : Int)) = (r : Int) := by rw [← hr, Int.tmod_eq_emod_of_nonneg (by omega)]; simp
      rw [hr] at cB hql
      have i1 : (0 : Int) ≤ (r : Int) ∧ (r : Int) < (l.length : Int) := by omega
      obtain ⟨z, hz⟩ : ∃ z, ((q : Int).tdiv (l.length : Int)) = z := ⟨_, rfl⟩
      have cB1 : w.drew.cell? ⟨b, o + r, none⟩ = some (.int .u8 y) := cB
      have k01 : w.drew.cell? ⟨d, 0, none⟩ = some (.slice (some ⟨b, o, none⟩) l.length c) := k0
      have k11 : w.drew.cell? ⟨d, 1, none⟩ = some (.int .i64 q) := k1
      clear hr
      go_enter Tryz.func44, Tryz.ntmps44
      go_wp2_with fail
      refine wp_region_tail 17 (by kernel_rfl) (by kernel_rfl) ?_
      simp only [List.take_succ_cons, List.take_zero, List.drop_succ_cons, List.drop_zero]
      repeat (first | go_big_quiet_skip | (go_big_quiet_want; go_big_quiet_op; go_big_quiet_on))
      refine wpQuiet_nil ?_
      have k02 : w.drew.drew.cell? ⟨d, 0, none⟩ = some (.slice (some ⟨b, o, none⟩) l.length c) := k0
      have k12 : w.drew.drew.cell? ⟨d, 1, none⟩ = some (.int .i64 q) := k1
      have k22 : w.drew.drew.cell? ⟨d, 2, none⟩ = some (.int .u32 s) := k2
      have f12 : w.drew.drew.frozen? ⟨d, 1, none⟩ = false := fz1
      have f22 : w.drew.drew.frozen? ⟨d, 2, none⟩ = false := fz2
      clear k01 k11 cB cB1
      go_wp2_with fail
      refine wp_region_tail 11 (by kernel_rfl) (by kernel_rfl) ?_
      simp only [List.take_succ_cons, List.take_zero, List.drop_succ_cons, List.drop_zero]
      repeat (first | go_big_quiet_skip | (go_big_quiet_want; go_big_quiet_op; go_big_quiet_on))
      refine wpQuiet_nil ?_
      obtain ⟨u, hu, hu1, hu2⟩ : ∃ u : Int, wrap64 z % 4294967296 = u ∧ 0 ≤ u ∧ u < 4294967296 := ⟨_, rfl, by omega, by omega⟩
      rw [hu]
      clear hu hz t1 i1
      go_wp2_with fail
      · go_ret
        exact ⟨_, rfl, Int.emod_nonneg _ (by omega), .inl (Int.emod_lt_of_pos _ (by omega)), HD.out.put HB.out h5 (by omega) (by omega), only_put _ _⟩
      · go_ret
        exact ⟨_, rfl, Int.emod_nonneg _ (by omega), .inl (Int.emod_lt_of_pos _ (by omega)), HD.out.put HB.out h5 (by omega) (by omega), only_put _ _⟩
      · go_ret
        exact ⟨_, rfl, Int.emod_nonneg _ (by omega), .inl (Int.emod_lt_of_pos _ (by omega)), HD.out.put HB.out h5 (by omega) (by omega), only_put _ _⟩


def DealtB (w0 : World) (d : Nat) (A : Option Addr) (l : List Int) (c m : Nat) (a b : Int) (w : World) (e : Ending) (w' : World) : Prop :=
  ∃ x : Int, e = .returned (.int .i64 x) ∧ a ≤ x ∧ x ≤ b ∧ DeckAt w0 d A l c (m + 1) w' ∧ w.grownBy w' (some d)

set_option maxRecDepth 100000 in
set_option maxHeartbeats 2000000 in
theorem between_any (w0 : World) (d : Nat) (A : Option Addr) (l : List Int) (c m : Nat) (a b : Int) (w : World) (hd : DeckAt w0 d A l c m w) (hm : m ≤ 1000000) (ha : -1000 ≤ a) (hab : a ≤ b) (hb : b ≤ 1000) :
    Calls Tryz.prog 87 #[.pointer (some ⟨d, 0, none⟩), .int .i64 a, .int .i64 b] w (DealtB w0 d A l c m a b w) := by
  have HD := Lib.hid hd
  obtain ⟨n, hn⟩ : ∃ n : Int, b - a + 1 = n := ⟨_, rfl⟩
  have HC := Lib.hid (draw_any w0 d A l c m n w hd hm (by omega) (by omega))
  clear hd
  go_enter Tryz.func87, Tryz.ntmps87
  go_wp2_with ((have hq := HC.out); refine Calls.mono hq ?_; clear hq; rintro e w' ⟨x, rfl, h1, h2, h3, h4⟩)
  go_ret
  exact ⟨_, rfl, by omega, by omega, h3, h4⟩

set_option maxRecDepth 100000 in
set_option maxHeartbeats 2000000 in
theorem coin_any (w0 : World) (d : Nat) (A : Option Addr) (l : List Int) (c m : Nat) (n : Int) (w : World) (hd : DeckAt w0 d A l c m w) (hm : m ≤ 1000000) (hn : -1000000 ≤ n) (hn' : n ≤ 1000000) :
    Calls Tryz.prog 88 #[.pointer (some ⟨d, 0, none⟩), .int .i64 n] w (fun e w' => ∃ b : Bool, e = .returned (.bool b) ∧ DeckAt w0 d A l c (m + 1) w' ∧ w.grownBy w' (some d)) := by
  have HC := Lib.hid (draw_any w0 d A l c m n w hd hm hn hn')
  clear hd
  go_enter Tryz.func88, Tryz.ntmps88
  go_wp2_with ((have hq := HC.out); refine Calls.mono hq ?_; clear hq; rintro e w' ⟨x, rfl, h1, h2, h3, h4⟩)
  go_ret
  exact ⟨_, rfl, h3, h4⟩

set_option maxRecDepth 100000 in
set_option maxHeartbeats 2000000 in
theorem of_any (A : Option Addr) (l : List Int) (c : Nat) (w : World) (h : Bytes w A l) :
    Calls Tryz.prog 37 #[.slice A l.length c] w (fun e w' => e = .returned (.pointer (some ⟨w.heap.size, 0, none⟩)) ∧ DeckAt w w.heap.size A l c 0 w') := by
  have HD := Lib.hid h
  clear h
  go_enter Tryz.func37, Tryz.ntmps37
  go_wp2_with fail
  go_ret
  exact ⟨rfl, HD.out, Nat.le_refl _, .alloc _ _, 0, 9, Blk.new _ _ _, Nat.le_refl _, by decide⟩
end Go.Proofs
end

section
namespace Go.Proofs
open Go.RowKit

structure CaseL where
  claims : Int
  strikes : List (Int × Int)
  surveys : List (List Int)

def StrR : World → Int × Int → List Value → Prop := fun _ s vs => vs = [.int .i64 s.1, .int .i64 s.2]
theorem StrR.mono : MonoR StrR := fun _ _ _ _ h => h
def Strs (w : World) (A : Option Addr) (l : List (Int × Int)) : Prop := RowsP w A 2 StrR l
theorem Strs.lat {w : World} {A : Option Addr} {l : List (Int × Int)} (h : Strs w A l) (u : Later w) : Strs (w.lat u) A l := RowsP.lat StrR.mono h u
theorem Strs.aft {w w' : World} {A : Option Addr} {l : List (Int × Int)} (h : Strs w A l) (hl : Aft w w') : Strs w' A l := RowsP.aft StrR.mono h hl
theorem Strs.len {w : World} {A : Option Addr} {l : List (Int × Int)} (h : Strs w A l) : l.length ≤ 17592186043904 := RowsP.len h (by decide)
theorem Strs.at {w : World} {A : Option Addr} {l : List (Int × Int)} (h : Strs w A l) {k : Nat} (hk : k < l.length) :
    ∃ b o, A = some ⟨b, o, none⟩ ∧ b < w.heap.size ∧ ∀ i, (h : i < l.length) → w.cell? ⟨b, o + i * 2, none⟩ = some (.int .i64 l[i].1) ∧ w.cell? ⟨b, o + i * 2 + 1, none⟩ = some (.int .i64 l[i].2) := by
  obtain ⟨b, o, rfl, hb, hc⟩ := RowsP.at h hk
  refine ⟨b, o, rfl, hb, fun i hi => ?_⟩
  obtain ⟨vs, h1, rfl, h3⟩ := hc i hi
  exact ⟨by simpa using h3 0 (by simp), by simpa using h3 1 (by simp)⟩

structure CRep (w : World) (C : CaseL) (a1 a2 : Option Addr) : Prop where
  strikes : Strs w a1 C.strikes
  surveys : Lists w a2 C.surveys
theorem CRep.lat {w : World} {C : CaseL} {a1 a2 : Option Addr} (h : CRep w C a1 a2) (u : Later w) : CRep (w.lat u) C a1 a2 := ⟨h.strikes.lat u, h.surveys.lat u⟩
theorem CRep.aft {w w' : World} {C : CaseL} {a1 a2 : Option Addr} (h : CRep w C a1 a2) (ha : Aft w w') : CRep w' C a1 a2 := by obtain ⟨u, rfl⟩ := ha; exact h.lat u

def Cl (n N : Int) : Bool := fromB n 0 (N - 1)

theorem claimed_any (N n : Int) (s1 s2 : Option Addr) (n1 n2 c1 c2 : Nat) (w : World) (hN : 1 ≤ N ∧ N ≤ 14) :
    Calls Tryz.prog 98 #[.agg #[.int .i64 N, .slice s1 n1 c1, .slice s2 n2 c2], .int .i64 n] w fun e w' => e = .returned (.bool (Cl n N)) ∧ Aft w w' := by
  go_enter Tryz.func98, Tryz.ntmps98
  go_wp2_with (go_at_call 54; refine (from_any _ _ _ _).mono ?_; rintro e w' ⟨rfl, rfl⟩)
  go_ret
  exact ⟨rfl, Aft.alloc _ _⟩

theorem strange_any (N n : Int) (s1 s2 : Option Addr) (n1 n2 c1 c2 : Nat) (w : World) (hN : 1 ≤ N ∧ N ≤ 14) :
    Calls Tryz.prog 59 #[.agg #[.int .i64 N, .slice s1 n1 c1, .slice s2 n2 c2], .int .i64 n] w fun e w' => e = .returned (.bool (!Cl n N)) ∧ Aft w w' := by
  go_enter Tryz.func59, Tryz.ntmps59
  go_wp2_with (go_at_call 98; refine (claimed_any N n s1 s2 n1 n2 c1 c2 _ hN).mono ?_; rintro e w' ⟨rfl, u, rfl⟩)
  go_ret
  exact ⟨rfl, (Aft.alloc _ _).then_lat _⟩

theorem runs_59 (args : Array Value) (w : World) : (callFunc 59 args).run Tryz.prog w = .ok (.enter 59 args) w := by simp [go_sem]

theorem strange_asks (N n : Int) (s1 s2 : Option Addr) (n1 n2 c1 c2 : Nat) (w : World) (hN : 1 ≤ N ∧ N ≤ 14) :
    AsksB 59 (.agg #[.int .i64 N, .slice s1 n1 c1, .slice s2 n2 c2]) w (.int .i64 n) (!Cl n N) := fun u => strange_any N n s1 s2 n1 n2 c1 c2 _ hN

theorem none_strange (N : Int) (s1 s2 : Option Addr) (n1 n2 c1 c2 : Nat) (A : Option Addr) (l : List Int) (c : Nat) (w : World) (hN : 1 ≤ N ∧ N ≤ 14) (hA : Ints w A l) :
    Calls Tryz.prog 85 #[.slice A l.length c, .func (.func 59) #[.agg #[.int .i64 N, .slice s1 n1 c1, .slice s2 n2 c2]] #[]] w fun e w' => e = .returned (.bool (l.all fun n => Cl n N)) ∧ Aft w w' :=
  (none_bound IntR 59 _ (fun n => !Cl n N) A l c w hA runs_59 (fun x _ v0 hv => by cases hv; exact strange_asks N x s1 s2 n1 n2 c1 c2 w hN)).mono
    fun _ _ ⟨h, ha⟩ => ⟨by rw [h]; exact ret_bool (by rw [List.all_eq_not_any_not]), ha⟩

def listedE (N : Int) (l : List Int) : Int := if l.all (fun n => Cl n N) then (if risesB l then 0 else 5) else 2

theorem listed_any (N : Int) (s1 s2 : Option Addr) (n1 n2 c1 c2 : Nat) (A : Option Addr) (l : List Int) (c : Nat) (w : World) (hN : 1 ≤ N ∧ N ≤ 14) (hA : Ints w A l) :
    Calls Tryz.prog 69 #[.agg #[.int .i64 N, .slice s1 n1 c1, .slice s2 n2 c2], .slice A l.length c] w fun e w' => e = .returned (.int .i64 (listedE N l)) ∧ Aft w w' := by
  have HA := Lib.hid hA
  clear hA
  have h0 : Aft w (w.alloc (.cells #[.int .i64 N, .slice s1 n1 c1, .slice s2 n2 c2] 25)) := Aft.alloc _ _
  have HS : Hid (∀ w7, Aft w w7 → Calls Tryz.prog 85 #[.slice A l.length c, .func (.func 59) #[.agg #[.int .i64 N, .slice s1 n1 c1, .slice s2 n2 c2]] #[]] w7 fun e w' => e = .returned (.bool (l.all fun n => Cl n N)) ∧ Aft w7 w') :=
    Lib.hid fun w7 h => none_strange N s1 s2 n1 n2 c1 c2 A l c w7 hN (HA.out.aft h)
  go_enter Tryz.func69, Tryz.ntmps69
  by_cases h1 : (l.all fun n => Cl n N) = true
  · rw [h1] at HS
    by_cases h2 : risesB l = true
    · go_wp2_with (first | (go_at_call 85; refine (HS.out _ h0).mono ?_; rintro e w' ⟨rfl, u, rfl⟩) | (go_at_call 101; refine (rises_any A l c _ (HA.out.aft (h0.then_lat _))).mono ?_; rw [h2]; rintro e w' ⟨rfl, u, rfl⟩))
      go_ret
      exact ⟨by unfold listedE; rw [if_pos h1, if_pos h2]; rfl, (h0.then_lat _).then_lat _⟩
    · go_wp2_with (first | (go_at_call 85; refine (HS.out _ h0).mono ?_; rintro e w' ⟨rfl, u, rfl⟩) | (go_at_call 101; refine (rises_any A l c _ (HA.out.aft (h0.then_lat _))).mono ?_; rw [Bool.eq_false_iff.2 h2]; rintro e w' ⟨rfl, u, rfl⟩))
      go_ret
      exact ⟨by unfold listedE; rw [if_pos h1, if_neg h2]; rfl, (h0.then_lat _).then_lat _⟩
  · rw [Bool.eq_false_iff.2 h1] at HS
    go_wp2_with (go_at_call 85; refine (HS.out _ h0).mono ?_; rintro e w' ⟨rfl, u, rfl⟩)
    go_ret
    exact ⟨by unfold listedE; rw [if_neg h1]; rfl, h0.then_lat _⟩
end Go.Proofs
end

section
namespace Go.Proofs
open Go.RowKit

theorem only_grown {a w w' : World} {row row' : Option Nat} (h : a.grownBy w row) (hg : w.grownBy w' row') (hr : ∀ k, row' = some k → a.heap.size ≤ k) : a.grownBy w' row :=
  ⟨hg.os.trans h.os, hg.tape.trans h.tape, hg.output.trans h.output, Nat.le_trans h.size hg.size, fun k hk hne => (hg.block k (Nat.lt_of_lt_of_le hk h.size) (fun e => by have := hr k e.symm; omega)).trans (h.block k hk hne)⟩

theorem DeckAt.grown {w0 : World} {d : Nat} {A : Option Addr} {l : List Int} {c m : Nat} {w w' : World} {row : Option Nat} (h : DeckAt w0 d A l c m w) (hg : w.grownBy w' row) (hr : ∀ k, row = some k → d < k) : DeckAt w0 d A l c m w' := by
  obtain ⟨h1, h2, h3, q, s, h4, h5, h6⟩ := h
  exact ⟨h1, h2, h3.grown hg (fun k e => by have := hr k e; omega), q, s, h4.grown hg (fun e => by have := hr d e.symm; omega), h5, h6⟩

theorem rises_snoc : ∀ {l : List Int} {y : Int}, risesB l = true → (∀ x ∈ l, x < y) → risesB (l ++ [y]) = true
  | [], _, _, _ => rfl
  | [a], y, _, h => by simp [risesB, h a (by simp)]
  | a :: b :: r, y, h, h2 => by
    simp only [risesB, Bool.and_eq_true, List.cons_append] at h ⊢
    exact ⟨h.1, rises_snoc (l := b :: r) h.2 fun x hx => h2 x (by simp at hx ⊢; exact .inr hx)⟩

def SomeR (w0 : World) (d : Nat) (A : Option Addr) (l : List Int) (c m e : Nat) (w : World) (en : Ending) (w' : World) : Prop :=
  ∃ v, ∃ ns : List Int, en = .returned v ∧ w'.ownsRow w.heap.size 3 1 v ns.length (ns.map (Value.int .i64)) ∧ ns.length ≤ e ∧ (∀ x ∈ ns, 0 ≤ x ∧ x < e) ∧ risesB ns = true ∧ DeckAt w0 d A l c (m + e) w' ∧ w.grownBy w' (some d)

set_option maxRecDepth 100000 in
set_option maxHeartbeats 2000000 in
theorem some_any (w0 : World) (d : Nat) (A : Option Addr) (l : List Int) (c m e : Nat) (once : Int) (w : World) (hd : DeckAt w0 d A l c m w) (hm : m ≤ 900000) (he : e ≤ 1000) (ho : -1000 ≤ once) (ho' : once ≤ 1000) :
    Calls Tryz.prog 41 #[.pointer (some ⟨d, 0, none⟩), .int .i64 e, .int .i64 once] w (SomeR w0 d A l c m e w) := by
  have HD := Lib.hid hd
  have hdl := hd.lt
  clear hd
  go_enter Tryz.func41, Tryz.ntmps41
  go_wp2_with fail
  go_loopw [7, 10] (fun v i wr => ∃ k : Nat, ∃ ns : List Int, i = .int .i64 k ∧ k ≤ e ∧ ns.length ≤ k ∧ (∀ x ∈ ns, 0 ≤ x ∧ x < k) ∧ risesB ns = true ∧ DeckAt w0 d A l c (m + k) wr ∧ w.grownBy wr (some d) ∧ wr.ownsRow w.heap.size 3 1 v ns.length (ns.map (Value.int .i64))) (fun _ i _ => e - (intOf i).toNat)
  case atStart => exact ⟨0, [], rfl, by omega, by simp, by simp, rfl, HD.out, only_refl _ _, World.ownsRow_nil _ _ 3 1⟩
  case round =>
    obtain ⟨k, ns, rfl, hk, hn, hns, hri, hdk, hg, hown⟩ := hrel
    by_cases hke : k < e
    · have HC := Lib.hid (coin_any w0 d A l c (m + k) once wr hdk (by omega) (by omega) (by omega))
      have HO := Lib.hid hown
      have HG := Lib.hid hg
      clear hown hdk hg
      go_wp2_with (first
        | (go_at_call 88; (have hq := HC.out); refine Calls.mono hq ?_; clear hq; rintro en w5 ⟨b, rfl, h3, h4⟩
           have HO5 := Lib.hid (HO.out.kept h4 (by
             rcases hob : u7.ownBlock with _ | g
             · exact .inl rfl
             · refine .inr fun e2 => ?_
               cases e2
               have := own_ge HO.out _ hob
               omega))
           have HG5 := Lib.hid (World.grownBy.trans HG.out h4)
           have HD5 := Lib.hid h3
           clear h3 h4 HC)
        | (at_builtin; refine wpList_push rfl _ _ rfl (own_aft HO5.out (Aft.alloc _ _)) (Nat.le_trans HG5.out.size (Aft.alloc _ _).size) rfl rfl (cell_new1 _ _ _) (by omega) ?_; intro v' w6 hown6 hg6))
      · have hlt : ∀ g, u7.ownBlock = some g → w.heap.size ≤ g := own_ge HO5.out
        refine ⟨⟨k + 1, ns ++ [(k : Int)], by go_num, by omega, by simp; omega, fun x hx => ?_, rises_snoc hri (fun x hx => (hns x hx).2), (HD5.out.aft (Aft.alloc _ _)).grown hg6 (fun g hg => by have := hlt g hg; omega), only_grown (only_aft HG5.out (Aft.alloc _ _)) hg6 hlt, hown6⟩, by simp [intOf]; omega⟩
        rcases List.mem_append.1 hx with h | h
        · have := hns x h; omega
        · rw [List.mem_singleton] at h; omega
      · exact ⟨⟨k + 1, ns, by go_num, by omega, by omega, fun x hx => by have := hns x hx; omega, hri, HD5.out, HG5.out, HO5.out⟩, by simp [intOf]; omega⟩
    · obtain rfl : k = e := by omega
      go_wp2_with fail
      go_ret
      exact ⟨_, ns, rfl, hown, hn, hns, hri, hdk, hg⟩
end Go.Proofs
end

section
namespace Go.Proofs
open Go.RowKit

theorem run_enters {f : Nat} {fn : Func} (h : Tryz.prog.funcs[f]? = some fn) (hn : (fn.name == "runtime.NumGoroutine") = false) (hb : fn.body.isNone = false) (args : Array Value) (w : World) :
    (callFunc f args).run Tryz.prog w = .ok (.enter f args) w := by
  unfold callFunc
  have h1 : ¬ fn.name = "runtime.NumGoroutine" := by simpa using hn
  have h2 : ¬ fn.body = none := by intro e; rw [e] at hb; cases hb
  simp [go_sem, h, h1, h2]

theorem step_call2 {f : Nat} {fn : Func} (hf : Tryz.prog.funcs[f]? = some fn) (hn : (fn.name == "runtime.NumGoroutine") = false) (hb : fn.body.isNone = false) {w : World} {ops : Array Oper} {o : Oper} {a : Act} {K : Act → World → Prop} {Q : Exit → Act → World → Prop} {E : Prop}
    (hgd : o.guard = none) (x y : Operand) {t1 t2 : TypeId} (ho : o.op = .call { callee := .value (.func f), args := #[x, y], argTypes := #[t1, t2] })
    {vx vy : Value} (hx : a.eval x = vx) (hy : a.eval y = vy) {R : Ending → World → Prop} (hc : Calls Tryz.prog f #[vx, vy] w R)
    (h : ∀ e w', R e w' → ∃ v, e = .returned v ∧ K (a.put o.dst v) w') :
    if Region.wanted o (yielded ops a.tmps) = true then Oper.wp Tryz.prog o a w K Q else E := by
  have hw : Region.wanted o (yielded ops a.tmps) = true := by simp [Region.wanted, hgd]
  rw [if_pos hw]
  unfold Oper.wp
  have hrun : (execOp a.eval o).run Tryz.prog w = .ok (.enter f #[vx, vy]) w := by
    unfold execOp
    simp only [ho, resolve, invoke, Sem.run_bind, List.map_toArray, List.map_cons, List.map_nil, hx, hy]
    simp [go_sem]
    exact run_enters hf hn hb _ _
  rw [hrun, Oper.upon_enter]
  refine hc.mono ?_
  intro e w' hr
  obtain ⟨v, rfl, hk⟩ := h e w' hr
  exact hk

end Go.Proofs
end
