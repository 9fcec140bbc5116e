/- Own texts, merged: WkA Sc Rgf Rgj Lim2 Rng Tail Brg Rgv Rgw Rgx Rgt WkB Lst CtA. -/
import Derived.Test.YtbchfakfdikkjaaP01
import Derived.Test.YtbchfakfdikkjaaProg
import Derived.Deep.RegionLaw
import Derived.Great.Frames
import Derived.RangeFuncNested
import Derived.RangeFuncBound
import Derived.RangeFuncCalls
import Derived.RangeFuncLeaves
import Derived.Test.YtbchfakfdikkjaaChecked
import Derived.StillTailTactics
import Derived.Shelf.RegionOpen
import Derived.Deep.RegionHeld3
import Derived.Laws.EntriesVeiled
import Derived.Deep.CutBlock
import Derived.Deep.LoopGhost
import Derived.Deep.Cut
import Derived.LoopIn
import Derived.BigGuard
set_option linter.unusedSimpArgs false
set_option linter.unusedVariables false
set_option linter.unnecessarySimpa false
section
namespace Go.Proofs
open Go.RowKit

def fromB (n a b : Int) : Bool := decide (a ≤ n) && decide (n ≤ b)

def risesB : List Int → Bool
  | a :: b :: r => decide (a < b) && risesB (b :: r)
  | _ => true

theorem risesB_false (l : List Int) (k : Nat) (h : k + 1 < l.length) (hh : l[k+1] ≤ l[k]) : risesB l = false := by
  induction l generalizing k with
  | nil => simp at h
  | cons a r ih =>
    cases r with
    | nil => simp at h
    | cons b r =>
      cases k with
      | zero => simp at hh; simp [risesB]; intro; omega
      | succ k => simp only [risesB]; rw [ih k (by simpa using h) (by simpa using hh)]; simp

theorem risesB_true (l : List Int) (h : ∀ k, (h : k + 1 < l.length) → l[k] < l[k+1]) : risesB l = true := by
  induction l with
  | nil => rfl
  | cons a r ih =>
    cases r with
    | nil => rfl
    | cons b r =>
      simp only [risesB, Bool.and_eq_true, decide_eq_true_eq]
      exact ⟨h 0 (by simp), ih fun k hk => h (k+1) (by simp at hk ⊢; omega)⟩

set_option maxHeartbeats 400000 in
theorem from_any (n a b : Int) (w : World) :
    Calls Try.prog 29 #[.int .i64 n, .int .i64 a, .int .i64 b] w fun e w' => e = .returned (.bool (fromB n a b)) ∧ w = w' := by
  go_enter Try.func29, Try.ntmps29
  go_wp2
  all_goals go_ret
  · exact ⟨ret_bool (by unfold fromB; simp; omega), rfl⟩
  · exact ⟨ret_bool (by unfold fromB; simp; omega), rfl⟩

set_option maxHeartbeats 400000 in
theorem rises_any (A : Option Addr) (l : List Int) (c : Nat) (w : World) (hA : Ints w A l) :
    Calls Try.prog 65 #[.slice A l.length c] w fun e w' => e = .returned (.bool (risesB l)) ∧ Aft w w' := by
  have hl := hA.len
  go_enter Try.func65, Try.ntmps65
  go_wp2
  go_loopw [3] (fun i wr => ∃ k : Nat, 1 ≤ k ∧ i = .int .i64 k ∧ (k ≤ l.length ∨ k = 1) ∧ (∀ j, j + 1 < k → (h : j + 1 < l.length) → l[j] < l[j+1]) ∧ ∃ n, wr = w.drewN n) (fun i _ => l.length - (intOf i).toNat)
  case atStart => exact ⟨1, by omega, rfl, by omega, fun j hj => by omega, 0, rfl⟩
  case round =>
    obtain ⟨k, hk1, rfl, hk, hlt, n, rfl⟩ := hrel
    have HL := Lib.hid hlt
    clear hlt
    by_cases hkl : k < l.length
    · obtain ⟨b, o, rfl, hb, hc⟩ := hA.at hkl
      have h1 : w.cell? ⟨b, o + k, none⟩ = some (.int .i64 l[k]) := hc k hkl
      have h2 : w.cell? ⟨b, o + (k - 1), none⟩ = some (.int .i64 l[k-1]) := hc (k-1) (by omega)
      have e1 : IntKind.i64.wrap ((k : Int) - 1) = ((k - 1 : Nat) : Int) := by rw [IntWalk.i64_in _ (by omega)]; omega
      clear hc
      go_wp2
      go_quiet (fail)
      clear e1
      go_wp2
      · go_ret
        have h3 : l[k] ≤ l[k-1] := by assumption
        exact ⟨ret_bool (by rw [risesB_false l (k-1) (by omega) (by simp only [Nat.sub_add_cancel hk1]; exact h3)]), (Aft.drewN _ _).then_drewN _⟩
      · have h3 : l[k-1] < l[k] := by assumption
        go_roundw
        case rel =>
          refine ⟨k + 1, by omega, by go_num, by omega, fun j hj hjl => ?_, _, rfl⟩
          by_cases hjk : j + 1 < k
          · exact HL.out j hjk hjl
          · obtain rfl : j = k - 1 := by omega
            simp only [Nat.sub_add_cancel hk1]; exact h3
        case measure => simp [intOf]; omega
    · go_wp2
      go_ret
      exact ⟨ret_bool (by rw [risesB_true l fun j hj => HL.out j (by omega) hj]), Aft.drewN _ _⟩

def IdxSign (b : Bool) (e : Ending) : Prop := ∃ n : Int, e = .returned (.int .i64 n) ∧ decide (n < 0) = !b
theorem IdxSign.yes {b : Bool} (hb : b = true) (k : Nat) : IdxSign b (.returned (.int .i64 k)) := ⟨k, rfl, by rw [hb]; simp⟩
theorem IdxSign.no {b : Bool} (hb : b = false) : IdxSign b (.returned (.int .i64 (-1))) := ⟨-1, rfl, by rw [hb]; rfl⟩

def IdxRes {α : Type} (p : α → Bool) (l : List α) (e : Ending) : Prop :=
  (e = .returned (.int .i64 (-1)) ∧ l.any p = false) ∨ ∃ k, ∃ h : k < l.length, e = .returned (.int .i64 (k : Nat)) ∧ p l[k] = true ∧ (l.take k).any p = false
theorem IdxRes.sign {α : Type} {p : α → Bool} {l : List α} {e : Ending} (h : IdxRes p l e) : IdxSign (l.any p) e := by
  rcases h with ⟨rfl, h⟩ | ⟨k, h, rfl, h1, _⟩
  · exact IdxSign.no h
  · exact IdxSign.yes (any_of_get _ _ _ h h1) _

theorem index_any (A : Option Addr) (l : List Int) (c : Nat) (x : Int) (w : World) (hA : Ints w A l) :
    Calls Try.prog 81 #[.slice A l.length c, .int .i64 x] w fun e w' => IdxSign (hasB l x) e ∧ w = w' := by
  have hl := hA.len
  go_enter Try.func81, Try.ntmps81
  go_wp2
  go_loop [8] (fun i => ∃ k : Nat, i = .int .i64 k ∧ k ≤ l.length ∧ hasB (l.take k) x = false) (fun i => l.length - (intOf i).toNat)
  case atStart => exact ⟨0, rfl, by omega, rfl⟩
  case round =>
    obtain ⟨k, rfl, hk, hany⟩ := hrel
    have HA := Lib.hid hany; clear hany
    by_cases hlt : k < l.length
    · obtain ⟨b, o, rfl, hbw, hc⟩ := hA.at hlt
      have hck := hc k hlt
      clear hc
      go_wp2
      · have hx : x = l[k] := by simp_all
        go_ret
        exact ⟨IdxSign.yes (hasB_iff.2 (hx ▸ List.getElem_mem hlt)) _, rfl⟩
      · have hx : ¬ x = l[k] := by simp_all
        go_round
        case rel => exact ⟨k + 1, by go_num, by omega, by rw [List.take_succ_eq_append_getElem hlt, hasB_false]; have := hasB_false.1 HA.out; simp only [List.mem_append, List.mem_singleton]; rintro (h | h); exact this h; exact hx h⟩
        case measure => simp [intOf]; omega
    · go_wp2
      go_ret
      exact ⟨IdxSign.no (by have := HA.out; rwa [List.take_of_length_le (by omega)] at this), rfl⟩

theorem contains_any (A : Option Addr) (l : List Int) (c : Nat) (x : Int) (w : World) (hA : Ints w A l) :
    Calls Try.prog 58 #[.slice A l.length c, .int .i64 x] w fun e w' => e = .returned (.bool (hasB l x)) ∧ w = w' := by
  go_enter Try.func58, Try.ntmps58
  go_wp2_with (go_at_call 81; refine (index_any _ _ _ _ _ hA).mono ?_; rintro e w' ⟨⟨n, rfl, hn⟩, rfl⟩; have HN := Lib.hid hn; clear hn)
  go_ret
  exact ⟨ret_bool (by have := HN.out; cases h : hasB l x <;> simp_all), rfl⟩

def AsksB (K : FuncId) (v : Value) (w : World) (arg : Value) (b : Bool) : Prop :=
  ∀ u : Later w, Calls Try.prog K #[v, arg] (w.lat u) fun e w' => e = .returned (.bool b) ∧ Aft (w.lat u) w'

set_option maxHeartbeats 800000 in
theorem indexFunc_int {α : Type} (R : World → α → List Value → Prop) (K : FuncId) (cap : List Value) (p : α → Bool) (A : Option Addr) (l : List α) (c : Nat) (w : World) (hA : RowsP w A 1 R l)
    (hK : ∀ args w, (callFunc K args).run Try.prog w = .ok (.enter K args) w)
    (hp : ∀ x ∈ l, ∀ v0, R w x [v0] → Asks Try.prog K cap w v0 (p x)) :
    Calls Try.prog 79 #[.slice A l.length c, .func (.func K) #[] cap.toArray] w fun e w' => IdxRes p l e ∧ Aft w w' := by
  have hl := hA.len (by decide)
  have HP := Lib.hid hp
  clear hp
  go_enter Try.func79, Try.ntmps79
  go_wp2
  go_loopw [8] (fun i wr => ∃ k : Nat, i = .int .i64 k ∧ k ≤ l.length ∧ (l.take k).any p = false ∧ Aft w wr) (fun i _ => l.length - (intOf i).toNat)
  case atStart => exact ⟨0, rfl, by omega, by simp, Aft.refl _⟩
  case round =>
    obtain ⟨k, rfl, hk, hany, u, rfl⟩ := hrel
    have HA := Lib.hid hany; clear hany
    by_cases hlt : k < l.length
    · obtain ⟨b, o, rfl, hbw, hc⟩ := hA.at hlt
      obtain ⟨vs, hv1, hv2, hv3⟩ := hc k hlt
      obtain ⟨v0, rfl⟩ : ∃ v0, vs = [v0] := by match vs, hv1 with | [v0], _ => exact ⟨v0, rfl⟩
      have hc0 := hv3 0 (by simp)
      simp only [Nat.mul_one, Nat.add_zero, List.getElem_cons_zero] at hc0
      have hpk := HP.out l[k] (List.getElem_mem hlt) v0 hv2 u
      clear hc hv3 hv2
      cases hb : p l[k]
      · have HB := Lib.hid hb; clear hb
        rw [HB.out] at hpk
        go_wp2_with (refine hpk.mono ?_; rintro e w' ⟨rfl, u1, rfl⟩; clear hpk)
        go_roundw
        case rel => exact ⟨k + 1, by go_num, by omega, by rw [any_take_succ _ _ _ hlt, HA.out, HB.out]; rfl, _, rfl⟩
        case measure => simp [intOf]; omega
      · have HB := Lib.hid hb; clear hb
        rw [HB.out] at hpk
        go_wp2_with (refine hpk.mono ?_; rintro e w' ⟨rfl, u1, rfl⟩; clear hpk)
        go_ret
        exact ⟨.inr ⟨k, hlt, rfl, HB.out, HA.out⟩, _, rfl⟩
    · go_wp2
      go_ret
      exact ⟨.inl ⟨rfl, by have := HA.out; rwa [List.take_of_length_le (by omega)] at this⟩, _, rfl⟩

set_option maxHeartbeats 800000 in
theorem indexFunc_bound {α : Type} (R : World → α → List Value → Prop) (K : FuncId) (v : Value) (p : α → Bool) (A : Option Addr) (l : List α) (c : Nat) (w : World) (hA : RowsP w A 1 R l)
    (hK : ∀ args w, (callFunc K args).run Try.prog w = .ok (.enter K args) w)
    (hp : ∀ x ∈ l, ∀ v0, R w x [v0] → AsksB K v w v0 (p x)) :
    Calls Try.prog 79 #[.slice A l.length c, .func (.func K) #[v] #[]] w fun e w' => IdxRes p l e ∧ Aft w w' := by
  have hl := hA.len (by decide)
  have HP := Lib.hid hp
  clear hp
  go_enter Try.func79, Try.ntmps79
  go_wp2
  go_loopw [8] (fun i wr => ∃ k : Nat, i = .int .i64 k ∧ k ≤ l.length ∧ (l.take k).any p = false ∧ Aft w wr) (fun i _ => l.length - (intOf i).toNat)
  case atStart => exact ⟨0, rfl, by omega, by simp, Aft.refl _⟩
  case round =>
    obtain ⟨k, rfl, hk, hany, u, rfl⟩ := hrel
    have HA := Lib.hid hany; clear hany
    by_cases hlt : k < l.length
    · obtain ⟨b, o, rfl, hbw, hc⟩ := hA.at hlt
      obtain ⟨vs, hv1, hv2, hv3⟩ := hc k hlt
      obtain ⟨v0, rfl⟩ : ∃ v0, vs = [v0] := by match vs, hv1 with | [v0], _ => exact ⟨v0, rfl⟩
      have hc0 := hv3 0 (by simp)
      simp only [Nat.mul_one, Nat.add_zero, List.getElem_cons_zero] at hc0
      have hpk := HP.out l[k] (List.getElem_mem hlt) v0 hv2 u
      clear hc hv3 hv2
      cases hb : p l[k]
      · have HB := Lib.hid hb; clear hb
        rw [HB.out] at hpk
        go_wp2_with (refine hpk.mono ?_; rintro e w' ⟨rfl, u1, rfl⟩; clear hpk)
        go_roundw
        case rel => exact ⟨k + 1, by go_num, by omega, by rw [any_take_succ _ _ _ hlt, HA.out, HB.out]; rfl, _, rfl⟩
        case measure => simp [intOf]; omega
      · have HB := Lib.hid hb; clear hb
        rw [HB.out] at hpk
        go_wp2_with (refine hpk.mono ?_; rintro e w' ⟨rfl, u1, rfl⟩; clear hpk)
        go_ret
        exact ⟨.inr ⟨k, hlt, rfl, HB.out, HA.out⟩, _, rfl⟩
    · go_wp2
      go_ret
      exact ⟨.inl ⟨rfl, by have := HA.out; rwa [List.take_of_length_le (by omega)] at this⟩, _, rfl⟩

set_option maxHeartbeats 800000 in
theorem indexFunc_strike {α : Type} (R : World → α → List Value → Prop) (K : FuncId) (cap : List Value) (p : α → Bool) (A : Option Addr) (l : List α) (c : Nat) (w : World) (hA : RowsP w A 2 R l)
    (hK : ∀ args w, (callFunc K args).run Try.prog w = .ok (.enter K args) w)
    (hp : ∀ x ∈ l, ∀ v0 v1, R w x [v0, v1] → Asks Try.prog K cap w (.agg #[v0, v1]) (p x)) :
    Calls Try.prog 83 #[.slice A l.length c, .func (.func K) #[] cap.toArray] w fun e w' => IdxRes p l e ∧ Aft w w' := by
  have hl := hA.len (by decide)
  have HP := Lib.hid hp
  clear hp
  go_enter Try.func83, Try.ntmps83
  go_wp2
  go_loopw [8] (fun i wr => ∃ k : Nat, i = .int .i64 k ∧ k ≤ l.length ∧ (l.take k).any p = false ∧ Aft w wr) (fun i _ => l.length - (intOf i).toNat)
  case atStart => exact ⟨0, rfl, by omega, by simp, Aft.refl _⟩
  case round =>
    obtain ⟨k, rfl, hk, hany, u, rfl⟩ := hrel
    have HA := Lib.hid hany; clear hany
    by_cases hlt : k < l.length
    · obtain ⟨b, o, rfl, hbw, hc⟩ := hA.at hlt
      obtain ⟨vs, hv1, hv2, hv3⟩ := hc k hlt
      obtain ⟨v0, v1, rfl⟩ : ∃ v0 v1, vs = [v0, v1] := by match vs, hv1 with | [v0, v1], _ => exact ⟨v0, v1, rfl⟩
      have hc0 := hv3 0 (by simp); have hc1 := hv3 1 (by simp)
      simp only [Nat.add_zero, List.getElem_cons_zero, List.getElem_cons_succ] at hc0 hc1
      have hpk := HP.out l[k] (List.getElem_mem hlt) v0 v1 hv2 u
      clear hc hv3 hv2
      cases hb : p l[k]
      · have HB := Lib.hid hb; clear hb
        rw [HB.out] at hpk
        go_wp2_with (refine hpk.mono ?_; rintro e w' ⟨rfl, u1, rfl⟩; clear hpk)
        go_roundw
        case rel => exact ⟨k + 1, by go_num, by omega, by rw [any_take_succ _ _ _ hlt, HA.out, HB.out]; rfl, _, rfl⟩
        case measure => simp [intOf]; omega
      · have HB := Lib.hid hb; clear hb
        rw [HB.out] at hpk
        go_wp2_with (refine hpk.mono ?_; rintro e w' ⟨rfl, u1, rfl⟩; clear hpk)
        go_ret
        exact ⟨.inr ⟨k, hlt, rfl, HB.out, HA.out⟩, _, rfl⟩
    · go_wp2
      go_ret
      exact ⟨.inl ⟨rfl, by have := HA.out; rwa [List.take_of_length_le (by omega)] at this⟩, _, rfl⟩

set_option maxHeartbeats 800000 in
theorem indexFunc_lists {α : Type} (R : World → α → List Value → Prop) (K : FuncId) (cap : List Value) (p : α → Bool) (A : Option Addr) (l : List α) (c : Nat) (w : World) (hA : RowsP w A 1 R l)
    (hK : ∀ args w, (callFunc K args).run Try.prog w = .ok (.enter K args) w)
    (hp : ∀ x ∈ l, ∀ v0, R w x [v0] → Asks Try.prog K cap w v0 (p x)) :
    Calls Try.prog 97 #[.slice A l.length c, .func (.func K) #[] cap.toArray] w fun e w' => IdxRes p l e ∧ Aft w w' := by
  have hl := hA.len (by decide)
  have HP := Lib.hid hp
  clear hp
  go_enter Try.func97, Try.ntmps97
  go_wp2
  go_loopw [8] (fun i wr => ∃ k : Nat, i = .int .i64 k ∧ k ≤ l.length ∧ (l.take k).any p = false ∧ Aft w wr) (fun i _ => l.length - (intOf i).toNat)
  case atStart => exact ⟨0, rfl, by omega, by simp, Aft.refl _⟩
  case round =>
    obtain ⟨k, rfl, hk, hany, u, rfl⟩ := hrel
    have HA := Lib.hid hany; clear hany
    by_cases hlt : k < l.length
    · obtain ⟨b, o, rfl, hbw, hc⟩ := hA.at hlt
      obtain ⟨vs, hv1, hv2, hv3⟩ := hc k hlt
      obtain ⟨v0, rfl⟩ : ∃ v0, vs = [v0] := by match vs, hv1 with | [v0], _ => exact ⟨v0, rfl⟩
      have hc0 := hv3 0 (by simp)
      simp only [Nat.mul_one, Nat.add_zero, List.getElem_cons_zero] at hc0
      have hpk := HP.out l[k] (List.getElem_mem hlt) v0 hv2 u
      clear hc hv3 hv2
      cases hb : p l[k]
      · have HB := Lib.hid hb; clear hb
        rw [HB.out] at hpk
        go_wp2_with (refine hpk.mono ?_; rintro e w' ⟨rfl, u1, rfl⟩; clear hpk)
        go_roundw
        case rel => exact ⟨k + 1, by go_num, by omega, by rw [any_take_succ _ _ _ hlt, HA.out, HB.out]; rfl, _, rfl⟩
        case measure => simp [intOf]; omega
      · have HB := Lib.hid hb; clear hb
        rw [HB.out] at hpk
        go_wp2_with (refine hpk.mono ?_; rintro e w' ⟨rfl, u1, rfl⟩; clear hpk)
        go_ret
        exact ⟨.inr ⟨k, hlt, rfl, HB.out, HA.out⟩, _, rfl⟩
    · go_wp2
      go_ret
      exact ⟨.inl ⟨rfl, by have := HA.out; rwa [List.take_of_length_le (by omega)] at this⟩, _, rfl⟩

set_option maxHeartbeats 400000 in
theorem contains_int {α : Type} (R : World → α → List Value → Prop) (K : FuncId) (cap : List Value) (p : α → Bool) (A : Option Addr) (l : List α) (c : Nat) (w : World) (hA : RowsP w A 1 R l)
    (hK : ∀ args w, (callFunc K args).run Try.prog w = .ok (.enter K args) w)
    (hp : ∀ x ∈ l, ∀ v0, R w x [v0] → Asks Try.prog K cap w v0 (p x)) :
    Calls Try.prog 66 #[.slice A l.length c, .func (.func K) #[] cap.toArray] w fun e w' => e = .returned (.bool (l.any p)) ∧ Aft w w' := by
  go_enter Try.func66, Try.ntmps66
  go_wp2_with (go_at_call 79; refine (indexFunc_int R K cap p A l c w hA hK hp).mono ?_; rintro e w' ⟨hr, u, rfl⟩; obtain ⟨n, rfl, hn⟩ := hr.sign; clear hr; have HN := Lib.hid hn; clear hn)
  go_ret
  exact ⟨ret_bool (by have := HN.out; cases h : l.any p <;> simp_all), u, rfl⟩

set_option maxHeartbeats 400000 in
theorem none_int {α : Type} (R : World → α → List Value → Prop) (K : FuncId) (cap : List Value) (p : α → Bool) (A : Option Addr) (l : List α) (c : Nat) (w : World) (hA : RowsP w A 1 R l)
    (hK : ∀ args w, (callFunc K args).run Try.prog w = .ok (.enter K args) w)
    (hp : ∀ x ∈ l, ∀ v0, R w x [v0] → Asks Try.prog K cap w v0 (p x)) :
    Calls Try.prog 37 #[.slice A l.length c, .func (.func K) #[] cap.toArray] w fun e w' => e = .returned (.bool (!l.any p)) ∧ Aft w w' := by
  go_enter Try.func37, Try.ntmps37
  go_wp2_with (go_at_call 66; refine (contains_int R K cap p A l c w hA hK hp).mono ?_; rintro e w' ⟨rfl, u, rfl⟩)
  go_ret
  exact ⟨rfl, u, rfl⟩

set_option maxHeartbeats 400000 in
theorem contains_bound {α : Type} (R : World → α → List Value → Prop) (K : FuncId) (v : Value) (p : α → Bool) (A : Option Addr) (l : List α) (c : Nat) (w : World) (hA : RowsP w A 1 R l)
    (hK : ∀ args w, (callFunc K args).run Try.prog w = .ok (.enter K args) w)
    (hp : ∀ x ∈ l, ∀ v0, R w x [v0] → AsksB K v w v0 (p x)) :
    Calls Try.prog 66 #[.slice A l.length c, .func (.func K) #[v] #[]] w fun e w' => e = .returned (.bool (l.any p)) ∧ Aft w w' := by
  go_enter Try.func66, Try.ntmps66
  go_wp2_with (go_at_call 79; refine (indexFunc_bound R K v p A l c w hA hK hp).mono ?_; rintro e w' ⟨hr, u, rfl⟩; obtain ⟨n, rfl, hn⟩ := hr.sign; clear hr; have HN := Lib.hid hn; clear hn)
  go_ret
  exact ⟨ret_bool (by have := HN.out; cases h : l.any p <;> simp_all), u, rfl⟩

set_option maxHeartbeats 400000 in
theorem none_bound {α : Type} (R : World → α → List Value → Prop) (K : FuncId) (v : Value) (p : α → Bool) (A : Option Addr) (l : List α) (c : Nat) (w : World) (hA : RowsP w A 1 R l)
    (hK : ∀ args w, (callFunc K args).run Try.prog w = .ok (.enter K args) w)
    (hp : ∀ x ∈ l, ∀ v0, R w x [v0] → AsksB K v w v0 (p x)) :
    Calls Try.prog 37 #[.slice A l.length c, .func (.func K) #[v] #[]] w fun e w' => e = .returned (.bool (!l.any p)) ∧ Aft w w' := by
  go_enter Try.func37, Try.ntmps37
  go_wp2_with (go_at_call 66; refine (contains_bound R K v p A l c w hA hK hp).mono ?_; rintro e w' ⟨rfl, u, rfl⟩)
  go_ret
  exact ⟨rfl, u, rfl⟩

set_option maxHeartbeats 400000 in
theorem contains_strike {α : Type} (R : World → α → List Value → Prop) (K : FuncId) (cap : List Value) (p : α → Bool) (A : Option Addr) (l : List α) (c : Nat) (w : World) (hA : RowsP w A 2 R l)
    (hK : ∀ args w, (callFunc K args).run Try.prog w = .ok (.enter K args) w)
    (hp : ∀ x ∈ l, ∀ v0 v1, R w x [v0, v1] → Asks Try.prog K cap w (.agg #[v0, v1]) (p x)) :
    Calls Try.prog 63 #[.slice A l.length c, .func (.func K) #[] cap.toArray] w fun e w' => e = .returned (.bool (l.any p)) ∧ Aft w w' := by
  go_enter Try.func63, Try.ntmps63
  go_wp2_with (go_at_call 83; refine (indexFunc_strike R K cap p A l c w hA hK hp).mono ?_; rintro e w' ⟨hr, u, rfl⟩; obtain ⟨n, rfl, hn⟩ := hr.sign; clear hr; have HN := Lib.hid hn; clear hn)
  go_ret
  exact ⟨ret_bool (by have := HN.out; cases h : l.any p <;> simp_all), u, rfl⟩

set_option maxHeartbeats 400000 in
theorem none_strike {α : Type} (R : World → α → List Value → Prop) (K : FuncId) (cap : List Value) (p : α → Bool) (A : Option Addr) (l : List α) (c : Nat) (w : World) (hA : RowsP w A 2 R l)
    (hK : ∀ args w, (callFunc K args).run Try.prog w = .ok (.enter K args) w)
    (hp : ∀ x ∈ l, ∀ v0 v1, R w x [v0, v1] → Asks Try.prog K cap w (.agg #[v0, v1]) (p x)) :
    Calls Try.prog 30 #[.slice A l.length c, .func (.func K) #[] cap.toArray] w fun e w' => e = .returned (.bool (!l.any p)) ∧ Aft w w' := by
  go_enter Try.func30, Try.ntmps30
  go_wp2_with (go_at_call 63; refine (contains_strike R K cap p A l c w hA hK hp).mono ?_; rintro e w' ⟨rfl, u, rfl⟩)
  go_ret
  exact ⟨rfl, u, rfl⟩

set_option maxHeartbeats 400000 in
theorem contains_lists {α : Type} (R : World → α → List Value → Prop) (K : FuncId) (cap : List Value) (p : α → Bool) (A : Option Addr) (l : List α) (c : Nat) (w : World) (hA : RowsP w A 1 R l)
    (hK : ∀ args w, (callFunc K args).run Try.prog w = .ok (.enter K args) w)
    (hp : ∀ x ∈ l, ∀ v0, R w x [v0] → Asks Try.prog K cap w v0 (p x)) :
    Calls Try.prog 80 #[.slice A l.length c, .func (.func K) #[] cap.toArray] w fun e w' => e = .returned (.bool (l.any p)) ∧ Aft w w' := by
  go_enter Try.func80, Try.ntmps80
  go_wp2_with (go_at_call 97; refine (indexFunc_lists R K cap p A l c w hA hK hp).mono ?_; rintro e w' ⟨hr, u, rfl⟩; obtain ⟨n, rfl, hn⟩ := hr.sign; clear hr; have HN := Lib.hid hn; clear hn)
  go_ret
  exact ⟨ret_bool (by have := HN.out; cases h : l.any p <;> simp_all), u, rfl⟩

set_option maxHeartbeats 400000 in
theorem none_lists {α : Type} (R : World → α → List Value → Prop) (K : FuncId) (cap : List Value) (p : α → Bool) (A : Option Addr) (l : List α) (c : Nat) (w : World) (hA : RowsP w A 1 R l)
    (hK : ∀ args w, (callFunc K args).run Try.prog w = .ok (.enter K args) w)
    (hp : ∀ x ∈ l, ∀ v0, R w x [v0] → Asks Try.prog K cap w v0 (p x)) :
    Calls Try.prog 56 #[.slice A l.length c, .func (.func K) #[] cap.toArray] w fun e w' => e = .returned (.bool (!l.any p)) ∧ Aft w w' := by
  go_enter Try.func56, Try.ntmps56
  go_wp2_with (go_at_call 80; refine (contains_lists R K cap p A l c w hA hK hp).mono ?_; rintro e w' ⟨rfl, u, rfl⟩)
  go_ret
  exact ⟨rfl, u, rfl⟩

end Go.Proofs
end

section
namespace Go.Proofs
open Go.RowKit

theorem run_enters {f : Nat} {fn : Func} (h : Try.prog.funcs[f]? = some fn) (hn : (fn.name == "runtime.NumGoroutine") = false) (hb : fn.body.isNone = false) (args : Array Value) (w : World) :
    (callFunc f args).run Try.prog w = .ok (.enter f args) w := by
  unfold callFunc
  have h1 : ¬ fn.name = "runtime.NumGoroutine" := by simpa using hn
  have h2 : ¬ fn.body = none := by intro e; rw [e] at hb; cases hb
  simp [go_sem, h, h1, h2]


end Go.Proofs
end

section
namespace Go

def Region.preds (o : Oper) : List Nat := (o.after.toList.filter (Region.binds .any)).map (·.on)
def dn (listed : Array Bool) (i : Nat) : Bool := listed.getD i false
def upd (done : Nat → Bool) (i : Nat) : Nat → Bool := fun j => if j = i then true else done j

structure Held (ops : Array Oper) (Fact : Nat → Value → World → Prop) (Wd : (Nat → Bool) → World → Prop) (a0 : Act) (done : Nat → Bool) (a : Act) (w : World) : Prop where
  wd : Wd done w
  size : a.tmps.size = a0.tmps.size
  defers : a.defers = a0.defers
  closed : ∀ i o, ops[i]? = some o → done i = true → ∀ j ∈ Region.preds o, done j = true
  old : ∀ s, (∀ i o, ops[i]? = some o → o.dst = some s → done i = false) → a.eval (.tmp s) = a0.eval (.tmp s)
  fact : ∀ (i : Nat) (o : Oper) (s : Nat), ops[i]? = some o → o.dst = some s → done i = true → Fact i (a.eval (.tmp s)) w

theorem mem_ready' {md : Region.Mode} {ops : Array Oper} {listed : Array Bool} {i : Nat} (hm : md = .any) (hs : listed.size = ops.size) (h : i ∈ Region.ready md ops listed) :
    ∃ o, ops[i]? = some o ∧ dn listed i = false ∧ ∀ j ∈ Region.preds o, dn listed j = true := by
  subst hm
  unfold Region.ready at h
  rw [List.mem_filter, List.mem_range, Bool.and_eq_true] at h
  obtain ⟨h1, h2, h3⟩ := h
  have ho : ops[i]? = some ops[i] := Array.getElem?_eq_getElem h1
  refine ⟨_, ho, ?_, fun j hj => ?_⟩
  · unfold dn
    rw [Array.getD_eq_getD_getElem?] at h2 ⊢
    rw [Array.getElem?_eq_getElem (by omega)] at h2 ⊢
    simpa using h2
  · rw [ho, Option.map_some, Option.getD_some] at h3
    unfold Region.preds at hj
    rw [List.mem_map] at hj
    obtain ⟨e, he, rfl⟩ := hj
    rw [List.mem_filter] at he
    have := Array.all_eq_true'.1 h3 e (by simpa using he.1)
    rw [he.2] at this
    simpa [dn] using this

theorem all_done {ops : Array Oper} {listed : Array Bool} (hs : listed.size = ops.size) (hlt : ∀ (i : Nat) (o : Oper), ops[i]? = some o → ∀ j ∈ Region.preds o, j < i) (h : Region.ready .any ops listed = []) : ∀ i, i < ops.size → dn listed i = true := by
  intro i
  induction i using Nat.strongRecOn with
  | _ i ih =>
    intro hi
    cases hd : dn listed i with
    | true => rfl
    | false =>
      exfalso
      have ho : ops[i]? = some ops[i] := Array.getElem?_eq_getElem hi
      have : i ∈ Region.ready .any ops listed := by
        unfold Region.ready
        rw [List.mem_filter, List.mem_range, Bool.and_eq_true]
        refine ⟨hi, ?_, ?_⟩
        · unfold dn at hd
          rw [Array.getD_eq_getD_getElem?] at hd ⊢
          rw [Array.getElem?_eq_getElem (by omega)] at hd ⊢
          simpa using hd
        · rw [ho, Option.map_some, Option.getD_some, Array.all_eq_true']
          intro e he
          cases hb : Region.binds .any e with
          | false => rfl
          | true =>
            have hm : e.on ∈ Region.preds ops[i] := List.mem_map.2 ⟨e, List.mem_filter.2 ⟨by simpa using he, hb⟩, rfl⟩
            have h1 := hlt i _ ho _ hm
            have h2 := ih e.on h1 (by omega)
            simpa [dn] using h2
      rw [h] at this
      cases this

def unl (ops : Array Oper) (done : Nat → Bool) : List Nat := (List.range ops.size).filter fun i => !done i
theorem unl_lt {ops : Array Oper} {done : Nat → Bool} {i : Nat} (hi : i < ops.size) (hd : done i = false) : (unl ops (upd done i)).length < (unl ops done).length := by
  have e : unl ops (upd done i) = (unl ops done).filter fun j => !upd done i j := by
    unfold unl
    rw [List.filter_filter]
    apply List.filter_congr
    intro j _
    unfold upd
    split <;> simp
  rw [e, List.length_filter_lt_length_iff_exists]
  exact ⟨i, List.mem_filter.2 ⟨List.mem_range.2 hi, by simp [hd]⟩, by simp [upd]⟩

section
variable {P : Program} {ops : Array Oper} {Q : Exit → Act → World → Prop} {Fact : Nat → Value → World → Prop} {Wd : (Nat → Bool) → World → Prop} {a0 : Act}

theorem dn_set {listed : Array Bool} {i : Nat} (hi : i < listed.size) : dn (listed.setIfInBounds i true) = upd (dn listed) i := by
  funext j
  unfold dn upd
  rw [Array.getD_eq_getD_getElem?, Array.getElem?_setIfInBounds]
  by_cases e : i = j
  · subst e; simp [hi]
  · rw [if_neg e, if_neg (fun h => e h.symm)]
    exact (Array.getD_eq_getD_getElem? ..).symm

theorem Held.put {done : Nat → Bool} {a : Act} {w w' : World} {i : Nat} {o : Oper} {v : Value} (h : Held ops Fact Wd a0 done a w) (ho : ops[i]? = some o) (hd : done i = false) (hp : ∀ j ∈ Region.preds o, done j = true)
    (hdst : ∀ (i j : Nat) (oi oj : Oper) (s : Nat), ops[i]? = some oi → ops[j]? = some oj → oi.dst = some s → oj.dst = some s → i = j) (hin : ∀ (i : Nat) (o : Oper) (s : Nat), ops[i]? = some o → o.dst = some s → s < a0.tmps.size)
    (hf : Fact i v w') (hw : Wd (upd done i) w') (hk : ∀ j, done j = true → ∀ u, Fact j u w → Fact j u w') : Held ops Fact Wd a0 (upd done i) (a.put o.dst v) w' := by
  refine ⟨hw, ?_, ?_, fun k ok hk' hdk j hj => ?_, fun s hs => ?_, fun k ok s hk' hs hdk => ?_⟩
  · rw [← h.size]; unfold Act.put; split <;> simp
  · rw [← h.defers]; unfold Act.put; split <;> rfl
  · unfold upd at hdk ⊢
    by_cases e : j = i
    · rw [if_pos e]
    · rw [if_neg e]
      by_cases e2 : k = i
      · subst e2
        rw [ho] at hk'; cases hk'
        exact hp j hj
      · rw [if_neg e2] at hdk
        exact h.closed k ok hk' hdk j hj
  · have hne : ∀ d, o.dst = some d → (Operand.tmp s) ≠ .tmp d := fun d hd' e => by
      cases e
      have := hs i o ho hd'
      simp [upd] at this
    rw [Act.eval_put hne]
    refine h.old s fun k ok hk' hs' => ?_
    have := hs k ok hk' hs'
    unfold upd at this
    split at this
    · cases this
    · exact this
  · by_cases e : k = i
    · subst e
      rw [ho] at hk'; cases hk'
      rw [hs, Act.eval_put_same _ _ _ (by rw [h.size]; exact hin k o s ho hs)]
      exact hf
    · unfold upd at hdk
      rw [if_neg e] at hdk
      have hne : ∀ d, o.dst = some d → (Operand.tmp s) ≠ .tmp d := fun d hd' e2 => by
        cases e2
        exact e (hdst k i ok o s hk' ho hs hd')
      rw [Act.eval_put hne]
      exact hk k hdk _ (h.fact k ok s hk' hs hdk)

theorem wpAny_facts (hg : ∀ (i : Nat) (o : Oper), ops[i]? = some o → o.guard = none) (hdst : ∀ (i j : Nat) (oi oj : Oper) (s : Nat), ops[i]? = some oi → ops[j]? = some oj → oi.dst = some s → oj.dst = some s → i = j) (hin : ∀ (i : Nat) (o : Oper) (s : Nat), ops[i]? = some o → o.dst = some s → s < a0.tmps.size)
    (hlt : ∀ (i : Nat) (o : Oper), ops[i]? = some o → ∀ j ∈ Region.preds o, j < i)
    (step : ∀ (i : Nat) (o : Oper), ops[i]? = some o → ∀ (done : Nat → Bool) (a : Act) (w : World), Held ops Fact Wd a0 done a w → done i = false → (∀ j ∈ Region.preds o, done j = true) → ∀ K : Act → World → Prop,
      (∀ (v : Value) (w' : World), Fact i v w' → Wd (upd done i) w' → (∀ j, done j = true → ∀ u, Fact j u w → Fact j u w') → K (a.put o.dst v) w') → Oper.wp P o a w K Q)
    (fin : ∀ (done : Nat → Bool) (a : Act) (w : World), (∀ i, i < ops.size → done i = true) → Held ops Fact Wd a0 done a w → Q .normal a w) :
    ∀ (fuel : Nat) (listed : Array Bool) (a : Act) (w : World), listed.size = ops.size → Held ops Fact Wd a0 (dn listed) a w → (unl ops (dn listed)).length ≤ fuel → wpAny P .any ops Q fuel listed a w
  | 0, listed, a, w, hs, h, hf => by
    have hd : ∀ i, i < ops.size → dn listed i = true := fun i hi => by
      cases hd : dn listed i with
      | true => rfl
      | false =>
        have : i ∈ unl ops (dn listed) := List.mem_filter.2 ⟨List.mem_range.2 hi, by simp [hd]⟩
        have hz : unl ops (dn listed) = [] := List.eq_nil_of_length_eq_zero (by omega)
        rw [hz] at this
        cases this
    refine ⟨?_, fin _ a w hd h⟩
    cases hr : Region.ready .any ops listed with
    | nil => rfl
    | cons i r =>
      obtain ⟨o, ho, h1, _⟩ := mem_ready' rfl hs (show i ∈ Region.ready .any ops listed by rw [hr]; simp)
      rw [hd i (Array.getElem?_eq_some_iff.1 ho).1] at h1
      cases h1
  | fuel + 1, listed, a, w, hs, h, hf => by
    refine ⟨fun hr => fin _ a w (all_done hs hlt hr) h, fun i hi => ?_⟩
    obtain ⟨o, ho, h1, h2⟩ := mem_ready' rfl hs hi
    have hio := (Array.getElem?_eq_some_iff.1 ho).1
    unfold wpOp
    simp only [ho]
    have hw : Region.wanted o (yielded ops a.tmps) = true := by simp [Region.wanted, hg i o ho]
    rw [if_pos hw]
    refine .inl (step i o ho _ a w h h1 h2 _ fun v w' hf' hw' hk => ?_)
    refine wpAny_facts hg hdst hin hlt step fin fuel _ _ _ (by simpa using hs) ?_ ?_
    · rw [dn_set (by omega)]
      exact h.put ho h1 h2 hdst hin hf' hw' hk
    · rw [dn_set (by omega)]
      have := unl_lt (ops := ops) hio h1
      omega

theorem Held.same {done : Nat → Bool} {a : Act} {w : World} (h : Held ops Fact Wd a0 done a w) {s : Nat} (hs : s ∉ ops.toList.filterMap (·.dst)) : a.eval (.tmp s) = a0.eval (.tmp s) :=
  h.old s fun k ok hk he => absurd (List.mem_filterMap.2 ⟨ok, by rw [← Array.getElem?_toList] at hk; exact List.mem_of_getElem? hk, he⟩) hs
theorem Held.slot {done : Nat → Bool} {a : Act} {w : World} (h : Held ops Fact Wd a0 done a w) (hdst : ∀ (i j : Nat) (oi oj : Oper) (s : Nat), ops[i]? = some oi → ops[j]? = some oj → oi.dst = some s → oj.dst = some s → i = j) {i : Nat} {o : Oper} {s : Nat} (ho : ops[i]? = some o) (hs : o.dst = some s) (hd : done i = false) : a.eval (.tmp s) = a0.eval (.tmp s) :=
  h.old s fun k ok hk he => by
    have := hdst k i ok o s hk ho he hs
    subst this
    exact hd

def factsB (xs : List Oper) (n : Nat) : Bool :=
  (xs.all fun o => o.guard.isNone) && decide ((xs.filterMap (·.dst)).Nodup) && (xs.all fun o => match o.dst with | some s => decide (s < n) | none => true) && ((List.range xs.length).all fun i => match xs[i]? with | some o => (Region.preds o).all fun j => decide (j < i) | none => true)

theorem nodup_dst : ∀ {xs : List Oper}, (xs.filterMap (·.dst)).Nodup → ∀ (i j : Nat) (oi oj : Oper) (s : Nat), xs[i]? = some oi → xs[j]? = some oj → oi.dst = some s → oj.dst = some s → i = j
  | [], _, i, _, _, _, _, h, _, _, _ => by simp at h
  | o :: xs, hn, i, j, oi, oj, s, hi, hj, h1, h2 => by
    rw [List.filterMap_cons] at hn
    have hsub : (xs.filterMap (·.dst)).Nodup := by
      cases hd : o.dst with
      | none => simpa [hd] using hn
      | some d => simp [hd] at hn; exact hn.2
    have hmem : ∀ (k : Nat) (ok : Oper), xs[k]? = some ok → ok.dst = some s → s ∈ xs.filterMap (·.dst) := fun k ok hk he => List.mem_filterMap.2 ⟨ok, List.mem_of_getElem? hk, he⟩
    cases i with
    | zero =>
      cases j with
      | zero => rfl
      | succ j =>
        simp at hi hj
        subst hi
        rw [h1] at hn
        simp at hn
        exact absurd (hmem j oj hj h2) (by simpa using hn.1)
    | succ i =>
      cases j with
      | zero =>
        simp at hi hj
        subst hj
        rw [h2] at hn
        simp at hn
        exact absurd (hmem i oi hi h1) (by simpa using hn.1)
      | succ j =>
        simp at hi hj
        rw [nodup_dst hsub i j oi oj s hi hj h1 h2]

theorem wp_region_facts {id : Nat} {xs : List Oper} {w : World} (hm : P.follows .mixedOrders = true) (n : Nat) (hn : a0.tmps.size = n) (hB : factsB xs n = true)
    (Fact : Nat → Value → World → Prop) (Wd : (Nat → Bool) → World → Prop) (h0 : Wd (fun _ => false) w.drew)
    (step : ∀ (i : Nat) (o : Oper), xs[i]? = some o → ∀ (done : Nat → Bool) (a : Act) (w : World), Held xs.toArray Fact Wd a0 done a w → done i = false → (∀ j ∈ Region.preds o, done j = true) → ∀ K : Act → World → Prop,
      (∀ (v : Value) (w' : World), Fact i v w' → Wd (upd done i) w' → (∀ j, done j = true → ∀ u, Fact j u w → Fact j u w') → K (a.put o.dst v) w') → Oper.wp P o a w K Q)
    (fin : ∀ (done : Nat → Bool) (a : Act) (w : World), (∀ i, i < xs.length → done i = true) → Held xs.toArray Fact Wd a0 done a w → Q .normal a w) : (Code.region id xs.toArray true).wp P Q a0 w := by
  unfold factsB at hB
  rw [Bool.and_eq_true, Bool.and_eq_true, Bool.and_eq_true] at hB
  obtain ⟨⟨⟨h1, h2⟩, h3⟩, h4⟩ := hB
  refine wp_region_any hm ?_
  have e0 : dn (Array.replicate xs.toArray.size false) = fun _ => false := by
    funext i
    unfold dn
    rw [Array.getD_eq_getD_getElem?, Array.getElem?_replicate]
    split <;> rfl
  refine wpAny_facts (Fact := Fact) (Wd := Wd) (a0 := a0) (fun i o ho => ?_) (fun i j oi oj s hi hj => nodup_dst (of_decide_eq_true h2) i j oi oj s (by simpa using hi) (by simpa using hj)) (fun i o s ho hs => ?_) (fun i o ho j hj => ?_)
    (fun i o ho => step i o (by simpa using ho)) (fun done a w hd => fin done a w (by simpa using hd)) _ _ _ _ (by simp) ?_ ?_
  · have := List.all_eq_true.1 h1 o (List.mem_of_getElem? (by simpa using ho))
    simpa using this
  · have := List.all_eq_true.1 h3 o (List.mem_of_getElem? (by simpa using ho))
    rw [hs] at this
    rw [hn]
    simpa using this
  · have ho' : xs[i]? = some o := by simpa using ho
    have := List.all_eq_true.1 h4 i (List.mem_range.2 (List.getElem?_eq_some_iff.1 ho').1)
    rw [ho'] at this
    have := List.all_eq_true.1 this j hj
    simpa using this
  · rw [e0]
    exact ⟨h0, rfl, rfl, (fun i o _ h => by cases h), (fun s _ => rfl), (fun i o s _ _ h => by cases h)⟩
  · have : (unl xs.toArray (dn (Array.replicate xs.toArray.size false))).length ≤ (List.range xs.toArray.size).length := List.length_filter_le _ _
    simpa using this
end
end Go
end

section
namespace Go

structure HeldG (ops : Array Oper) (Fact : (Nat → Bool) → Nat → Value → World → Prop) (Wd : (Nat → Bool) → Act → World → Prop) (a0 : Act) (done : Nat → Bool) (a : Act) (w : World) : Prop where
  wd : Wd done a w
  size : a.tmps.size = a0.tmps.size
  defers : a.defers = a0.defers
  closed : ∀ i o, ops[i]? = some o → done i = true → ∀ j ∈ Region.preds o, done j = true
  old : ∀ s, (∀ i o, ops[i]? = some o → o.dst = some s → done i = false) → a.eval (.tmp s) = a0.eval (.tmp s)
  fact : ∀ (i : Nat) (o : Oper) (s : Nat), ops[i]? = some o → o.dst = some s → done i = true → Fact done i (a.eval (.tmp s)) w

section
variable {P : Program} {ops : Array Oper} {Q : Exit → Act → World → Prop} {Fact : (Nat → Bool) → Nat → Value → World → Prop} {Wd : (Nat → Bool) → Act → World → Prop} {a0 : Act}

theorem HeldG.put {done : Nat → Bool} {a : Act} {w w' : World} {i : Nat} {o : Oper} {v : Value} (h : HeldG ops Fact Wd a0 done a w) (ho : ops[i]? = some o) (hd : done i = false) (hp : ∀ j ∈ Region.preds o, done j = true)
    (hdst : ∀ (i j : Nat) (oi oj : Oper) (s : Nat), ops[i]? = some oi → ops[j]? = some oj → oi.dst = some s → oj.dst = some s → i = j) (hin : ∀ (i : Nat) (o : Oper) (s : Nat), ops[i]? = some o → o.dst = some s → s < a0.tmps.size)
    (hf : Fact (upd done i) i v w') (hw : Wd (upd done i) (a.put o.dst v) w') (hk : ∀ (j : Nat) (oj : Oper) (s : Nat), ops[j]? = some oj → oj.dst = some s → done j = true → Fact done j (a.eval (.tmp s)) w → Fact (upd done i) j (a.eval (.tmp s)) w') : HeldG ops Fact Wd a0 (upd done i) (a.put o.dst v) w' := by
  refine ⟨hw, ?_, ?_, fun k ok hk' hdk j hj => ?_, fun s hs => ?_, fun k ok s hk' hs hdk => ?_⟩
  · rw [← h.size]; unfold Act.put; split <;> simp
  · rw [← h.defers]; unfold Act.put; split <;> rfl
  · unfold upd at hdk ⊢
    by_cases e : j = i
    · rw [if_pos e]
    · rw [if_neg e]
      by_cases e2 : k = i
      · subst e2
        rw [ho] at hk'; cases hk'
        exact hp j hj
      · rw [if_neg e2] at hdk
        exact h.closed k ok hk' hdk j hj
  · have hne : ∀ d, o.dst = some d → (Operand.tmp s) ≠ .tmp d := fun d hd' e => by
      cases e
      have := hs i o ho hd'
      simp [upd] at this
    rw [Act.eval_put hne]
    refine h.old s fun k ok hk' hs' => ?_
    have := hs k ok hk' hs'
    unfold upd at this
    split at this
    · cases this
    · exact this
  · by_cases e : k = i
    · subst e
      rw [ho] at hk'; cases hk'
      rw [hs, Act.eval_put_same _ _ _ (by rw [h.size]; exact hin k o s ho hs)]
      exact hf
    · unfold upd at hdk
      rw [if_neg e] at hdk
      have hne : ∀ d, o.dst = some d → (Operand.tmp s) ≠ .tmp d := fun d hd' e2 => by
        cases e2
        exact e (hdst k i ok o s hk' ho hs hd')
      rw [Act.eval_put hne]
      exact hk k ok s hk' hs hdk (h.fact k ok s hk' hs hdk)

theorem wpAny_factsG (hdst : ∀ (i j : Nat) (oi oj : Oper) (s : Nat), ops[i]? = some oi → ops[j]? = some oj → oi.dst = some s → oj.dst = some s → i = j) (hin : ∀ (i : Nat) (o : Oper) (s : Nat), ops[i]? = some o → o.dst = some s → s < a0.tmps.size)
    (hlt : ∀ (i : Nat) (o : Oper), ops[i]? = some o → ∀ j ∈ Region.preds o, j < i)
    (step : ∀ (i : Nat) (o : Oper), ops[i]? = some o → ∀ (done : Nat → Bool) (a : Act) (w : World), HeldG ops Fact Wd a0 done a w → done i = false → (∀ j ∈ Region.preds o, done j = true) → ∀ K : Act → World → Prop,
      (∀ (v : Value) (w' : World), Fact (upd done i) i v w' → Wd (upd done i) (a.put o.dst v) w' → (∀ (j : Nat) (oj : Oper) (s : Nat), ops[j]? = some oj → oj.dst = some s → done j = true → Fact done j (a.eval (.tmp s)) w → Fact (upd done i) j (a.eval (.tmp s)) w') → K (a.put o.dst v) w') → if Region.wanted o (yielded ops a.tmps) = true then Oper.wp P o a w K Q else K (a.put o.dst undef) w)
    (fin : ∀ (done : Nat → Bool) (a : Act) (w : World), (∀ i, i < ops.size → done i = true) → HeldG ops Fact Wd a0 done a w → Q .normal a w) :
    ∀ (fuel : Nat) (listed : Array Bool) (a : Act) (w : World), listed.size = ops.size → HeldG ops Fact Wd a0 (dn listed) a w → (unl ops (dn listed)).length ≤ fuel → wpAny P .any ops Q fuel listed a w
  | 0, listed, a, w, hs, h, hf => by
    have hd : ∀ i, i < ops.size → dn listed i = true := fun i hi => by
      cases hd : dn listed i with
      | true => rfl
      | false =>
        have : i ∈ unl ops (dn listed) := List.mem_filter.2 ⟨List.mem_range.2 hi, by simp [hd]⟩
        have hz : unl ops (dn listed) = [] := List.eq_nil_of_length_eq_zero (by omega)
        rw [hz] at this
        cases this
    refine ⟨?_, fin _ a w hd h⟩
    cases hr : Region.ready .any ops listed with
    | nil => rfl
    | cons i r =>
      obtain ⟨o, ho, h1, _⟩ := mem_ready' rfl hs (show i ∈ Region.ready .any ops listed by rw [hr]; simp)
      rw [hd i (Array.getElem?_eq_some_iff.1 ho).1] at h1
      cases h1
  | fuel + 1, listed, a, w, hs, h, hf => by
    refine ⟨fun hr => fin _ a w (all_done hs hlt hr) h, fun i hi => ?_⟩
    obtain ⟨o, ho, h1, h2⟩ := mem_ready' rfl hs hi
    have hio := (Array.getElem?_eq_some_iff.1 ho).1
    unfold wpOp
    simp only [ho]
    have hst := step i o ho _ a w h h1 h2 (wpAny P .any ops Q fuel (listed.setIfInBounds i true)) fun v w' hf' hw' hk => by
      refine wpAny_factsG hdst hin hlt step fin fuel _ _ _ (by simpa using hs) ?_ ?_
      · rw [dn_set (by omega)]
        exact h.put ho h1 h2 hdst hin hf' hw' hk
      · rw [dn_set (by omega)]
        have := unl_lt (ops := ops) hio h1
        omega
    by_cases hw : Region.wanted o (yielded ops a.tmps) = true
    · rw [if_pos hw] at hst ⊢
      exact .inl hst
    · rw [if_neg hw] at hst ⊢
      exact hst

theorem HeldG.same {done : Nat → Bool} {a : Act} {w : World} (h : HeldG ops Fact Wd a0 done a w) {s : Nat} (hs : s ∉ ops.toList.filterMap (·.dst)) : a.eval (.tmp s) = a0.eval (.tmp s) :=
  h.old s fun k ok hk he => absurd (List.mem_filterMap.2 ⟨ok, by rw [← Array.getElem?_toList] at hk; exact List.mem_of_getElem? hk, he⟩) hs

def factsGB (xs : List Oper) (n : Nat) : Bool :=
  decide ((xs.filterMap (·.dst)).Nodup) && (xs.all fun o => match o.dst with | some s => decide (s < n) | none => true) && ((List.range xs.length).all fun i => match xs[i]? with | some o => (Region.preds o).all fun j => decide (j < i) | none => true)

theorem wp_region_factsG {id : Nat} {xs : List Oper} {w : World} (hm : P.follows .mixedOrders = true) (n : Nat) (hn : a0.tmps.size = n) (hB : factsGB xs n = true)
    (Fact : (Nat → Bool) → Nat → Value → World → Prop) (Wd : (Nat → Bool) → Act → World → Prop) (h0 : Wd (fun _ => false) a0 w.drew)
    (step : ∀ (i : Nat) (o : Oper), xs[i]? = some o → ∀ (done : Nat → Bool) (a : Act) (w : World), HeldG xs.toArray Fact Wd a0 done a w → done i = false → (∀ j ∈ Region.preds o, done j = true) → ∀ K : Act → World → Prop,
      (∀ (v : Value) (w' : World), Fact (upd done i) i v w' → Wd (upd done i) (a.put o.dst v) w' → (∀ (j : Nat) (oj : Oper) (s : Nat), xs[j]? = some oj → oj.dst = some s → done j = true → Fact done j (a.eval (.tmp s)) w → Fact (upd done i) j (a.eval (.tmp s)) w') → K (a.put o.dst v) w') → if Region.wanted o (yielded xs.toArray a.tmps) = true then Oper.wp P o a w K Q else K (a.put o.dst undef) w)
    (fin : ∀ (done : Nat → Bool) (a : Act) (w : World), (∀ i, i < xs.length → done i = true) → HeldG xs.toArray Fact Wd a0 done a w → Q .normal a w) : (Code.region id xs.toArray true).wp P Q a0 w := by
  unfold factsGB at hB
  rw [Bool.and_eq_true, Bool.and_eq_true] at hB
  obtain ⟨⟨h2, h3⟩, h4⟩ := hB
  refine wp_region_any hm ?_
  have e0 : dn (Array.replicate xs.toArray.size false) = fun _ => false := by
    funext i
    unfold dn
    rw [Array.getD_eq_getD_getElem?, Array.getElem?_replicate]
    split <;> rfl
  refine wpAny_factsG (Fact := Fact) (Wd := Wd) (a0 := a0) (fun i j oi oj s hi hj => nodup_dst (of_decide_eq_true h2) i j oi oj s (by simpa using hi) (by simpa using hj)) (fun i o s ho hs => ?_) (fun i o ho j hj => ?_)
    (fun i o ho done a w h hd hp K hK => step i o (by simpa using ho) done a w h hd hp K (fun v w' h1 h2 h3 => hK v w' h1 h2 (fun j oj s hj => h3 j oj s (by simpa using hj)))) (fun done a w hd => fin done a w (by simpa using hd)) _ _ _ _ (by simp) ?_ ?_
  · have := List.all_eq_true.1 h3 o (List.mem_of_getElem? (by simpa using ho))
    rw [hs] at this
    rw [hn]
    simpa using this
  · have ho' : xs[i]? = some o := by simpa using ho
    have := List.all_eq_true.1 h4 i (List.mem_range.2 (List.getElem?_eq_some_iff.1 ho').1)
    rw [ho'] at this
    have := List.all_eq_true.1 this j hj
    simpa using this
  · rw [e0]
    exact ⟨h0, rfl, rfl, (fun i o _ h => by cases h), (fun s _ => rfl), (fun i o s _ _ h => by cases h)⟩
  · have : (unl xs.toArray (dn (Array.replicate xs.toArray.size false))).length ≤ (List.range xs.toArray.size).length := List.length_filter_le _ _
    simpa using this
end
end Go
end

section
namespace Go
open Go.RowKit

theorem wpList_app_at {P : Program} {w : World} {ops : Array Oper} {rest : List Oper} {o : Oper} {a : Act} {Q : Exit → Act → World → Prop} {t e : TypeId} {size bytes : Nat} (hT : SliceTy P t e size bytes)
    (hgd : o.guard = none) (s x : Operand) (ho : o.op = .call { callee := .builtin .append, args := #[s, x], argTypes := #[t, t] })
    {base : Nat} (hbase : base ≤ w.heap.size) {v : Value} {n : Nat} {xs : List Value} (hs : a.eval s = v) (hown : w.ownsRow base e size v n xs)
    {A : Option Addr} {m c : Nat} {news : List Value} (hx : a.eval x = .slice A m c) (hl : news.length = m * size) (hA : A = none → m = 0)
    (hnews : ∀ ad, A = some ad → ∀ j u, news[j]? = some u → w.cell? (ad.add j) = some u) (h1 : ∀ u ∈ news, u.oneCell' = true)
    (hbytes : (n + m) * bytes ≤ 140737488355328) (hpos : 0 < bytes)
    (h : ∀ v' w', w'.ownsRow base e size v' (n + m) (xs ++ news) → w.grownBy w' v.ownBlock → wpList P ops Q rest (a.put o.dst v') w') : wpList P ops Q (o :: rest) a w := by
  obtain ⟨ht, ⟨i, z, hi, hz, hsize, hby, hzs⟩, hsz⟩ := hT
  have h63 : n + m ≤ maxLen := by
    have : (n + m) * 1 ≤ (n + m) * bytes := Nat.mul_le_mul_left _ hpos
    unfold maxLen; omega
  cases A with
  | some ad =>
    exact wpList_append_own w hgd s x t ho base e i z size bytes ht hi hz hsize hby hzs hsz v n xs hs hown ad m c news hx hl (hnews ad rfl) h1 h63 hbytes hbase
      fun v' w' h2 h3 _ => h v' w' h2 h3
  | none =>
    have hm := hA rfl
    subst hm
    have hn : news = [] := List.eq_nil_of_length_eq_zero (by simpa using hl)
    subst hn
    refine wpList_plain hgd fun K hK => ?_
    have hr := run_app_none (ty := o.type) ht hi hown c
    unfold Oper.wp execOp
    simp only [ho, resolve, invoke, builtin, Sem.run_bind, Sem.run_pure, Result.andThen_ok, List.map_toArray, List.map_cons, List.map_nil, hs, hx, hr]
    exact hK _ _ (h v w (by simpa using hown) (World.grownBy.refl w _))

theorem src_one (W : World) (v : Value) (t : TypeId) : ∀ ad, some (⟨W.heap.size, 0, none⟩ : Addr) = some ad → ∀ j u, [v][j]? = some u → (W.alloc (.cells #[v] t)).cell? (ad.add j) = some u := by
  intro ad e j u h
  cases e
  exact src_new W #[v] t j u h
theorem src_at (W : World) (v : Value) (t : TypeId) (b : Nat) (hb : b = W.heap.size) : ∀ ad, some (⟨b, 0, none⟩ : Addr) = some ad → ∀ j u, [v][j]? = some u → (W.alloc (.cells #[v] t)).cell? (ad.add j) = some u := by
  subst hb; exact src_one W v t
theorem one_int (x : Int) : ∀ u ∈ [Value.int .i64 x], u.oneCell' = true := by intro u hu; rw [List.mem_singleton] at hu; subst hu; rfl
theorem cell_grown9 {w w' : World} {row : Option Nat} (hg : w.grownBy w' row) {b i : Nat} (hb : b < w.heap.size) (hr : some b ≠ row) : w'.cell? ⟨b, i, none⟩ = w.cell? ⟨b, i, none⟩ := World.cell?_of_block (hg.block b hb hr)
theorem frozen_grown {w w' : World} {row : Option Nat} (hg : w.grownBy w' row) {b i : Nat} (hb : b < w.heap.size) (hr : some b ≠ row) : w'.frozen? ⟨b, i, none⟩ = w.frozen? ⟨b, i, none⟩ := World.frozen?_of_block (hg.block b hb hr)
end Go
end

section
namespace Go.Proofs
open Go.RowKit

structure Kept3 (B : Nat) (W W' : World) : Prop where
  size : W.heap.size ≤ W'.heap.size
  same : ∀ j, B ≤ j → j ≤ B + 2 → W'.heap[j]? = W.heap[j]?
theorem Kept3.trans {B : Nat} {W W' W'' : World} (h : Kept3 B W W') (k : Kept3 B W' W'') : Kept3 B W W'' := ⟨Nat.le_trans h.size k.size, fun j h1 h2 => (k.same j h1 h2).trans (h.same j h1 h2)⟩
theorem Kept3.of_aft {B : Nat} {W W' : World} (h : Aft W W') (hB : B + 3 ≤ W.heap.size) : Kept3 B W W' := ⟨h.size, fun j _ h2 => h.below.block j (by omega)⟩
theorem Kept3.of_grown {B : Nat} {W W' : World} {row : Option Nat} (h : W.grownBy W' row) (hB : B + 3 ≤ W.heap.size) (hr : ∀ k, row = some k → k < B ∨ B + 3 ≤ k) : Kept3 B W W' :=
  ⟨h.size, fun j h1 h2 => h.block j (by omega) (fun e => by have := hr j e.symm; omega)⟩

theorem Kept3.setCell {B : Nat} {W W' : World} (h : Kept3 B W W') {p : Addr} (hp : p.block < B ∨ B + 3 ≤ p.block) (v : Value) : Kept3 B W (W'.setCell p v) :=
  ⟨by have := h.size; simpa [World.setCell] using this, fun j h1 h2 => (Below.heap_setCell W' p v j (by omega)).trans (h.same j h1 h2)⟩
theorem own_kept {w w' : World} {base : Nat} {e : TypeId} {size : Nat} {v : Value} {n : Nat} {xs : List Value} (h : w.ownsRow base e size v n xs) {r : Nat} (hg : w.grownBy w' (some r)) (hr : r < base) : w'.ownsRow base e size v n xs :=
  h.kept hg (by
    cases hb : v.ownBlock with
    | none => exact .inl rfl
    | some g => exact .inr fun e => by cases e; have := own_ge h _ hb; omega)

def Three {β : Type} (B : Nat) (I : β → World → Prop) : Prop := ∀ s W W' r, I s W → W.grownBy W' (some r) → B ≤ r → r ≤ B + 2 → I s W'

def post3 (B : Nat) (I : Nat → World → Prop) (Ix : Code → World → Prop) (k : Nat) (W : World) : Exit → Act → World → Prop
  | .normal, _, W' => Kept3 B W W' ∧ I k W'
  | .ret, _, W' => Kept3 B W W' ∧ Ix .ret W'
  | .exit id, _, W' => Kept3 B W W' ∧ Ix (.exit id) W'
  | .goto t, _, W' => Kept3 B W W' ∧ Ix (.goto t) W'
  | .panic _, _, _ => False
  | .outgrown, _, _ => False

def IterOk (n : Nat) (gf : Nat) (lb : Array Value) (B N : Nat) (Gv : Nat → World → World → Value → Prop) (Rep : World → Prop) : Prop :=
  ∀ (l : Nat) (J : Nat → World → Prop) (Jx : World → Prop) (W : World), W.heap.size = B + 2 → (∀ k W W', J k W → W.grownBy W' (some (B + 2)) → J k W') → (∀ k W, J k W → Rep W) →
    (∀ k v W0 W1, k < N → J k W0 → Aft W0 W1 → B + 3 ≤ W0.heap.size → Gv k W0 W1 v → YieldAt Fence.wide (n - 1) Try.prog l #[v] W1 fun e W' =>
      (e = .returned (.bool true) ∧ J (k + 1) W' ∧ W'.heap[B + 2]? = W1.heap[B + 2]? ∧ W1.heap.size ≤ W'.heap.size) ∨ (e = .returned (.bool false) ∧ Jx W')) →
    J 0 W →
    CallsIn Fence.wide n Try.prog gf (#[.func (.yield l) #[] #[]] ++ lb) W fun e W' => (∃ v, e = .returned v) ∧ (J N W' ∨ Jx W')

theorem below_put {W W' : World} {l : Nat} (h : Below W.heap.size W W') (hl : l < W.heap.size) (o : Obj) : Below (W.putObj l o).heap.size (W.putObj l o) (W'.putObj l o) := by
  have hs := h.size
  refine ⟨h.os, h.tape, h.output, by simpa [World.putObj] using hs, fun k hk => ?_⟩
  have hk' : k < W.heap.size := by simpa [World.putObj] using hk
  by_cases e : k = l
  · subst e
    rw [World.putObj_heap_same (by omega), World.putObj_heap_same hl]
  · rw [World.putObj_heap_other e, World.putObj_heap_other e]
    exact h.block k hk'

theorem wpIn_range3 {g : Operand} {p : Tmp} {assign body : Code} {Q : Exit → Act → World → Prop} {a : Act} {w : World} {n : Nat} {gf : Nat} {lb : Array Value} (hg : a.eval g = .func (.func gf) #[] lb) (eg : ∀ args w, (callFunc gf args).run Try.prog w = .ok (.enter gf args) w)
    {N : Nat} {Gv : Nat → World → World → Value → Prop} {Rep : World → Prop} (hseq : IterOk (n - 1) gf lb w.heap.size N Gv Rep)
    (hGv : ∀ k W0 W v (r : Nat) (o : Obj), Gv k W0 W v → r < W0.heap.size → Gv k (W0.putObj r o) (W.putObj r o) v)
    (I : Nat → World → Prop) (Ix : Code → World → Prop) (hI : Three w.heap.size I) (hIx : ∀ c, Three w.heap.size (fun (_ : Unit) => Ix c)) (hrep : ∀ k W, I k W → Rep W) (h0 : I 0 w) (a₁ : Value → Act)
    (hassign : ∀ (l : Nat) (v : Value) (W : World) (K : Act → World → Prop), K (a₁ v) W →
      assign.wpIn (Fence.wide.inRound l) (n - 1 - 1) Try.prog (Exit.then K (fun _ _ _ => False)) { tmps := a.tmps.setIfInBounds p v, defers := [] } W)
    (hbody : ∀ (l k : Nat) (v : Value) (W0 W : World), k < N → I k W0 → Aft W0 W → w.heap.size + 3 ≤ W0.heap.size → Gv k W0 W v → body.wpIn (Fence.wide.inRound l) (n - 1 - 1) Try.prog (post3 w.heap.size I Ix (k + 1) W) (a₁ v) W)
    (hdone : ∀ (D : Nat) (W : World), w.heap.size = D → I N W → W.heap[D]? = some (.deferred (some [])) → Q .normal { a with defers := { target := .collected D, args := #[] } :: a.defers } W)
    (hstop : ∀ (D : Nat) (c : Code) (W : World), w.heap.size = D → Ix c W → W.heap[D]? = some (.deferred (some [])) → c.wpIn Fence.wide n Try.prog Q { a with defers := { target := .collected D, args := #[] } :: a.defers } W) :
    (Code.rangeFunc g #[p] assign body).wpIn Fence.wide n Try.prog Q a w := by
  refine wpIn_rangeFunc ?_
  intro fn hfn
  obtain ⟨rec, hrec⟩ : ∃ rec : LoopState → Option Code → Loop, rec = fun st pe => { state := st, pending := pe, fn, tmps := a.tmps, params := #[p], assign, body, defers := w.heap.size } := ⟨_, rfl⟩
  obtain ⟨W1, hW1⟩ : ∃ W1, (w.alloc (.deferred (some []))).alloc (.loop (rec .ready none)) = W1 := ⟨_, rfl⟩
  have hL1 : W1.heap[w.heap.size + 1]? = some (.loop (rec .ready none)) := by
    rw [← hW1]; have := World.alloc_heap_new (w.alloc (.deferred (some []))) (.loop (rec .ready none)); rwa [World.size_alloc] at this
  have hK1 : W1.heap[w.heap.size]? = some (.deferred (some [])) := by
    rw [← hW1]; exact (Below.heap_alloc _ _ _ (by simp)).trans (World.alloc_heap_new w _)
  have hs1 : W1.heap.size = w.heap.size + 2 := by rw [← hW1]; simp
  have hI1 : I 0 W1 := by
    have := only_of_aft ((Aft.alloc w (.deferred (some []))).then_alloc (.loop (rec .ready none))) (some w.heap.size)
    rw [hW1] at this
    exact hI _ _ _ _ h0 this (Nat.le_refl _) (by omega)
  refine ⟨w.heap.size + 1, [{ target := .collected w.heap.size, args := #[] }], W1, { target := .fn (.func gf) lb, args := #[.func (.yield (w.heap.size + 1)) #[] #[]] }, W1, gf,
    #[.func (.yield (w.heap.size + 1)) #[] #[]] ++ lb, W1, ?_, ?_, ?_, ?_, (fun h => by cases h), ?_⟩
  · rw [← hW1, hrec]; exact run_enterLoop_outer _ _ _ _ _
  · simp only [resolve, hg]
    simp [go_sem]
  · intro f' hf'; trivial
  · simp [invoke, go_sem, eg]
  · refine (hseq (w.heap.size + 1)
      (fun k W => I k W ∧ W.heap[w.heap.size + 1]? = some (.loop (rec .ready none)) ∧ W.heap[w.heap.size]? = some (.deferred (some [])))
      (fun W => ∃ c, Ix c W ∧ W.heap[w.heap.size + 1]? = some (.loop (rec .done (some c))) ∧ W.heap[w.heap.size]? = some (.deferred (some [])))
      W1 hs1 ?_ (fun k W h => hrep k W h.1) ?_ ⟨hI1, hL1, hK1⟩).mono ?_
    · rintro k W W' ⟨hi, hl, hk⟩ hg'
      have hl1 := (Array.getElem?_eq_some_iff.1 hl).1
      have hl0 := (Array.getElem?_eq_some_iff.1 hk).1
      exact ⟨hI _ _ _ _ hi hg' (by omega) (Nat.le_refl _), (hg'.block _ hl1 (by simp)).trans hl, (hg'.block _ hl0 (by simp)).trans hk⟩
    · rintro k v W0 W hkN ⟨hi, hl', hk'⟩ ha hB hgv
      have hl : W.heap[w.heap.size + 1]? = some (.loop (rec .ready none)) := (ha.below.block _ (by omega)).trans hl'
      have hk : W.heap[w.heap.size]? = some (.deferred (some [])) := (ha.below.block _ (by omega)).trans hk'
      have hlt : w.heap.size + 1 < W.heap.size := (Array.getElem?_eq_some_iff.1 hl).1
      have hy := run_yield (P := Try.prog) (args := #[v]) hl (by rw [hrec]; rfl)
      rw [hrec] at hy
      have hz : ((#[p] : Array Tmp).zip #[v]).foldl (fun tmps (t, a) => tmps.setIfInBounds t a) a.tmps = a.tmps.setIfInBounds p v := by simp
      dsimp only at hy
      rw [hz] at hy
      refine ⟨fn, _, assign, body, hy, ?_⟩
      refine roundIn_of_wpIn hfn ?_
      refine hassign _ v W _ ?_
      refine ⟨_, run_beginRound hl (by rw [hrec]), ?_⟩
      have hl2 : (W.putObj (w.heap.size + 1) (.loop { rec .ready none with state := .busy })).heap[w.heap.size + 1]? = some (.loop { rec .ready none with state := .busy }) := World.putObj_heap_same hlt
      have hk2 : (W.putObj (w.heap.size + 1) (.loop { rec .ready none with state := .busy })).heap[w.heap.size]? = some (.deferred (some [])) := (World.putObj_heap_other (by omega)).trans hk
      have hsz2 : (W.putObj (w.heap.size + 1) (.loop { rec .ready none with state := .busy })).heap.size = W.heap.size := by simp [World.putObj]
      refine wpIn_mono (hbody _ k v (W0.putObj (w.heap.size + 1) (.loop { rec .ready none with state := .busy })) _ hkN (hI _ _ _ _ hi (grownBy_putObj' _ _ _) (by omega) (by omega)) (Aft.of_below (below_put ha.below (by omega) _)) (by simpa [World.putObj] using hB) (hGv _ _ _ _ _ _ hgv (by omega))) ?_
      have fin : ∀ (jump : Option Code) (W3 : World), Kept3 w.heap.size (W.putObj (w.heap.size + 1) (.loop { rec .ready none with state := .busy })) W3 →
          (Instr.endRound (w.heap.size + 1) jump).run Try.prog W3 = .ok (.bool jump.isNone) (W3.putObj (w.heap.size + 1) (.loop (rec (if jump.isNone then .ready else .done) jump))) ∧
          (W3.putObj (w.heap.size + 1) (.loop (rec (if jump.isNone then .ready else .done) jump))).heap[w.heap.size + 1]? = some (.loop (rec (if jump.isNone then .ready else .done) jump)) ∧
          (W3.putObj (w.heap.size + 1) (.loop (rec (if jump.isNone then .ready else .done) jump))).heap[w.heap.size]? = some (.deferred (some [])) ∧
          (W3.putObj (w.heap.size + 1) (.loop (rec (if jump.isNone then .ready else .done) jump))).heap[w.heap.size + 2]? = W.heap[w.heap.size + 2]? ∧ W.heap.size ≤ (W3.putObj (w.heap.size + 1) (.loop (rec (if jump.isNone then .ready else .done) jump))).heap.size := fun jump W3 hk3 => by
        have hl3 := (hk3.same _ (by omega) (by omega)).trans hl2
        have := run_endRound (P := Try.prog) jump hl3
        rw [hrec] at this ⊢
        exact ⟨this, World.putObj_heap_same (Array.getElem?_eq_some_iff.1 hl3).1, (World.putObj_heap_other (by omega)).trans ((hk3.same _ (by omega) (by omega)).trans hk2), (World.putObj_heap_other (by omega)).trans ((hk3.same _ (by omega) (by omega)).trans (World.putObj_heap_other (by omega))), by have := hk3.size; simp [World.putObj] at this ⊢; exact this⟩
      rintro e a3 W3 hp
      cases e with
      | normal =>
        obtain ⟨hk3, hi3⟩ := hp
        obtain ⟨hr, hl4, hk4, h5, h6⟩ := fin none W3 hk3
        exact ⟨_, _, hr, .inl ⟨rfl, ⟨hI _ _ _ _ hi3 (grownBy_putObj' _ _ _) (by omega) (by omega), hl4, hk4⟩, h5, h6⟩⟩
      | ret =>
        obtain ⟨hk3, hi3⟩ := hp
        obtain ⟨hr, hl4, hk4, h5, h6⟩ := fin (some .ret) W3 hk3
        exact ⟨_, _, hr, .inr ⟨rfl, .ret, hIx _ () _ _ _ hi3 (grownBy_putObj' _ _ _) (by omega) (by omega), hl4, hk4⟩⟩
      | exit id =>
        obtain ⟨hk3, hi3⟩ := hp
        obtain ⟨hr, hl4, hk4, h5, h6⟩ := fin (some (.exit id)) W3 hk3
        exact ⟨_, _, hr, .inr ⟨rfl, .exit id, hIx _ () _ _ _ hi3 (grownBy_putObj' _ _ _) (by omega) (by omega), hl4, hk4⟩⟩
      | goto t =>
        obtain ⟨hk3, hi3⟩ := hp
        obtain ⟨hr, hl4, hk4, h5, h6⟩ := fin (some (.goto t)) W3 hk3
        exact ⟨_, _, hr, .inr ⟨rfl, .goto t, hIx _ () _ _ _ hi3 (grownBy_putObj' _ _ _) (by omega) (by omega), hl4, hk4⟩⟩
      | panic ch => exact hp.elim
      | outgrown => exact hp.elim
    · rintro e W2 ⟨⟨v, rfl⟩, (⟨hi, hl, hk⟩ | ⟨c, hi, hl, hk⟩)⟩
      · exact ⟨none, _, by have := run_endLoop (P := Try.prog) hl (by rw [hrec]; simp); rw [hrec] at this; exact this, hdone _ _ rfl (hI _ _ _ _ hi (grownBy_putObj' _ _ _) (by omega) (by omega)) ((World.putObj_heap_other (by omega)).trans hk)⟩
      · exact ⟨some c, _, by have := run_endLoop (P := Try.prog) hl (by rw [hrec]; simp); rw [hrec] at this; exact this, hstop _ c _ rfl (hIx c () _ _ _ hi (grownBy_putObj' _ _ _) (by omega) (by omega)) ((World.putObj_heap_other (by omega)).trans hk)⟩
end Go.Proofs
end

section
namespace Go

theorem Oper.still_of_quiet {P : Program} {o : Oper} {a : Act} {w : World} {K : Act → Prop} (h : o.quiet P a (fun w' => w' = w) K) : o.still P a w K := by
  obtain ⟨v, h1, h2⟩ := h
  have h3 := h1 w rfl
  unfold Oper.quietAt at h3
  unfold Oper.still
  generalize (execOp a.eval o).run P w = r at *
  cases r with
  | ok n w' =>
    cases n <;> simp only [Oper.quietUpon] at h3 <;> simp only [Oper.stillUpon]
    case value u => obtain ⟨e1, e2⟩ := h3; exact ⟨e1, by rw [e2]; exact h2⟩
    case skip => obtain ⟨e1, e2⟩ := h3; exact ⟨e1, by rw [← e2]; exact h2⟩
    case enter f args => obtain ⟨e1, hc⟩ := h3; exact ⟨e1, v, hc, h2⟩
  | halt x w' => simp only [Oper.quietUpon] at h3

theorem wpStill_of_quiet {P : Program} {ops : Array Oper} {w : World} {Q : Act → Prop} : ∀ (l : List Oper) (a : Act), wpQuiet P ops (fun w' => w' = w) Q l a → wpStill P ops w Q l a
  | [], _, h => h
  | o :: rest, a, h => by
    unfold wpQuiet at h
    unfold wpStill
    split
    · rename_i hw
      rw [if_pos hw] at h
      exact Oper.still_mono (fun a' h' => wpStill_of_quiet rest a' h') (Oper.still_of_quiet h)
    · rename_i hw
      rw [if_neg hw] at h
      exact wpStill_of_quiet rest _ h

theorem wp_region_tail {P : Program} {id : Nat} {Q : Exit → Act → World → Prop} {a : Act} {w : World} {l : List Oper} (n : Nat) (hm : P.follows .mixedOrders = true) (hB : Region.lexTailB .any l.toArray n = true)
    (h : wpQuiet P l.toArray (fun w' => w' = w.drew) (fun a' => wpList P l.toArray Q (l.drop n) a' w.drew) (l.take n) a) : (Code.region id l.toArray true).wp P Q a w :=
  wp_region_still_tail n hm hB (wpStill_of_quiet _ _ h)

end Go
end

section
namespace Go
section
variable {P : Program} {ops : Array Oper} {Q : Exit → Act → World → Prop} {l n : Nat} {md : Region.Mode}

theorem Oper.in_round {o : Oper} {a : Act} {w : World} {K : Act → World → Prop} (hd : ∀ c, o.op ≠ .defer c) (h : o.wp P a w K Q) : o.wpIn (Fence.wide.inRound l) n P a w K Q := by
  unfold Oper.wpIn
  refine ⟨fun _ _ => trivial, ?_⟩
  show o.uponIn _ n P a K Q ((Oper.semAt (some l) a.eval o).run P w)
  rw [Oper.semAt_some l _ o hd]
  unfold Oper.wp at h
  generalize (execOp a.eval o).run P w = r at *
  cases r with
  | ok x w' =>
    cases x <;> simp only [Oper.upon, Oper.uponIn] at h ⊢
    case value u => exact h
    case skip => exact h
    case defer d => exact h
    case enter f args => exact ⟨(fun h => by cases h), CallsIn.inRound l (callsIn_wide.2 h)⟩
    case row r args =>
      refine ⟨(fun h => by cases h), fun c cs _ => ?_⟩
      obtain ⟨v, w2, h1, h2⟩ := h c cs
      exact ⟨v, w2, h1, stepsIn_wide.2 h2⟩
    all_goals exact h.elim
  | halt x w' => cases x <;> simp only [Oper.upon, Oper.uponIn] at h ⊢ <;> first | exact h | exact h.elim

def noDefers (l : List Oper) : Bool := l.all fun o => match o.op with | .defer _ => false | _ => true
theorem noDefers_at {l : List Oper} (h : noDefers l = true) {o : Oper} (ho : o ∈ l) : ∀ c, o.op ≠ .defer c := by
  intro c e
  have := List.all_eq_true.1 h o ho
  rw [e] at this
  cases this

theorem wpOp_in_round {i : Nat} {a : Act} {w : World} {K : Act → World → Prop} (hd : noDefers ops.toList = true) (hQ : ¬ LetsOut Q) (h : wpOp P ops Q i K a w) : wpOpIn (Fence.wide.inRound l) n P ops Q i K a w := by
  unfold wpOp at h
  unfold wpOpIn
  cases ho : ops[i]? with
  | none => simp only [ho] at h ⊢; exact h
  | some o =>
    simp only [ho] at h ⊢
    have hm : o ∈ ops.toList := by
      obtain ⟨hi, e⟩ := Array.getElem?_eq_some_iff.1 ho
      rw [← e]; exact Array.getElem_mem_toList hi
    split
    · rename_i hw
      rw [if_pos hw] at h
      exact Oper.in_round (noDefers_at hd hm) (h.resolve_right fun x => hQ x.2)
    · rename_i hw
      rw [if_neg hw] at h
      exact ⟨fun _ _ => trivial, h⟩

theorem wpAny_in_round (hd : noDefers ops.toList = true) (hQ : ¬ LetsOut Q) : ∀ (fuel : Nat) (listed : Array Bool) (a : Act) (w : World), wpAny P md ops Q fuel listed a w → wpAnyIn (Fence.wide.inRound l) n P md ops Q fuel listed a w
  | 0, _, _, _, h => h
  | fuel + 1, _, _, _, h => ⟨h.1, fun i hi => wpOpIn_mono (fun a w => wpAny_in_round hd hQ fuel _ a w) (wpOp_in_round hd hQ (h.2 i hi))⟩

theorem wpList_in_round (hQ : ¬ LetsOut Q) : ∀ (xs : List Oper) (a : Act) (w : World), noDefers xs = true → wpList P ops Q xs a w → wpListIn (Fence.wide.inRound l) n P ops Q xs a w
  | [], _, _, _, h => h
  | o :: rest, a, w, hd, h => by
    have hd' : noDefers rest = true := by
      unfold noDefers at hd ⊢
      rw [List.all_cons, Bool.and_eq_true] at hd
      exact hd.2
    unfold wpList at h
    unfold wpListIn
    split
    · rename_i hw
      rw [if_pos hw] at h
      exact Oper.wpIn_mono (fun a w => wpList_in_round hQ rest a w hd') (Oper.in_round (noDefers_at hd (by simp)) (h.resolve_right fun x => hQ x.2))
    · rename_i hw
      rw [if_neg hw] at h
      exact ⟨fun _ _ => trivial, wpList_in_round hQ rest _ _ hd' h⟩

theorem any_of_tail {a : Act} {w : World} {l : List Oper} (n : Nat) (hB : Region.lexTailB .any l.toArray n = true)
    (h : wpStill P l.toArray w (fun a' => wpList P l.toArray Q (l.drop n) a' w) (l.take n) a) : wpAny P .any l.toArray Q l.toArray.size (Array.replicate l.toArray.size false) a w := by
  simp only [Region.lexTailB, Bool.and_eq_true, decide_eq_true_eq] at hB
  obtain ⟨⟨⟨⟨hsel, hn⟩, hs⟩, hc⟩, hlex⟩ := hB
  have hn' : n < l.length := by simpa using hn
  have htl : (l.take n).length = n := by simp; omega
  have hdl : (l.drop n).length = l.toArray.size - n := by simp
  have inv0 : HeadInv .any l.toArray n (Array.replicate l.toArray.size false) :=
    ⟨by simp, fun j oj _ hl => (by rw [getD_replicate_false] at hl; cases hl), fun t _ ht => getD_in (by simpa using ht) (getD_replicate_false _ _)⟩
  have H := wpAnyL_lex (md := .any) (g := l.toArray.size - n) hsel hs hc hn (l.take n) 0 _ a (fun j hj => by
    have hj' : j < n := by rw [htl] at hj; exact hj
    simp [hj']) (by simpa using htl) inv0 (by rw [htl]; exact hlex) h
  have := wpAny_of_head (Q' := Q) (g := l.toArray.size - n) (fun listed a' hL => by
    have := wpAny_of_seq (md := .any) (Q' := Q) (l.drop n) n listed a' w (fun j => by simp [List.getElem?_drop]) (by rw [hdl]; exact hL.1) hL.2
    rwa [hdl] at this) _ _ _ H
  rw [htl, show n + (l.toArray.size - n) = l.toArray.size by omega] at this
  exact this

theorem wpIn_region_tail {id : Nat} {a : Act} {w : World} {xs : List Oper} (m : Nat) (hm : P.follows .mixedOrders = true) (hB : Region.lexTailB .any xs.toArray m = true) (hd : noDefers xs = true) (hQ : ¬ LetsOut Q)
    (h : wpQuiet P xs.toArray (fun w' => w' = w.drew) (fun a' => wpList P xs.toArray Q (xs.drop m) a' w.drew) (xs.take m) a) : (Code.region id xs.toArray true).wpIn (Fence.wide.inRound l) n P Q a w :=
  wpIn_region_any hm (wpAny_in_round (by simpa using hd) hQ _ _ _ _ (any_of_tail m hB (wpStill_of_quiet _ _ h)))
end
end Go
end

section
namespace Go

def putAll (a : Act) : List (Oper × Value) → Act
  | [] => a
  | (o, v) :: r => putAll (a.put o.dst v) r
theorem put_size (a : Act) (d : Option Tmp) (v : Value) : (a.put d v).tmps.size = a.tmps.size := by unfold Act.put; split <;> simp
theorem put_defers (a : Act) (d : Option Tmp) (v : Value) : (a.put d v).defers = a.defers := by unfold Act.put; split <;> rfl
theorem putAll_size : ∀ (l : List (Oper × Value)) (a : Act), (putAll a l).tmps.size = a.tmps.size
  | [], _ => rfl
  | (o, v) :: r, a => (putAll_size r _).trans (put_size a o.dst v)
theorem putAll_defers : ∀ (l : List (Oper × Value)) (a : Act), (putAll a l).defers = a.defers
  | [], _ => rfl
  | (o, v) :: r, a => (putAll_defers r _).trans (put_defers a o.dst v)
theorem putAll_old {s : Nat} : ∀ (l : List (Oper × Value)) (a : Act), (∀ x ∈ l, x.1.dst ≠ some s) → (putAll a l).eval (.tmp s) = a.eval (.tmp s)
  | [], _, _ => rfl
  | (o, v) :: r, a, h => by
    unfold putAll
    rw [putAll_old r _ fun x hx => h x (by simp [hx])]
    exact Act.eval_put fun d hd e => by cases e; exact h (o, v) (by simp) hd
theorem putAll_at {s : Nat} : ∀ (l : List (Oper × Value)) (a : Act) (i : Nat) (o : Oper) (v : Value), (l.filterMap (·.1.dst)).Nodup → l[i]? = some (o, v) → o.dst = some s → s < a.tmps.size → (putAll a l).eval (.tmp s) = v
  | [], _, i, _, _, _, h, _, _ => by simp at h
  | (o', v') :: r, a, 0, o, v, hn, h, hs, hlt => by
    simp at h
    obtain ⟨rfl, rfl⟩ := h
    unfold putAll
    rw [List.filterMap_cons] at hn
    simp only [hs] at hn
    rw [putAll_old r _ fun x hx e => (List.nodup_cons.1 hn).1 (List.mem_filterMap.2 ⟨x, hx, e⟩), hs]
    exact Act.eval_put_same _ _ _ hlt
  | (o', v') :: r, a, i + 1, o, v, hn, h, hs, hlt => by
    unfold putAll
    refine putAll_at r _ i o v ?_ (by simpa using h) hs (by rw [put_size]; exact hlt)
    rw [List.filterMap_cons] at hn
    cases hd : o'.dst with
    | none => simpa [hd] using hn
    | some d => simp only [hd] at hn; exact (List.nodup_cons.1 hn).2
theorem act_ext {a b : Act} (h1 : a.tmps.size = b.tmps.size) (h2 : a.defers = b.defers) (h3 : ∀ s : Nat, a.eval (.tmp s) = b.eval (.tmp s)) : a = b := by
  obtain ⟨t, d⟩ := a
  obtain ⟨t', d'⟩ := b
  cases h2
  rw [Act.mk.injEq]
  refine ⟨Array.ext h1 fun i hi hi' => ?_, rfl⟩
  have := h3 i
  simp only [Act.eval, Array.getD_eq_getD_getElem?] at this
  rw [Array.getElem?_eq_getElem hi, Array.getElem?_eq_getElem hi'] at this
  exact this

section
variable {P : Program} {Q : Exit → Act → World → Prop} {a0 : Act}

theorem held_putAll {xs : List Oper} {vals : List Value} {Wd : (Nat → Bool) → World → Prop} {done : Nat → Bool} {a : Act} {w : World} (hl : xs.length = vals.length) (hn : (xs.filterMap (·.dst)).Nodup) (hin : ∀ o ∈ xs, ∀ s, o.dst = some s → s < a0.tmps.size)
    (hd : ∀ i, i < xs.length → done i = true) (h : Held xs.toArray (fun i v _ => vals[i]? = some v) Wd a0 done a w) : a = putAll a0 (xs.zip vals) := by
  have hz : (xs.zip vals).map (·.1) = xs := by rw [List.map_fst_zip]; omega
  have hfm : (xs.zip vals).filterMap (·.1.dst) = xs.filterMap (·.dst) := by
    conv => rhs; rw [← hz]
    rw [List.filterMap_map]; rfl
  refine act_ext (h.size.trans (putAll_size _ _).symm) (h.defers.trans (putAll_defers _ _).symm) fun s => ?_
  by_cases hs : s ∈ xs.filterMap (·.dst)
  · obtain ⟨o, ho, he⟩ := List.mem_filterMap.1 hs
    obtain ⟨i, hi, e⟩ := List.getElem_of_mem ho
    have ho' : xs.toArray[i]? = some o := by rw [← e]; simp [hi]
    have h1 := h.fact i o s ho' he (hd i hi)
    have h2 : (xs.zip vals)[i]? = some (o, a.eval (.tmp s)) := by
      rw [List.getElem?_zip_eq_some]
      exact ⟨by rw [← e]; simp [hi], h1⟩
    exact (putAll_at _ _ i o _ (by rw [hfm]; exact hn) h2 he (hin o ho s he)).symm
  · rw [h.same (by simpa using hs)]
    refine (putAll_old _ _ fun x hx e => hs ?_).symm
    rw [← hfm]
    exact List.mem_filterMap.2 ⟨x, hx, e⟩

structure Knows (xs : List Oper) (vals : List Value) (a0 : Act) (i : Nat) (a : Act) : Prop where
  at_ : ∀ (j : Nat) (o : Oper) (s : Nat) (v : Value), xs[i]? = some o → j ∈ Region.preds o → ∀ oj, xs[j]? = some oj → oj.dst = some s → vals[j]? = some v → a.eval (.tmp s) = v
  same : ∀ s : Nat, s ∉ xs.filterMap (·.dst) → a.eval (.tmp s) = a0.eval (.tmp s)

theorem any_vals {xs : List Oper} {w : World} (n : Nat) (hn : a0.tmps.size = n) (hB : factsB xs n = true) (vals : List Value) (hl : xs.length = vals.length) (Wd : World → Prop) (h0 : Wd w)
    (step : ∀ (i : Nat) (o : Oper) (v : Value), xs[i]? = some o → vals[i]? = some v → ∀ (a : Act) (w : World), Knows xs vals a0 i a → Wd w → ∀ K : Act → World → Prop, (∀ w', Wd w' → K (a.put o.dst v) w') → Oper.wp P o a w K Q)
    (fin : ∀ w, Wd w → Q .normal (putAll a0 (xs.zip vals)) w) : wpAny P .any xs.toArray Q xs.toArray.size (Array.replicate xs.toArray.size false) a0 w := by
  have hB' := hB
  unfold factsB at hB'
  rw [Bool.and_eq_true, Bool.and_eq_true, Bool.and_eq_true] at hB'
  obtain ⟨⟨⟨h1, h2⟩, h3⟩, h4⟩ := hB'
  have e0 : dn (Array.replicate xs.toArray.size false) = fun _ => false := by
    funext i
    unfold dn
    rw [Array.getD_eq_getD_getElem?, Array.getElem?_replicate]
    split <;> rfl
  have hin : ∀ o ∈ xs, ∀ s, o.dst = some s → s < a0.tmps.size := fun o ho s hs => by
    have := List.all_eq_true.1 h3 o ho
    rw [hs] at this
    rw [hn]
    simpa using this
  refine wpAny_facts (Fact := fun i v _ => vals[i]? = some v) (Wd := fun _ w => Wd w) (a0 := a0) (fun i o ho => ?_) (fun i j oi oj s hi hj => nodup_dst (of_decide_eq_true h2) i j oi oj s (by simpa using hi) (by simpa using hj)) (fun i o s ho hs => hin o (List.mem_of_getElem? (by simpa using ho)) s hs) (fun i o ho j hj => ?_)
    (fun i o ho done a w hH hd hp K hK => ?_) (fun done a w hd hH => ?_) _ _ _ _ (by simp) ?_ ?_
  · have := List.all_eq_true.1 h1 o (List.mem_of_getElem? (by simpa using ho))
    simpa using this
  · have ho' : xs[i]? = some o := by simpa using ho
    have := List.all_eq_true.1 h4 i (List.mem_range.2 (List.getElem?_eq_some_iff.1 ho').1)
    rw [ho'] at this
    have := List.all_eq_true.1 this j hj
    simpa using this
  · have ho' : xs[i]? = some o := by simpa using ho
    have hi := (List.getElem?_eq_some_iff.1 ho').1
    have hv : vals[i]? = some vals[i] := List.getElem?_eq_getElem (by omega)
    refine step i o _ ho' hv a w ⟨fun j o' s v hx hj oj hoj hs hvj => ?_, fun s hs => hH.same (by simpa using hs)⟩ hH.wd K fun w' hw' => hK _ w' hv hw' fun _ _ _ h => h
    rw [ho'] at hx; cases hx
    have := hH.fact j oj s (by simpa using hoj) hs (hp j hj)
    rw [hvj] at this
    exact (Option.some.inj this).symm
  · rw [held_putAll hl (of_decide_eq_true h2) hin (by simpa using hd) hH]
    exact fin w hH.wd
  · rw [e0]
    exact ⟨h0, rfl, rfl, (fun i o _ h => by cases h), (fun s _ => rfl), (fun i o s _ _ h => by cases h)⟩
  · have : (unl xs.toArray (dn (Array.replicate xs.toArray.size false))).length ≤ (List.range xs.toArray.size).length := List.length_filter_le _ _
    simpa using this

theorem wp_region_vals {id : Nat} {xs : List Oper} {w : World} (hm : P.follows .mixedOrders = true) (n : Nat) (hn : a0.tmps.size = n) (hB : factsB xs n = true) (vals : List Value) (hl : xs.length = vals.length) (Wd : World → Prop) (h0 : Wd w.drew)
    (step : ∀ (i : Nat) (o : Oper) (v : Value), xs[i]? = some o → vals[i]? = some v → ∀ (a : Act) (w : World), Knows xs vals a0 i a → Wd w → ∀ K : Act → World → Prop, (∀ w', Wd w' → K (a.put o.dst v) w') → Oper.wp P o a w K Q)
    (fin : ∀ w, Wd w → Q .normal (putAll a0 (xs.zip vals)) w) : (Code.region id xs.toArray true).wp P Q a0 w :=
  wp_region_any hm (any_vals n hn hB vals hl Wd h0 step fin)

def OnlyN (Q : Exit → Act → World → Prop) : Exit → Act → World → Prop
  | .normal, a, w => Q .normal a w
  | _, _, _ => False
theorem OnlyN.imp {Q : Exit → Act → World → Prop} : ∀ (e : Exit) (a : Act) (w : World), OnlyN Q e a w → Q e a w := fun e a w h => by cases e <;> first | exact h | exact h.elim
theorem OnlyN.normal {Q : Exit → Act → World → Prop} {a : Act} {w : World} (h : Q .normal a w) : OnlyN Q .normal a w := h
theorem OnlyN.notOut {Q : Exit → Act → World → Prop} : ¬ LetsOut (OnlyN Q) := fun h => by
  obtain ⟨a, w, h⟩ := h
  exact h
theorem wpIn_region_vals {id l k : Nat} {xs : List Oper} {w : World} (hm : P.follows .mixedOrders = true) (hd : noDefers xs = true) (n : Nat) (hn : a0.tmps.size = n) (hB : factsB xs n = true) (vals : List Value) (hl : xs.length = vals.length) (Wd : World → Prop) (h0 : Wd w.drew)
    (step : ∀ (i : Nat) (o : Oper) (v : Value), xs[i]? = some o → vals[i]? = some v → ∀ (a : Act) (w : World), Knows xs vals a0 i a → Wd w → ∀ K : Act → World → Prop, (∀ w', Wd w' → K (a.put o.dst v) w') → Oper.wp P o a w K (OnlyN Q))
    (fin : ∀ w, Wd w → Q .normal (putAll a0 (xs.zip vals)) w) : (Code.region id xs.toArray true).wpIn (Fence.wide.inRound l) k P Q a0 w :=
  wpIn_mono (wpIn_region_any hm (wpAny_in_round (by simpa using hd) OnlyN.notOut _ _ _ _ (any_vals n hn hB vals hl Wd h0 step fin))) OnlyN.imp
theorem wpIn_region_tail' {id l k : Nat} {a : Act} {w : World} {xs : List Oper} (m : Nat) (hm : P.follows .mixedOrders = true) (hB : Region.lexTailB .any xs.toArray m = true) (hd : noDefers xs = true)
    (h : wpQuiet P xs.toArray (fun w' => w' = w.drew) (fun a' => wpList P xs.toArray (OnlyN Q) (xs.drop m) a' w.drew) (xs.take m) a) : (Code.region id xs.toArray true).wpIn (Fence.wide.inRound l) k P Q a w :=
  wpIn_mono (wpIn_region_tail m hm hB hd OnlyN.notOut h) OnlyN.imp
theorem wpIn_region_of_list {id l k : Nat} {xs : List Oper} {a : Act} {w : World} (hd : noDefers xs = true) (h : wpList P xs.toArray (OnlyN Q) xs a w) : (Code.region id xs.toArray false).wpIn (Fence.wide.inRound l) k P Q a w :=
  wpIn_mono (wpIn_region_lit (wpList_in_round OnlyN.notOut _ _ _ hd h)) OnlyN.imp
theorem wpListIn_of_step {l k : Nat} {ops : Array Oper} {rest : List Oper} {o : Oper} {a : Act} {w : World} (hgd : o.guard = none) (hd : ∀ c, o.op ≠ .defer c)
    (h : ∀ K : Act → World → Prop, (∀ a w, wpListIn (Fence.wide.inRound l) k P ops Q rest a w → K a w) → if Region.wanted o (yielded ops a.tmps) = true then Oper.wp P o a w K Q else True) : wpListIn (Fence.wide.inRound l) k P ops Q (o :: rest) a w := by
  refine wpListIn_plain hgd fun K hK => Oper.in_round hd ?_
  have := h K hK
  rwa [if_pos (by simp [Region.wanted, hgd])] at this
end

section
variable {P : Program} {w : World} {o : Oper} {a : Act} {K : Act → World → Prop} {Q : Exit → Act → World → Prop}
theorem ev' {a : Act} {s : Nat} {v : Value} (h : a.eval (.tmp s) = v) : a.tmps[s]?.getD undef = v := by rw [← h]; simp [Act.eval]
theorem op_val {v : Value} (h1 : (execOp a.eval o).run P w = .ok (.value v) w) (h : K (a.put o.dst v) w) : Oper.wp P o a w K Q := by
  unfold Oper.wp; rw [h1]; exact h
end
end Go
end

section
namespace Go

def wantedV (vals : List Value) (o : Oper) : Bool :=
  match o.guard with
  | none => true
  | some (j, b) => match vals[j]? with
    | some (.bool x) => x == b
    | _ => false
def guardsB (xs : List Oper) : Bool := xs.all fun o => match o.guard with
  | none => true
  | some (j, _) => (Region.preds o).contains j && ((xs[j]?).bind (·.dst)).isSome

section
variable {P : Program} {Q : Exit → Act → World → Prop} {a0 : Act}
theorem wanted_eq {xs : List Oper} {vals : List Value} {Wd : (Nat → Bool) → Act → World → Prop} {done : Nat → Bool} {a : Act} {w : World} {o : Oper} (hin : ∀ o ∈ xs, ∀ s, o.dst = some s → s < a0.tmps.size)
    (h : HeldG xs.toArray (fun _ i v _ => vals[i]? = some v) Wd a0 done a w) (ho : o ∈ xs) (hp : ∀ j ∈ Region.preds o, done j = true) (hG : guardsB xs = true) : Region.wanted o (yielded xs.toArray a.tmps) = wantedV vals o := by
  have hg := List.all_eq_true.1 hG o ho
  unfold Region.wanted wantedV
  cases hgd : o.guard with
  | none => rfl
  | some p =>
    obtain ⟨j, b⟩ := p
    rw [hgd] at hg
    simp only [Bool.and_eq_true] at hg
    obtain ⟨h1, h2⟩ := hg
    obtain ⟨s, hs⟩ := Option.isSome_iff_exists.1 h2
    obtain ⟨oj, hoj, hdj⟩ := Option.bind_eq_some_iff.1 hs
    have hv := h.fact j oj s (by simpa using hoj) hdj (hp j (by simpa using h1))
    have hlt : s < a.tmps.size := by rw [h.size]; exact hin oj (List.mem_of_getElem? hoj) s hdj
    have hy : yielded xs.toArray a.tmps j = match a.eval (.tmp s) with | .bool b => some b | _ => none := by
      unfold yielded
      have : ((xs.toArray[j]?).bind (·.dst)).bind (a.tmps[·]?) = some (a.eval (.tmp s)) := by
        rw [List.getElem?_toArray, hs, Option.bind_some]
        simp only [Act.eval, Array.getD_eq_getD_getElem?]
        rw [Array.getElem?_eq_getElem hlt]
        rfl
      rw [this]
      cases a.eval (.tmp s) <;> rfl
    have hv' : vals[j]? = some (a.eval (.tmp s)) := hv
    simp only [hy, hv']
    cases a.eval (.tmp s) <;> simp

theorem wp_region_valsG {id : Nat} {xs : List Oper} {w : World} (hm : P.follows .mixedOrders = true) (n : Nat) (hn : a0.tmps.size = n) (hB : factsGB xs n = true) (hG : guardsB xs = true) (vals : List Value) (hl : xs.length = vals.length) (Wd : World → Prop) (h0 : Wd w.drew)
    (step : ∀ (i : Nat) (o : Oper) (v : Value), xs[i]? = some o → vals[i]? = some v → wantedV vals o = true ∧ (∀ (a : Act) (w : World), Knows xs vals a0 i a → Wd w → ∀ K : Act → World → Prop, (∀ w', Wd w' → K (a.put o.dst v) w') → Oper.wp P o a w K Q) ∨ wantedV vals o = false ∧ v = undef)
    (fin : ∀ w, Wd w → Q .normal (putAll a0 (xs.zip vals)) w) : (Code.region id xs.toArray true).wp P Q a0 w := by
  have hB' := hB
  unfold factsGB at hB'
  rw [Bool.and_eq_true, Bool.and_eq_true] at hB'
  obtain ⟨⟨h2, h3⟩, h4⟩ := hB'
  have hin : ∀ o ∈ xs, ∀ s, o.dst = some s → s < a0.tmps.size := fun o ho s hs => by
    have := List.all_eq_true.1 h3 o ho
    rw [hs] at this
    rw [hn]
    simpa using this
  refine wp_region_factsG hm n hn hB (fun _ i v _ => vals[i]? = some v) (fun _ _ w => Wd w) h0 (fun i o ho done a w hH hd hp K hK => ?_) (fun done a w hd hH => ?_)
  · have hi := (List.getElem?_eq_some_iff.1 ho).1
    have hv : vals[i]? = some vals[i] := List.getElem?_eq_getElem (by omega)
    have hk : Knows xs vals a0 i a := ⟨fun j o' s v hx hj oj hoj hs hvj => by
      rw [ho] at hx; cases hx
      have := hH.fact j oj s (by simpa using hoj) hs (hp j hj)
      rw [hvj] at this
      exact (Option.some.inj this).symm, fun s hs => hH.same (by simpa using hs)⟩
    rw [wanted_eq hin hH (List.mem_of_getElem? ho) hp hG]
    rcases step i o _ ho hv with ⟨hw, hs⟩ | ⟨hw, hs⟩
    · rw [if_pos hw]
      exact hs a w hk hH.wd K fun w' hw' => hK _ w' hv hw' fun _ _ _ _ _ _ h => h
    · rw [if_neg (by rw [hw]; decide)]
      rw [hs] at hv
      exact hK _ w hv hH.wd fun _ _ _ _ _ _ h => h
  · have hH' : Held xs.toArray (fun i v _ => vals[i]? = some v) (fun _ w => Wd w) a0 done a w := ⟨hH.wd, hH.size, hH.defers, hH.closed, hH.old, hH.fact⟩
    rw [held_putAll hl (of_decide_eq_true h2) hin hd hH']
    exact fin w hH.wd
end
end Go
end

section
namespace Go
def lastB (pre : List Oper) (last : Oper) : Bool := last.dst.isNone && last.guard.isNone && (List.range pre.length).all fun i => (Region.preds last).contains i
theorem zip_take_left {α β : Type} : ∀ (xs : List α) (ys : List β) (m : Nat), ys.length ≤ m → (xs.take m).zip ys = xs.zip ys
  | [], _, m, _ => by simp
  | _ :: _, [], m, _ => by simp
  | x :: xs, y :: ys, 0, h => by simp at h
  | x :: xs, y :: ys, m + 1, h => by
    rw [List.take_succ_cons, List.zip_cons_cons, List.zip_cons_cons, zip_take_left xs ys m (by simpa using h)]
section
variable {P : Program} {Q : Exit → Act → World → Prop} {a0 : Act}

theorem wp_region_valsL {id : Nat} {xs : List Oper} {w : World} (hm : P.follows .mixedOrders = true) (pre : List Oper) (last : Oper) (hxs : xs = pre ++ [last]) (n : Nat) (hn : a0.tmps.size = n) (hB : factsGB xs n = true) (hG : guardsB xs = true) (hL : lastB pre last = true)
    (vals : List Value) (hl : pre.length = vals.length) (Wd : World → Prop) (h0 : Wd w.drew)
    (step : ∀ (i : Nat) (o : Oper) (v : Value), pre[i]? = some o → vals[i]? = some v → wantedV vals o = true ∧ (∀ (a : Act) (w : World), Knows xs vals a0 i a → Wd w → ∀ K : Act → World → Prop, (∀ w', Wd w' → K (a.put o.dst v) w') → Oper.wp P o a w K Q) ∨ wantedV vals o = false ∧ v = undef)
    (fin : ∀ w, Wd w → ∀ K : Act → World → Prop, (∀ v w', Q .normal (putAll a0 (pre.zip vals)) w' → K ((putAll a0 (pre.zip vals)).put none v) w') → Oper.wp P last (putAll a0 (pre.zip vals)) w K Q) : (Code.region id xs.toArray true).wp P Q a0 w := by
  subst hxs
  have hB' := hB
  unfold factsGB at hB'
  rw [Bool.and_eq_true, Bool.and_eq_true] at hB'
  obtain ⟨⟨h2, h3⟩, h4⟩ := hB'
  unfold lastB at hL
  rw [Bool.and_eq_true, Bool.and_eq_true] at hL
  obtain ⟨⟨hL1, hL2⟩, hL3⟩ := hL
  have hLd : last.dst = none := by simpa using hL1
  have hLg : last.guard = none := by simpa using hL2
  have hall : ∀ i, i < pre.length → i ∈ Region.preds last := fun i hi => by
    have := List.all_eq_true.1 hL3 i (List.mem_range.2 hi)
    simpa using this
  have hlast : (pre ++ [last])[pre.length]? = some last := by simp
  have hin : ∀ o ∈ pre ++ [last], ∀ s, o.dst = some s → s < a0.tmps.size := fun o ho s hs => by
    have := List.all_eq_true.1 h3 o ho
    rw [hs] at this
    rw [hn]
    simpa using this
  have hput : ∀ (a : Act) (v : Value), a.put none v = a := fun a v => rfl
  have hfull : ∀ {Fact : (Nat → Bool) → Nat → Value → World → Prop} {Wd' : (Nat → Bool) → Act → World → Prop} {done : Nat → Bool} {a : Act} {w : World}, (∀ done i v w, i < pre.length → Fact done i v w → vals[i]? = some v) → HeldG (pre ++ [last]).toArray Fact Wd' a0 done a w → (∀ i, i < pre.length → done i = true) → a = putAll a0 (pre.zip vals) := by
    intro Fact Wd' done a w hF hH hd
    have hH' : Held pre.toArray (fun i v _ => vals[i]? = some v) (fun _ _ => True) a0 done a w := by
      refine ⟨trivial, hH.size, hH.defers, fun i o ho hdi j hj => ?_, fun s hs => ?_, fun i o s ho hs hdi => ?_⟩
      · have ho' : pre[i]? = some o := by simpa using ho
        have hi := (List.getElem?_eq_some_iff.1 ho').1
        exact hH.closed i o (by simp [List.getElem?_append_left hi, ho']) hdi j hj
      · refine hH.old s fun i o ho he => ?_
        have ho' : (pre ++ [last])[i]? = some o := by simpa using ho
        by_cases hi : i < pre.length
        · rw [List.getElem?_append_left hi] at ho'
          exact hs i o (by simpa using ho') he
        · have hlt := (List.getElem?_eq_some_iff.1 ho').1
          have e : i = pre.length := by simp at hlt; omega
          subst e
          rw [hlast] at ho'
          cases ho'
          rw [hLd] at he; cases he
      · have ho' : pre[i]? = some o := by simpa using ho
        have hi := (List.getElem?_eq_some_iff.1 ho').1
        exact hF _ _ _ _ hi (hH.fact i o s (by simp [List.getElem?_append_left hi, ho']) hs hdi)
    have hnd : (pre.filterMap (·.dst)).Nodup := by
      have := of_decide_eq_true h2
      rw [List.filterMap_append] at this
      exact (List.nodup_append.1 this).1
    exact held_putAll hl hnd (fun o ho => hin o (by simp [ho])) hd hH'
  refine wp_region_factsG hm n hn hB (fun _ i v _ => i < pre.length → vals[i]? = some v) (fun done a w => (done pre.length = false ∧ Wd w) ∨ (done pre.length = true ∧ Q .normal a w)) (.inl ⟨rfl, h0⟩) (fun i o ho done a w hH hd hp K hK => ?_) (fun done a w hd hH => ?_)
  · by_cases hi : i < pre.length
    · have hnL : done pre.length = false := by
        cases hdl : done pre.length with
        | false => rfl
        | true =>
          have := hH.closed pre.length last (by simp) hdl i (hall i hi)
          rw [hd] at this; cases this
      have hW : Wd w := hH.wd.elim (fun h => h.2) fun h => by rw [hnL] at h; cases h.1
      have ho' : pre[i]? = some o := by rw [← ho, List.getElem?_append_left hi]
      have hv : vals[i]? = some vals[i] := List.getElem?_eq_getElem (by omega)
      have hk : Knows (pre ++ [last]) vals a0 i a := ⟨fun j o' s v hx hj oj hoj hs hvj => by
        rw [ho] at hx; cases hx
        have hjl : j < pre.length := by
          have := (List.getElem?_eq_some_iff.1 hvj).1; omega
        have := hH.fact j oj s (by simpa using hoj) hs (hp j hj) hjl
        rw [hvj] at this
        exact (Option.some.inj this).symm, fun s hs => hH.same (by simpa using hs)⟩
      have hHV : HeldG (pre ++ [last]).toArray (fun _ i v _ => vals[i]? = some v) (fun _ _ _ => True) a0 (fun j => done j && decide (j < pre.length)) a w := by
        refine ⟨trivial, hH.size, hH.defers, fun i o ho hdi j hj => ?_, fun s hs => ?_, fun i o s ho hs hdi => ?_⟩
        · rw [Bool.and_eq_true] at hdi
          have h1 := hH.closed i o ho hdi.1 j hj
          have hlt : j < i := by
            have ho' : (pre ++ [last])[i]? = some o := by simpa using ho
            have := List.all_eq_true.1 h4 i (List.mem_range.2 (List.getElem?_eq_some_iff.1 ho').1)
            rw [ho'] at this
            have := List.all_eq_true.1 this j hj
            simpa using this
          have h2 := of_decide_eq_true hdi.2
          rw [Bool.and_eq_true]
          exact ⟨h1, decide_eq_true (by omega)⟩
        · refine hH.old s fun i o ho he => ?_
          have := hs i o ho he
          by_cases hi : i < pre.length
          · simpa [hi] using this
          · have ho' : (pre ++ [last])[i]? = some o := by simpa using ho
            have hlt := (List.getElem?_eq_some_iff.1 ho').1
            have e : i = pre.length := by simp at hlt; omega
            subst e
            exact hnL
        · rw [Bool.and_eq_true] at hdi
          exact hH.fact i o s ho hs hdi.1 (of_decide_eq_true hdi.2)
      have hlow : ∀ j ∈ Region.preds o, (done j && decide (j < pre.length)) = true := fun j hj => by
        have hlt : j < i := by
          have := List.all_eq_true.1 h4 i (List.mem_range.2 (List.getElem?_eq_some_iff.1 ho).1)
          rw [ho] at this
          have := List.all_eq_true.1 this j hj
          simpa using this
        rw [hp j hj, Bool.true_and]
        exact decide_eq_true (by omega)
      rw [wanted_eq hin hHV (List.mem_of_getElem? ho) hlow hG]
      have hup : Go.upd done i pre.length = false := by unfold Go.upd; rw [if_neg (by omega)]; exact hnL
      rcases step i o _ ho' hv with ⟨hw, hs⟩ | ⟨hw, hs⟩
      · rw [if_pos hw]
        exact hs a w hk hW K fun w' hw' => hK _ w' (fun _ => hv) (.inl ⟨hup, hw'⟩) fun _ _ _ _ _ _ h => h
      · rw [if_neg (by rw [hw]; decide)]
        rw [hs] at hv
        exact hK _ w (fun _ => hv) (.inl ⟨hup, hW⟩) fun _ _ _ _ _ _ h => h
    · have hlt := (List.getElem?_eq_some_iff.1 ho).1
      have e : i = pre.length := by simp at hlt; omega
      subst e
      rw [hlast] at ho
      cases ho
      have hW : Wd w := hH.wd.elim (fun h => h.2) fun h => by rw [hd] at h; cases h.1
      have ea := hfull (fun _ _ _ _ h hf => hf h) hH fun i hi => hp i (hall i hi)
      have hw : Region.wanted last (yielded (pre ++ [last]).toArray a.tmps) = true := by unfold Region.wanted; rw [hLg]
      rw [if_pos hw]
      rw [ea]
      refine fin w hW K fun v w' hq => ?_
      rw [← ea, ← hLd]
      refine hK v w' (fun h => absurd h (Nat.lt_irrefl _)) (.inr ⟨by unfold Go.upd; rw [if_pos rfl], ?_⟩) fun _ _ _ _ _ _ h => h
      rw [hLd, hput, ea]
      exact hq
  · have hdl := hd pre.length (by simp)
    exact hH.wd.elim (fun h => by rw [hdl] at h; cases h.1) fun h => h.2

theorem wp_region_valsW {id : Nat} {xs : List Oper} {w : World} (hm : P.follows .mixedOrders = true) (m : Nat) (n : Nat) (hn : a0.tmps.size = n) (hB : factsGB xs n = true) (hG : guardsB xs = true) (last : Oper) (hlast : xs[m]? = some last) (hlen : xs.length = m + 1) (hL : lastB (xs.take m) last = true)
    (vals : List Value) (hl : vals.length = m) (Wd : World → Prop) (h0 : Wd w.drew)
    (step : ∀ (i : Nat) (o : Oper) (v : Value), xs[i]? = some o → vals[i]? = some v → wantedV vals o = true ∧ (∀ (a : Act) (w : World), Knows xs vals a0 i a → Wd w → ∀ K : Act → World → Prop, (∀ w', Wd w' → K (a.put o.dst v) w') → Oper.wp P o a w K Q) ∨ wantedV vals o = false ∧ v = undef)
    (fin : ∀ w, Wd w → ∀ K : Act → World → Prop, (∀ v w', Q .normal (putAll a0 (xs.zip vals)) w' → K ((putAll a0 (xs.zip vals)).put none v) w') → Oper.wp P last (putAll a0 (xs.zip vals)) w K Q) : (Code.region id xs.toArray true).wp P Q a0 w := by
  have hxs : xs = xs.take m ++ [last] := by
    have h1 := List.getElem?_eq_some_iff.1 hlast
    have h2 := List.take_succ_eq_append_getElem h1.1
    rw [h1.2, List.take_of_length_le (by omega)] at h2
    exact h2
  have hz : (xs.take m).zip vals = xs.zip vals := zip_take_left xs vals m (by omega)
  have hpl : (xs.take m).length = m := by rw [List.length_take]; omega
  refine wp_region_valsL hm (xs.take m) last hxs n hn hB hG hL vals (by omega) Wd h0 (fun i o v ho hv => ?_) (by rw [hz]; exact fin)
  have hi : i < m := by have := (List.getElem?_eq_some_iff.1 ho).1; omega
  exact step i o v (by rw [List.getElem?_take_of_lt hi] at ho; exact ho) hv
end
end Go
end

section
namespace Go

theorem wpAny_more {P : Program} {md : Region.Mode} {ops : Array Oper} {Q : Exit → Act → World → Prop} : ∀ (k : Nat) (listed : Array Bool) (a : Act) (w : World), wpAny P md ops Q k listed a w → wpAny P md ops Q (k + 1) listed a w
  | 0, _, _, _, h => ⟨fun _ => h.2, fun i hi => by rw [h.1] at hi; cases hi⟩
  | k + 1, _, _, _, h => ⟨h.1, fun i hi => wpOp_mono (fun a w => wpAny_more k _ a w) (h.2 i hi)⟩
theorem wpAny_up {P : Program} {md : Region.Mode} {ops : Array Oper} {Q : Exit → Act → World → Prop} {k k' : Nat} (hk : k ≤ k') {listed : Array Bool} {a : Act} {w : World} (h : wpAny P md ops Q k listed a w) : wpAny P md ops Q k' listed a w := by
  obtain ⟨d, rfl⟩ := Nat.exists_eq_add_of_le hk
  induction d with
  | zero => exact h
  | succ d ih => exact wpAny_more _ _ _ _ (ih (by omega))

def tailB (xs : List Oper) (m : Nat) : Bool :=
  decide (m < xs.length) && ((List.range m).all fun j => (List.range (m + 1)).any fun k => decide (j < k) && (match xs[k]? with | some o => (Region.preds o).contains j | none => false)) &&
  ((List.range xs.length).all fun i => decide (i ≤ m) || (match xs[i]? with | some o => (Region.preds o).any fun k => decide (m ≤ k) && decide (k < i) | none => true)) &&
  Region.seqB .any xs.toArray (xs.length - m) m ((List.range xs.length).map fun j => decide (j < m)).toArray

section
variable {P : Program} {Q : Exit → Act → World → Prop} {a0 : Act}

theorem all_before {xs : List Oper} {m : Nat} {Fact : (Nat → Bool) → Nat → Value → World → Prop} {Wd : (Nat → Bool) → Act → World → Prop} {done : Nat → Bool} {a : Act} {w : World} (h : HeldG xs.toArray Fact Wd a0 done a w)
    (hT : ((List.range m).all fun j => (List.range (m + 1)).any fun k => decide (j < k) && (match xs[k]? with | some o => (Region.preds o).contains j | none => false)) = true)
    {om : Oper} (hom : xs[m]? = some om) (hp : ∀ j ∈ Region.preds om, done j = true) : ∀ j, j < m → done j = true := by
  have key : ∀ d j, j + d = m → 0 < d → done j = true := by
    intro d
    induction d using Nat.strongRecOn with
    | _ d ih =>
      intro j hj hd
      have h1 := List.all_eq_true.1 hT j (List.mem_range.2 (by omega))
      obtain ⟨k, hk, h2⟩ := List.any_eq_true.1 h1
      rw [List.mem_range] at hk
      rw [Bool.and_eq_true, decide_eq_true_eq] at h2
      obtain ⟨hjk, h3⟩ := h2
      cases ho : xs[k]? with
      | none => rw [ho] at h3; cases h3
      | some o =>
        rw [ho] at h3
        have hm : j ∈ Region.preds o := by simpa using h3
        by_cases e : k = m
        · subst e
          rw [hom] at ho; cases ho
          exact hp j hm
        · exact h.closed k o (by simpa using ho) (ih (m - k) (by omega) k (by omega) (by omega)) j hm
  exact fun j hj => key (m - j) j (by omega) (by omega)

theorem listed_eq {n m : Nat} {listed : Array Bool} (hs : listed.size = n) (h1 : ∀ j, j < m → dn listed j = true) (h2 : ∀ j, m ≤ j → dn listed j = false) : listed = ((List.range n).map fun j => decide (j < m)).toArray := by
  apply Array.ext
  · simp [hs]
  · intro i hi hi'
    have : dn listed i = listed[i] := by unfold dn; simp [Array.getD_eq_getD_getElem?, Array.getElem?_eq_getElem hi]
    rw [← this]
    simp only [List.getElem_toArray, List.getElem_map, List.getElem_range]
    by_cases e : i < m
    · rw [h1 i e, decide_eq_true e]
    · rw [h2 i (by omega), decide_eq_false e]

theorem any_valsT {xs : List Oper} (m n : Nat) (hn : a0.tmps.size = n) (hB : factsGB xs n = true) (hG : guardsB xs = true) (hT : tailB xs m = true) (vals : List Value) (hl : vals.length = m) (Wd : (Nat → Bool) → World → Prop)
    (step : ∀ (i : Nat) (o : Oper) (v : Value), xs[i]? = some o → vals[i]? = some v → wantedV vals o = true ∧ (∀ (done : Nat → Bool) (a : Act) (w : World), done i = false → (∀ j ∈ Region.preds o, done j = true) → Knows xs vals a0 i a → Wd done w → ∀ K : Act → World → Prop, (∀ w', Wd (upd done i) w' → K (a.put o.dst v) w') → Oper.wp P o a w K Q) ∨ wantedV vals o = false ∧ v = undef ∧ (∀ done w, Wd done w → Wd (upd done i) w))
    (fin : ∀ done w, (∀ j, j < m → done j = true) → Wd done w → wpList P xs.toArray Q (xs.drop m) (putAll a0 (xs.zip vals)) w) :
    ∀ (fuel : Nat) (listed : Array Bool) (a : Act) (w : World), listed.size = xs.toArray.size → HeldG xs.toArray (fun _ i v _ => vals[i]? = some v) (fun done _ w => Wd done w) a0 (dn listed) a w → (∀ j, m ≤ j → dn listed j = false) → (unl xs.toArray (dn listed)).length ≤ fuel → wpAny P .any xs.toArray Q fuel listed a w := by
  have hT' := hT
  unfold tailB at hT'
  rw [Bool.and_eq_true, Bool.and_eq_true, Bool.and_eq_true, decide_eq_true_eq] at hT'
  obtain ⟨⟨⟨hmx, t1⟩, t2⟩, t3⟩ := hT'
  have hB' := hB
  unfold factsGB at hB'
  rw [Bool.and_eq_true, Bool.and_eq_true] at hB'
  obtain ⟨⟨h2, h3⟩, h4⟩ := hB'
  have hin : ∀ o ∈ xs, ∀ s, o.dst = some s → s < a0.tmps.size := fun o ho s hs => by
    have := List.all_eq_true.1 h3 o ho
    rw [hs] at this
    rw [hn]
    simpa using this
  have hdst : ∀ (i j : Nat) (oi oj : Oper) (s : Nat), xs.toArray[i]? = some oi → xs.toArray[j]? = some oj → oi.dst = some s → oj.dst = some s → i = j := fun i j oi oj s hi hj => nodup_dst (of_decide_eq_true h2) i j oi oj s (by simpa using hi) (by simpa using hj)
  have hin' : ∀ (i : Nat) (o : Oper) (s : Nat), xs.toArray[i]? = some o → o.dst = some s → s < a0.tmps.size := fun i o s ho => hin o (List.mem_of_getElem? (by simpa using ho)) s
  have hzl : (xs.take m).zip vals = xs.zip vals := zip_take_left xs vals m (by omega)
  have tail : ∀ (listed : Array Bool) (a : Act) (w : World), listed.size = xs.toArray.size → HeldG xs.toArray (fun _ i v _ => vals[i]? = some v) (fun done _ w => Wd done w) a0 (dn listed) a w → (∀ j, m ≤ j → dn listed j = false) → (∀ j, j < m → dn listed j = true) → wpAny P .any xs.toArray Q (xs.length - m) listed a w := by
    intro listed a w hs hH hlo hall
    have ea : a = putAll a0 (xs.zip vals) := by
      rw [← hzl]
      have hfm : ∀ s, s ∈ (xs.take m).filterMap (·.dst) → s ∈ xs.filterMap (·.dst) := fun s h => by
        obtain ⟨o, ho, he⟩ := List.mem_filterMap.1 h
        exact List.mem_filterMap.2 ⟨o, List.mem_of_mem_take ho, he⟩
      refine held_putAll (xs := xs.take m) (vals := vals) (Wd := fun _ _ => True) (done := dn listed) (w := w) (by rw [List.length_take]; omega) ?_ (fun o ho => hin o (List.mem_of_mem_take ho)) (fun i hi => hall i (by rw [List.length_take] at hi; omega)) ?_
      · exact (of_decide_eq_true h2).sublist ((List.take_sublist m xs).filterMap _)
      · refine ⟨trivial, hH.size, hH.defers, fun i o ho hd j hj => ?_, fun s hs' => ?_, fun i o s ho hs' hd => ?_⟩
        · have ho' : (xs.take m)[i]? = some o := by simpa using ho
          rw [List.getElem?_take] at ho'
          split at ho'
          · exact hH.closed i o (by simpa using ho') hd j hj
          · cases ho'
        · refine hH.old s fun k ok hk he => ?_
          by_cases hkm : k < m
          · exact hs' k ok (by rw [List.getElem?_toArray, List.getElem?_take, if_pos hkm]; simpa using hk) he
          · exact hlo k (by omega)
        · have ho' : (xs.take m)[i]? = some o := by simpa using ho
          rw [List.getElem?_take] at ho'
          split at ho'
          · exact hH.fact i o s (by simpa using ho') hs' hd
          · cases ho'
    have hseq : Region.seqB .any xs.toArray (xs.drop m).length m listed = true := by
      rw [List.length_drop, listed_eq (by simpa using hs) hall hlo]
      exact t3
    have := wpAny_of_seq (P := P) (md := .any) (ops := xs.toArray) (Q' := Q) (xs.drop m) m listed a w (fun j => by simp [List.getElem?_drop]) hseq (by rw [ea]; exact fin _ _ hall hH.wd)
    rwa [List.length_drop] at this
  intro fuel
  induction fuel with
  | zero =>
    intro listed a w hs hH hlo hf
    exfalso
    have : m ∈ unl xs.toArray (dn listed) := List.mem_filter.2 ⟨List.mem_range.2 (by simpa using hmx), by simp [hlo m (Nat.le_refl _)]⟩
    have hz : unl xs.toArray (dn listed) = [] := List.eq_nil_of_length_eq_zero (by omega)
    rw [hz] at this
    cases this
  | succ fuel ih =>
    intro listed a w hs hH hlo hf
    by_cases hall : ∀ j, j < m → dn listed j = true
    · have hge : xs.length - m ≤ fuel + 1 := by
        have : (unl xs.toArray (dn listed)).length = xs.length - m := by
          unfold unl
          have e : (List.range xs.toArray.size).filter (fun i => !dn listed i) = (List.range xs.length).filter (fun i => decide (m ≤ i)) := by
            rw [List.size_toArray]
            apply List.filter_congr
            intro i _
            by_cases e : i < m
            · rw [hall i e]; simp; omega
            · rw [hlo i (by omega)]; simp; omega
          rw [e]
          have hc : ∀ (q : Nat), ((List.range q).filter (fun i => decide (m ≤ i))).length = q - m := by
            intro q
            induction q with
            | zero => simp
            | succ q ihq =>
              rw [List.range_succ, List.filter_append, List.length_append, ihq]
              by_cases e : m ≤ q
              · simp [e]; omega
              · simp [e]; omega
          exact hc _
        omega
      exact wpAny_up hge (tail listed a w hs hH hlo hall)
    · refine ⟨fun hr => ?_, fun i hi => ?_⟩
      · exact absurd (fun j hj => all_done hs (fun i o ho j hj => by
          have ho' : xs[i]? = some o := by simpa using ho
          have := List.all_eq_true.1 h4 i (List.mem_range.2 (List.getElem?_eq_some_iff.1 ho').1)
          rw [ho'] at this
          have := List.all_eq_true.1 this j hj
          simpa using this) hr j (by simp; omega)) hall
      · obtain ⟨o, ho, hd1, hp⟩ := mem_ready' rfl hs hi
        have ho' : xs[i]? = some o := by simpa using ho
        have hio := (Array.getElem?_eq_some_iff.1 ho).1
        have him : i < m := by
          refine Nat.lt_of_not_le fun hmi => ?_
          by_cases e : i = m
          · subst e
            exact hall (all_before hH t1 ho' hp)
          · have h5 := List.all_eq_true.1 t2 i (List.mem_range.2 (by simpa using hio))
            rw [Bool.or_eq_true, decide_eq_true_eq, ho'] at h5
            rcases h5 with h5 | h5
            · omega
            · obtain ⟨k, hk, hkk⟩ := List.any_eq_true.1 h5
              rw [Bool.and_eq_true, decide_eq_true_eq, decide_eq_true_eq] at hkk
              have := hp k hk
              rw [hlo k hkk.1] at this
              cases this
        have hv : vals[i]? = some vals[i] := List.getElem?_eq_getElem (by omega)
        have hk : Knows xs vals a0 i a := ⟨fun j o' s v hx hj oj hoj hs hvj => by
          rw [ho'] at hx; cases hx
          have := hH.fact j oj s (by simpa using hoj) hs (hp j hj)
          rw [hvj] at this
          exact (Option.some.inj this).symm, fun s hs => hH.same (by simpa using hs)⟩
        unfold wpOp
        simp only [ho]
        have next : ∀ (w' : World), Wd (upd (dn listed) i) w' → wpAny P .any xs.toArray Q fuel (listed.setIfInBounds i true) (a.put o.dst vals[i]) w' := fun w' hw' => by
          refine ih _ _ _ (by simpa using hs) ?_ (fun j hj => ?_) ?_
          · rw [dn_set (by omega)]
            exact hH.put ho hd1 hp hdst hin' hv hw' fun _ _ _ _ _ _ h => h
          · rw [dn_set (by omega)]
            unfold upd
            rw [if_neg (by omega)]
            exact hlo j hj
          · rw [dn_set (by omega)]
            have := unl_lt (ops := xs.toArray) hio hd1
            omega
        rw [wanted_eq hin hH (List.mem_of_getElem? ho') hp hG]
        rcases step i o _ ho' hv with ⟨hw, hst⟩ | ⟨hw, hst, hst2⟩
        · rw [if_pos hw]
          exact .inl (hst _ a w hd1 hp hk hH.wd _ next)
        · rw [if_neg (by rw [hw]; decide)]
          have := next w (hst2 _ _ hH.wd)
          rw [hst] at this
          exact this

theorem wp_region_valsT {id : Nat} {xs : List Oper} {w : World} (hm : P.follows .mixedOrders = true) (m n : Nat) (hn : a0.tmps.size = n) (hB : factsGB xs n = true) (hG : guardsB xs = true) (hT : tailB xs m = true) (vals : List Value) (hl : vals.length = m) (Wd : (Nat → Bool) → World → Prop) (h0 : Wd (fun _ => false) w.drew)
    (step : ∀ (i : Nat) (o : Oper) (v : Value), xs[i]? = some o → vals[i]? = some v → wantedV vals o = true ∧ (∀ (done : Nat → Bool) (a : Act) (w : World), done i = false → (∀ j ∈ Region.preds o, done j = true) → Knows xs vals a0 i a → Wd done w → ∀ K : Act → World → Prop, (∀ w', Wd (upd done i) w' → K (a.put o.dst v) w') → Oper.wp P o a w K Q) ∨ wantedV vals o = false ∧ v = undef ∧ (∀ done w, Wd done w → Wd (upd done i) w))
    (fin : ∀ done w, (∀ j, j < m → done j = true) → Wd done w → wpList P xs.toArray Q (xs.drop m) (putAll a0 (xs.zip vals)) w) : (Code.region id xs.toArray true).wp P Q a0 w := by
  refine wp_region_any hm ?_
  have e0 : dn (Array.replicate xs.toArray.size false) = fun _ => false := by
    funext i
    unfold dn
    rw [Array.getD_eq_getD_getElem?, Array.getElem?_replicate]
    split <;> rfl
  refine any_valsT m n hn hB hG hT vals hl Wd step fin _ _ _ _ (by simp) ?_ (fun j _ => by rw [e0]) ?_
  · rw [e0]
    exact ⟨h0, rfl, rfl, (fun i o _ h => by cases h), (fun s _ => rfl), (fun i o s _ _ h => by cases h)⟩
  · have : (unl xs.toArray (dn (Array.replicate xs.toArray.size false))).length ≤ (List.range xs.toArray.size).length := List.length_filter_le _ _
    simpa using this
theorem wpIn_region_valsT {id l k : Nat} {xs : List Oper} {w : World} (hm : P.follows .mixedOrders = true) (hd : noDefers xs = true) (m n : Nat) (hn : a0.tmps.size = n) (hB : factsGB xs n = true) (hG : guardsB xs = true) (hT : tailB xs m = true) (vals : List Value) (hl : vals.length = m) (Wd : (Nat → Bool) → World → Prop) (h0 : Wd (fun _ => false) w.drew)
    (step : ∀ (i : Nat) (o : Oper) (v : Value), xs[i]? = some o → vals[i]? = some v → wantedV vals o = true ∧ (∀ (done : Nat → Bool) (a : Act) (w : World), done i = false → (∀ j ∈ Region.preds o, done j = true) → Knows xs vals a0 i a → Wd done w → ∀ K : Act → World → Prop, (∀ w', Wd (upd done i) w' → K (a.put o.dst v) w') → Oper.wp P o a w K (OnlyN Q)) ∨ wantedV vals o = false ∧ v = undef ∧ (∀ done w, Wd done w → Wd (upd done i) w))
    (fin : ∀ done w, (∀ j, j < m → done j = true) → Wd done w → wpList P xs.toArray (OnlyN Q) (xs.drop m) (putAll a0 (xs.zip vals)) w) : (Code.region id xs.toArray true).wpIn (Fence.wide.inRound l) k P Q a0 w := by
  refine wpIn_mono (wpIn_region_any hm (wpAny_in_round (by simpa using hd) OnlyN.notOut _ _ _ _ ?_)) OnlyN.imp
  have e0 : dn (Array.replicate xs.toArray.size false) = fun _ => false := by
    funext i
    unfold dn
    rw [Array.getD_eq_getD_getElem?, Array.getElem?_replicate]
    split <;> rfl
  refine any_valsT m n hn hB hG hT vals hl Wd step fin _ _ _ _ (by simp) ?_ (fun j _ => by rw [e0]) ?_
  · rw [e0]
    exact ⟨h0, rfl, rfl, (fun i o _ h => by cases h), (fun s _ => rfl), (fun i o s _ _ h => by cases h)⟩
  · have : (unl xs.toArray (dn (Array.replicate xs.toArray.size false))).length ≤ (List.range xs.toArray.size).length := List.length_filter_le _ _
    simpa using this
theorem op_valW {P : Program} {Q : Exit → Act → World → Prop} {o : Oper} {a : Act} {w w' : World} {K : Act → World → Prop} {v : Value} (h1 : (execOp a.eval o).run P w = .ok (.value v) w') (h : K (a.put o.dst v) w') : Oper.wp P o a w K Q := by
  unfold Oper.wp; rw [h1]; exact h
theorem op_skipW {P : Program} {Q : Exit → Act → World → Prop} {o : Oper} {a : Act} {w w' : World} {K : Act → World → Prop} (h1 : (execOp a.eval o).run P w = .ok .skip w') (h : K (a.put o.dst undef) w') : Oper.wp P o a w K Q := by
  unfold Oper.wp; rw [h1]; exact h
theorem wpList_val {P : Program} {ops : Array Oper} {Q : Exit → Act → World → Prop} {o : Oper} {rest : List Oper} {a : Act} {w w' : World} {v : Value} (hgd : o.guard = none) (h1 : (execOp a.eval o).run P w = .ok (.value v) w') (h : wpList P ops Q rest (a.put o.dst v) w') : wpList P ops Q (o :: rest) a w :=
  wpList_plain hgd fun K hK => by unfold Oper.wp; rw [h1]; exact hK _ _ h
theorem Oper.in_wide {n : Nat} {P : Program} {Q : Exit → Act → World → Prop} {o : Oper} {a : Act} {w : World} {K : Act → World → Prop} (hQ : ¬ LetsOut Q) (h : o.wp P a w K Q) : o.wpIn Fence.wide n P a w K Q := by
  unfold Oper.wpIn
  refine ⟨fun _ _ => trivial, ?_⟩
  show o.uponIn _ n P a K Q ((execOp a.eval o).run P w)
  unfold Oper.wp at h
  generalize (execOp a.eval o).run P w = r at *
  cases r with
  | ok x w' =>
    cases x <;> simp only [Oper.upon, Oper.uponIn] at h ⊢
    case value u => exact h
    case skip => exact h
    case defer d => exact h
    case enter f args => exact ⟨(fun h => by cases h), callsIn_wide.2 h⟩
    case row r args =>
      refine ⟨(fun h => by cases h), fun c cs _ => ?_⟩
      obtain ⟨v, w2, h1, h2⟩ := h c cs
      exact ⟨v, w2, h1, stepsIn_wide.2 h2⟩
    all_goals exact h.elim
  | halt x w' => cases x <;> simp only [Oper.upon, Oper.uponIn] at h ⊢ <;> first | exact h | exact h.elim
theorem Oper.wpIn_imp {F : Fence} {n : Nat} {P : Program} {Q Q' : Exit → Act → World → Prop} {o : Oper} {a : Act} {w : World} {K : Act → World → Prop} (h : o.wpIn F n P a w K Q) (hQ : ∀ e a w, Q e a w → Q' e a w) : o.wpIn F n P a w K Q' := by
  unfold Oper.wpIn at h ⊢
  refine ⟨h.1, ?_⟩
  have h2 := h.2
  have hL : LetsOut Q → LetsOut Q' := fun ⟨a, w, h⟩ => ⟨a, w, hQ _ _ _ h⟩
  generalize (o.semAt F.round a.eval).run P w = r at *
  cases r with
  | ok x w' =>
    cases x <;> simp only [Oper.uponIn] at h2 ⊢
    case value u => exact h2
    case skip => exact h2
    case defer d => exact h2
    case enter f args => exact ⟨h2.1, h2.2.mono fun e w h => by cases e <;> first | exact h | exact hQ _ _ _ h | exact hL h⟩
    case row r args => exact h2
    case round l f t s b => exact ⟨h2.1, h2.2.mono fun e w h => by cases e <;> first | exact h | exact hQ _ _ _ h | exact hL h⟩
    all_goals exact h2
  | halt x w' => cases x <;> simp only [Oper.uponIn] at h2 ⊢ <;> first | exact h2 | exact hQ _ _ _ h2
theorem wpAnyIn_more {F : Fence} {fu : Nat} {P : Program} {md : Region.Mode} {ops : Array Oper} {Q : Exit → Act → World → Prop} : ∀ (k : Nat) (listed : Array Bool) (a : Act) (w : World), wpAnyIn F fu P md ops Q k listed a w → wpAnyIn F fu P md ops Q (k + 1) listed a w
  | 0, _, _, _, h => ⟨fun _ => h.2, fun i hi => by rw [h.1] at hi; cases hi⟩
  | k + 1, _, _, _, h => ⟨h.1, fun i hi => wpOpIn_mono (fun a w => wpAnyIn_more k _ a w) (h.2 i hi)⟩
theorem wpAnyIn_up {F : Fence} {fu : Nat} {P : Program} {md : Region.Mode} {ops : Array Oper} {Q : Exit → Act → World → Prop} {k k' : Nat} (hk : k ≤ k') {listed : Array Bool} {a : Act} {w : World} (h : wpAnyIn F fu P md ops Q k listed a w) : wpAnyIn F fu P md ops Q k' listed a w := by
  obtain ⟨d, rfl⟩ := Nat.exists_eq_add_of_le hk
  induction d with
  | zero => exact h
  | succ d ih => exact wpAnyIn_more _ _ _ _ (ih (by omega))
theorem wpAnyIn_of_seq {F : Fence} {fu : Nat} (hF : ∀ f, F.fn f) {P : Program} {md : Region.Mode} {ops : Array Oper} {Q : Exit → Act → World → Prop} : ∀ (l : List Oper) (k : Nat) (listed : Array Bool) (a : Act) (w : World), (∀ j, l[j]? = ops[k + j]?) →
    Region.seqB md ops l.length k listed = true → wpListIn F fu P ops Q l a w → wpAnyIn F fu P md ops Q l.length listed a w
  | [], _, _, _, _, _, hB, h => ⟨by simpa [Region.seqB] using hB, h⟩
  | o :: l, k, listed, a, w, hl, hB, h => by
    have h0 : ops[k]? = some o := by simpa using (hl 0).symm
    simp only [List.length_cons, Region.seqB, Bool.and_eq_true, decide_eq_true_eq] at hB
    refine ⟨fun h1 => (by rw [hB.1] at h1; cases h1), fun i hi => ?_⟩
    rw [hB.1] at hi
    have hik : i = k := by simpa using hi
    subst hik
    have hw : wpOpIn F fu P ops Q i (wpListIn F fu P ops Q l) a w := by unfold wpOpIn; simp only [h0]; exact h
    exact wpOpIn_mono (fun a' w' h' => wpAnyIn_of_seq hF l (i + 1) _ a' w' (fun j => by have := hl (j + 1); simpa [Nat.add_assoc, Nat.add_comm 1 j] using this) hB.2 h') hw

theorem any_valsTIn {F : Fence} {fu : Nat} {Q' : Exit → Act → World → Prop} {xs : List Oper} (hF : ∀ f, F.fn f) (hlift : ∀ o ∈ xs, ∀ (a : Act) (w : World) (K : Act → World → Prop), Oper.wp P o a w K Q' → o.wpIn F fu P a w K Q) (m n : Nat) (hn : a0.tmps.size = n) (hB : factsGB xs n = true) (hG : guardsB xs = true) (hT : tailB xs m = true) (vals : List Value) (hl : vals.length = m) (Wd : (Nat → Bool) → World → Prop)
    (step : ∀ (i : Nat) (o : Oper) (v : Value), xs[i]? = some o → vals[i]? = some v → wantedV vals o = true ∧ (∀ (done : Nat → Bool) (a : Act) (w : World), done i = false → (∀ j ∈ Region.preds o, done j = true) → Knows xs vals a0 i a → Wd done w → ∀ K : Act → World → Prop, (∀ w', Wd (upd done i) w' → K (a.put o.dst v) w') → Oper.wp P o a w K Q') ∨ wantedV vals o = false ∧ v = undef ∧ (∀ done w, Wd done w → Wd (upd done i) w))
    (fin : ∀ done w, (∀ j, j < m → done j = true) → Wd done w → wpListIn F fu P xs.toArray Q (xs.drop m) (putAll a0 (xs.zip vals)) w) :
    ∀ (fuel : Nat) (listed : Array Bool) (a : Act) (w : World), listed.size = xs.toArray.size → HeldG xs.toArray (fun _ i v _ => vals[i]? = some v) (fun done _ w => Wd done w) a0 (dn listed) a w → (∀ j, m ≤ j → dn listed j = false) → (unl xs.toArray (dn listed)).length ≤ fuel → wpAnyIn F fu P .any xs.toArray Q fuel listed a w := by
  have hT' := hT
  unfold tailB at hT'
  rw [Bool.and_eq_true, Bool.and_eq_true, Bool.and_eq_true, decide_eq_true_eq] at hT'
  obtain ⟨⟨⟨hmx, t1⟩, t2⟩, t3⟩ := hT'
  have hB' := hB
  unfold factsGB at hB'
  rw [Bool.and_eq_true, Bool.and_eq_true] at hB'
  obtain ⟨⟨h2, h3⟩, h4⟩ := hB'
  have hin : ∀ o ∈ xs, ∀ s, o.dst = some s → s < a0.tmps.size := fun o ho s hs => by
    have := List.all_eq_true.1 h3 o ho
    rw [hs] at this
    rw [hn]
    simpa using this
  have hdst : ∀ (i j : Nat) (oi oj : Oper) (s : Nat), xs.toArray[i]? = some oi → xs.toArray[j]? = some oj → oi.dst = some s → oj.dst = some s → i = j := fun i j oi oj s hi hj => nodup_dst (of_decide_eq_true h2) i j oi oj s (by simpa using hi) (by simpa using hj)
  have hin' : ∀ (i : Nat) (o : Oper) (s : Nat), xs.toArray[i]? = some o → o.dst = some s → s < a0.tmps.size := fun i o s ho => hin o (List.mem_of_getElem? (by simpa using ho)) s
  have hzl : (xs.take m).zip vals = xs.zip vals := zip_take_left xs vals m (by omega)
  have tail : ∀ (listed : Array Bool) (a : Act) (w : World), listed.size = xs.toArray.size → HeldG xs.toArray (fun _ i v _ => vals[i]? = some v) (fun done _ w => Wd done w) a0 (dn listed) a w → (∀ j, m ≤ j → dn listed j = false) → (∀ j, j < m → dn listed j = true) → wpAnyIn F fu P .any xs.toArray Q (xs.length - m) listed a w := by
    intro listed a w hs hH hlo hall
    have ea : a = putAll a0 (xs.zip vals) := by
      rw [← hzl]
      have hfm : ∀ s, s ∈ (xs.take m).filterMap (·.dst) → s ∈ xs.filterMap (·.dst) := fun s h => by
        obtain ⟨o, ho, he⟩ := List.mem_filterMap.1 h
        exact List.mem_filterMap.2 ⟨o, List.mem_of_mem_take ho, he⟩
      refine held_putAll (xs := xs.take m) (vals := vals) (Wd := fun _ _ => True) (done := dn listed) (w := w) (by rw [List.length_take]; omega) ?_ (fun o ho => hin o (List.mem_of_mem_take ho)) (fun i hi => hall i (by rw [List.length_take] at hi; omega)) ?_
      · exact (of_decide_eq_true h2).sublist ((List.take_sublist m xs).filterMap _)
      · refine ⟨trivial, hH.size, hH.defers, fun i o ho hd j hj => ?_, fun s hs' => ?_, fun i o s ho hs' hd => ?_⟩
        · have ho' : (xs.take m)[i]? = some o := by simpa using ho
          rw [List.getElem?_take] at ho'
          split at ho'
          · exact hH.closed i o (by simpa using ho') hd j hj
          · cases ho'
        · refine hH.old s fun k ok hk he => ?_
          by_cases hkm : k < m
          · exact hs' k ok (by rw [List.getElem?_toArray, List.getElem?_take, if_pos hkm]; simpa using hk) he
          · exact hlo k (by omega)
        · have ho' : (xs.take m)[i]? = some o := by simpa using ho
          rw [List.getElem?_take] at ho'
          split at ho'
          · exact hH.fact i o s (by simpa using ho') hs' hd
          · cases ho'
    have hseq : Region.seqB .any xs.toArray (xs.drop m).length m listed = true := by
      rw [List.length_drop, listed_eq (by simpa using hs) hall hlo]
      exact t3
    have := wpAnyIn_of_seq (F := F) (fu := fu) hF (P := P) (md := .any) (ops := xs.toArray) (Q := Q) (xs.drop m) m listed a w (fun j => by simp [List.getElem?_drop]) hseq (by rw [ea]; exact fin _ _ hall hH.wd)
    rwa [List.length_drop] at this
  intro fuel
  induction fuel with
  | zero =>
    intro listed a w hs hH hlo hf
    exfalso
    have : m ∈ unl xs.toArray (dn listed) := List.mem_filter.2 ⟨List.mem_range.2 (by simpa using hmx), by simp [hlo m (Nat.le_refl _)]⟩
    have hz : unl xs.toArray (dn listed) = [] := List.eq_nil_of_length_eq_zero (by omega)
    rw [hz] at this
    cases this
  | succ fuel ih =>
    intro listed a w hs hH hlo hf
    by_cases hall : ∀ j, j < m → dn listed j = true
    · have hge : xs.length - m ≤ fuel + 1 := by
        have : (unl xs.toArray (dn listed)).length = xs.length - m := by
          unfold unl
          have e : (List.range xs.toArray.size).filter (fun i => !dn listed i) = (List.range xs.length).filter (fun i => decide (m ≤ i)) := by
            rw [List.size_toArray]
            apply List.filter_congr
            intro i _
            by_cases e : i < m
            · rw [hall i e]; simp; omega
            · rw [hlo i (by omega)]; simp; omega
          rw [e]
          have hc : ∀ (q : Nat), ((List.range q).filter (fun i => decide (m ≤ i))).length = q - m := by
            intro q
            induction q with
            | zero => simp
            | succ q ihq =>
              rw [List.range_succ, List.filter_append, List.length_append, ihq]
              by_cases e : m ≤ q
              · simp [e]; omega
              · simp [e]; omega
          exact hc _
        omega
      exact wpAnyIn_up hge (tail listed a w hs hH hlo hall)
    · refine ⟨fun hr => ?_, fun i hi => ?_⟩
      · exact absurd (fun j hj => all_done hs (fun i o ho j hj => by
          have ho' : xs[i]? = some o := by simpa using ho
          have := List.all_eq_true.1 h4 i (List.mem_range.2 (List.getElem?_eq_some_iff.1 ho').1)
          rw [ho'] at this
          have := List.all_eq_true.1 this j hj
          simpa using this) hr j (by simp; omega)) hall
      · obtain ⟨o, ho, hd1, hp⟩ := mem_ready' rfl hs hi
        have ho' : xs[i]? = some o := by simpa using ho
        have hio := (Array.getElem?_eq_some_iff.1 ho).1
        have him : i < m := by
          refine Nat.lt_of_not_le fun hmi => ?_
          by_cases e : i = m
          · subst e
            exact hall (all_before hH t1 ho' hp)
          · have h5 := List.all_eq_true.1 t2 i (List.mem_range.2 (by simpa using hio))
            rw [Bool.or_eq_true, decide_eq_true_eq, ho'] at h5
            rcases h5 with h5 | h5
            · omega
            · obtain ⟨k, hk, hkk⟩ := List.any_eq_true.1 h5
              rw [Bool.and_eq_true, decide_eq_true_eq, decide_eq_true_eq] at hkk
              have := hp k hk
              rw [hlo k hkk.1] at this
              cases this
        have hv : vals[i]? = some vals[i] := List.getElem?_eq_getElem (by omega)
        have hk : Knows xs vals a0 i a := ⟨fun j o' s v hx hj oj hoj hs hvj => by
          rw [ho'] at hx; cases hx
          have := hH.fact j oj s (by simpa using hoj) hs (hp j hj)
          rw [hvj] at this
          exact (Option.some.inj this).symm, fun s hs => hH.same (by simpa using hs)⟩
        unfold wpOpIn
        simp only [ho]
        have next : ∀ (w' : World), Wd (upd (dn listed) i) w' → wpAnyIn F fu P .any xs.toArray Q fuel (listed.setIfInBounds i true) (a.put o.dst vals[i]) w' := fun w' hw' => by
          refine ih _ _ _ (by simpa using hs) ?_ (fun j hj => ?_) ?_
          · rw [dn_set (by omega)]
            exact hH.put ho hd1 hp hdst hin' hv hw' fun _ _ _ _ _ _ h => h
          · rw [dn_set (by omega)]
            unfold upd
            rw [if_neg (by omega)]
            exact hlo j hj
          · rw [dn_set (by omega)]
            have := unl_lt (ops := xs.toArray) hio hd1
            omega
        rw [wanted_eq hin hH (List.mem_of_getElem? ho') hp hG]
        rcases step i o _ ho' hv with ⟨hw, hst⟩ | ⟨hw, hst, hst2⟩
        · rw [if_pos hw]
          exact hlift o (List.mem_of_getElem? ho') _ _ _ (hst _ a w hd1 hp hk hH.wd _ next)
        · rw [if_neg (by rw [hw]; decide)]
          have := next w (hst2 _ _ hH.wd)
          rw [hst] at this
          exact ⟨fun f _ => hF f, this⟩

theorem region_valsTIn {F : Fence} {fu : Nat} {Q' : Exit → Act → World → Prop} {id : Nat} {xs : List Oper} {w : World} (hm : P.follows .mixedOrders = true) (hF : ∀ f, F.fn f) (hlift : ∀ o ∈ xs, ∀ (a : Act) (w : World) (K : Act → World → Prop), Oper.wp P o a w K Q' → o.wpIn F fu P a w K Q) (m n : Nat) (hn : a0.tmps.size = n) (hB : factsGB xs n = true) (hG : guardsB xs = true) (hT : tailB xs m = true) (vals : List Value) (hl : vals.length = m) (Wd : (Nat → Bool) → World → Prop) (h0 : Wd (fun _ => false) w.drew)
    (step : ∀ (i : Nat) (o : Oper) (v : Value), xs[i]? = some o → vals[i]? = some v → wantedV vals o = true ∧ (∀ (done : Nat → Bool) (a : Act) (w : World), done i = false → (∀ j ∈ Region.preds o, done j = true) → Knows xs vals a0 i a → Wd done w → ∀ K : Act → World → Prop, (∀ w', Wd (upd done i) w' → K (a.put o.dst v) w') → Oper.wp P o a w K Q') ∨ wantedV vals o = false ∧ v = undef ∧ (∀ done w, Wd done w → Wd (upd done i) w))
    (fin : ∀ done w, (∀ j, j < m → done j = true) → Wd done w → wpListIn F fu P xs.toArray Q (xs.drop m) (putAll a0 (xs.zip vals)) w) : (Code.region id xs.toArray true).wpIn F fu P Q a0 w := by
  refine wpIn_region_any hm ?_
  have e0 : dn (Array.replicate xs.toArray.size false) = fun _ => false := by
    funext i
    unfold dn
    rw [Array.getD_eq_getD_getElem?, Array.getElem?_replicate]
    split <;> rfl
  refine any_valsTIn hF hlift m n hn hB hG hT vals hl Wd step fin _ _ _ _ (by simp) ?_ (fun j _ => by rw [e0]) ?_
  · rw [e0]
    exact ⟨h0, rfl, rfl, (fun i o _ h => by cases h), (fun s _ => rfl), (fun i o s _ _ h => by cases h)⟩
  · have : (unl xs.toArray (dn (Array.replicate xs.toArray.size false))).length ≤ (List.range xs.toArray.size).length := List.length_filter_le _ _
    simpa using this
theorem lift_round {l k : Nat} {xs : List Oper} (hd : noDefers xs = true) : ∀ o ∈ xs, ∀ (a : Act) (w : World) (K : Act → World → Prop), Oper.wp P o a w K (OnlyN Q) → o.wpIn (Fence.wide.inRound l) k P a w K Q :=
  fun _ ho _ _ _ h => Oper.wpIn_imp (Oper.in_round (noDefers_at hd ho) h) OnlyN.imp
theorem lift_wide {k : Nat} {xs : List Oper} : ∀ o ∈ xs, ∀ (a : Act) (w : World) (K : Act → World → Prop), Oper.wp P o a w K (OnlyN Q) → o.wpIn Fence.wide k P a w K Q :=
  fun _ _ _ _ _ h => Oper.wpIn_imp (Oper.in_wide OnlyN.notOut h) OnlyN.imp
end
end Go
namespace Go.Proofs
open Go
theorem op_callN {o : Oper} {a : Act} {w : World} {K : Act → World → Prop} {Q : Exit → Act → World → Prop} {f : Nat} {fn : Func} (hf : Try.prog.funcs[f]? = some fn) (hn : (fn.name == "runtime.NumGoroutine") = false) (hb : fn.body.isNone = false)
    (xs : Array Operand) {tys : Array TypeId} (ho : o.op = .call { callee := .value (.func f), args := xs, argTypes := tys }) {vs : Array Value} (hx : xs.map a.eval = vs) {R : Ending → World → Prop} (hc : Calls Try.prog f vs w R)
    (h : ∀ e w', R e w' → ∃ v, e = .returned v ∧ K (a.put o.dst v) w') : Oper.wp Try.prog o a w K Q := by
  unfold Oper.wp
  have hrun : (execOp a.eval o).run Try.prog w = .ok (.enter f vs) w := by
    unfold execOp
    simp only [ho, resolve, invoke, Sem.run_bind, hx]
    simp [go_sem]
    exact run_enters hf hn hb _ _
  rw [hrun, Oper.upon_enter]
  refine hc.mono ?_
  intro e w' hr
  obtain ⟨v, rfl, hk⟩ := h e w' hr
  exact hk
theorem op_callF {o : Oper} {a : Act} {w : World} {K : Act → World → Prop} {Q : Exit → Act → World → Prop} {f : Nat} {fn : Func} (hf : Try.prog.funcs[f]? = some fn) (hn : (fn.name == "runtime.NumGoroutine") = false) (hb : fn.body.isNone = false)
    (g : Operand) (xs : Array Operand) {tys : Array TypeId} (ho : o.op = .call { callee := .value g, args := xs, argTypes := tys }) {first cap : Array Value} (hg : a.eval g = .func (.func f) first cap) {vs : Array Value} (hx : xs.map a.eval = vs) {R : Ending → World → Prop} (hc : Calls Try.prog f (first ++ vs ++ cap) w R)
    (h : ∀ e w', R e w' → ∃ v, e = .returned v ∧ K (a.put o.dst v) w') : Oper.wp Try.prog o a w K Q := by
  unfold Oper.wp
  have hrun : (execOp a.eval o).run Try.prog w = .ok (.enter f (first ++ vs ++ cap)) w := by
    unfold execOp
    simp only [ho, resolve, invoke, Sem.run_bind, hx, hg]
    simp [go_sem]
    exact run_enters hf hn hb _ _
  rw [hrun, Oper.upon_enter]
  refine hc.mono ?_
  intro e w' hr
  obtain ⟨v, rfl, hk⟩ := h e w' hr
  exact hk
end Go.Proofs
end

section
namespace Go.Proofs
open Go.RowKit

theorem ty24 : SliceTy Try.prog 26 3 1 8 := .mk' (z := .int .i64 0) Try.underlying26 (by kernel_rfl) rfl (by decide)

def OwnInts (w0 : World) (l : List Int) (e : Ending) (w' : World) : Prop := ∃ v, e = .returned v ∧ w'.ownsRow w0.heap.size 3 1 v l.length (l.map (Value.int .i64)) ∧ Aft w0 w'


theorem ints_src {w : World} {A : Option Addr} {l : List Int} (h : Ints w A l) : ∀ ad, A = some ad → ∀ j u, (l.map (Value.int .i64))[j]? = some u → w.cell? (ad.add j) = some u := by
  intro ad e j u hj
  have hlt : j < l.length := by have := (List.getElem?_eq_some_iff.1 hj).1; simpa using this
  obtain ⟨b, o, e2, _, hc⟩ := h.at hlt
  rw [e] at e2; cases e2
  rw [Addr.add_lit, hc j hlt]
  simp [hlt] at hj; simp [hj]
theorem ints_nil {w : World} {A : Option Addr} {l : List Int} (h : Ints w A l) (e : A = none) : l.length = 0 := by
  rcases Nat.eq_zero_or_pos l.length with h0 | h0
  · exact h0
  · obtain ⟨b, o, e2, _⟩ := h.at h0
    rw [e] at e2; cases e2
theorem ints_one (l : List Int) : ∀ u ∈ l.map (Value.int .i64), u.oneCell' = true := by
  intro u hu; obtain ⟨x, _, rfl⟩ := List.mem_map.1 hu; rfl

theorem kitClone_int (A : Option Addr) (l : List Int) (c : Nat) (w : World) (hA : Ints w A l) :
    Calls Try.prog 7 #[.slice A l.length c] w (OwnInts w l) := by
  have hl := hA.len
  go_enter Try.func7, Try.ntmps7
  go_wp2_with (at_builtin; refine wpList_app ty24 rfl _ _ rfl (Aft.refl w) rfl (World.ownsRow_nil w _ 3 1) rfl (by simp) (ints_nil hA) (ints_src hA) (ints_one l) (by omega) (by decide) ?_; intro v' w1 hown' hgrow haft)
  go_ret
  exact ⟨_, rfl, by simpa using hown', haft⟩

theorem clone84 (A : Option Addr) (l : List Int) (c : Nat) (w : World) (hA : Ints w A l) :
    Calls Try.prog 39 #[.slice A l.length c] w (OwnInts w l) := by
  have hl := hA.len
  have qT : ∀ (w : World) (a : Option Addr) (n c n' c' : Nat), (binOp .eql 26 (.slice a n c) (.slice none n' c')).run Try.prog w = .ok (.bool a.isNone) w := fun w a n c n' c' => Lib.run_eql_slice_nil w _ _ a n c n' c' Try.underlying26
  cases A with
  | none =>
    have h0 := ints_nil hA rfl
    have : l = [] := List.eq_nil_of_length_eq_zero h0
    subst this
    go_enter Try.func39, Try.ntmps39
    go_wp2
    go_ret
    exact ⟨_, rfl, World.ownsRow_nil w _ 3 1, Aft.refl _⟩
  | some ad =>
    have hN := Lib.hid (ints_src hA)
    go_enter Try.func39, Try.ntmps39
    go_wp2_with (at_builtin; refine wpList_app ty24 rfl _ _ rfl (Aft.alloc w _) rfl (World.ownsRow_made w #[] 0 (Nat.le_refl _) (by unfold maxLen; omega) rfl) rfl (by simp) (fun h => by cases h) (ints_src (hA.aft (Aft.alloc w _))) (ints_one l) (by omega) (by decide) ?_; intro v' w1 hown' hgrow haft)
    go_ret
    exact ⟨_, rfl, by simpa using hown', haft⟩

def eqB {α : Type} [DecidableEq α] (a b : List α) : Bool := decide (a = b)

theorem eq_of_steps {α : Type} [DecidableEq α] (a b : List α) (h : ∀ i, (ha : i < a.length) → (hb : i < b.length) → a[i] = b[i]) (hl : a.length = b.length) : a = b :=
  List.ext_getElem hl h

set_option maxHeartbeats 1000000 in
theorem kitEqual_int (A A' : Option Addr) (l l' : List Int) (c c' : Nat) (w : World) (hA : Ints w A l) (hA' : Ints w A' l') :
    Calls Try.prog 13 #[.slice A l.length c, .slice A' l'.length c'] w fun e w' => e = .returned (.bool (eqB l l')) ∧ Aft w w' := by
  have hl := hA.len
  have hl' := hA'.len
  go_enter Try.func13, Try.ntmps13
  go_wp2
  go_loopw [8] (fun i wr => ∃ k : Nat, i = .int .i64 k ∧ k ≤ l.length ∧ (k ≤ l'.length) ∧ (∀ j, (h : j < l.length) → (h' : j < l'.length) → j < k → l[j] = l'[j]) ∧ ∃ n, wr = w.drewN n) (fun i _ => l.length - (intOf i).toNat)
  case atStart => exact ⟨0, rfl, by omega, by omega, fun j _ _ h => by omega, 0, rfl⟩
  case round =>
    obtain ⟨k, rfl, hk, hk', hlt, n, rfl⟩ := hrel
    have HL := Lib.hid hlt
    clear hlt
    by_cases hkl : k < l.length
    · obtain ⟨b, o, rfl, hb, hc⟩ := hA.at hkl
      have h1 : w.cell? ⟨b, o + k, none⟩ = some (.int .i64 l[k]) := hc k hkl
      clear hc
      by_cases hkl' : k < l'.length
      · obtain ⟨b', o', rfl, hb', hc'⟩ := hA'.at hkl'
        have h1' : w.cell? ⟨b', o' + k, none⟩ = some (.int .i64 l'[k]) := hc' k hkl'
        clear hc'
        have d1 : decide ((l'.length : Int) ≤ k) = false := by simp; omega
        go_wp2
        go_quiet (fail)
        clear d1
        go_wp2
        · have h3 : ¬ l[k] = l'[k] := by rcases (by assumption : l'.length ≤ k ∨ (l[k] != l'[k]) = true) with h | h; omega; simpa using h
          go_ret
          exact ⟨ret_bool (by unfold eqB; rw [eq_comm, decide_eq_false_iff_not]; rintro rfl; exact h3 rfl), (Aft.drewN _ _).then_drewN _⟩
        · have h3 : l[k] = l'[k] := by simp_all
          have H3 := Lib.hid h3
          clear h3
          go_roundw
          case rel =>
            refine ⟨k + 1, by go_num, by omega, by omega, fun j hj hj' hjk => ?_, _, rfl⟩
            by_cases e : j = k
            · subst e; exact H3.out
            · exact HL.out j hj hj' (by omega)
          case measure => simp [intOf]; omega
      · have d1 : decide ((l'.length : Int) ≤ k) = true := by simp; omega
        go_wp2
        go_quiet (fail)
        clear d1
        go_wp2
        go_ret
        exact ⟨ret_bool (by unfold eqB; rw [eq_comm, decide_eq_false_iff_not]; rintro rfl; omega), Aft.drewN _ _⟩
    · go_wp2
      go_ret
      refine ⟨ret_bool ?_, Aft.drewN _ _⟩
      unfold eqB
      by_cases e : l.length = l'.length
      · rw [beq_iff_eq.2 (by omega), decide_eq_true]; exact eq_of_steps l l' (fun i ha hb => HL.out i ha hb (by omega)) e
      · rw [beq_eq_false_iff_ne.2 (by omega), decide_eq_false]; intro h; exact e (by rw [h])
end Go.Proofs
end

section
namespace Go.Proofs
open Go.RowKit

def ListR : World → List Int → List Value → Prop := fun w l vs => ∃ A c, vs = [.slice A l.length c] ∧ Ints w A l
theorem ListR.mono : MonoR ListR := fun _ u _ _ ⟨A, c, h1, h2⟩ => ⟨A, c, h1, h2.lat u⟩
def Lists (w : World) (A : Option Addr) (l : List (List Int)) : Prop := RowsP w A 1 ListR l
theorem Lists.lat {w : World} {A : Option Addr} {l : List (List Int)} (h : Lists w A l) (u : Later w) : Lists (w.lat u) A l := RowsP.lat ListR.mono h u
theorem Lists.aft {w w' : World} {A : Option Addr} {l : List (List Int)} (h : Lists w A l) (hl : Aft w w') : Lists w' A l := RowsP.aft ListR.mono h hl
theorem Lists.len {w : World} {A : Option Addr} {l : List (List Int)} (h : Lists w A l) : l.length ≤ 17592186043904 := RowsP.len h (by decide)
theorem Lists.at {w : World} {A : Option Addr} {l : List (List Int)} (h : Lists w A l) {k : Nat} (hk : k < l.length) :
    ∃ b o, A = some ⟨b, o, none⟩ ∧ b < w.heap.size ∧ ∀ i, (h : i < l.length) → ∃ A' c', w.cell? ⟨b, o + i, none⟩ = some (.slice A' l[i].length c') ∧ Ints w A' l[i] := by
  obtain ⟨b, o, rfl, hb, hc⟩ := RowsP.at h hk
  refine ⟨b, o, rfl, hb, fun i hi => ?_⟩
  obtain ⟨vs, h1, ⟨A', c', rfl, h2⟩, h3⟩ := hc i hi
  exact ⟨A', c', by simpa using h3 0 (by simp), h2⟩

end Go.Proofs
end

section
namespace Go.Proofs
open Go.RowKit

structure CaseL where
  claims : Int
  strikes : List (Int × Int)
  surveys : List (List Int)

def StrR : World → Int × Int → List Value → Prop := fun _ s vs => vs = [.int .i64 s.1, .int .i64 s.2]
theorem StrR.mono : MonoR StrR := fun _ _ _ _ h => h
def Strs (w : World) (A : Option Addr) (l : List (Int × Int)) : Prop := RowsP w A 2 StrR l
theorem Strs.lat {w : World} {A : Option Addr} {l : List (Int × Int)} (h : Strs w A l) (u : Later w) : Strs (w.lat u) A l := RowsP.lat StrR.mono h u
theorem Strs.aft {w w' : World} {A : Option Addr} {l : List (Int × Int)} (h : Strs w A l) (hl : Aft w w') : Strs w' A l := RowsP.aft StrR.mono h hl
theorem Strs.len {w : World} {A : Option Addr} {l : List (Int × Int)} (h : Strs w A l) : l.length ≤ 17592186043904 := RowsP.len h (by decide)
theorem Strs.at {w : World} {A : Option Addr} {l : List (Int × Int)} (h : Strs w A l) {k : Nat} (hk : k < l.length) :
    ∃ b o, A = some ⟨b, o, none⟩ ∧ b < w.heap.size ∧ ∀ i, (h : i < l.length) → w.cell? ⟨b, o + i * 2, none⟩ = some (.int .i64 l[i].1) ∧ w.cell? ⟨b, o + i * 2 + 1, none⟩ = some (.int .i64 l[i].2) := by
  obtain ⟨b, o, rfl, hb, hc⟩ := RowsP.at h hk
  refine ⟨b, o, rfl, hb, fun i hi => ?_⟩
  obtain ⟨vs, h1, rfl, h3⟩ := hc i hi
  exact ⟨by simpa using h3 0 (by simp), by simpa using h3 1 (by simp)⟩

structure CRep (w : World) (C : CaseL) (a1 a2 : Option Addr) : Prop where
  strikes : Strs w a1 C.strikes
  surveys : Lists w a2 C.surveys
theorem CRep.lat {w : World} {C : CaseL} {a1 a2 : Option Addr} (h : CRep w C a1 a2) (u : Later w) : CRep (w.lat u) C a1 a2 := ⟨h.strikes.lat u, h.surveys.lat u⟩
theorem CRep.aft {w w' : World} {C : CaseL} {a1 a2 : Option Addr} (h : CRep w C a1 a2) (ha : Aft w w') : CRep w' C a1 a2 := by obtain ⟨u, rfl⟩ := ha; exact h.lat u

def Cl (n N : Int) : Bool := fromB n 0 (N - 1)

theorem claimed_any (N n : Int) (s1 s2 : Option Addr) (n1 n2 c1 c2 : Nat) (w : World) (hN : 1 ≤ N ∧ N ≤ 14) :
    Calls Try.prog 64 #[.agg #[.int .i64 N, .slice s1 n1 c1, .slice s2 n2 c2], .int .i64 n] w fun e w' => e = .returned (.bool (Cl n N)) ∧ Aft w w' := by
  go_enter Try.func64, Try.ntmps64
  go_wp2_with (go_at_call 29; refine (from_any _ _ _ _).mono ?_; rintro e w' ⟨rfl, rfl⟩)
  go_ret
  exact ⟨rfl, Aft.alloc _ _⟩

theorem strange_any (N n : Int) (s1 s2 : Option Addr) (n1 n2 c1 c2 : Nat) (w : World) (hN : 1 ≤ N ∧ N ≤ 14) :
    Calls Try.prog 32 #[.agg #[.int .i64 N, .slice s1 n1 c1, .slice s2 n2 c2], .int .i64 n] w fun e w' => e = .returned (.bool (!Cl n N)) ∧ Aft w w' := by
  go_enter Try.func32, Try.ntmps32
  go_wp2_with (go_at_call 64; refine (claimed_any N n s1 s2 n1 n2 c1 c2 _ hN).mono ?_; rintro e w' ⟨rfl, u, rfl⟩)
  go_ret
  exact ⟨rfl, (Aft.alloc _ _).then_lat _⟩

theorem runs_59 (args : Array Value) (w : World) : (callFunc 32 args).run Try.prog w = .ok (.enter 32 args) w := by simp [go_sem]

theorem strange_asks (N n : Int) (s1 s2 : Option Addr) (n1 n2 c1 c2 : Nat) (w : World) (hN : 1 ≤ N ∧ N ≤ 14) :
    AsksB 32 (.agg #[.int .i64 N, .slice s1 n1 c1, .slice s2 n2 c2]) w (.int .i64 n) (!Cl n N) := fun u => strange_any N n s1 s2 n1 n2 c1 c2 _ hN

theorem none_strange (N : Int) (s1 s2 : Option Addr) (n1 n2 c1 c2 : Nat) (A : Option Addr) (l : List Int) (c : Nat) (w : World) (hN : 1 ≤ N ∧ N ≤ 14) (hA : Ints w A l) :
    Calls Try.prog 37 #[.slice A l.length c, .func (.func 32) #[.agg #[.int .i64 N, .slice s1 n1 c1, .slice s2 n2 c2]] #[]] w fun e w' => e = .returned (.bool (l.all fun n => Cl n N)) ∧ Aft w w' :=
  (none_bound IntR 32 _ (fun n => !Cl n N) A l c w hA runs_59 (fun x _ v0 hv => by cases hv; exact strange_asks N x s1 s2 n1 n2 c1 c2 w hN)).mono
    fun _ _ ⟨h, ha⟩ => ⟨by rw [h]; exact ret_bool (by rw [List.all_eq_not_any_not]), ha⟩

def listedE (N : Int) (l : List Int) : Int := if l.all (fun n => Cl n N) then (if risesB l then 0 else 5) else 2

theorem listed_any (N : Int) (s1 s2 : Option Addr) (n1 n2 c1 c2 : Nat) (A : Option Addr) (l : List Int) (c : Nat) (w : World) (hN : 1 ≤ N ∧ N ≤ 14) (hA : Ints w A l) :
    Calls Try.prog 33 #[.agg #[.int .i64 N, .slice s1 n1 c1, .slice s2 n2 c2], .slice A l.length c] w fun e w' => e = .returned (.int .i64 (listedE N l)) ∧ Aft w w' := by
  have HA := Lib.hid hA
  clear hA
  have h0 : Aft w (w.alloc (.cells #[.int .i64 N, .slice s1 n1 c1, .slice s2 n2 c2] 25)) := Aft.alloc _ _
  have HS : Hid (∀ w7, Aft w w7 → Calls Try.prog 37 #[.slice A l.length c, .func (.func 32) #[.agg #[.int .i64 N, .slice s1 n1 c1, .slice s2 n2 c2]] #[]] w7 fun e w' => e = .returned (.bool (l.all fun n => Cl n N)) ∧ Aft w7 w') :=
    Lib.hid fun w7 h => none_strange N s1 s2 n1 n2 c1 c2 A l c w7 hN (HA.out.aft h)
  go_enter Try.func33, Try.ntmps33
  by_cases h1 : (l.all fun n => Cl n N) = true
  · rw [h1] at HS
    by_cases h2 : risesB l = true
    · go_wp2_with (first | (go_at_call 37; refine (HS.out _ h0).mono ?_; rintro e w' ⟨rfl, u, rfl⟩) | (go_at_call 65; refine (rises_any A l c _ (HA.out.aft (h0.then_lat _))).mono ?_; rw [h2]; rintro e w' ⟨rfl, u, rfl⟩))
      go_ret
      exact ⟨by unfold listedE; rw [if_pos h1, if_pos h2]; rfl, (h0.then_lat _).then_lat _⟩
    · go_wp2_with (first | (go_at_call 37; refine (HS.out _ h0).mono ?_; rintro e w' ⟨rfl, u, rfl⟩) | (go_at_call 65; refine (rises_any A l c _ (HA.out.aft (h0.then_lat _))).mono ?_; rw [Bool.eq_false_iff.2 h2]; rintro e w' ⟨rfl, u, rfl⟩))
      go_ret
      exact ⟨by unfold listedE; rw [if_pos h1, if_neg h2]; rfl, (h0.then_lat _).then_lat _⟩
  · rw [Bool.eq_false_iff.2 h1] at HS
    go_wp2_with (go_at_call 37; refine (HS.out _ h0).mono ?_; rintro e w' ⟨rfl, u, rfl⟩)
    go_ret
    exact ⟨by unfold listedE; rw [if_neg h1]; rfl, h0.then_lat _⟩
end Go.Proofs
end
