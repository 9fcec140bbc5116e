/- Own texts, merged: CtP CtQ CtR CtS0. -/
import Derived.Test.YtbchfakfdikkjaaGreatP02
import Derived.Test.YtbchfakfdikkjaaGreatP04
import Derived.Test.YtbchfakfdikkjaaGreatP09
import Derived.Laws.CopyOwn
set_option linter.unusedSimpArgs false
set_option linter.unusedVariables false
set_option linter.unnecessarySimpa false
section
namespace Go.Proofs
open Go.RowKit
open Court (refL begF noS struckB nextR)

def overF (F : List Int) (f : Int → Nat) : Int → Nat := fun n => if 0 ≤ n ∧ n < F.length then (F.getD n.toNat 0).toNat else f n
theorem mnL_over (F : List Int) (f : Int → Nat) (hF : F.length ≤ 14) (h0 : ∀ x ∈ F, 0 ≤ x) : mnL (overF F f) = F.map (Value.int .i64) ++ (mnL f).drop F.length := by
  apply List.ext_getElem?
  intro i
  by_cases hi : i < 14
  · rw [mnL_get _ hi]
    by_cases h : i < F.length
    · rw [List.getElem?_append_left (by simpa using h), List.getElem?_map, List.getElem?_eq_getElem h]
      unfold overF
      rw [if_pos (by omega)]
      have e : F.getD ((i : Int).toNat) 0 = F[i] := by simp [List.getD, h]
      rw [e]
      have := h0 _ (List.getElem_mem h)
      simp [Int.toNat_of_nonneg this]
    · rw [List.getElem?_append_right (by simp; omega), List.length_map, List.getElem?_drop, show F.length + (i - F.length) = i by omega, mnL_get _ hi]
      unfold overF
      rw [if_neg (by omega)]
  · rw [List.getElem?_eq_none (by rw [mnL_len]; omega), List.getElem?_eq_none (by rw [List.length_append, List.length_map, List.length_drop, mnL_len]; omega)]
theorem desk_over_found (C : CaseL) (a1 a2 : Option Addr) (c1 c2 : Nat) (ref sure : Int → Bool) (f r : Int → Nat) (F : List Int) (hF : F.length ≤ 14) (h0 : ∀ x ∈ F, 0 ≤ x) :
    (deskL C a1 a2 c1 c2 ref sure f r).take 31 ++ (F.map (Value.int .i64) ++ (deskL C a1 a2 c1 c2 ref sure f r).drop (31 + F.length)) = deskL C a1 a2 c1 c2 ref sure (overF F f) r := by
  have e : ∀ g : Int → Nat, deskL C a1 a2 c1 c2 ref sure g r = ([Value.int .i64 C.claims, .slice a1 C.strikes.length c1, .slice a2 C.surveys.length c2] ++ (mkL ref ++ mkL sure)) ++ (mnL g ++ mnL r) := fun g => by
    unfold deskL; simp only [List.append_assoc]
  have hl : ([Value.int .i64 C.claims, .slice a1 C.strikes.length c1, .slice a2 C.surveys.length c2] ++ (mkL ref ++ mkL sure)).length = 31 := by simp only [List.length_append, mkL_len, List.length_cons, List.length_nil]
  rw [e f, e (overF F f), mnL_over F f hF h0, List.take_left' hl, show 31 + F.length = ([Value.int .i64 C.claims, .slice a1 C.strikes.length c1, .slice a2 C.surveys.length c2] ++ (mkL ref ++ mkL sure)).length + F.length by rw [hl], List.drop_length_add_append, List.drop_append_of_le_length (by rw [mnL_len]; exact hF)]
  simp only [List.append_assoc]
theorem desk_over_rank (C : CaseL) (a1 a2 : Option Addr) (c1 c2 : Nat) (ref sure : Int → Bool) (f r : Int → Nat) (F : List Int) (hF : F.length ≤ 14) (h0 : ∀ x ∈ F, 0 ≤ x) :
    (deskL C a1 a2 c1 c2 ref sure f r).take 45 ++ (F.map (Value.int .i64) ++ (deskL C a1 a2 c1 c2 ref sure f r).drop (45 + F.length)) = deskL C a1 a2 c1 c2 ref sure f (overF F r) := by
  have e : ∀ g : Int → Nat, deskL C a1 a2 c1 c2 ref sure f g = ([Value.int .i64 C.claims, .slice a1 C.strikes.length c1, .slice a2 C.surveys.length c2] ++ (mkL ref ++ (mkL sure ++ mnL f))) ++ mnL g := fun g => by
    unfold deskL; simp only [List.append_assoc]
  have hl : ([Value.int .i64 C.claims, .slice a1 C.strikes.length c1, .slice a2 C.surveys.length c2] ++ (mkL ref ++ (mkL sure ++ mnL f))).length = 45 := by simp only [List.length_append, mkL_len, mnL_len, List.length_cons, List.length_nil]
  rw [e r, e (overF F r), mnL_over F r hF h0, List.take_left' hl, show 45 + F.length = ([Value.int .i64 C.claims, .slice a1 C.strikes.length c1, .slice a2 C.surveys.length c2] ++ (mkL ref ++ (mkL sure ++ mnL f))).length + F.length by rw [hl], List.drop_length_add_append]
theorem only_setRow (w : World) (g : Nat) (cs : Array Value) : w.grownBy (w.setRow g cs) (some g) :=
  ⟨rfl, rfl, rfl, by simp [World.setRow], fun i _ hne => setRow_other w g i cs (fun e => hne (by rw [e]))⟩
theorem DeskAt.over {w0 w : World} {d : Nat} {C : CaseL} {a1 a2 : Option Addr} {c1 c2 : Nat} {ref sure : Int → Bool} {f r f' r' : Int → Nat} (h : DeskAt w0 w d C a1 a2 c1 c2 ref sure f r) {cs : List Value} (he : cs = deskL C a1 a2 c1 c2 ref sure f' r') : DeskAt w0 (w.setRow d cs.toArray) d C a1 a2 c1 c2 ref sure f' r' :=
  ⟨by subst he; exact setRow_heap w d (deskL C a1 a2 c1 c2 ref sure f r).toArray _ 94 _ h.blk, h.rep, h.base, h.aft.grown (only_setRow w d _) (fun k e => by cases e; exact h.base)⟩

def holdsE (C : CaseL) (R F K : List Int) : Int :=
  if openE C R = 0 then (if (F.length : Int) ≠ C.claims ∨ (K.length : Int) ≠ C.claims then 3 else if F.all (fun n => fromB n 0 2) && K.all (fun n => fromB n 0 14) then 0 else 4) else openE C R
theorem runs_91 (args : Array Value) (w : World) : (callFunc 91 args).run Tryz.prog w = .ok (.enter 91 args) w := by simp [go_sem]
theorem runs_92 (args : Array Value) (w : World) : (callFunc 92 args).run Tryz.prog w = .ok (.enter 92 args) w := by simp [go_sem]
theorem holds1_any (n : Int) (w : World) : Calls Tryz.prog 91 #[.int .i64 n] w fun e w' => e = .returned (.bool (!fromB n 0 2)) ∧ Aft w w' := by
  go_enter Tryz.func91, Tryz.ntmps91
  go_wp2_with (go_at_call 54; refine (from_any _ _ _ _).mono ?_; rintro e w' ⟨rfl, rfl⟩)
  go_ret
  exact ⟨rfl, Aft.refl _⟩
theorem holds2_any (n : Int) (w : World) : Calls Tryz.prog 92 #[.int .i64 n] w fun e w' => e = .returned (.bool (!fromB n 0 14)) ∧ Aft w w' := by
  go_enter Tryz.func92, Tryz.ntmps92
  go_wp2_with (go_at_call 54; refine (from_any _ _ _ _).mono ?_; rintro e w' ⟨rfl, rfl⟩)
  go_ret
  exact ⟨rfl, Aft.refl _⟩
theorem none_found (A : Option Addr) (l : List Int) (c : Nat) (w : World) (hA : Ints w A l) :
    Calls Tryz.prog 85 #[.slice A l.length c, .func (.func 91) #[] #[]] w fun e w' => e = .returned (.bool (l.all fun n => fromB n 0 2)) ∧ Aft w w' :=
  (none_int IntR 91 [] (fun n => !fromB n 0 2) A l c w hA runs_91 (fun x _ v0 hv => by cases hv; exact fun u => holds1_any x _)).mono fun _ _ ⟨h, ha⟩ => ⟨by rw [h]; exact ret_bool (by rw [List.all_eq_not_any_not]), ha⟩
theorem none_rank (A : Option Addr) (l : List Int) (c : Nat) (w : World) (hA : Ints w A l) :
    Calls Tryz.prog 85 #[.slice A l.length c, .func (.func 92) #[] #[]] w fun e w' => e = .returned (.bool (l.all fun n => fromB n 0 14)) ∧ Aft w w' :=
  (none_int IntR 92 [] (fun n => !fromB n 0 14) A l c w hA runs_92 (fun x _ v0 hv => by cases hv; exact fun u => holds2_any x _)).mono fun _ _ ⟨h, ha⟩ => ⟨by rw [h]; exact ret_bool (by rw [List.all_eq_not_any_not]), ha⟩

def HoldsR (b : Bool) (E : Int) (w : World) (e : Ending) (w' : World) : Prop := e = .returned (.tuple #[.bool b, .int .i64 E]) ∧ Aft w w'

set_option maxRecDepth 100000 in
set_option maxHeartbeats 2000000 in
theorem holds_bad (C : CaseL) (a1 a2 : Option Addr) (c1 c2 : Nat) (R F K : List Int) (A A' A'' : Option Addr) (c c' c'' : Nat) (w : World) (hC : CRep w C a1 a2) (hA : Ints w A R) (hF : Ints w A' F) (hK : Ints w A'' K) (he : holdsE C R F K ≠ 0) :
    Calls Tryz.prog 43 #[(.agg #[.int .i64 C.claims, .slice a1 C.strikes.length c1, .slice a2 C.surveys.length c2]), .slice A R.length c, .slice A' F.length c', .slice A'' K.length c''] w (HoldsR false (holdsE C R F K) w) := by
  have H0 := Lib.hid (Aft.alloc w (.cells #[.int .i64 C.claims, .slice a1 C.strikes.length c1, .slice a2 C.surveys.length c2] 25))
  have hlF := hF.len
  have hlK := hK.len
  unfold HoldsR
  unfold holdsE at he ⊢
  by_cases h1 : openE C R = 0
  · rw [if_pos h1] at he ⊢
    have H1 : Hid (∀ W, Aft w W → Calls Tryz.prog 68 #[(.agg #[.int .i64 C.claims, .slice a1 C.strikes.length c1, .slice a2 C.surveys.length c2]), .slice A R.length c] W (Opened C a1 a2 c1 c2 R W)) := Lib.hid fun W h => opened_good C a1 a2 c1 c2 R A c W (hC.aft h) (hA.aft h) h1
    have H2 : Hid (∀ W, Aft w W → Calls Tryz.prog 85 #[.slice A' F.length c', .func (.func 91) #[] #[]] W fun e w' => e = .returned (.bool (F.all fun n => fromB n 0 2)) ∧ Aft W w') := Lib.hid fun W h => none_found A' F c' W (hF.aft h)
    have H3 : Hid (∀ W, Aft w W → Calls Tryz.prog 85 #[.slice A'' K.length c'', .func (.func 92) #[] #[]] W fun e w' => e = .returned (.bool (K.all fun n => fromB n 0 14)) ∧ Aft W w') := Lib.hid fun W h => none_rank A'' K c'' W (hK.aft h)
    have HB := Lib.hid (Blk.new w 25 #[.int .i64 C.claims, .slice a1 C.strikes.length c1, .slice a2 C.surveys.length c2])
    clear hC hA hF hK
    obtain ⟨N, hN⟩ : ∃ N, C.claims = N := ⟨_, rfl⟩
    have HN := Lib.hid hN
    by_cases hf : (F.length : Int) ≠ C.claims
    · rw [if_pos (.inl hf)]
      have t1 : ((F.length : Int) != C.claims) = true := by simpa using hf
      clear he h1 hf hN
      go_enter Tryz.func43, Tryz.ntmps43
      go_wp2_with (go_at_call 68; refine (H1.out _ H0.out).mono ?_; rintro e w1 ⟨d, rfl, hd⟩; have HD := Lib.hid hd; obtain ⟨k0, k1, k2⟩ := box25 (HB.out.aft hd.aft); have hlt := (HB.out.aft hd.aft).lt; clear hd)
      go_ret2
      exact ⟨rfl, H0.out.trans HD.out.aft⟩
    · have t1 : ((F.length : Int) != C.claims) = false := by simpa using hf
      by_cases hk : (K.length : Int) ≠ C.claims
      · rw [if_pos (.inr hk)]
        have t2 : ((K.length : Int) != C.claims) = true := by simpa using hk
        clear he h1 hf hN hk
        go_enter Tryz.func43, Tryz.ntmps43
        go_wp2_with (go_at_call 68; refine (H1.out _ H0.out).mono ?_; rintro e w1 ⟨d, rfl, hd⟩; have HD := Lib.hid hd; obtain ⟨k0, k1, k2⟩ := box25 (HB.out.aft hd.aft); have hlt := (HB.out.aft hd.aft).lt; clear hd)
        go_ret2
        exact ⟨rfl, H0.out.trans HD.out.aft⟩
      · have t2 : ((K.length : Int) != C.claims) = false := by simpa using hk
        rw [if_neg (fun h => h.elim hf hk)] at he ⊢
        have h3 : (F.all (fun n => fromB n 0 2) && K.all fun n => fromB n 0 14) = false := by
          cases h : (F.all (fun n => fromB n 0 2) && K.all fun n => fromB n 0 14)
          · rfl
          · rw [if_pos h] at he; exact absurd rfl he
        rw [if_neg (by rw [h3]; decide)]
        clear he h1 hf hN hk
        cases h4 : F.all (fun n => fromB n 0 2)
        · rw [h4] at H2
          clear h3 h4
          go_enter Tryz.func43, Tryz.ntmps43
          go_wp2_with (first | (go_at_call 68; refine (H1.out _ H0.out).mono ?_; rintro e w1 ⟨d, rfl, hd⟩; have HD := Lib.hid hd; obtain ⟨k0, k1, k2⟩ := box25 (HB.out.aft hd.aft); have hlt := (HB.out.aft hd.aft).lt; clear hd) | (go_at_call_of 85 (Value.slice A' F.length c'); refine (H2.out _ (H0.out.trans HD.out.aft)).mono ?_; rintro e w' ⟨rfl, u, rfl⟩))
          go_ret2
          exact ⟨rfl, (H0.out.trans HD.out.aft).then_lat _⟩
        · rw [h4] at H2 h3
          rw [Bool.true_and] at h3
          rw [h3] at H3
          clear h3 h4
          go_enter Tryz.func43, Tryz.ntmps43
          go_wp2_with (first | (go_at_call 68; refine (H1.out _ H0.out).mono ?_; rintro e w1 ⟨d, rfl, hd⟩; have HD := Lib.hid hd; obtain ⟨k0, k1, k2⟩ := box25 (HB.out.aft hd.aft); have hlt := (HB.out.aft hd.aft).lt; clear hd) | (go_at_call_of 85 (Value.slice A' F.length c'); refine (H2.out _ (H0.out.trans HD.out.aft)).mono ?_; rintro e w' ⟨rfl, u, rfl⟩) | (go_at_call_of 85 (Value.slice A'' K.length c''); refine (H3.out _ ((H0.out.trans HD.out.aft).then_lat _)).mono ?_; rintro e w' ⟨rfl, u2, rfl⟩))
          go_ret2
          exact ⟨rfl, ((H0.out.trans HD.out.aft).then_lat _).then_lat _⟩
  · rw [if_neg h1] at he ⊢
    have H1 : Hid (∀ W, Aft w W → Calls Tryz.prog 68 #[(.agg #[.int .i64 C.claims, .slice a1 C.strikes.length c1, .slice a2 C.surveys.length c2]), .slice A R.length c] W fun e w' => e = .returned (.tuple #[.pointer none, .int .i64 (openE C R)]) ∧ Aft W w') := Lib.hid fun W h => opened_bad C a1 a2 c1 c2 R A c W (hC.aft h) (hA.aft h) he
    have t1 : (openE C R != 0) = true := by simpa using he
    clear hC hA he h1 hF hK
    generalize openE C R = E at *
    go_enter Tryz.func43, Tryz.ntmps43
    go_wp2_with (go_at_call 68; refine (H1.out _ H0.out).mono ?_; rintro e w' ⟨rfl, u, rfl⟩)
    go_ret2
    exact ⟨rfl, H0.out.then_lat _⟩

theorem ints_mem {w : World} {A : Option Addr} {l : List Int} (h : Ints w A l) (hl : 0 < l.length) : ∃ b o, A = some ⟨b, o, none⟩ ∧ ∀ j v, (l.map (Value.int .i64))[j]? = some v → w.cell? ((⟨b, o, none⟩ : Addr).add j) = some v := by
  obtain ⟨b, o, e, _, _⟩ := h.at hl
  exact ⟨b, o, e, ints_src h _ e⟩

set_option maxRecDepth 100000 in
set_option maxHeartbeats 2000000 in
theorem holds_good (C : CaseL) (a1 a2 : Option Addr) (c1 c2 : Nat) (R F K : List Int) (A A' A'' : Option Addr) (c c' c'' : Nat) (w : World) (hC : CRep w C a1 a2) (hA : Ints w A R) (hF : Ints w A' F) (hK : Ints w A'' K) (he : holdsE C R F K = 0) (N : Nat) (hN : C.claims = N) :
    Calls Tryz.prog 43 #[(.agg #[.int .i64 C.claims, .slice a1 C.strikes.length c1, .slice a2 C.surveys.length c2]), .slice A R.length c, .slice A' F.length c', .slice A'' K.length c''] w (HoldsR ((List.range N).all fun n => heldB C.strikes noS (refL R) (overF F (begF (refL R))) (overF K fun _ => 0) (n : Nat)) 0 w) := by
  have H0 := Lib.hid (Aft.alloc w (.cells #[.int .i64 C.claims, .slice a1 C.strikes.length c1, .slice a2 C.surveys.length c2] 25))
  unfold holdsE at he
  have h1 : openE C R = 0 := by
    by_cases h1 : openE C R = 0
    · exact h1
    · rw [if_neg h1] at he; exact he
  rw [if_pos h1] at he
  have hf : (F.length : Int) = C.claims := by
    by_cases h : (F.length : Int) = C.claims
    · exact h
    · rw [if_pos (.inl h)] at he; cases he
  have hk : (K.length : Int) = C.claims := by
    by_cases h : (K.length : Int) = C.claims
    · exact h
    · rw [if_pos (.inr h)] at he; cases he
  rw [if_neg (fun h => h.elim (fun h => h hf) (fun h => h hk))] at he
  have h3 : (F.all (fun n => fromB n 0 2) && K.all fun n => fromB n 0 14) = true := by
    cases h : (F.all (fun n => fromB n 0 2) && K.all fun n => fromB n 0 14)
    · rw [h] at he; cases he
    · rfl
  rw [Bool.and_eq_true] at h3
  obtain ⟨h3, h4⟩ := h3
  have hok := (openE_facts h1).1
  have hfN : F.length = N := by omega
  have hkN : K.length = N := by omega
  have hN1 : 1 ≤ N := by have := hok.n1; omega
  have hN14 : N ≤ 14 := by have := hok.n2; omega
  have HF0 := Lib.hid (show ∀ x ∈ F, 0 ≤ x from fun x hx => (fromB_iff.1 (List.all_eq_true.1 h3 x hx)).1)
  have HK0 := Lib.hid (show ∀ x ∈ K, 0 ≤ x ∧ x ≤ 14 from fun x hx => fromB_iff.1 (List.all_eq_true.1 h4 x hx))
  have HRK : Hid (∀ x, overF K (fun _ => 0) x ≤ 1000) := Lib.hid fun x => by
    unfold overF
    split
    · rename_i hx
      rw [List.getD_eq_getElem?_getD, List.getElem?_eq_getElem (by omega), Option.getD_some]
      have := HK0.out _ (List.getElem_mem (h := (by omega : x.toNat < K.length)))
      omega
    · exact Nat.zero_le _
  have HS := Lib.hid (show ∀ s ∈ C.strikes, 0 ≤ s.1 ∧ s.1 < 14 from fun s hs => by have := (hok.ins s hs).1; have := hok.n2; omega)
  have H1 : Hid (∀ W, Aft w W → Calls Tryz.prog 68 #[(.agg #[.int .i64 C.claims, .slice a1 C.strikes.length c1, .slice a2 C.surveys.length c2]), .slice A R.length c] W (Opened C a1 a2 c1 c2 R W)) := Lib.hid fun W h => opened_good C a1 a2 c1 c2 R A c W (hC.aft h) (hA.aft h) h1
  have H2 : Hid (∀ W, Aft w W → Calls Tryz.prog 85 #[.slice A' F.length c', .func (.func 91) #[] #[]] W fun e w' => e = .returned (.bool (F.all fun n => fromB n 0 2)) ∧ Aft W w') := Lib.hid fun W h => none_found A' F c' W (hF.aft h)
  have H3 : Hid (∀ W, Aft w W → Calls Tryz.prog 85 #[.slice A'' K.length c'', .func (.func 92) #[] #[]] W fun e w' => e = .returned (.bool (K.all fun n => fromB n 0 14)) ∧ Aft W w') := Lib.hid fun W h => none_rank A'' K c'' W (hK.aft h)
  rw [h3] at H2
  rw [h4] at H3
  have HB := Lib.hid (Blk.new w 25 #[.int .i64 C.claims, .slice a1 C.strikes.length c1, .slice a2 C.surveys.length c2])
  obtain ⟨bF, oF, rfl, -⟩ := ints_mem hF (by omega)
  obtain ⟨bK, oK, rfl, -⟩ := ints_mem hK (by omega)
  have HFI := Lib.hid hF
  have HKI := Lib.hid hK
  have HN := Lib.hid hN
  have t1 : ((N : Int) != (N : Int)) = false := by simp
  have HFN := Lib.hid hfN
  have HKN := Lib.hid hkN
  rw [hfN] at H2 ⊢
  rw [hkN] at H3 ⊢
  clear hC hA hF hK he h1 hf hk h3 h4 hok hN hfN hkN
  go_enter Tryz.func43, Tryz.ntmps43
  go_upto_region 8 with (first | (go_at_call 68; refine (H1.out _ H0.out).mono ?_; rintro e w1 ⟨d, rfl, hd⟩; have HD := Lib.hid hd; obtain ⟨k0, k1, k2⟩ := box25 (HB.out.aft hd.aft); rw [HN.out] at k0; have hlt := (HB.out.aft hd.aft).lt; clear hd) | (go_at_call_of 85 (Value.slice (some { block := bF, off := oF }) N c'); refine (H2.out _ (H0.out.trans HD.out.aft)).mono ?_; rintro e w2 ⟨rfl, ha2⟩; have HA2 := Lib.hid ha2; clear ha2) | (go_at_call_of 85 (Value.slice (some { block := bK, off := oK }) N c''); refine (H3.out _ ((H0.out.trans HD.out.aft).trans HA2.out)).mono ?_; rintro e w3 ⟨rfl, ha3⟩; have HA3 := Lib.hid (HA2.out.trans ha3); clear ha3))
  have HA0 : Hid (Aft w w3) := Lib.hid ((H0.out.trans HD.out.aft).trans HA3.out)
  have hdw : w.heap.size < d := by have := HD.out.base; simp at this; omega
  have HB1 := Lib.hid ((HB.out.aft HD.out.aft).aft HA3.out)
  have HD3 := Lib.hid (HD.out.later HA3.out)
  generalize (w.alloc (.cells #[.int .i64 C.claims, .slice a1 C.strikes.length c1, .slice a2 C.surveys.length c2] 25)) = W0 at *
  have i3 : (Tryz.prog.info? 3).map (·.size) = some 1 := by kernel_rfl
  have I3 := Lib.hid i3
  have HSF := Lib.hid (ints_src (HFI.out.aft HA0.out) _ rfl)
  have HFML : Hid ((F.map (Value.int .i64)).length = N) := Lib.hid (by rw [List.length_map, HFN.out])
  have HKML : Hid ((K.map (Value.int .i64)).length = N) := Lib.hid (by rw [List.length_map, HKN.out])
  have HMN : Hid (N = Nat.min N 14) := Lib.hid (Nat.min_eq_left hN14).symm
  clear k0 k1 k2 hlt i3
  obtain ⟨w4, hcp, hd4, hg4⟩ : ∃ w4, (Builtin.copy_ #[33, 33] 3 #[.slice (some ⟨d, 31, none⟩) 14 14, .slice (some ⟨bF, oF, none⟩) N c']).run Tryz.prog w3 = .ok (.int .i64 N) w4 ∧ DeskAt W0 w4 d C a1 a2 c1 c2 (refL R) noS (overF F (begF (refL R))) (fun _ => 0) ∧ w3.grownBy w4 (some d) := by
    have h := run_copy_row (P := Tryz.prog) w3 33 33 3 3 d 31 14 14 ⟨bF, oF, none⟩ N c' _ 94 (F.map (Value.int .i64)) Tryz.underlying33 I3.out HD3.out.blk (HFML.out.trans HMN.out) HSF.out (by rw [HFML.out, List.size_toArray, deskL_len]; omega) (ints_one F)
    rw [HFML.out] at h
    refine ⟨_, h, HD3.out.over ?_, only_setRow _ _ _⟩
    rw [List.toList_toArray, ← HFN.out, List.append_assoc]
    exact desk_over_found C a1 a2 c1 c2 _ _ _ _ F (by rw [HFN.out]; exact hN14) HF0.out
  have HD4 := Lib.hid hd4
  have HGw4 := Lib.hid hg4
  clear hd4 hg4
  go_upto_region 9 with (fail)
  clear hcp
  have HA4 : Hid (Aft w w4) := Lib.hid (HA0.out.grown HGw4.out (fun k e => by cases e; omega))
  have HSK := Lib.hid (ints_src (HKI.out.aft HA4.out) _ rfl)
  obtain ⟨w5, hcp, hd4, hg4⟩ : ∃ w5, (Builtin.copy_ #[33, 33] 3 #[.slice (some ⟨d, 45, none⟩) 14 14, .slice (some ⟨bK, oK, none⟩) N c'']).run Tryz.prog w4 = .ok (.int .i64 N) w5 ∧ DeskAt W0 w5 d C a1 a2 c1 c2 (refL R) noS (overF F (begF (refL R))) (overF K fun _ => 0) ∧ w4.grownBy w5 (some d) := by
    have h := run_copy_row (P := Tryz.prog) w4 33 33 3 3 d 45 14 14 ⟨bK, oK, none⟩ N c'' _ 94 (K.map (Value.int .i64)) Tryz.underlying33 I3.out HD4.out.blk (HKML.out.trans HMN.out) HSK.out (by rw [HKML.out, List.size_toArray, deskL_len]; omega) (ints_one K)
    rw [HKML.out] at h
    refine ⟨_, h, HD4.out.over ?_, only_setRow _ _ _⟩
    rw [List.toList_toArray, ← HKN.out, List.append_assoc]
    exact desk_over_rank C a1 a2 c1 c2 _ _ _ _ K (by rw [HKN.out]; exact hN14) (fun x hx => (HK0.out x hx).1)
  have HD5 := Lib.hid hd4
  have HGw5 := Lib.hid hg4
  clear hd4 hg4
  go_upto_region 10 with (fail)
  clear hcp
  have HA5 : Hid (Aft w w5) := Lib.hid (HA4.out.grown HGw5.out (fun k e => by cases e; omega))
  have z0 : w5.cell? ⟨w.heap.size, 0, none⟩ = some (.int .i64 N) := by
    rw [← HN.out]; exact ((HB1.out.grown HGw4.out (fun e => by cases e; omega)).grown HGw5.out (fun e => by cases e; omega)).cell 0
  have zl : w.heap.size < w5.heap.size := by have := HB1.out.lt; have := HGw4.out.size; have := HGw5.out.size; omega
  obtain ⟨X, hX⟩ : ∃ X : Nat → Bool, X = fun n => heldB C.strikes noS (refL R) (overF F (begF (refL R))) (overF K fun _ => 0) (n : Nat) := ⟨_, rfl⟩
  have HX := Lib.hid hX
  clear hX
  go_upto_block 1 with (fail)
  refine wp_block ?_
  go_loopw [59] (fun i wr => ∃ k : Nat, i = .int .i64 k ∧ k ≤ N ∧ (∀ j, j < k → X j = true) ∧ Aft w5 wr) (fun i _ => N - (intOf i).toNat)
  case atStart => exact ⟨0, rfl, by omega, fun j hj => absurd hj (Nat.not_lt_zero _), Aft.refl _⟩
  case round =>
    obtain ⟨k, rfl, hk, hall, har⟩ := hrel
    have HAL := Lib.hid hall
    have HAR := Lib.hid har
    clear hall har
    by_cases hkN : k < N
    · have t2 : decide (k < N) = true := by simpa using hkN
      have HE := Lib.hid (held_any W0 wr d C a1 a2 c1 c2 (refL R) noS (overF F (begF (refL R))) (overF K fun _ => 0) (HD5.out.later HAR.out) k (by omega) HS.out HRK.out)
      cases hx : X k
      · have HXK := Lib.hid hx
        have hx2 : heldB C.strikes noS (refL R) (overF F (begF (refL R))) (overF K fun _ => 0) (k : Nat) = false := by rw [HX.out] at hx; exact hx
        rw [hx2] at HE
        clear hx hx2
        go_wp2_with (go_at_call 93; refine HE.out.mono ?_; rintro e w' ⟨rfl, u, rfl⟩)
        go_ret2
        refine ⟨?_, (HA5.out.trans HAR.out).then_lat _⟩
        have : ((List.range N).all fun n => heldB C.strikes noS (refL R) (overF F (begF (refL R))) (overF K fun _ => 0) (n : Nat)) = false := by
          rw [← HX.out, Bool.eq_false_iff]
          intro h
          have := List.all_eq_true.1 h k (List.mem_range.2 hkN)
          rw [HXK.out] at this
          cases this
        rw [this]
        rfl
      · have HXK := Lib.hid hx
        have hx2 : heldB C.strikes noS (refL R) (overF F (begF (refL R))) (overF K fun _ => 0) (k : Nat) = true := by rw [HX.out] at hx; exact hx
        rw [hx2] at HE
        clear hx hx2
        go_wp2_with (go_at_call 93; refine HE.out.mono ?_; rintro e w' ⟨rfl, u, rfl⟩)
        refine ⟨⟨k + 1, by go_num, by omega, fun j hj => ?_, HAR.out.then_lat _⟩, by simp [intOf]; omega⟩
        by_cases e : j < k
        · exact HAL.out j e
        · obtain rfl : k = j := by omega
          exact HXK.out
    · have t2 : decide (k < N) = false := by simpa using hkN
      obtain rfl : N = k := by omega
      clear hkN
      go_wp2_with fail
      go_ret2
      refine ⟨?_, HA5.out.trans HAR.out⟩
      have : ((List.range N).all fun n => heldB C.strikes noS (refL R) (overF F (begF (refL R))) (overF K fun _ => 0) (n : Nat)) = true := by
        rw [← HX.out]
        exact List.all_eq_true.2 fun j hj => HAL.out j (List.mem_range.1 hj)
      rw [this]
      rfl
end Go.Proofs
end

section
namespace Go
theorem wpList_load_midG {P : Program} {ops : Array Oper} {rest : List Oper} {op : Oper} {a : Act} {w : World} {Q : Exit → Act → World → Prop} (hw : Region.wanted op (yielded ops a.tmps) = true) (ty : TypeId) (x : Operand) (ho : op.op = .load ty x)
    (b o : Nat) (hx : a.eval x = .pointer (some ⟨b, o, none⟩)) (cs : List Value) (d : TypeDesc) (hc : w.rangeAt b o cs)
    (hu : P.underlying ty = some d) (hd : d.isRow = true) (hi : (P.info? ty).map (·.size) = some cs.length)
    (h : wpList P ops Q rest (a.put op.dst (.agg cs.toArray)) w) : wpList P ops Q (op :: rest) a w := by
  unfold wpList
  rw [if_pos hw]
  exact .inl (wp_load_mid ty x ho b o hx cs d hc hu hd hi h)
theorem leaves_marks {F : Fence} {n : Nat} {P : Program} {fn : Func} {tmps : Array Value} {R : Ending → World → Prop} (base : World) : ∀ (Ds : List Nat) (w : World), Aft base w → (∀ D ∈ Ds, base.heap.size ≤ D ∧ w.heap[D]? = some (.deferred (some []))) → Ds.Nodup →
    (∀ w', Aft base w' → (∀ k, k ∉ Ds → w'.heap[k]? = w.heap[k]?) → ∃ v, (results fn tmps).run P w' = .ok v w' ∧ R (.returned v) w') → LeavesInM F n P fn tmps R (Ds.map fun D => { target := .collected D, args := #[] }) .returning w
  | [], w, ha, _, _, h => h w ha (fun _ _ => rfl)
  | D :: Ds, w, ha, hD, hn, h => by
    have hd := hD D List.mem_cons_self
    refine ⟨by simp, .inl ⟨D, _, rfl, run_takeDeferred hd.2, ?_⟩⟩
    refine leaves_marks base Ds (w.putObj D (.deferred none)) (ha.grown (grownBy_putObj' _ _ _) (fun k e => by cases e; exact hd.1)) (fun D' hD' => ?_) (List.nodup_cons.1 hn).2 fun w' ha' hw' => h w' ha' fun k hk => ?_
    · have h1 := hD D' (List.mem_cons_of_mem _ hD')
      exact ⟨h1.1, (World.putObj_heap_other (fun e => by subst e; exact (List.nodup_cons.1 hn).1 hD')).trans h1.2⟩
    · rw [hw' k (fun h => hk (List.mem_cons_of_mem _ h))]
      exact World.putObj_heap_other (fun e => hk (by rw [e]; exact List.mem_cons_self))
end Go
namespace Go.Proofs
open Go.RowKit
open Court (refL begF noS struckB nextR)
attribute [local go_sem] Oper.semAt_some

def defB (S : List (Int × Int)) (sure ref L : Int → Bool) (n : Int) : Bool := !L n || (!ref n && (!(strikers S sure n).any L && (strikers S sure n).all fun x => ref x || (strikers S sure x).any L))
def standsB (S : List (Int × Int)) (sure ref L : Int → Bool) (N : Nat) : Bool := (List.range N).all fun (n : Nat) => defB S sure ref L n
structure StI (S0 : List (Int × Int)) (sure ref L : Int → Bool) (w : World) (S d N : Nat) (k : Nat) (Ds : List Nat) (W : World) : Prop where
  le : k ≤ N
  fr : Fr w (S + 1 + 1 + 1) [(S, 95, #[.pointer (some ⟨d, 0, none⟩)]), (S + 1, 87, mk L), (S + 1 + 1, 4, #[.bool false])] W
  marks : ∀ D ∈ Ds, S + 1 + 1 + 1 ≤ D ∧ W.heap[D]? = some (.deferred (some []))
  nodup : Ds.Nodup
  ok : ∀ j : Nat, j < k → defB S0 sure ref L j = true
theorem StI.later {S0 : List (Int × Int)} {sure ref L : Int → Bool} {w W W' : World} {S d N k : Nat} {Ds : List Nat} (h : StI S0 sure ref L w S d N k Ds W) (ha : Aft W W') : StI S0 sure ref L w S d N k Ds W' :=
  ⟨h.le, h.fr.later ha, fun D hD => ⟨(h.marks D hD).1, (ha.below.block D (Array.getElem?_eq_some_iff.1 (h.marks D hD).2).1).trans (h.marks D hD).2⟩, h.nodup, h.ok⟩
theorem StI.next {S0 : List (Int × Int)} {sure ref L : Int → Bool} {w W : World} {S d N k : Nat} {Ds : List Nat} (h : StI S0 sure ref L w S d N k Ds W) (hk : k < N) (ho : defB S0 sure ref L k = true) : StI S0 sure ref L w S d N (k + 1) Ds W :=
  ⟨by omega, h.fr, h.marks, h.nodup, fun j hj => by
    by_cases e : j < k
    · exact h.ok j e
    · obtain rfl : j = k := by omega
      exact ho⟩
theorem Fr.cut {w W : World} {B B' : Nat} {bs bs' : List (Nat × TypeId × Array Value)} (h : Fr w B bs W) (hB : B' ≤ B) (hw : w.heap.size ≤ B') (hs : ∀ x ∈ bs', x ∈ bs ∧ x.1 < B') : Fr w B' bs' W :=
  ⟨h.aft, fun x hx => ⟨(hs x hx).2, (h.blks x (hs x hx).1).2.1, (h.blks x (hs x hx).1).2.2⟩, Nat.le_trans hB h.size, hw⟩
theorem Fr.up {w W : World} {B B' : Nat} {bs : List (Nat × TypeId × Array Value)} (h : Fr w B bs W) (hB : B ≤ B') (hs : B' ≤ W.heap.size) : Fr w B' bs W :=
  ⟨h.aft, fun x hx => ⟨Nat.lt_of_lt_of_le (h.blks x hx).1 hB, (h.blks x hx).2⟩, hs, Nat.le_trans h.ge hB⟩
structure FrM (w : World) (S B : Nat) (bs : List (Nat × TypeId × Array Value)) (Ds : List Nat) (W : World) : Prop where
  fr : Fr w B bs W
  marks : ∀ D ∈ Ds, S ≤ D ∧ D < B ∧ W.heap[D]? = some (.deferred (some []))
theorem FrM.later {w W W' : World} {S B : Nat} {bs : List (Nat × TypeId × Array Value)} {Ds : List Nat} (h : FrM w S B bs Ds W) (ha : Aft W W') : FrM w S B bs Ds W' :=
  ⟨h.fr.later ha, fun D hD => let ⟨h1, h2, h3⟩ := h.marks D hD; ⟨h1, h2, (ha.below.block D (Array.getElem?_eq_some_iff.1 h3).1).trans h3⟩⟩
theorem FrM.grown {w W W' : World} {S B : Nat} {bs : List (Nat × TypeId × Array Value)} {Ds : List Nat} (h : FrM w S B bs Ds W) {r : Nat} (hg : W.grownBy W' (some r)) (hr : B ≤ r) : FrM w S B bs Ds W' :=
  ⟨h.fr.grown hg hr, fun D hD => let ⟨h1, h2, h3⟩ := h.marks D hD; ⟨h1, h2, (hg.block D (Array.getElem?_eq_some_iff.1 h3).1 (fun e => by cases e; omega)).trans h3⟩⟩
theorem FrM.three {β : Type} {w : World} {S B : Nat} {bs : β → List (Nat × TypeId × Array Value)} {Ds : List Nat} {p : β → Prop} : Three B (fun s W => FrM w S B (bs s) Ds W ∧ p s) := fun _ _ _ _ h hg h1 _ => ⟨h.1.grown hg h1, h.2⟩
abbrev mark (D : Nat) : Deferred := { target := .collected D, args := #[] }

set_option maxRecDepth 100000 in
set_option maxHeartbeats 4000000 in
theorem stands_any (w0 w : World) (d : Nat) (C : CaseL) (a1 a2 : Option Addr) (c1 c2 : Nat) (ref sure : Int → Bool) (f r : Int → Nat) (hD : DeskAt w0 w d C a1 a2 c1 c2 ref sure f r) (L : Int → Bool) (N : Nat) (hN : C.claims = N) (hN14 : N ≤ 14) (hS : ∀ s ∈ C.strikes, 0 ≤ s.1 ∧ s.1 < 14) :
    Calls Tryz.prog 70 #[.pointer (some ⟨d, 0, none⟩), .agg (mk L)] w fun e w' => e = .returned (.bool (standsB C.strikes sure ref L N)) ∧ Aft w w' := by
  have HL : Hid (∀ (n : Nat) (k : Nat) (x : Int), (strikers C.strikes sure n)[k]? = some x → 0 ≤ x ∧ x < 14) := Lib.hid fun n k x h => by
    obtain ⟨s, hs, rfl⟩ := strikers_mem (List.mem_of_getElem? h)
    exact hS s hs
  have HD := Lib.hid hD
  have HK : Hid (∀ W (n : Nat), n < 14 → Aft w W → Calls Tryz.prog 102 #[.pointer (some ⟨d, 0, none⟩), .agg (mk L), .int .i64 n] W fun e w' => e = .returned (.bool ((strikers C.strikes sure n).any L)) ∧ Aft W w') := Lib.hid fun W n hn h => strikes_any w0 W d C a1 a2 c1 c2 ref sure f r (hD.later h) L n hn hS
  have HN := Lib.hid hN
  have F0 := (((Fr.start w).alloc rfl 95 #[.pointer (some ⟨d, 0, none⟩)]).alloc (by simp) 87 (mk L)).alloc (by simp) 4 #[.bool false]
  simp only [List.nil_append, List.cons_append] at F0
  have HF0 := Lib.hid F0
  obtain ⟨X, hX⟩ : ∃ X, standsB C.strikes sure ref L N = X := ⟨_, rfl⟩
  rw [hX]
  have HX := Lib.hid hX
  have hlt := hD.lt
  clear hD hS hN F0 hX
  refine (callsIn_wide (n := 5)).1 ?_
  refine callsIn_of_wp_marks Tryz.func70 rfl trivial ?_ rfl
  simp only [Tryz.ntmps70, List.size_toArray, List.length_cons, List.length_nil, Nat.reduceAdd, Nat.reduceSub, Array.replicate_succ, Array.replicate_zero, List.push_toArray, List.append_toArray, List.nil_append, List.cons_append]
  refine wpIn_wide.2 ?_
  go_upto_region 1 with (fail)
  have hz : (((w.alloc (.cells #[.pointer (some ⟨d, 0, none⟩)] 95)).alloc (.cells (mk L) 87)).alloc (.cells #[.bool false] 4)).heap.size = w.heap.size + 1 + 1 + 1 := by simp
  generalize ((w.alloc (.cells #[.pointer (some ⟨d, 0, none⟩)] 95)).alloc (.cells (mk L) 87)).alloc (.cells #[.bool false] 4) = W3 at *
  have hww := HF0.out.aft
  obtain ⟨S, hSS⟩ : ∃ S, w.heap.size = S := ⟨_, rfl⟩
  rw [hSS] at HF0 hz hlt ⊢
  have HI0 : Hid (StI C.strikes sure ref L w S d N 0 [] W3) := Lib.hid ⟨by omega, HF0.out, (fun D hD => by cases hD), List.nodup_nil, fun j hj => absurd hj (Nat.not_lt_zero _)⟩
  have k0 := (HD.out.later HF0.out.aft).k0
  have k1 := (HD.out.later HF0.out.aft).lt
  have k2 : W3.cell? ⟨S, 0, none⟩ = some (.pointer (some ⟨d, 0, none⟩)) := (HF0.out.nth 0 rfl).cell 0
  have k3 := (HF0.out.nth 0 rfl).lt
  rw [HN.out] at k0
  go_upto_block 0 with (fail)
  clear k0 k1 k2 k3 hww
  have HEND : Hid (∀ (W : World) (v : Bool) (Ds' : List Nat) (tm : Array Value), X = v → tm.getD 4 undef = .pointer (some ⟨S + 1 + 1, 0, none⟩) → Aft w W → Blk W (S + 1 + 1) 4 #[.bool v] → (∀ D ∈ Ds', S + 1 + 1 + 1 ≤ D ∧ W.heap[D]? = some (.deferred (some []))) → Ds'.Nodup →
      LeavesInM Fence.wide 5 Tryz.prog Tryz.f70 tm (fun e w' => e = .returned (.bool X) ∧ Aft w w') (Ds'.map mark) .returning W) := Lib.hid fun W v Ds' tm hv htm ha hb hD hn => by
    refine leaves_marks w Ds' W ha (fun D h => ⟨by have := (hD D h).1; omega, (hD D h).2⟩) hn fun w' ha' hk' => ⟨.bool v, ?_, by rw [hv], ha'⟩
    have hb' : Blk w' (S + 1 + 1) 4 #[.bool v] := (hk' _ (fun h => by have := (hD _ h).1; omega)).trans hb
    have y1 : w'.cell? ⟨S + 1 + 1, 0, none⟩ = some (.bool v) := hb'.cell 0
    have htm' : tm[4]?.getD undef = .pointer (some ⟨S + 1 + 1, 0, none⟩) := by rw [← htm]; simp
    simp [results, Tryz.results70, go_sem, htm', y1]
  refine wp_block ?_
  obtain ⟨J, hJ⟩ : ∃ J : Act → World → Prop, J = fun a W => ∃ (u5 u6 u13 u14 u15 u16 u17 u18 u19 u20 u21 u22 u23 u24 u25 u26 u27 u28 u29 u30 u31 u32 u33 u34 u35 u36 u37 u38 u39 u40 u41 u42 u43 u44 u45 u46 u47 u48 u49 i : Value) (k : Nat) (Ds : List Nat), a = { tmps := #[.pointer (some ⟨d, 0, none⟩), .agg (mk L), .pointer (some ⟨S, 0, none⟩), .pointer (some ⟨S + 1, 0, none⟩), .pointer (some ⟨S + 1 + 1, 0, none⟩), u5, u6, .pointer (some ⟨d, 0, none⟩), .pointer (some ⟨d, 0, none⟩), .pointer (some ⟨d, 0, none⟩), .pointer (some ⟨d, 0, none⟩), .int .i64 N, i, u13, u14, u15, u16, u17, u18, u19, u20, u21, u22, u23, u24, u25, u26, u27, u28, u29, u30, u31, u32, u33, u34, u35, u36, u37, u38, u39, u40, u41, u42, u43, u44, u45, u46, u47, u48, u49], defers := Ds.map mark } ∧ i = .int .i64 k ∧ StI C.strikes sure ref L w S d N k Ds W := ⟨_, rfl⟩
  obtain ⟨mu, hmu⟩ : ∃ mu : Act → World → Nat, mu = fun a _ => N - (intOf (a.tmps.getD 12 undef)).toNat := ⟨_, rfl⟩
  refine wp_loop J mu (by rw [hJ]; exact ⟨_, _, _, _, _, _, _, _, _, _, _, _, _, _, _, _, _, _, _, _, _, _, _, _, _, _, _, _, _, _, _, _, _, _, _, _, _, _, _, _, 0, [], rfl, rfl, HI0.out⟩) ?_
  intro a wr hrel
  rw [hJ] at hrel
  have HJ := Lib.hid hJ
  have HMU := Lib.hid hmu
  clear hJ hmu
  obtain ⟨u5, u6, u13, u14, u15, u16, u17, u18, u19, u20, u21, u22, u23, u24, u25, u26, u27, u28, u29, u30, u31, u32, u33, u34, u35, u36, u37, u38, u39, u40, u41, u42, u43, u44, u45, u46, u47, u48, u49, i, k, Ds, rfl, rfl, hi⟩ := hrel
  have hk := hi.le
  have HI := Lib.hid hi
  have p0 : wr.cell? ⟨S, 0, none⟩ = some (.pointer (some ⟨d, 0, none⟩)) := (hi.fr.nth 0 rfl).cell 0
  have l0 := (hi.fr.nth 0 rfl).lt
  have l1 := (hi.fr.nth 1 rfl).lt
  have l2 := (hi.fr.nth 2 rfl).lt
  have f2 := (hi.fr.nth 2 rfl).frozen 0
  have p2 : wr.cell? ⟨S + 1 + 1, 0, none⟩ = some (.bool false) := (hi.fr.nth 2 rfl).cell 0
  have HNO : Hid (defB C.strikes sure ref L k = false → k < N → X = false) := Lib.hid fun h hk => by
    rw [← HX.out, Bool.eq_false_iff]
    intro h2
    have := List.all_eq_true.1 h2 k (List.mem_range.2 hk)
    rw [h] at this
    cases this
  clear hi
  by_cases hkN : k < N
  · have t1 : decide (k < N) = true := by simpa using hkN
    have hk14 : k < 14 := by omega
    have hDW := HD.out.later HI.out.fr.aft
    have q1 := ((HI.out.fr.nth 1 rfl).cell k).trans (mk_get L hk14)
    have q2 := hDW.rf hk14
    have q3 := hDW.lt
    have hm : (0 : Int) ≤ (k : Int) ∧ (k : Int) < 14 := by omega
    clear hDW
    cases hl : L k
    · rw [hl] at q1
      have HOK : Hid (defB C.strikes sure ref L k = true) := Lib.hid (by unfold defB; rw [hl]; rfl)
      clear hl
      go_wp2_with fail
      refine And.intro ?_ ?_
      · rw [HJ.out]; exact ⟨_, _, _, _, _, _, _, _, _, _, _, _, _, _, _, _, _, _, _, _, _, _, _, _, _, _, _, _, _, _, _, _, _, _, _, _, _, _, _, _, k + 1, Ds, rfl, by go_num, HI.out.next hkN HOK.out⟩
      · rw [HMU.out]; simp [intOf]; omega
    · rw [hl] at q1
      have HLL := Lib.hid hl
      clear hl
      cases hr : ref k
      · rw [hr] at q2
        have HRR := Lib.hid hr
        clear hr
        have HKK := Lib.hid (fun W (h : Aft wr W) => HK.out W k hk14 (HI.out.fr.aft.trans h))
        have HR87 := Lib.hid (blk_range (HI.out.fr.nth 1 rfl))
        cases hs : (strikers C.strikes sure k).any L
        · rw [hs] at HKK
          have HSS := Lib.hid hs
          clear hs
          go_upto_block 2 with (first | (refine wpList_load_midG (by rfl) 87 (.tmp 3) rfl (S + 1) 0 rfl (mkL L) _ HR87.out Tryz.underlying87 rfl (by rw [info87, mkL_len]) ?_) | (go_at_call 102; refine (HKK.out _ (Aft.refl _)).mono ?_; rintro e w4 ⟨rfl, ha4⟩; have HI4 := Lib.hid (HI.out.later ha4); have p4 : w4.cell? ⟨S, 0, none⟩ = some (.pointer (some ⟨d, 0, none⟩)) := (HI4.out.fr.nth 0 rfl).cell 0; have l4 := (HI4.out.fr.nth 0 rfl).lt; clear ha4) | (go_at_call 103; refine (striking_any d k _).mono ?_; rintro e w' ⟨rfl, rfl⟩))
          have hz5 : ((w4.alloc (.cells #[.pointer (some ⟨d, 0, none⟩)] 95)).alloc (.cells #[.int .i64 k] 3)).heap.size = w4.heap.size + 1 + 1 := by simp
          have hzB : S + 1 + 1 + 1 ≤ w4.heap.size := HI4.out.fr.size
          have F5 := ((HI4.out.fr.up hzB (Nat.le_refl _)).alloc rfl 95 #[.pointer (some ⟨d, 0, none⟩)]).alloc (by simp) 3 #[.int .i64 k]
          simp only [List.nil_append, List.cons_append] at F5
          have hM5 : ∀ D ∈ Ds, S + 1 + 1 + 1 ≤ D ∧ D < w4.heap.size ∧ ((w4.alloc (.cells #[.pointer (some ⟨d, 0, none⟩)] 95)).alloc (.cells #[.int .i64 k] 3)).heap[D]? = some (.deferred (some [])) := fun D hD => by
            have h1 := HI4.out.marks D hD
            have h2 := (Array.getElem?_eq_some_iff.1 h1.2).1
            exact ⟨h1.1, h2, (Below.heap_alloc _ _ D (by simp; omega)).trans ((Below.heap_alloc _ _ D h2).trans h1.2)⟩
          have HF5 := Lib.hid F5
          have HM5 := Lib.hid hM5
          clear F5 hM5 p4 l4 q1 q2 q3 p0 l0 l1 l2 f2 p2
          obtain ⟨B, hBB⟩ : ∃ B, w4.heap.size = B := ⟨_, rfl⟩
          rw [hBB] at HF5 HM5 hz5 hzB ⊢
          generalize (w4.alloc (.cells #[.pointer (some ⟨d, 0, none⟩)] 95)).alloc (.cells #[.int .i64 k] 3) = W5 at *
          have HL0 := Lib.hid (show ∀ (j : Nat) (x : Int), j < 0 → (strikers C.strikes sure k)[j]? = some x → (fun x => ref x || (strikers C.strikes sure x).any L) x = true from fun j x h => absurd h (Nat.not_lt_zero _))
          refine wp_block ?_
          refine (wpIn_wide (n := 5)).1 ?_
          refine wpIn_striking2 (w0 := w0) (bd := B) (bn := B + 1) (d := d) (C := C) (a1 := a1) (a2 := a2) (c1 := c1) (c2 := c2) (ref := ref) (sure := sure) (m := k) hk14 rfl
            (fun k' W => FrM w (S + 1 + 1 + 1) (B + 1 + 1) [(S, 95, #[.pointer (some ⟨d, 0, none⟩)]), (S + 1, 87, mk L), (S + 1 + 1, 4, #[.bool false]), (B, 95, #[.pointer (some ⟨d, 0, none⟩)]), (B + 1, 3, #[.int .i64 k])] Ds W ∧ ∀ (j : Nat) (x : Int), j < k' → (strikers C.strikes sure k)[j]? = some x → (fun x => ref x || (strikers C.strikes sure x).any L) x = true)
            (fun c W => FrM w (S + 1 + 1 + 1) (B + 1 + 1) [(S + 1 + 1, 4, #[.bool false])] Ds W ∧ c = .ret ∧ X = false)
            (by rw [hz5]; exact FrM.three) (fun k W W' h ha => ⟨h.1.later ha, h.2⟩) (fun c => by rw [hz5]; exact FrM.three)
            (fun k W h => ⟨(h.1.fr.nth 3 rfl).cell 0, (h.1.fr.nth 4 rfl).cell 0, (h.1.fr.nth 3 rfl).lt, (h.1.fr.nth 4 rfl).lt, f, r, HD.out.later h.1.fr.aft⟩) ⟨⟨HF5.out, fun D hD => ⟨(HM5.out D hD).1, by have := (HM5.out D hD).2.1; omega, (HM5.out D hD).2.2⟩⟩, HL0.out⟩
            rfl rfl rfl (by simp) ?body ?done ?stop
          case body =>
            intro l k' x W hx hI hsz
            obtain ⟨x0, x1⟩ := HL.out k k' x hx
            obtain ⟨m, rfl⟩ : ∃ m : Nat, x = m := ⟨x.toNat, by omega⟩
            have hm14 : m < 14 := by omega
            have hDW := HD.out.later hI.1.fr.aft
            have z2 := hDW.rf hm14
            have z3 := hDW.lt
            have z1 : W.cell? ⟨S, 0, none⟩ = some (.pointer (some ⟨d, 0, none⟩)) := (hI.1.fr.nth 0 rfl).cell 0
            have z0 := (hI.1.fr.nth 0 rfl).lt
            have hmm : (0 : Int) ≤ (m : Int) ∧ (m : Int) < 14 := by omega
            have HI5 := Lib.hid hI
            have HRW := Lib.hid (blk_range (hI.1.fr.nth 1 rfl))
            have HKW := Lib.hid (HK.out W m hm14 hI.1.fr.aft)
            clear hI hDW HKK HR87
            simp only [List.setIfInBounds_toArray, List.set]
            refine wpIn_block ?_
            refine wpIn_seq_k fun K1 H1 => ?_
            have NO : Hid ((fun x => ref x || (strikers C.strikes sure x).any L) (m : Int) = true → ∀ W', Aft W W' → post3 (B + 1 + 1) (fun k' W => FrM w (S + 1 + 1 + 1) (B + 1 + 1) [(S, 95, #[.pointer (some ⟨d, 0, none⟩)]), (S + 1, 87, mk L), (S + 1 + 1, 4, #[.bool false]), (B, 95, #[.pointer (some ⟨d, 0, none⟩)]), (B + 1, 3, #[.int .i64 k])] Ds W ∧ ∀ (j : Nat) (x : Int), j < k' → (strikers C.strikes sure k)[j]? = some x → (fun x => ref x || (strikers C.strikes sure x).any L) x = true) (fun c W => FrM w (S + 1 + 1 + 1) (B + 1 + 1) [(S + 1 + 1, 4, #[.bool false])] Ds W ∧ c = .ret ∧ X = false) (k' + 1) W .normal ⟨#[], []⟩ W') := Lib.hid fun hp W' ha => by
              refine ⟨Kept3.of_aft ha (by omega), HI5.out.1.later ha, fun j x hj hjx => ?_⟩
              by_cases e : j < k'
              · exact HI5.out.2 j x e hjx
              · obtain rfl : j = k' := by omega
                rw [hx] at hjx
                cases hjx
                exact hp
            cases hrm : ref m
            · rw [hrm] at z2
              have HRM := Lib.hid hrm
              clear hrm
              cases hsm : (strikers C.strikes sure m).any L
              · rw [hsm] at HKW
                have HX2 : Hid (X = false) := Lib.hid (HNO.out (by
                  unfold defB
                  rw [HLL.out, HRR.out, HSS.out]
                  simp only [Bool.not_true, Bool.not_false, Bool.false_or, Bool.true_and]
                  rw [Bool.eq_false_iff]
                  intro h
                  have h2 := List.all_eq_true.1 h _ (List.mem_of_getElem? hx)
                  rw [HRM.out, hsm] at h2
                  cases h2) hkN)
                clear hsm
                refine wpIn_region_of_list (by kernel_rfl) ?_
                go_wp2_with (first | (refine wpList_load_midG (by rfl) 87 (.tmp 3) rfl (S + 1) 0 rfl (mkL L) _ HRW.out Tryz.underlying87 rfl (by rw [info87, mkL_len]) ?_) | (go_at_call 102; refine HKW.out.mono ?_; rintro e w6 ⟨rfl, ha6⟩; have HI6 := Lib.hid (HI5.out.1.later ha6); have HA6 := Lib.hid ha6; clear ha6))
                change K1 _ _
                refine H1 _ _ ?_
                clear H1
                refine wpIn_cond_true (by simp [Act.eval]) ?_
                refine wpIn_seq_k fun K2 H2 => ?_
                refine wpIn_region_of_list (by kernel_rfl) ?_
                have y1 : w6.cell? ⟨S + 1 + 1, 0, none⟩ = some (.bool false) := (HI6.out.fr.nth 2 rfl).cell 0
                have y2 := (HI6.out.fr.nth 2 rfl).lt
                have y3 := (HI6.out.fr.nth 2 rfl).frozen 0
                go_wp2_with fail
                change K2 _ _
                refine H2 _ _ ?_
                clear H2
                refine wpIn_ret ?_
                refine ⟨(Kept3.of_aft HA6.out (by omega)).setCell (p := ⟨S + 1 + 1, 0, none⟩) (by left; show S + 1 + 1 < W5.heap.size; omega) _, ⟨HI6.out.fr.store (g := S + 1 + 1) (t := 4) (cs := #[.bool false]) (by simp) 0 (.bool false) (by simp), fun D hD => ⟨(HI6.out.marks D hD).1, (HI6.out.marks D hD).2.1, (Below.heap_setCell w6 ⟨S + 1 + 1, 0, none⟩ (.bool false) D (by have := (HI6.out.marks D hD).1; show D ≠ S + 1 + 1; omega)).trans (HI6.out.marks D hD).2.2⟩⟩, rfl, HX2.out⟩
              · rw [hsm] at HKW
                have HSM := Lib.hid hsm
                clear hsm
                refine wpIn_region_of_list (by kernel_rfl) ?_
                go_wp2_with (first | (refine wpList_load_midG (by rfl) 87 (.tmp 3) rfl (S + 1) 0 rfl (mkL L) _ HRW.out Tryz.underlying87 rfl (by rw [info87, mkL_len]) ?_) | (go_at_call 102; refine HKW.out.mono ?_; rintro e w6 ⟨rfl, ha6⟩; have HA6 := Lib.hid ha6; clear ha6))
                change K1 _ _
                refine H1 _ _ ?_
                clear H1
                refine wpIn_cond_false (by simp [Act.eval]) ?_
                refine wpIn_skip ?_
                rw [hz5]
                exact NO.out (by show (ref m || (strikers C.strikes sure m).any L) = true; rw [HSM.out, Bool.or_true]) _ HA6.out
            · rw [hrm] at z2
              have HRM := Lib.hid hrm
              clear hrm
              refine wpIn_region_of_list (by kernel_rfl) ?_
              go_wp2_with fail
              change K1 _ _
              refine H1 _ _ ?_
              clear H1
              refine wpIn_cond_false (by simp [Act.eval]) ?_
              refine wpIn_skip ?_
              rw [hz5]
              exact NO.out (by show (ref m || (strikers C.strikes sure m).any L) = true; rw [HRM.out, Bool.true_or]) _ (Aft.refl _)
          case done =>
            intro D W hDD hI hd
            have HI5 := Lib.hid hI
            have HOK : Hid (defB C.strikes sure ref L k = true) := Lib.hid (by
              unfold defB
              rw [HLL.out, HRR.out, HSS.out]
              simp only [Bool.not_true, Bool.not_false, Bool.false_or, Bool.true_and]
              refine List.all_eq_true.2 fun x hx => ?_
              obtain ⟨j, hj, rfl⟩ := List.getElem_of_mem hx
              exact hI.2 j _ hj (List.getElem?_eq_getElem hj))
            have HD2 := Lib.hid hd
            clear hI hd
            go_wp2_with fail
            refine And.intro ?_ ?_
            · rw [HJ.out]
              refine ⟨_, _, _, _, _, _, _, _, _, _, _, _, _, _, _, _, _, _, _, _, _, _, _, _, _, _, _, _, _, _, _, _, _, _, _, _, _, _, _, _, k + 1, D :: Ds, rfl, by go_num, by omega, (HI5.out.1.fr.sub (bs' := [(S, 95, #[.pointer (some ⟨d, 0, none⟩)]), (S + 1, 87, mk L), (S + 1 + 1, 4, #[.bool false])]) (by simp)).cut (by omega) (by omega) (by simp; omega), fun D' hD' => ?_, List.nodup_cons.2 ⟨fun h => by have := (HI5.out.1.marks D h).2.1; omega, HI4.out.nodup⟩, (HI4.out.next hkN HOK.out).ok⟩
              rcases List.mem_cons.1 hD' with rfl | h
              · exact ⟨by omega, HD2.out⟩
              · exact ⟨(HI5.out.1.marks D' h).1, (HI5.out.1.marks D' h).2.2⟩
            · rw [HMU.out]; simp [intOf]; omega
          case stop =>
            intro D c W hDD hI hd
            obtain ⟨hF, rfl, hX2⟩ := hI
            refine wpIn_ret ?_
            exact HEND.out _ false (D :: Ds) _ hX2 rfl hF.fr.aft (hF.fr.nth 0 rfl) (fun D' hD' => by
              rcases List.mem_cons.1 hD' with rfl | h
              · exact ⟨by omega, hd⟩
              · exact ⟨(hF.marks D' h).1, (hF.marks D' h).2.2⟩) (List.nodup_cons.2 ⟨fun h => by have := (hF.marks D h).2.1; omega, HI4.out.nodup⟩)
        · rw [hs] at HKK
          have HX2 : Hid (X = false) := Lib.hid (HNO.out (by unfold defB; rw [HLL.out, HRR.out, hs]; rfl) hkN)
          clear hs
          go_wp2_with (first | (refine wpList_load_midG (by rfl) 87 (.tmp 3) rfl (S + 1) 0 rfl (mkL L) _ HR87.out Tryz.underlying87 rfl (by rw [info87, mkL_len]) ?_) | (go_at_call 102; refine (HKK.out _ (Aft.refl _)).mono ?_; rintro e w4 ⟨rfl, ha4⟩; have HI4 := Lib.hid (HI.out.later ha4); have l4 := (HI4.out.fr.nth 2 rfl).lt; have f4 := (HI4.out.fr.nth 2 rfl).frozen 0; have p4 : w4.cell? ⟨S + 1 + 1, 0, none⟩ = some (.bool false) := (HI4.out.fr.nth 2 rfl).cell 0; clear ha4))
          exact HEND.out _ false Ds _ HX2.out rfl (HI4.out.fr.aft.then_setCell (p := ⟨S + 1 + 1, 0, none⟩) (by show w.heap.size ≤ S + 1 + 1; omega) _) ((HI4.out.fr.nth 2 rfl).store 0 _) (fun D hD => ⟨(HI4.out.marks D hD).1, (Below.heap_setCell w4 ⟨S + 1 + 1, 0, none⟩ (.bool false) D (by have := (HI4.out.marks D hD).1; show D ≠ S + 1 + 1; omega)).trans (HI4.out.marks D hD).2⟩) HI4.out.nodup
      · rw [hr] at q2
        have HX2 : Hid (X = false) := Lib.hid (HNO.out (by unfold defB; rw [HLL.out, hr]; rfl) hkN)
        clear hr
        go_wp2_with fail
        exact HEND.out _ false Ds _ HX2.out rfl (HI.out.fr.aft.then_setCell (p := ⟨S + 1 + 1, 0, none⟩) (by show w.heap.size ≤ S + 1 + 1; omega) _) ((HI.out.fr.nth 2 rfl).store 0 _) (fun D hD => ⟨(HI.out.marks D hD).1, (Below.heap_setCell wr ⟨S + 1 + 1, 0, none⟩ (.bool false) D (by have := (HI.out.marks D hD).1; show D ≠ S + 1 + 1; omega)).trans (HI.out.marks D hD).2⟩) HI.out.nodup
  · have t1 : decide (k < N) = false := by simpa using hkN
    obtain rfl : N = k := by omega
    have HX2 : Hid (X = true) := Lib.hid (by rw [← HX.out]; exact List.all_eq_true.2 fun j hj => HI.out.ok j (List.mem_range.1 hj))
    clear hkN
    go_wp2_with fail
    exact HEND.out _ true Ds _ HX2.out rfl (HI.out.fr.aft.then_setCell (p := ⟨S + 1 + 1, 0, none⟩) (by show w.heap.size ≤ S + 1 + 1; omega) _) ((HI.out.fr.nth 2 rfl).store 0 _) (fun D hD => ⟨(HI.out.marks D hD).1, (Below.heap_setCell wr ⟨S + 1 + 1, 0, none⟩ (.bool true) D (by have := (HI.out.marks D hD).1; show D ≠ S + 1 + 1; omega)).trans (HI.out.marks D hD).2⟩) HI.out.nodup
end Go.Proofs
end

section
namespace Go.Proofs
open Go.RowKit
open Court (refL begF noS struckB nextR)

def standsE (C : CaseL) (R L : List Int) : Int := if openE C R = 0 then listedE C.claims L else openE C R
def StandsR (C : CaseL) (R L : List Int) (w : World) (e : Ending) (w' : World) : Prop := e = .returned (.tuple #[.bool (decide (standsE C R L = 0) && standsB C.strikes noS (refL R) (refL L) C.claims.toNat), .int .i64 (standsE C R L)]) ∧ Aft w w'

set_option maxRecDepth 100000 in
set_option maxHeartbeats 2000000 in
theorem stands25_any (C : CaseL) (a1 a2 : Option Addr) (c1 c2 : Nat) (R L : List Int) (A A' : Option Addr) (c c' : Nat) (w : World) (hC : CRep w C a1 a2) (hA : Ints w A R) (hL : Ints w A' L) :
    Calls Tryz.prog 25 #[(.agg #[.int .i64 C.claims, .slice a1 C.strikes.length c1, .slice a2 C.surveys.length c2]), .slice A R.length c, .slice A' L.length c'] w (StandsR C R L w) := by
  have H0 := Lib.hid (Aft.alloc w (.cells #[.int .i64 C.claims, .slice a1 C.strikes.length c1, .slice a2 C.surveys.length c2] 25))
  have HB := Lib.hid (Blk.new w 25 #[.int .i64 C.claims, .slice a1 C.strikes.length c1, .slice a2 C.surveys.length c2])
  unfold StandsR standsE
  by_cases h1 : openE C R = 0
  · rw [if_pos h1]
    have hok := (openE_facts h1).1
    have H1 : Hid (∀ W, Aft w W → Calls Tryz.prog 68 #[(.agg #[.int .i64 C.claims, .slice a1 C.strikes.length c1, .slice a2 C.surveys.length c2]), .slice A R.length c] W (Opened C a1 a2 c1 c2 R W)) := Lib.hid fun W h => opened_good C a1 a2 c1 c2 R A c W (hC.aft h) (hA.aft h) h1
    have H2 : Hid (∀ W, Aft w W → Calls Tryz.prog 69 #[(.agg #[.int .i64 C.claims, .slice a1 C.strikes.length c1, .slice a2 C.surveys.length c2]), .slice A' L.length c'] W fun e w' => e = .returned (.int .i64 (listedE C.claims L)) ∧ Aft W w') := Lib.hid fun W h => listed_any C.claims a1 a2 _ _ c1 c2 A' L c' W ⟨hok.n1, hok.n2⟩ (hL.aft h)
    by_cases h2 : listedE C.claims L = 0
    · have hr := (listedE_ok h2).1
      have H3 : Hid (∀ W, Aft w W → Calls Tryz.prog 71 #[.slice A' L.length c'] W (Marked L W)) := Lib.hid fun W h => marked_any L A' c' W (hL.aft h) (fun n hn => by have := hr n hn; have := hok.n2; omega)
      obtain ⟨N, hN⟩ : ∃ N : Nat, C.claims = N := ⟨C.claims.toNat, by have := hok.n1; omega⟩
      have hNt : C.claims.toNat = N := by omega
      have H4 : Hid (∀ W0 W d, DeskAt W0 W d C a1 a2 c1 c2 (refL R) noS (begF (refL R)) (fun _ => 0) → Calls Tryz.prog 70 #[.pointer (some ⟨d, 0, none⟩), .agg (mk (refL L))] W fun e w' => e = .returned (.bool (standsB C.strikes noS (refL R) (refL L) N)) ∧ Aft W w') := Lib.hid fun W0 W d hD => stands_any W0 W d C a1 a2 c1 c2 (refL R) noS (begF (refL R)) (fun _ => 0) hD (refL L) N hN (by have := hok.n2; omega) (fun s hs => by have := (hok.ins s hs).1; have := hok.n2; omega)
      rw [hNt, h2]
      rw [h2] at H2
      simp only [decide_true, Bool.true_and]
      clear hC hA hL hok hr hN hNt h1 h2
      generalize standsB C.strikes noS (refL R) (refL L) N = X at *
      go_enter Tryz.func25, Tryz.ntmps25
      go_wp2_with (first | (go_at_call 68; refine (H1.out _ H0.out).mono ?_; rintro e w1 ⟨d, rfl, hd⟩; have HD := Lib.hid hd; obtain ⟨k0, k1, k2⟩ := box25 (HB.out.aft hd.aft); have hlt := (HB.out.aft hd.aft).lt; clear hd) | (go_at_call 69; refine (H2.out _ (H0.out.trans HD.out.aft)).mono ?_; rintro e w2 ⟨rfl, ha2⟩; have HA2 := Lib.hid ha2; clear ha2) | (go_at_call 71; refine (H3.out _ ((H0.out.trans HD.out.aft).trans HA2.out)).mono ?_; rintro e w3 ⟨rfl, ha3⟩; have HA3 := Lib.hid ha3; clear ha3) | (go_at_call 70; refine (H4.out _ _ _ (HD.out.later (HA2.out.trans HA3.out))).mono ?_; rintro e w4 ⟨rfl, ha4⟩; have HA4 := Lib.hid ha4; clear ha4))
      go_ret2
      exact ⟨rfl, (((H0.out.trans HD.out.aft).trans HA2.out).trans HA3.out).trans HA4.out⟩
    · rw [decide_eq_false h2, Bool.false_and]
      have t1 : (listedE C.claims L != 0) = true := by simpa using h2
      clear hC hA hL hok h1 h2
      generalize listedE C.claims L = E at *
      go_enter Tryz.func25, Tryz.ntmps25
      go_wp2_with (first | (go_at_call 68; refine (H1.out _ H0.out).mono ?_; rintro e w1 ⟨d, rfl, hd⟩; have HD := Lib.hid hd; obtain ⟨k0, k1, k2⟩ := box25 (HB.out.aft hd.aft); have hlt := (HB.out.aft hd.aft).lt; clear hd) | (go_at_call 69; refine (H2.out _ (H0.out.trans HD.out.aft)).mono ?_; rintro e w2 ⟨rfl, ha2⟩; have HA2 := Lib.hid ha2; clear ha2))
      go_ret2
      exact ⟨rfl, (H0.out.trans HD.out.aft).trans HA2.out⟩
  · rw [if_neg h1, decide_eq_false h1, Bool.false_and]
    have H1 : Hid (∀ W, Aft w W → Calls Tryz.prog 68 #[(.agg #[.int .i64 C.claims, .slice a1 C.strikes.length c1, .slice a2 C.surveys.length c2]), .slice A R.length c] W fun e w' => e = .returned (.tuple #[.pointer none, .int .i64 (openE C R)]) ∧ Aft W w') := Lib.hid fun W h => opened_bad C a1 a2 c1 c2 R A c W (hC.aft h) (hA.aft h) h1
    have t1 : (openE C R != 0) = true := by simpa using h1
    have t2 : (openE C R == 0) = false := by simpa using h1
    clear hC hA h1 hL
    generalize openE C R = E at *
    go_enter Tryz.func25, Tryz.ntmps25
    go_wp2_with (go_at_call 68; refine (H1.out _ H0.out).mono ?_; rintro e w' ⟨rfl, u, rfl⟩)
    go_ret2
    exact ⟨rfl, H0.out.then_lat _⟩
end Go.Proofs
end

section
namespace Go.Proofs
open Go.RowKit
open Court (refL begF noS struckB nextR strikeL)
attribute [local go_sem] Oper.semAt_some

structure Tri (W0 : World) (l : List Int) (n : Int) (iA iB iC sA sB sC : Nat) (done : Nat → Bool) (a : Act) (W : World) : Prop where
  aft : Aft W0 W
  rowA : done iA = true → done iC = false → W.ownsRow W0.heap.size 3 1 (a.eval (.tmp sA)) l.length (l.map (Value.int .i64))
  sliB : done iB = true → done iC = false → ∃ g, a.eval (.tmp sB) = .slice (some ⟨g, 0, none⟩) 1 1 ∧ g < W.heap.size ∧ W.cell? ⟨g, 0, none⟩ = some (.int .i64 n)
  rowC : done iC = true → W.ownsRow W0.heap.size 3 1 (a.eval (.tmp sC)) (l ++ [n]).length ((l ++ [n]).map (Value.int .i64))
  abc : done iC = true → done iA = true ∧ done iB = true
section
variable {W0 : World} {l : List Int} {n : Int} {iA iB iC sA sB sC : Nat} {done : Nat → Bool} {a : Act} {W W' : World}
theorem upd_ne {done : Nat → Bool} {i j : Nat} (h : j ≠ i) : upd done i j = done j := by simp [upd, h]
theorem upd_same {done : Nat → Bool} {i : Nat} : upd done i i = true := by simp [upd]
theorem Tri.start : Tri W0 l n iA iB iC sA sB sC (fun _ => false) a W0.drew :=
  ⟨Aft.drew _, (fun h => by cases h), (fun h => by cases h), (fun h => by cases h), (fun h => by cases h)⟩
theorem eval_ne {a : Act} {dst : Option Tmp} {v : Value} {s : Nat} (h : dst ≠ some s) : (a.put dst v).eval (.tmp s) = a.eval (.tmp s) :=
  Act.eval_put fun d hd e => by cases e; exact h hd
theorem cell_aft {W W' : World} {g i : Nat} {v : Value} (h : W.cell? ⟨g, i, none⟩ = some v) (hg : g < W.heap.size) (ha : Aft W W') : W'.cell? ⟨g, i, none⟩ = some v :=
  (World.cell?_of_block (a := ⟨g, i, none⟩) (ha.below.block g hg)).trans h
theorem Tri.keep (h : Tri W0 l n iA iB iC sA sB sC done a W) {i : Nat} {dst : Option Tmp} {v : Value} (ha : Aft W W') (hi : i ≠ iA ∧ i ≠ iB ∧ i ≠ iC) (hd : dst ≠ some sA ∧ dst ≠ some sB ∧ dst ≠ some sC) : Tri W0 l n iA iB iC sA sB sC (upd done i) (a.put dst v) W' := by
  obtain ⟨h1, h2, h3⟩ := hi
  refine ⟨h.aft.trans ha, fun p q => ?_, fun p q => ?_, fun p => ?_, fun p => ?_⟩
  · rw [upd_ne (Ne.symm h1)] at p; rw [upd_ne (Ne.symm h3)] at q
    rw [eval_ne hd.1]; exact own_aft (h.rowA p q) ha
  · rw [upd_ne (Ne.symm h2)] at p; rw [upd_ne (Ne.symm h3)] at q
    rw [eval_ne hd.2.1]
    obtain ⟨g, e1, e2, e3⟩ := h.sliB p q
    exact ⟨g, e1, Nat.lt_of_lt_of_le e2 ha.size, cell_aft e3 e2 ha⟩
  · rw [upd_ne (Ne.symm h3)] at p
    rw [eval_ne hd.2.2]; exact own_aft (h.rowC p) ha
  · rw [upd_ne (Ne.symm h3)] at p
    rw [upd_ne (Ne.symm h1), upd_ne (Ne.symm h2)]
    exact h.abc p
theorem Tri.stepA (h : Tri W0 l n iA iB iC sA sB sC done a W) (hA : done iA = false) {v : Value} (ha : Aft W W') (hr : W'.ownsRow W.heap.size 3 1 v l.length (l.map (Value.int .i64))) (hz : sA < a.tmps.size) (hi : iA ≠ iB ∧ iA ≠ iC) (hs : sA ≠ sB) : Tri W0 l n iA iB iC sA sB sC (upd done iA) (a.put (some sA) v) W' := by
  have hC : done iC = false := by
    cases e : done iC
    · rfl
    · rw [(h.abc e).1] at hA; cases hA
  refine ⟨h.aft.trans ha, fun p q => ?_, fun p q => ?_, fun p => ?_, fun p => ?_⟩
  · rw [Act.eval_put_same _ _ _ hz]; exact World.ownsRow.mono hr h.aft.size
  · rw [upd_ne (Ne.symm hi.1)] at p
    rw [eval_ne (fun e => hs (by cases e; rfl))]
    obtain ⟨g, e1, e2, e3⟩ := h.sliB p hC
    exact ⟨g, e1, Nat.lt_of_lt_of_le e2 ha.size, cell_aft e3 e2 ha⟩
  · rw [upd_ne (Ne.symm hi.2), hC] at p; cases p
  · rw [upd_ne (Ne.symm hi.2), hC] at p; cases p
theorem Tri.stepB (h : Tri W0 l n iA iB iC sA sB sC done a W) (hB : done iB = false) (hz : sB < a.tmps.size) (hi : iB ≠ iA ∧ iB ≠ iC) (hs : sB ≠ sA) : Tri W0 l n iA iB iC sA sB sC (upd done iB) (a.put (some sB) (.slice (some ⟨W.heap.size, 0, none⟩) 1 1)) (W.alloc (.cells #[.int .i64 n] 3)) := by
  have hC : done iC = false := by
    cases e : done iC
    · rfl
    · rw [(h.abc e).2] at hB; cases hB
  refine ⟨h.aft.then_alloc _, fun p q => ?_, fun p q => ?_, fun p => ?_, fun p => ?_⟩
  · rw [upd_ne (Ne.symm hi.1)] at p
    rw [eval_ne (fun e => hs (by cases e; rfl))]; exact own_aft (h.rowA p hC) (Aft.alloc _ _)
  · exact ⟨W.heap.size, Act.eval_put_same _ _ _ hz, by simp, cell_new1 _ _ _⟩
  · rw [upd_ne (Ne.symm hi.2), hC] at p; cases p
  · rw [upd_ne (Ne.symm hi.2), hC] at p; cases p
theorem Tri.stepC {o : Oper} {K : Act → World → Prop} {Q : Exit → Act → World → Prop} (h : Tri W0 l n iA iB iC sA sB sC done a W) (hA : done iA = true) (hB : done iB = true) (hC : done iC = false) (hi : iA ≠ iC ∧ iB ≠ iC) (ho : o.op = .call { callee := .builtin .append, args := #[.tmp sA, .tmp sB], argTypes := #[33, 33] }) (hd : o.dst = some sC) (hz : sC < a.tmps.size) (hl : l.length ≤ 1000000)
    (hn : ∀ y w', Tri W0 l n iA iB iC sA sB sC (upd done iC) (a.put o.dst y) w' → K (a.put o.dst y) w') : Oper.wp Tryz.prog o a W K Q := by
  obtain ⟨ht, ⟨i, z, hi', hz', hsize, hby, hzs⟩, hsz⟩ := ty24
  obtain ⟨g, e1, e2, e3⟩ := h.sliB hB hC
  obtain ⟨v', w', hr', h2, h3, _, h5⟩ := run_append_own_at (P := Tryz.prog) W W0.heap.size 33 o.type 3 i z 1 8 ht hi' hz' hsize hby hzs hsz (a.eval (.tmp sA)) l.length (l.map (Value.int .i64)) (h.rowA hA hC) ⟨g, 0, none⟩ 1 1 [.int .i64 n] rfl (fun j u hj => by
      match j, hj with
      | 0, hj => simp at hj; subst hj; rw [Addr.add_lit]; simpa using e3) (one_int n) (by unfold maxLen; omega) (by omega) h.aft.size
  unfold Oper.wp execOp
  simp only [ho, resolve, invoke, builtin, Sem.run_bind, Sem.run_pure, Result.andThen_ok, List.map_toArray, List.map_cons, List.map_nil, e1, hr', Oper.upon]
  refine hn v' w' ⟨h.aft.grown h3 (own_ge (h.rowA hA hC)), fun p q => ?_, fun p q => ?_, fun p => ?_, fun p => ?_⟩
  · rw [upd_same] at q; cases q
  · rw [upd_same] at q; cases q
  · rw [hd, Act.eval_put_same _ _ _ hz]; simpa using h2
  · rw [upd_ne hi.1, upd_ne hi.2]; exact ⟨hA, hB⟩
end
theorem list3 {α : Type} {us : List α} (h : us.length = 3) : ∃ x y z, us = [x, y, z] := by
  match us, h with
  | [x, y, z], _ => exact ⟨x, y, z, rfl⟩

theorem strikers_any (S : List (Int × Int)) (L : Int → Bool) (n : Int) : (strikers S noS n).any L = strikeL S L n := by
  unfold strikers strikeL
  rw [List.any_map, List.any_filter]
  congr 1
  funext s
  simp [noS]
theorem refL_one (n : Int) : refL [n] = fun x => decide (x = n) := by
  funext x
  unfold refL
  by_cases h : x = n <;> simp [h]

set_option maxRecDepth 100000 in
set_option maxHeartbeats 1000000 in
theorem full11_any (w0 w : World) (d : Nat) (C : CaseL) (a1 a2 : Option Addr) (c1 c2 : Nat) (ref : Int → Bool) (f r : Int → Nat) (hD : DeskAt w0 w d C a1 a2 c1 c2 ref noS f r) (b g n o : Nat) (hb : Blk w b 95 #[.pointer (some ⟨d, 0, none⟩)]) (hg : Blk w g 3 #[.int .i64 n]) (hn : n < 14) (ho : o < 14) (hS : ∀ s ∈ C.strikes, 0 ≤ s.1 ∧ s.1 < 14) :
    Calls Tryz.prog 106 #[.int .i64 o, .pointer (some ⟨b, 0, none⟩), .pointer (some ⟨g, 0, none⟩)] w fun e w' => e = .returned (.bool (strikeL C.strikes (fun x => decide (x = (n : Int))) o)) ∧ Aft w w' := by
  have H1 : Hid (∀ W, Aft w W → Calls Tryz.prog 102 #[.pointer (some ⟨d, 0, none⟩), .agg (mk (refL [(n : Int)])), .int .i64 o] W fun e w' => e = .returned (.bool (strikeL C.strikes (fun x => decide (x = (n : Int))) o)) ∧ Aft W w') := Lib.hid fun W h => by
    rw [← strikers_any, ← refL_one]
    exact strikes_any w0 W d C a1 a2 c1 c2 ref noS f r (hD.later h) (refL [(n : Int)]) o ho hS
  have H2 : Hid (∀ W, Aft (w.drew.alloc (.cells #[.int .i64 n] 3)) W → Calls Tryz.prog 71 #[.slice (some ⟨w.heap.size, 0, none⟩) 1 1] W (Marked [(n : Int)] W)) := Lib.hid fun W h => by
    have hi : Ints (w.drew.alloc (.cells #[.int .i64 n] 3)) (some ⟨w.heap.size, 0, none⟩) [(n : Int)] := ⟨by simp, .inr ⟨w.heap.size, 0, rfl, by simp, fun i hi => by
      have : i = 0 := by simp at hi; omega
      subst this
      exact ⟨_, rfl, rfl, fun j hj => by
        have : j = 0 := by simp at hj; omega
        subst this
        exact cell_new1 w.drew _ _⟩⟩⟩
    exact marked_any [(n : Int)] _ 1 W (hi.aft h) (fun x hx => by rw [List.mem_singleton] at hx; omega)
  have k0 : ∀ W, Aft w W → W.cell? ⟨b, 0, none⟩ = some (.pointer (some ⟨d, 0, none⟩)) := fun W h => (hb.aft h).cell 0
  have k1 : ∀ W, Aft w W → W.cell? ⟨g, 0, none⟩ = some (.int .i64 n) := fun W h => (hg.aft h).cell 0
  have HK0 := Lib.hid k0
  have HK1 := Lib.hid k1
  clear hD hS hb hg k0 k1
  go_enter Tryz.func106, Tryz.ntmps106
  go_upto_region 1 with (fail)
  refine wp_region_valsT (by kernel_rfl) 5 11 rfl (by kernel_rfl) (by kernel_rfl) (by kernel_rfl) [.pointer (some ⟨d, 0, none⟩), .int .i64 n, .slice (some ⟨w.heap.size, 0, none⟩) 1 1, .agg (mk (refL [(n : Int)])), .int .i64 o] rfl (fun done W => if done 2 = true then Aft (w.drew.alloc (.cells #[.int .i64 n] 3)) W else W = w.drew) (by simp) ?st1 ?fi1
  case st1 =>
    intro i o v ho hv
    match i, ho, hv with
    | 0, ho, hv =>
      cases ho; cases hv
      refine .inl ⟨rfl, fun done a W hd hp hk hw K hK => ?_⟩
      have e1 := hk.same 1 (by decide)
      have hA : Aft w W := by (split at hw; exact ((Aft.drew w).then_alloc _).trans hw; subst hw; exact Aft.drew w)
      have y0 := HK0.out W hA
      exact op_val (by simp [go_sem, ev' e1, y0]) (hK _ (by rw [upd_ne (by decide)]; exact hw))
    | 1, ho, hv =>
      cases ho; cases hv
      refine .inl ⟨rfl, fun done a W hd hp hk hw K hK => ?_⟩
      have e2 := hk.same 2 (by decide)
      have hA : Aft w W := by (split at hw; exact ((Aft.drew w).then_alloc _).trans hw; subst hw; exact Aft.drew w)
      have y0 := HK1.out W hA
      exact op_val (by simp [go_sem, ev' e2, y0]) (hK _ (by rw [upd_ne (by decide)]; exact hw))
    | 2, ho, hv =>
      cases ho; cases hv
      refine .inl ⟨rfl, fun done a W hd hp hk hw K hK => ?_⟩
      have e6 := hk.at_ 1 _ 6 _ rfl (by decide) _ rfl rfl rfl
      rw [hd] at hw
      simp only [Bool.false_eq_true, if_false] at hw
      subst hw
      exact op_valW (w' := w.drew.alloc (.cells #[.int .i64 n] 3)) (by simp [go_sem, ev' e6]) (hK _ (by rw [upd_same]; exact Aft.refl _))
    | 3, ho, hv =>
      cases ho; cases hv
      refine .inl ⟨rfl, fun done a W hd hp hk hw K hK => ?_⟩
      have e7 := hk.at_ 2 _ 7 _ rfl (by decide) _ rfl rfl rfl
      have h2 := hp 2 (by decide)
      rw [if_pos h2] at hw
      refine op_callN rfl rfl rfl _ rfl (vs := #[.slice (some ⟨w.heap.size, 0, none⟩) 1 1]) (by simp [e7]) (H2.out W hw) fun e w' h => ?_
      obtain ⟨rfl, ha⟩ := h
      exact ⟨_, rfl, hK _ (by rw [upd_ne (by decide), if_pos h2]; exact hw.trans ha)⟩
    | 4, ho, hv =>
      cases ho; cases hv
      refine .inl ⟨rfl, fun done a W hd hp hk hw K hK => ?_⟩
      have e0 := hk.same 0 (by decide)
      exact op_val (by simp [go_sem, ev' e0]) (hK _ (by rw [upd_ne (by decide)]; exact hw))
    | _ + 5, _, hv => cases hv
  intro done W hd hw
  simp only [List.drop_succ_cons, List.drop_zero, List.zip_cons_cons, List.zip_nil_right, putAll]
  simp only [Act.put, List.setIfInBounds_toArray, List.set]
  have hA : Aft w W := by
    rw [if_pos (hd 2 (by decide))] at hw
    exact ((Aft.drew w).then_alloc _).trans hw
  clear hw hd
  have HA := Lib.hid hA
  clear hA
  go_wp2_with (go_at_call 102; refine (H1.out _ HA.out).mono ?_; rintro e w' ⟨rfl, u, rfl⟩)
  go_ret
  exact ⟨rfl, HA.out.then_lat _⟩
end Go.Proofs
end
