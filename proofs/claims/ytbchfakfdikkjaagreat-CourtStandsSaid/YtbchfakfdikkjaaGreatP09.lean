/- Own texts, merged: CtN CtO. -/
import Derived.Test.YtbchfakfdikkjaaGreatP08
set_option linter.unusedSimpArgs false
set_option linter.unusedVariables false
set_option linter.unnecessarySimpa false
section
namespace Go.Proofs
open Go.RowKit
open Court (refL begF noS struckB nextR hearR hearsR rule setF allN RankOk openN round award hears)

def heardE (C : CaseL) (R O : List Int) : Int := if openE C R = 0 then (if 400 < O.length then 3 else if O.all (fun n => Cl n C.claims) then 0 else 2) else openE C R
def BadH (C : CaseL) (R O : List Int) (w : World) (e : Ending) (w' : World) : Prop := e = .returned (.tuple #[.slice none 0 0, .int .i64 (heardE C R O)]) ∧ Aft w w'

theorem hears_succ (S : List (Int × Int)) (x : (Int → Nat) × (Int → Nat)) (o : List Int) (k : Nat) (h : k < o.length) : hearsR S noS x (o.take (k + 1)) = hearR S noS (hearsR S noS x (o.take k)) o[k] := by
  unfold hearsR
  rw [List.take_succ_eq_append_getElem h, List.foldl_append]
  rfl

set_option maxRecDepth 100000 in
set_option maxHeartbeats 2000000 in
theorem heard_bad (C : CaseL) (a1 a2 : Option Addr) (c1 c2 : Nat) (R O : List Int) (A A' : Option Addr) (c c' : Nat) (w : World) (hC : CRep w C a1 a2) (hA : Ints w A R) (hA' : Ints w A' O) (he : heardE C R O ≠ 0) :
    Calls Tryz.prog 35 #[(.agg #[.int .i64 C.claims, .slice a1 C.strikes.length c1, .slice a2 C.surveys.length c2]), .slice A R.length c, .slice A' O.length c'] w (BadH C R O w) := by
  have h0 : Aft w (w.alloc (.cells #[.int .i64 C.claims, .slice a1 C.strikes.length c1, .slice a2 C.surveys.length c2] 25)) := Aft.alloc _ _
  have H0 := Lib.hid h0
  have hlo := hA'.len
  unfold BadH
  unfold heardE at he ⊢
  by_cases h1 : openE C R = 0
  · rw [if_pos h1] at he ⊢
    have hok := (openE_facts h1).1
    have H1 : Hid (∀ W, Aft w W → Calls Tryz.prog 68 #[(.agg #[.int .i64 C.claims, .slice a1 C.strikes.length c1, .slice a2 C.surveys.length c2]), .slice A R.length c] W (Opened C a1 a2 c1 c2 R W)) := Lib.hid fun W h => opened_good C a1 a2 c1 c2 R A c W (hC.aft h) (hA.aft h) h1
    have H2 : Hid (∀ W, Aft w W → Calls Tryz.prog 85 #[.slice A' O.length c', .func (.func 59) #[(.agg #[.int .i64 C.claims, .slice a1 C.strikes.length c1, .slice a2 C.surveys.length c2])] #[]] W fun e w' => e = .returned (.bool (O.all fun n => Cl n C.claims)) ∧ Aft W w') := Lib.hid fun W h => none_strange C.claims a1 a2 _ _ c1 c2 A' O c' W ⟨hok.n1, hok.n2⟩ (hA'.aft h)
    have HB := Lib.hid (Blk.new w 25 #[.int .i64 C.claims, .slice a1 C.strikes.length c1, .slice a2 C.surveys.length c2])
    clear hC hA hA' h0 hok
    go_enter Tryz.func35, Tryz.ntmps35
    by_cases h2 : 400 < O.length
    · rw [if_pos h2]
      have t1 : decide ((400 : Int) < O.length) = true := by simp; omega
      clear he h1 h2
      go_wp2_with (go_at_call 68; refine (H1.out _ H0.out).mono ?_; rintro e w1 ⟨d, rfl, hd⟩; have HD := Lib.hid hd; clear hd)
      go_ret2
      exact ⟨rfl, H0.out.trans HD.out.aft⟩
    · rw [if_neg h2] at he ⊢
      have t1 : decide ((400 : Int) < O.length) = false := by simp; omega
      have h3 : (O.all fun n => Cl n C.claims) = false := by
        cases h : (O.all fun n => Cl n C.claims)
        · rfl
        · rw [if_pos h] at he; exact absurd rfl he
      rw [h3] at H2 ⊢
      clear he h1 h2 h3
      go_wp2_with (first | (go_at_call 68; refine (H1.out _ H0.out).mono ?_; rintro e w1 ⟨d, rfl, hd⟩; have HD := Lib.hid hd; obtain ⟨k0, k1, k2⟩ := box25 (HB.out.aft hd.aft); have hlt := (HB.out.aft hd.aft).lt; clear hd) | (go_at_call 85; refine (H2.out _ (H0.out.trans HD.out.aft)).mono ?_; rintro e w' ⟨rfl, u, rfl⟩))
      go_ret2
      exact ⟨rfl, (H0.out.trans HD.out.aft).then_lat _⟩
  · rw [if_neg h1] at he ⊢
    have H1 : Hid (∀ W, Aft w W → Calls Tryz.prog 68 #[(.agg #[.int .i64 C.claims, .slice a1 C.strikes.length c1, .slice a2 C.surveys.length c2]), .slice A R.length c] W fun e w' => e = .returned (.tuple #[.pointer none, .int .i64 (openE C R)]) ∧ Aft W w') := Lib.hid fun W h => opened_bad C a1 a2 c1 c2 R A c W (hC.aft h) (hA.aft h) he
    have t1 : (openE C R != 0) = true := by simpa using he
    clear hC hA h0 he h1 hA'
    generalize openE C R = E at *
    go_enter Tryz.func35, Tryz.ntmps35
    go_wp2_with (go_at_call 68; refine (H1.out _ H0.out).mono ?_; rintro e w' ⟨rfl, u, rfl⟩)
    go_ret2
    exact ⟨rfl, H0.out.then_lat _⟩

structure HdI (W0 w1 : World) (d : Nat) (C : CaseL) (a1 a2 : Option Addr) (c1 c2 : Nat) (R O : List Int) (N : Nat) (k : Nat) (W : World) : Prop where
  le : k ≤ O.length
  grown : w1.grownBy W (some d)
  desk : DeskAt W0 W d C a1 a2 c1 c2 (refL R) noS (hearsR C.strikes noS (begF (refL R), fun _ => 0) (O.take k)).1 (hearsR C.strikes noS (begF (refL R), fun _ => 0) (O.take k)).2
  heard : HeardS C.strikes noS N (begF (refL R)) (hearsR C.strikes noS (begF (refL R), fun _ => 0) (O.take k)).1 (hearsR C.strikes noS (begF (refL R), fun _ => 0) (O.take k)).2
theorem HdI.step {W0 w1 W W' : World} {d : Nat} {C : CaseL} {a1 a2 : Option Addr} {c1 c2 : Nat} {R O : List Int} {N : Nat} {k : Nat} (h : HdI W0 w1 d C a1 a2 c1 c2 R O N k W) (hk : k < O.length) (hr : 0 ≤ O[k] ∧ O[k] < N) {e : Ending}
    (hh : Hearing W0 W d C a1 a2 c1 c2 (refL R) noS (hearR C.strikes noS ((hearsR C.strikes noS (begF (refL R), fun _ => 0) (O.take k)).1, (hearsR C.strikes noS (begF (refL R), fun _ => 0) (O.take k)).2) O[k]).1 (hearR C.strikes noS ((hearsR C.strikes noS (begF (refL R), fun _ => 0) (O.take k)).1, (hearsR C.strikes noS (begF (refL R), fun _ => 0) (O.take k)).2) O[k]).2 e W') : HdI W0 w1 d C a1 a2 c1 c2 R O N (k + 1) W' := by
  obtain ⟨_, hg, hd'⟩ := hh
  refine ⟨by omega, h.grown.trans hg, ?_, ?_⟩
  · rw [hears_succ _ _ _ _ hk]; exact hd'
  · rw [hears_succ _ _ _ _ hk]; exact h.heard.step hr

set_option maxRecDepth 100000 in
set_option maxHeartbeats 2000000 in
theorem heard_good (C : CaseL) (a1 a2 : Option Addr) (c1 c2 : Nat) (R O : List Int) (A A' : Option Addr) (c c' : Nat) (w : World) (hC : CRep w C a1 a2) (hA : Ints w A R) (hA' : Ints w A' O) (he : heardE C R O = 0) (N : Nat) (hN : C.claims = N) :
    Calls Tryz.prog 35 #[(.agg #[.int .i64 C.claims, .slice a1 C.strikes.length c1, .slice a2 C.surveys.length c2]), .slice A R.length c, .slice A' O.length c'] w (GoodL (foundL (hears C.strikes noS (begF (refL R)) O) N) w) := by
  have h0 : Aft w (w.alloc (.cells #[.int .i64 C.claims, .slice a1 C.strikes.length c1, .slice a2 C.surveys.length c2] 25)) := Aft.alloc _ _
  have H0 := Lib.hid h0
  have hlo := hA'.len
  unfold heardE at he
  have h1 : openE C R = 0 := by
    by_cases h1 : openE C R = 0
    · exact h1
    · rw [if_neg h1] at he; exact he
  rw [if_pos h1] at he
  have h2 : ¬ 400 < O.length := fun h => by rw [if_pos h] at he; cases he
  rw [if_neg h2] at he
  have h3 : (O.all fun n => Cl n C.claims) = true := by
    cases h : (O.all fun n => Cl n C.claims)
    · rw [h] at he; cases he
    · rfl
  have HO : Hid (∀ k, (h : k < O.length) → 0 ≤ O[k] ∧ O[k] < N) := Lib.hid fun k h => by
    have := Cl_iff.1 (List.all_eq_true.1 h3 _ (List.getElem_mem h))
    rwa [hN] at this
  have hok := (openE_facts h1).1
  have hN14 : N ≤ 14 := by have := hok.n2; omega
  have HS := Lib.hid (show ∀ s ∈ C.strikes, 0 ≤ s.1 ∧ s.1 < 14 from fun s hs => by have := (hok.ins s hs).1; have := hok.n2; omega)
  have H1 : Hid (∀ W, Aft w W → Calls Tryz.prog 68 #[(.agg #[.int .i64 C.claims, .slice a1 C.strikes.length c1, .slice a2 C.surveys.length c2]), .slice A R.length c] W (Opened C a1 a2 c1 c2 R W)) := Lib.hid fun W h => opened_good C a1 a2 c1 c2 R A c W (hC.aft h) (hA.aft h) h1
  have H2 : Hid (∀ W, Aft w W → Calls Tryz.prog 85 #[.slice A' O.length c', .func (.func 59) #[(.agg #[.int .i64 C.claims, .slice a1 C.strikes.length c1, .slice a2 C.surveys.length c2])] #[]] W fun e w' => e = .returned (.bool (O.all fun n => Cl n C.claims)) ∧ Aft W w') := Lib.hid fun W h => none_strange C.claims a1 a2 _ _ c1 c2 A' O c' W ⟨hok.n1, hok.n2⟩ (hA'.aft h)
  rw [h3] at H2
  have HB := Lib.hid (Blk.new w 25 #[.int .i64 C.claims, .slice a1 C.strikes.length c1, .slice a2 C.surveys.length c2])
  have HN := Lib.hid hN
  have HA' := Lib.hid hA'
  have t1 : decide ((400 : Int) < O.length) = false := by simp; omega
  have hO400 : O.length ≤ 400 := by omega
  clear hC hA hA' h0 hok he h1 h2 h3 hN hlo
  go_enter Tryz.func35, Tryz.ntmps35
  go_upto_block 1 with (first | (go_at_call 68; refine (H1.out _ H0.out).mono ?_; rintro e w1 ⟨d, rfl, hd⟩; have HD := Lib.hid hd; obtain ⟨k0, k1, k2⟩ := box25 (HB.out.aft hd.aft); have hlt := (HB.out.aft hd.aft).lt; clear hd) | (go_at_call 85; refine (H2.out _ (H0.out.trans HD.out.aft)).mono ?_; rintro e w2 ⟨rfl, ha2⟩; have HA2 := Lib.hid ha2; clear ha2))
  have HA1 : Hid (Aft w w2) := Lib.hid ((H0.out.trans HD.out.aft).trans HA2.out)
  have hdw : w.heap.size < d := by have := HD.out.base; simp at this; omega
  have HB1 := Lib.hid ((HB.out.aft HD.out.aft).aft HA2.out)
  have HD2 := Lib.hid (HD.out.later HA2.out)
  generalize (w.alloc (.cells #[.int .i64 C.claims, .slice a1 C.strikes.length c1, .slice a2 C.surveys.length c2] 25)) = W0 at *
  have HI0 : Hid (HdI W0 w2 d C a1 a2 c1 c2 R O N 0 w2) := Lib.hid ⟨by omega, only_refl _ _, by rw [List.take_zero]; exact HD2.out, by rw [List.take_zero]; exact HeardS.start _ _ _ _⟩
  clear k0 k1 k2 hlt
  refine wp_block ?_
  go_loopw [34] (fun i wr => ∃ k : Nat, i = .int .i64 k ∧ HdI W0 w2 d C a1 a2 c1 c2 R O N k wr) (fun i _ => O.length - (intOf i).toNat)
  case atStart => exact ⟨0, rfl, HI0.out⟩
  case round =>
    obtain ⟨k, rfl, hi⟩ := hrel
    have hk := hi.le
    have HI := Lib.hid hi
    clear hi
    by_cases hkO : k < O.length
    · have t2 : decide (k < O.length) = true := by simpa using hkO
      obtain ⟨b, o, rfl, hb, hc⟩ := ((HA'.out.aft HA1.out).aft (Aft.refl _)).at hkO
      have hok := HO.out k hkO
      have hkc : wr.cell? ⟨b, o + k, none⟩ = some (.int .i64 O[k]) := by
        obtain ⟨b', o', e1, hb', hc'⟩ := HA'.out.at hkO
        cases e1
        have : Ints wr (some ⟨b, o, none⟩) O := (HA'.out.aft (HA1.out.grown HI.out.grown (fun k e => by cases e; omega)))
        obtain ⟨b2, o2, e2, _, hc2⟩ := this.at hkO
        cases e2
        exact hc2 k hkO
      have hbr : b < wr.heap.size := Nat.lt_of_lt_of_le hb HI.out.grown.size
      obtain ⟨n, hn⟩ : ∃ n : Nat, O[k] = n := ⟨O[k].toNat, by omega⟩
      have HE := Lib.hid (fun (hr : ∀ x, (hearsR C.strikes noS (begF (refL R), fun _ => 0) (O.take k)).2 x ≤ 1000) => hear_any W0 wr d C a1 a2 c1 c2 (refL R) noS _ _ HI.out.desk n (by omega) HS.out hr)
      have HE2 := Lib.hid (HE.out (fun x => by have := HI.out.heard.rank (Court.begF_three _) x; omega))
      rw [hn] at hkc
      have HN2 := Lib.hid hn
      clear hc hn hok HE
      go_wp2_with (go_at_call 86; refine HE2.out.mono ?_; rintro e w' hh; have HH2 := Lib.hid (HI.out.step hkO (HO.out k hkO) (by rw [HN2.out]; exact hh)); obtain ⟨⟨v, rfl⟩, -, -⟩ := hh)
      exact ⟨⟨k + 1, by go_num, HH2.out⟩, by simp [intOf]; omega⟩
    · have t2 : decide (k < O.length) = false := by simpa using hkO
      obtain rfl : O.length = k := by omega
      clear hkO
      have hdk := HI.out.desk
      have hg := HI.out.grown
      rw [List.take_of_length_le (Nat.le_refl _)] at hdk
      have HF := Lib.hid (Court.hearsR_fst (S := C.strikes) (sure := noS) O (begF (refL R), fun _ => 0))
      rw [HF.out] at hdk
      have HDK := Lib.hid (hdk.later (Aft.drew _))
      have HG := Lib.hid hg
      have hlt0 : w.heap.size < wr.drew.heap.size := Nat.lt_of_lt_of_le HB1.out.lt hg.size
      have z0 : wr.drew.cell? ⟨w.heap.size, 0, none⟩ = some (.int .i64 N) := by
        rw [← HN.out]; exact (HB1.out.grown hg (by simp; omega)).cell 0
      clear hdk hg
      go_upto_region 13 with (fail)
      refine wp_region_valsT (by kernel_rfl) 5 49 rfl (by kernel_rfl) (by kernel_rfl) (by kernel_rfl) [.pointer (some ⟨d, 0, none⟩), .pointer (some ⟨d, 0, none⟩), .pointer (some ⟨d, 31, none⟩), .pointer (some ⟨w.heap.size, 0, none⟩), .int .i64 N] rfl (fun _ W => W = wr.drew) (rfl) ?st1 ?fi1
      case st1 =>
        intro i o v ho hv
        match i, ho, hv with
        | 0, ho, hv =>
          cases ho; cases hv
          refine .inl ⟨rfl, fun done a W hd hp hk hw K hK => ?_⟩
          have e8 := hk.same 8 (by decide)
          exact op_val (by simp [go_sem, ev' e8]) (hK _ hw)
        | 1, ho, hv =>
          cases ho; cases hv
          refine .inl ⟨rfl, fun done a W hd hp hk hw K hK => ?_⟩
          have e42 := hk.at_ 0 _ 42 _ rfl (by decide) _ rfl rfl rfl
          exact op_val (by simp [go_sem, ev' e42]) (hK _ hw)
        | 2, ho, hv =>
          cases ho; cases hv
          refine .inl ⟨rfl, fun done a W hd hp hk hw K hK => ?_⟩
          have e43 := hk.at_ 1 _ 43 _ rfl (by decide) _ rfl rfl rfl
          exact op_val (by simp [go_sem, ev' e43]) (hK _ hw)
        | 3, ho, hv =>
          cases ho; cases hv
          refine .inl ⟨rfl, fun done a W hd hp hk hw K hK => ?_⟩
          have e3 := hk.same 3 (by decide)
          exact op_val (by simp [go_sem, ev' e3]) (hK _ hw)
        | 4, ho, hv =>
          cases ho; cases hv
          refine .inl ⟨rfl, fun done a W hd hp hk hw K hK => ?_⟩
          have e45 := hk.at_ 3 _ 45 _ rfl (by decide) _ rfl rfl rfl
          exact op_val (by simp [go_sem, ev' e45, hw, z0]) (hK _ hw)
        | _ + 5, _, hv => cases hv
      intro done W hd hw
      simp only [List.drop_succ_cons, List.drop_zero, List.zip_cons_cons, List.zip_nil_right, putAll]
      simp only [Act.put, List.setIfInBounds_toArray, List.set]
      clear hd
      subst hw
      have HCL := Lib.hid (clone84 (some ⟨d, 31, none⟩) (foundL (hears C.strikes noS (begF (refL R)) O) N) 14 wr.drew (HDK.out.foundInts hN14))
      rw [foundL_len] at HCL
      have i1 : (0 : Int) ≤ (N : Int) ∧ (N : Int) ≤ 14 := by omega
      go_wp2_with (go_at_call 63; refine HCL.out.mono ?_; rintro e w9 ⟨v, rfl, hown, ha9⟩; have HO9 := Lib.hid hown; have HA9 := Lib.hid ha9; clear hown ha9)
      go_ret2
      have hbig : Aft w w9 := ((HA1.out.grown HG.out (fun k e => by cases e; omega)).trans (Aft.drew _)).trans HA9.out
      have hsz := HA1.out.size
      have hsz2 := HG.out.size
      refine ⟨v, rfl, ?_, hbig⟩
      rw [foundL_len]
      have := HO9.out
      rw [foundL_len] at this
      exact own_base this (by show w.heap.size ≤ wr.heap.size; omega)
end Go.Proofs
end

section
namespace Go.Proofs
open Go.RowKit
open Court (refL begF noS struckB nextR HeldP)
attribute [local go_sem] Oper.semAt_some

def heldB (S : List (Int × Int)) (sure ref : Int → Bool) (f r : Int → Nat) (n : Int) : Bool :=
  if ref n then decide (f n = 2) && decide (r n = 0)
  else if f n = 0 then decide (r n = 0) && (!struckB S sure f n 1 && struckB S sure f n 0)
  else if f n = 1 then freeB S sure f n && decide (nextR S sure r n ≤ r n)
  else (strikers S sure n).any fun x => decide (f x = 1) && decide (r x < r n)

set_option maxRecDepth 100000 in
set_option maxHeartbeats 2000000 in
theorem held_easy (w0 w : World) (d : Nat) (C : CaseL) (a1 a2 : Option Addr) (c1 c2 : Nat) (ref sure : Int → Bool) (f r : Int → Nat) (hD : DeskAt w0 w d C a1 a2 c1 c2 ref sure f r) (n : Nat) (hn : n < 14) (hS : ∀ s ∈ C.strikes, 0 ≤ s.1 ∧ s.1 < 14) (hr : ∀ x, r x ≤ 1000) (hc : ref n = true ∨ f n = 0 ∨ f n = 1) :
    Calls Tryz.prog 93 #[.pointer (some ⟨d, 0, none⟩), .int .i64 n] w fun e w' => e = .returned (.bool (heldB C.strikes sure ref f r n)) ∧ Aft w w' := by
  have HL : Hid (∀ (k : Nat) (x : Int), (strikers C.strikes sure n)[k]? = some x → 0 ≤ x ∧ x < 14) := Lib.hid fun k x h => by
    obtain ⟨s, hs, rfl⟩ := strikers_mem (List.mem_of_getElem? h)
    exact hS s hs
  have HD := Lib.hid hD
  have HR := Lib.hid hr
  have H1 : Hid (∀ W, Aft w W → Calls Tryz.prog 115 #[.pointer (some ⟨d, 0, none⟩), .int .i64 n, .int .i64 1] W fun e w' => e = .returned (.bool (struckB C.strikes sure f n 1)) ∧ Aft W w') := Lib.hid fun W h => struck_any w0 W d C a1 a2 c1 c2 ref sure f r (hD.later h) n 1 hn hS
  have H0 : Hid (∀ W, Aft w W → Calls Tryz.prog 115 #[.pointer (some ⟨d, 0, none⟩), .int .i64 n, .int .i64 0] W fun e w' => e = .returned (.bool (struckB C.strikes sure f n 0)) ∧ Aft W w') := Lib.hid fun W h => struck_any w0 W d C a1 a2 c1 c2 ref sure f r (hD.later h) n 0 hn hS
  have H2 : Hid (∀ W, Aft w W → Calls Tryz.prog 116 #[.pointer (some ⟨d, 0, none⟩), .int .i64 n] W fun e w' => e = .returned (.bool (freeB C.strikes sure f n)) ∧ Aft W w') := Lib.hid fun W h => free_any w0 W d C a1 a2 c1 c2 ref sure f r (hD.later h) n hn hS
  have H3 : Hid (∀ W, Aft w W → Calls Tryz.prog 113 #[.pointer (some ⟨d, 0, none⟩), .int .i64 n] W fun e w' => e = .returned (.int .i64 (nextR C.strikes sure r n : Nat)) ∧ Aft W w') := Lib.hid fun W h => next_any w0 W d C a1 a2 c1 c2 ref sure f r (hD.later h) n hn hS hr
  have q1 := hD.found hn
  have q2 := hD.rf hn
  have q3 := hD.rank hn
  have hlt := hD.lt
  have hn14 : (0 : Int) ≤ (n : Int) ∧ (n : Int) < 14 := by omega
  have hrn := hr n
  have F0 := (((Fr.start w).alloc rfl 95 #[.pointer (some ⟨d, 0, none⟩)]).alloc (by simp) 4 #[.bool false]).alloc (by simp) 3 #[.int .i64 (r n : Nat)]
  simp only [List.nil_append, List.cons_append] at F0
  have HF0 := Lib.hid F0
  clear hD hS hr F0
  obtain ⟨X, hX⟩ : ∃ X, heldB C.strikes sure ref f r n = X := ⟨_, rfl⟩
  rw [hX]
  have HX := Lib.hid hX
  clear hX
  have HC := Lib.hid hc
  clear hc
  go_enter Tryz.func93, Tryz.ntmps93
  go_upto_block 0 with (fail)
  have hz : (((w.alloc (.cells #[.pointer (some ⟨d, 0, none⟩)] 95)).alloc (.cells #[.bool false] 4)).alloc (.cells #[.int .i64 (r n : Nat)] 3)).heap.size = w.heap.size + 1 + 1 + 1 := by simp
  generalize ((w.alloc (.cells #[.pointer (some ⟨d, 0, none⟩)] 95)).alloc (.cells #[.bool false] 4)).alloc (.cells #[.int .i64 (r n : Nat)] 3) = W3 at *
  obtain ⟨S, hS⟩ : ∃ S, w.heap.size = S := ⟨_, rfl⟩
  rw [hS] at HF0 hz hlt ⊢
  have hD3 := HD.out.later HF0.out.aft
  have p1 := hD3.found hn
  have p2 := hD3.rf hn
  have p3 := hD3.rank hn
  have plt := hD3.lt
  have p4 : W3.cell? ⟨S, 0, none⟩ = some (.pointer (some ⟨d, 0, none⟩)) := (HF0.out.nth 0 rfl).cell 0
  have p5 : W3.cell? ⟨S + 1, 0, none⟩ = some (.bool false) := (HF0.out.nth 1 rfl).cell 0
  have p6 := (HF0.out.nth 1 rfl).frozen 0
  have p7 : W3.cell? ⟨S + 1 + 1, 0, none⟩ = some (.int .i64 (r n : Nat)) := (HF0.out.nth 2 rfl).cell 0
  have l1 := (HF0.out.nth 0 rfl).lt
  have l2 := (HF0.out.nth 1 rfl).lt
  have l3 := (HF0.out.nth 2 rfl).lt
  have HST : Hid (∀ (W : World) (v : Value), Aft W3 W → (W.setCell ⟨S + 1, 0, none⟩ v).cell? ⟨S + 1, 0, none⟩ = some v ∧ Aft w (W.setCell ⟨S + 1, 0, none⟩ v)) := Lib.hid fun W v h => by
    have hf := HF0.out.later h
    refine ⟨?_, hf.aft.then_setCell (p := ⟨S + 1, 0, none⟩) (by show w.heap.size ≤ S + 1; omega) _⟩
    have := ((hf.nth 1 rfl).store 0 v).cell 0
    simpa using this
  clear hD3 q1 q2 q3 hlt
  refine wp_block ?_
  cases h1 : ref n
  · have HR1 := Lib.hid h1
    rw [h1] at p2
    clear h1
    by_cases h2 : f n = 0
    · have t1 : (((f n : Nat) : Int) == 0) = true := by simp [h2]
      have HC2 := Lib.hid h2
      clear h2
      by_cases h5 : r n = 0
      · have t2 : (((r n : Nat) : Int) == 0) = true := by simp [h5]
        have HC5 := Lib.hid h5
        clear h5
        cases h6 : struckB C.strikes sure f n 1
        · have HC6 := Lib.hid h6
          rw [h6] at H1
          clear h6
          go_wp2_with (first | (go_at_call_of 115 (Value.int IntKind.i64 1); refine (H1.out _ (HF0.out.aft)).mono ?_; rintro e w4 ⟨rfl, ha4⟩; have HA4 := Lib.hid ha4; have f4 := HF0.out.later ha4; have z4 : w4.cell? ⟨S, 0, none⟩ = some (.pointer (some ⟨d, 0, none⟩)) := (f4.nth 0 rfl).cell 0; have z4l := (f4.nth 0 rfl).lt; clear ha4 f4) | (go_at_call_of 115 (Value.int IntKind.i64 0); refine (H0.out _ (HF0.out.aft.trans HA4.out)).mono ?_; rintro e w5 ⟨rfl, ha5⟩; have HA5 := Lib.hid (HA4.out.trans ha5); have f5 := HF0.out.later (HA4.out.trans ha5); have y1 := (f5.nth 1 rfl).cell 0; have y2 := (f5.nth 1 rfl).frozen 0; have y3 := (f5.nth 1 rfl).lt; have HY := Lib.hid (HST.out w5 (.bool (struckB C.strikes sure f n 0)) HA5.out); clear ha5 f5))
          refine bodyPost_ret (v := .bool (struckB C.strikes sure f n 0)) (by simp [results, Tryz.results93, go_sem, HY.out.1]) rfl ⟨ret_bool ?_, HY.out.2⟩
          rw [← HX.out]; unfold heldB; rw [if_neg (by rw [HR1.out]; decide), if_pos HC2.out, decide_eq_true HC5.out, HC6.out]; simp
        · have HC6 := Lib.hid h6
          rw [h6] at H1
          clear h6
          go_wp2_with (go_at_call_of 115 (Value.int IntKind.i64 1); refine (H1.out _ (HF0.out.aft)).mono ?_; rintro e w5 ⟨rfl, ha5⟩; have HA5 := Lib.hid ha5; have f5 := HF0.out.later ha5; have y1 := (f5.nth 1 rfl).cell 0; have y2 := (f5.nth 1 rfl).frozen 0; have y3 := (f5.nth 1 rfl).lt; have HY := Lib.hid (HST.out w5 (.bool false) HA5.out); clear ha5 f5)
          refine bodyPost_ret (v := .bool false) (by simp [results, Tryz.results93, go_sem, HY.out.1]) rfl ⟨ret_bool ?_, HY.out.2⟩
          rw [← HX.out]; unfold heldB; rw [if_neg (by rw [HR1.out]; decide), if_pos HC2.out, HC6.out]; simp
      · have t2 : (((r n : Nat) : Int) == 0) = false := by simp; omega
        have HC5 := Lib.hid h5
        clear h5
        have HY := Lib.hid (HST.out W3 (.bool false) (Aft.refl _))
        go_wp2_with fail
        refine bodyPost_ret (v := .bool false) (by simp [results, Tryz.results93, go_sem, HY.out.1]) rfl ⟨ret_bool ?_, HY.out.2⟩
        rw [← HX.out]; unfold heldB; rw [if_neg (by rw [HR1.out]; decide), if_pos HC2.out, decide_eq_false HC5.out]; simp
    · have t1 : (((f n : Nat) : Int) == 0) = false := by simp; omega
      have HC2 := Lib.hid h2
      have h3 : f n = 1 := by
        rcases HC.out with h | h | h
        · rw [HR1.out] at h; cases h
        · exact absurd h h2
        · exact h
      have t2 : (((f n : Nat) : Int) == 1) = true := by simp [h3]
      have HC3 := Lib.hid h3
      clear h2 h3
      go_upto_region 7 with (fail)
      cases h6 : freeB C.strikes sure f n
      · have HC6 := Lib.hid h6
        rw [h6] at H2
        clear h6
        refine wp_region_valsT (by kernel_rfl) 8 91 rfl (by kernel_rfl) (by kernel_rfl) (by kernel_rfl) [.pointer (some ⟨d, 0, none⟩), .int .i64 n, .bool false, .bool false, undef, undef, undef, undef] rfl (fun _ W => Aft W3 W) (Aft.drew _) ?st1 ?fi1
        case st1 =>
          intro i o v ho hv
          match i, ho, hv with
          | 0, ho, hv =>
            cases ho; cases hv
            refine .inl ⟨rfl, fun done a W hd hp hk hw K hK => ?_⟩
            have e2 := hk.same 2 (by decide)
            exact op_val (by simp [go_sem, ev' e2, ((HF0.out.later hw).nth 0 rfl).cell 0]) (hK _ hw)
          | 1, ho, hv =>
            cases ho; cases hv
            refine .inl ⟨rfl, fun done a W hd hp hk hw K hK => ?_⟩
            have e1 := hk.same 1 (by decide)
            exact op_val (by simp [go_sem, ev' e1]) (hK _ hw)
          | 2, ho, hv =>
            cases ho; cases hv
            refine .inl ⟨rfl, fun done a W hd hp hk hw K hK => ?_⟩
            have e60 := hk.at_ 0 _ 60 _ rfl (by decide) _ rfl rfl rfl
            have e61 := hk.at_ 1 _ 61 _ rfl (by decide) _ rfl rfl rfl
            refine op_callN rfl rfl rfl _ rfl (vs := #[.pointer (some ⟨d, 0, none⟩), .int .i64 n]) (by simp [e60, e61]) (H2.out _ (HF0.out.aft.trans hw)) ?_
            rintro e w' ⟨rfl, hw'⟩
            exact ⟨_, rfl, hK _ (hw.trans hw')⟩
          | 3, ho, hv =>
            cases ho; cases hv
            refine .inl ⟨rfl, fun done a W hd hp hk hw K hK => ?_⟩
            have e62 := hk.at_ 2 _ 62 _ rfl (by decide) _ rfl rfl rfl
            exact op_val (by simp [go_sem, ev' e62]) (hK _ hw)
          | 4, ho, hv => cases ho; cases hv; exact .inr ⟨rfl, rfl, fun _ _ h => h⟩
          | 5, ho, hv => cases ho; cases hv; exact .inr ⟨rfl, rfl, fun _ _ h => h⟩
          | 6, ho, hv => cases ho; cases hv; exact .inr ⟨rfl, rfl, fun _ _ h => h⟩
          | 7, ho, hv => cases ho; cases hv; exact .inr ⟨rfl, rfl, fun _ _ h => h⟩
          | _ + 8, _, hv => cases hv
        intro done W hd hw
        simp only [List.drop_succ_cons, List.drop_zero, List.zip_cons_cons, List.zip_nil_right, putAll]
        simp only [Act.put, List.setIfInBounds_toArray, List.set]
        clear hd
        have HW := Lib.hid hw
        have f5 := HF0.out.later hw
        have y1 := (f5.nth 1 rfl).cell 0
        have y2 := (f5.nth 1 rfl).frozen 0
        have y3 := (f5.nth 1 rfl).lt
        have HY := Lib.hid (HST.out W (.bool false) hw)
        clear f5 hw
        go_wp2_with fail
        refine bodyPost_ret (v := .bool false) (by simp [results, Tryz.results93, go_sem, HY.out.1]) rfl ⟨ret_bool ?_, HY.out.2⟩
        rw [← HX.out]; unfold heldB; rw [if_neg (by rw [HR1.out]; decide), if_neg HC2.out, if_pos HC3.out, HC6.out]; simp
      · have HC6 := Lib.hid h6
        rw [h6] at H2
        clear h6
        refine wp_region_valsT (by kernel_rfl) 8 91 rfl (by kernel_rfl) (by kernel_rfl) (by kernel_rfl) [.pointer (some ⟨d, 0, none⟩), .int .i64 n, .bool true, .bool true, .int .i64 (r n : Nat), .pointer (some ⟨d, 0, none⟩), .int .i64 n, .int .i64 (nextR C.strikes sure r n : Nat)] rfl (fun _ W => Aft W3 W) (Aft.drew _) ?st2 ?fi2
        case st2 =>
          intro i o v ho hv
          match i, ho, hv with
          | 0, ho, hv =>
            cases ho; cases hv
            refine .inl ⟨rfl, fun done a W hd hp hk hw K hK => ?_⟩
            have e2 := hk.same 2 (by decide)
            exact op_val (by simp [go_sem, ev' e2, ((HF0.out.later hw).nth 0 rfl).cell 0]) (hK _ hw)
          | 1, ho, hv =>
            cases ho; cases hv
            refine .inl ⟨rfl, fun done a W hd hp hk hw K hK => ?_⟩
            have e1 := hk.same 1 (by decide)
            exact op_val (by simp [go_sem, ev' e1]) (hK _ hw)
          | 2, ho, hv =>
            cases ho; cases hv
            refine .inl ⟨rfl, fun done a W hd hp hk hw K hK => ?_⟩
            have e60 := hk.at_ 0 _ 60 _ rfl (by decide) _ rfl rfl rfl
            have e61 := hk.at_ 1 _ 61 _ rfl (by decide) _ rfl rfl rfl
            refine op_callN rfl rfl rfl _ rfl (vs := #[.pointer (some ⟨d, 0, none⟩), .int .i64 n]) (by simp [e60, e61]) (H2.out _ (HF0.out.aft.trans hw)) ?_
            rintro e w' ⟨rfl, hw'⟩
            exact ⟨_, rfl, hK _ (hw.trans hw')⟩
          | 3, ho, hv =>
            cases ho; cases hv
            refine .inl ⟨rfl, fun done a W hd hp hk hw K hK => ?_⟩
            have e62 := hk.at_ 2 _ 62 _ rfl (by decide) _ rfl rfl rfl
            exact op_val (by simp [go_sem, ev' e62]) (hK _ hw)
          | 4, ho, hv =>
            cases ho; cases hv
            refine .inl ⟨rfl, fun done a W hd hp hk hw K hK => ?_⟩
            have e5 := hk.same 5 (by decide)
            exact op_val (by simp [go_sem, ev' e5, ((HF0.out.later hw).nth 2 rfl).cell 0]) (hK _ hw)
          | 5, ho, hv =>
            cases ho; cases hv
            refine .inl ⟨rfl, fun done a W hd hp hk hw K hK => ?_⟩
            have e2 := hk.same 2 (by decide)
            exact op_val (by simp [go_sem, ev' e2, ((HF0.out.later hw).nth 0 rfl).cell 0]) (hK _ hw)
          | 6, ho, hv =>
            cases ho; cases hv
            refine .inl ⟨rfl, fun done a W hd hp hk hw K hK => ?_⟩
            have e1 := hk.same 1 (by decide)
            exact op_val (by simp [go_sem, ev' e1]) (hK _ hw)
          | 7, ho, hv =>
            cases ho; cases hv
            refine .inl ⟨rfl, fun done a W hd hp hk hw K hK => ?_⟩
            have e65 := hk.at_ 5 _ 65 _ rfl (by decide) _ rfl rfl rfl
            have e66 := hk.at_ 6 _ 66 _ rfl (by decide) _ rfl rfl rfl
            refine op_callN rfl rfl rfl _ rfl (vs := #[.pointer (some ⟨d, 0, none⟩), .int .i64 n]) (by simp [e65, e66]) (H3.out _ (HF0.out.aft.trans hw)) ?_
            rintro e w' ⟨rfl, hw'⟩
            exact ⟨_, rfl, hK _ (hw.trans hw')⟩
          | _ + 8, _, hv => cases hv
        intro done W hd hw
        simp only [List.drop_succ_cons, List.drop_zero, List.zip_cons_cons, List.zip_nil_right, putAll]
        simp only [Act.put, List.setIfInBounds_toArray, List.set]
        clear hd
        have HW := Lib.hid hw
        have f5 := HF0.out.later hw
        have y1 := (f5.nth 1 rfl).cell 0
        have y2 := (f5.nth 1 rfl).frozen 0
        have y3 := (f5.nth 1 rfl).lt
        by_cases h7 : nextR C.strikes sure r n ≤ r n
        · have t3 : decide (nextR C.strikes sure r n ≤ r n) = true := by simpa using h7
          have HC7 := Lib.hid h7
          have HY := Lib.hid (HST.out W (.bool true) hw)
          clear f5 hw h7
          go_wp2_with fail
          refine bodyPost_ret (v := .bool true) (by simp [results, Tryz.results93, go_sem, HY.out.1]) rfl ⟨ret_bool ?_, HY.out.2⟩
          rw [← HX.out]; unfold heldB; rw [if_neg (by rw [HR1.out]; decide), if_neg HC2.out, if_pos HC3.out, HC6.out, decide_eq_true HC7.out]; rfl
        · have t3 : decide (nextR C.strikes sure r n ≤ r n) = false := by simpa using h7
          have HC7 := Lib.hid h7
          have HY := Lib.hid (HST.out W (.bool false) hw)
          clear f5 hw h7
          go_wp2_with fail
          refine bodyPost_ret (v := .bool false) (by simp [results, Tryz.results93, go_sem, HY.out.1]) rfl ⟨ret_bool ?_, HY.out.2⟩
          rw [← HX.out]; unfold heldB; rw [if_neg (by rw [HR1.out]; decide), if_neg HC2.out, if_pos HC3.out, HC6.out, decide_eq_false HC7.out]; rfl
  · have HR1 := Lib.hid h1
    rw [h1] at p2
    clear h1
    by_cases h4 : f n = 2
    · have t1 : (((f n : Nat) : Int) == 2) = true := by simp [h4]
      have HC4 := Lib.hid h4
      clear h4
      by_cases h5 : r n = 0
      · have t2 : (((r n : Nat) : Int) == 0) = true := by simp [h5]
        have HC5 := Lib.hid h5
        clear h5
        have HY := Lib.hid (HST.out W3 (.bool true) (Aft.refl _))
        go_wp2_with fail
        refine bodyPost_ret (v := .bool true) (by simp [results, Tryz.results93, go_sem, HY.out.1]) rfl ⟨ret_bool ?_, HY.out.2⟩
        rw [← HX.out]; unfold heldB; rw [if_pos HR1.out, decide_eq_true HC4.out, decide_eq_true HC5.out]; rfl
      · have t2 : (((r n : Nat) : Int) == 0) = false := by simp; omega
        have HC5 := Lib.hid h5
        clear h5
        have HY := Lib.hid (HST.out W3 (.bool false) (Aft.refl _))
        go_wp2_with fail
        refine bodyPost_ret (v := .bool false) (by simp [results, Tryz.results93, go_sem, HY.out.1]) rfl ⟨ret_bool ?_, HY.out.2⟩
        rw [← HX.out]; unfold heldB; rw [if_pos HR1.out, decide_eq_false HC5.out]; simp
    · have t1 : (((f n : Nat) : Int) == 2) = false := by simp; omega
      have HC4 := Lib.hid h4
      clear h4
      have HY := Lib.hid (HST.out W3 (.bool false) (Aft.refl _))
      go_wp2_with fail
      refine bodyPost_ret (v := .bool false) (by simp [results, Tryz.results93, go_sem, HY.out.1]) rfl ⟨ret_bool ?_, HY.out.2⟩
      rw [← HX.out]; unfold heldB; rw [if_pos HR1.out, decide_eq_false HC4.out]; rfl

set_option maxRecDepth 100000 in
set_option maxHeartbeats 2000000 in
theorem held_range (w0 w : World) (d : Nat) (C : CaseL) (a1 a2 : Option Addr) (c1 c2 : Nat) (ref sure : Int → Bool) (f r : Int → Nat) (hD : DeskAt w0 w d C a1 a2 c1 c2 ref sure f r) (n : Nat) (hn : n < 14) (hS : ∀ s ∈ C.strikes, 0 ≤ s.1 ∧ s.1 < 14) (hr : ∀ x, r x ≤ 1000) (h1 : ref n = false) (h2 : f n ≠ 0) (h3 : f n ≠ 1) :
    Calls Tryz.prog 93 #[.pointer (some ⟨d, 0, none⟩), .int .i64 n] w fun e w' => e = .returned (.bool (heldB C.strikes sure ref f r n)) ∧ Aft w w' := by
  have HL : Hid (∀ (k : Nat) (x : Int), (strikers C.strikes sure n)[k]? = some x → 0 ≤ x ∧ x < 14) := Lib.hid fun k x h => by
    obtain ⟨s, hs, rfl⟩ := strikers_mem (List.mem_of_getElem? h)
    exact hS s hs
  have HD := Lib.hid hD
  have HR := Lib.hid hr
  have H1 : Hid (∀ W, Aft w W → Calls Tryz.prog 115 #[.pointer (some ⟨d, 0, none⟩), .int .i64 n, .int .i64 1] W fun e w' => e = .returned (.bool (struckB C.strikes sure f n 1)) ∧ Aft W w') := Lib.hid fun W h => struck_any w0 W d C a1 a2 c1 c2 ref sure f r (hD.later h) n 1 hn hS
  have H0 : Hid (∀ W, Aft w W → Calls Tryz.prog 115 #[.pointer (some ⟨d, 0, none⟩), .int .i64 n, .int .i64 0] W fun e w' => e = .returned (.bool (struckB C.strikes sure f n 0)) ∧ Aft W w') := Lib.hid fun W h => struck_any w0 W d C a1 a2 c1 c2 ref sure f r (hD.later h) n 0 hn hS
  have H2 : Hid (∀ W, Aft w W → Calls Tryz.prog 116 #[.pointer (some ⟨d, 0, none⟩), .int .i64 n] W fun e w' => e = .returned (.bool (freeB C.strikes sure f n)) ∧ Aft W w') := Lib.hid fun W h => free_any w0 W d C a1 a2 c1 c2 ref sure f r (hD.later h) n hn hS
  have H3 : Hid (∀ W, Aft w W → Calls Tryz.prog 113 #[.pointer (some ⟨d, 0, none⟩), .int .i64 n] W fun e w' => e = .returned (.int .i64 (nextR C.strikes sure r n : Nat)) ∧ Aft W w') := Lib.hid fun W h => next_any w0 W d C a1 a2 c1 c2 ref sure f r (hD.later h) n hn hS hr
  have q1 := hD.found hn
  have q2 := hD.rf hn
  have q3 := hD.rank hn
  have hlt := hD.lt
  have hn14 : (0 : Int) ≤ (n : Int) ∧ (n : Int) < 14 := by omega
  have hrn := hr n
  have F0 := (((Fr.start w).alloc rfl 95 #[.pointer (some ⟨d, 0, none⟩)]).alloc (by simp) 4 #[.bool false]).alloc (by simp) 3 #[.int .i64 (r n : Nat)]
  simp only [List.nil_append, List.cons_append] at F0
  have HF0 := Lib.hid F0
  clear hD hS hr F0
  obtain ⟨X, hX⟩ : ∃ X, heldB C.strikes sure ref f r n = X := ⟨_, rfl⟩
  rw [hX]
  have HX := Lib.hid hX
  clear hX
  refine (callsIn_wide (n := 5)).1 ?_
  refine callsIn_of_wp_marks Tryz.func93 rfl trivial ?_ rfl
  simp only [Tryz.ntmps93, List.size_toArray, List.length_cons, List.length_nil, Nat.reduceAdd, Nat.reduceSub, Array.replicate_succ, Array.replicate_zero, List.push_toArray, List.append_toArray, List.nil_append, List.cons_append]
  refine wpIn_wide.2 ?_
  go_upto_block 0 with (fail)
  have hz : (((w.alloc (.cells #[.pointer (some ⟨d, 0, none⟩)] 95)).alloc (.cells #[.bool false] 4)).alloc (.cells #[.int .i64 (r n : Nat)] 3)).heap.size = w.heap.size + 1 + 1 + 1 := by simp
  generalize ((w.alloc (.cells #[.pointer (some ⟨d, 0, none⟩)] 95)).alloc (.cells #[.bool false] 4)).alloc (.cells #[.int .i64 (r n : Nat)] 3) = W3 at *
  obtain ⟨S, hS⟩ : ∃ S, w.heap.size = S := ⟨_, rfl⟩
  rw [hS] at HF0 hz hlt ⊢
  have hD3 := HD.out.later HF0.out.aft
  have p1 := hD3.found hn
  have p2 := hD3.rf hn
  have p3 := hD3.rank hn
  have plt := hD3.lt
  have p4 : W3.cell? ⟨S, 0, none⟩ = some (.pointer (some ⟨d, 0, none⟩)) := (HF0.out.nth 0 rfl).cell 0
  have p5 : W3.cell? ⟨S + 1, 0, none⟩ = some (.bool false) := (HF0.out.nth 1 rfl).cell 0
  have p6 := (HF0.out.nth 1 rfl).frozen 0
  have p7 : W3.cell? ⟨S + 1 + 1, 0, none⟩ = some (.int .i64 (r n : Nat)) := (HF0.out.nth 2 rfl).cell 0
  have l1 := (HF0.out.nth 0 rfl).lt
  have l2 := (HF0.out.nth 1 rfl).lt
  have l3 := (HF0.out.nth 2 rfl).lt
  have HST : Hid (∀ (W : World) (v : Value), Aft W3 W → (W.setCell ⟨S + 1, 0, none⟩ v).cell? ⟨S + 1, 0, none⟩ = some v ∧ Aft w (W.setCell ⟨S + 1, 0, none⟩ v)) := Lib.hid fun W v h => by
    have hf := HF0.out.later h
    refine ⟨?_, hf.aft.then_setCell (p := ⟨S + 1, 0, none⟩) (by show w.heap.size ≤ S + 1; omega) _⟩
    have := ((hf.nth 1 rfl).store 0 v).cell 0
    simpa using this
  clear hD3 q1 q2 q3 hlt
  refine wp_block ?_
  have t1 : (((f n : Nat) : Int) == 0) = false := by simp; omega
  have t2 : (((f n : Nat) : Int) == 1) = false := by simp; omega
  have HXX : Hid (((strikers C.strikes sure n).any (fun x => decide (f x = 1) && decide (r x < r n))) = X) := Lib.hid (by rw [← HX.out]; unfold heldB; rw [if_neg (by rw [h1]; decide), if_neg h2, if_neg h3])
  rw [h1] at p2
  clear h1 h2 h3
  go_upto_block 1 with (go_at_call 103; refine (striking_any d n _).mono ?_; rintro e w' ⟨rfl, rfl⟩)
  have F5 := (HF0.out.alloc hz 95 #[.pointer (some ⟨d, 0, none⟩)]).alloc (by simp; omega) 3 #[.int .i64 n]
  simp only [List.nil_append, List.cons_append] at F5
  have hz5 : ((W3.alloc (.cells #[.pointer (some ⟨d, 0, none⟩)] 95)).alloc (.cells #[.int .i64 n] 3)).heap.size = S + 1 + 1 + 1 + 1 + 1 := by simp; omega
  have HF5 := Lib.hid F5
  clear F5 p1 p2 p3 p4 p5 p6 p7
  generalize (W3.alloc (.cells #[.pointer (some ⟨d, 0, none⟩)] 95)).alloc (.cells #[.int .i64 n] 3) = W5 at *
  have HL0 := Lib.hid (show ∀ (j : Nat) (x : Int), j < 0 → (strikers C.strikes sure n)[j]? = some x → (fun x => decide (f x = 1) && decide (r x < r n)) x = false from fun j x h => absurd h (Nat.not_lt_zero _))
  refine wp_block ?_
  refine (wpIn_wide (n := 5)).1 ?_
  refine wpIn_striking2 (w0 := w0) (bd := S + 1 + 1 + 1) (bn := S + 1 + 1 + 1 + 1) (d := d) (C := C) (a1 := a1) (a2 := a2) (c1 := c1) (c2 := c2) (ref := ref) (sure := sure) (m := n) hn rfl
    (fun k W => Fr w (S + 1 + 1 + 1 + 1 + 1) [(S, 95, #[.pointer (some ⟨d, 0, none⟩)]), (S + 1, 4, #[.bool false]), (S + 1 + 1, 3, #[.int .i64 (r n : Nat)]), (S + 1 + 1 + 1, 95, #[.pointer (some ⟨d, 0, none⟩)]), (S + 1 + 1 + 1 + 1, 3, #[.int .i64 n])] W ∧ ∀ (j : Nat) (x : Int), j < k → (strikers C.strikes sure n)[j]? = some x → (fun x => decide (f x = 1) && decide (r x < r n)) x = false)
    (fun c W => Fr w (S + 1 + 1 + 1 + 1 + 1) [(S + 1, 4, #[.bool true])] W ∧ c = .ret ∧ ((strikers C.strikes sure n).any (fun x => decide (f x = 1) && decide (r x < r n))) = true)
    (by rw [hz5]; exact Fr.three) (fun k W W' h ha => ⟨h.1.later ha, h.2⟩) (fun c => by rw [hz5]; exact Fr.three)
    (fun k W h => ⟨(h.1.nth 3 rfl).cell 0, (h.1.nth 4 rfl).cell 0, (h.1.nth 3 rfl).lt, (h.1.nth 4 rfl).lt, f, r, HD.out.later h.1.aft⟩) ⟨HF5.out, HL0.out⟩
    rfl rfl rfl (by simp) ?body ?done ?stop
  case body =>
    intro l k x W hx hI hsz
    obtain ⟨x0, x1⟩ := HL.out k x hx
    obtain ⟨m, rfl⟩ : ∃ m : Nat, x = m := ⟨x.toNat, by omega⟩
    have hm14 : m < 14 := by omega
    have hDW := HD.out.later hI.1.aft
    have z2 := hDW.found hm14
    have z3 := hDW.rank hm14
    have z1 : W.cell? ⟨S, 0, none⟩ = some (.pointer (some ⟨d, 0, none⟩)) := (hI.1.nth 0 rfl).cell 0
    have z4 : W.cell? ⟨S + 1 + 1, 0, none⟩ = some (.int .i64 (r n : Nat)) := (hI.1.nth 2 rfl).cell 0
    have b2 := hI.1.nth 1 rfl
    have q5 := b2.frozen 0
    have q4 := b2.cell 0
    have q6 := b2.lt
    have hm : (0 : Int) ≤ (m : Int) ∧ (m : Int) < 14 := by omega
    have HI := Lib.hid hI
    have hrm := HR.out m
    clear hI b2 hDW
    simp only [List.setIfInBounds_toArray, List.set]
    refine wpIn_block ?_
    refine wpIn_seq_k fun K1 H1 => ?_
    have NO : Hid ((fun x => decide (f x = 1) && decide (r x < r n)) (m : Int) = false → ∀ W', Aft W W' → post3 (S + 1 + 1 + 1 + 1 + 1) (fun k W => Fr w (S + 1 + 1 + 1 + 1 + 1) [(S, 95, #[.pointer (some ⟨d, 0, none⟩)]), (S + 1, 4, #[.bool false]), (S + 1 + 1, 3, #[.int .i64 (r n : Nat)]), (S + 1 + 1 + 1, 95, #[.pointer (some ⟨d, 0, none⟩)]), (S + 1 + 1 + 1 + 1, 3, #[.int .i64 n])] W ∧ ∀ (j : Nat) (x : Int), j < k → (strikers C.strikes sure n)[j]? = some x → (fun x => decide (f x = 1) && decide (r x < r n)) x = false) (fun c W => Fr w (S + 1 + 1 + 1 + 1 + 1) [(S + 1, 4, #[.bool true])] W ∧ c = .ret ∧ ((strikers C.strikes sure n).any (fun x => decide (f x = 1) && decide (r x < r n))) = true) (k + 1) W .normal ⟨#[], []⟩ W') := Lib.hid fun hp W' ha => by
      refine ⟨Kept3.of_aft ha (by omega), HI.out.1.later ha, fun j x hj hjx => ?_⟩
      by_cases e : j < k
      · exact HI.out.2 j x e hjx
      · obtain rfl : j = k := by omega
        rw [hx] at hjx
        cases hjx
        exact hp
    by_cases hf1 : f m = 1
    · have t3 : (((f m : Nat) : Int) == 1) = true := by simp [hf1]
      have HF1 := Lib.hid hf1
      clear hf1
      refine wpIn_region_valsT (by kernel_rfl) (by kernel_rfl) 15 91 rfl (by kernel_rfl) (by kernel_rfl) (by kernel_rfl) [.pointer (some ⟨d, 0, none⟩), .int .i64 m, .pointer (some ⟨d, 0, none⟩), .pointer (some ⟨d, 31, none⟩), .pointer (some ⟨d, 31 + m, none⟩), .int .i64 (f m : Nat), .bool true, .bool true, .pointer (some ⟨d, 0, none⟩), .int .i64 m, .pointer (some ⟨d, 0, none⟩), .pointer (some ⟨d, 45, none⟩), .pointer (some ⟨d, 45 + m, none⟩), .int .i64 (r m : Nat), .int .i64 (r n : Nat)] rfl (fun _ W' => W' = W.drew) (rfl) ?st3 ?fi3
      case st3 =>
        intro i o v ho hv
        match i, ho, hv with
        | 0, ho, hv =>
          cases ho; cases hv
          refine .inl ⟨rfl, fun done a W hd hp hk hw K hK => ?_⟩
          have e2 := hk.same 2 (by decide)
          exact op_val (by simp [go_sem, ev' e2, hw, z1]) (hK _ hw)
        | 1, ho, hv =>
          cases ho; cases hv
          refine .inl ⟨rfl, fun done a W hd hp hk hw K hK => ?_⟩
          have e6 := hk.same 6 (by decide)
          exact op_val (by simp [go_sem, ev' e6]) (hK _ hw)
        | 2, ho, hv =>
          cases ho; cases hv
          refine .inl ⟨rfl, fun done a W hd hp hk hw K hK => ?_⟩
          have e74 := hk.at_ 0 _ 74 _ rfl (by decide) _ rfl rfl rfl
          exact op_val (by simp [go_sem, ev' e74]) (hK _ hw)
        | 3, ho, hv =>
          cases ho; cases hv
          refine .inl ⟨rfl, fun done a W hd hp hk hw K hK => ?_⟩
          have e76 := hk.at_ 2 _ 76 _ rfl (by decide) _ rfl rfl rfl
          exact op_val (by simp [go_sem, ev' e76]) (hK _ hw)
        | 4, ho, hv =>
          cases ho; cases hv
          refine .inl ⟨rfl, fun done a W hd hp hk hw K hK => ?_⟩
          have e75 := hk.at_ 1 _ 75 _ rfl (by decide) _ rfl rfl rfl
          have e77 := hk.at_ 3 _ 77 _ rfl (by decide) _ rfl rfl rfl
          exact op_val (by simp [go_sem, ev' e75, ev' e77, hm]) (hK _ hw)
        | 5, ho, hv =>
          cases ho; cases hv
          refine .inl ⟨rfl, fun done a W hd hp hk hw K hK => ?_⟩
          have e78 := hk.at_ 4 _ 78 _ rfl (by decide) _ rfl rfl rfl
          exact op_val (by simp [go_sem, ev' e78, hw, z2]) (hK _ hw)
        | 6, ho, hv =>
          cases ho; cases hv
          refine .inl ⟨rfl, fun done a W hd hp hk hw K hK => ?_⟩
          have e79 := hk.at_ 5 _ 79 _ rfl (by decide) _ rfl rfl rfl
          exact op_val (by simp [go_sem, ev' e79, t3]) (hK _ hw)
        | 7, ho, hv =>
          cases ho; cases hv
          refine .inl ⟨rfl, fun done a W hd hp hk hw K hK => ?_⟩
          have e80 := hk.at_ 6 _ 80 _ rfl (by decide) _ rfl rfl rfl
          exact op_val (by simp [go_sem, ev' e80]) (hK _ hw)
        | 8, ho, hv =>
          cases ho; cases hv
          refine .inl ⟨rfl, fun done a W hd hp hk hw K hK => ?_⟩
          have e2 := hk.same 2 (by decide)
          exact op_val (by simp [go_sem, ev' e2, hw, z1]) (hK _ hw)
        | 9, ho, hv =>
          cases ho; cases hv
          refine .inl ⟨rfl, fun done a W hd hp hk hw K hK => ?_⟩
          have e6 := hk.same 6 (by decide)
          exact op_val (by simp [go_sem, ev' e6]) (hK _ hw)
        | 10, ho, hv =>
          cases ho; cases hv
          refine .inl ⟨rfl, fun done a W hd hp hk hw K hK => ?_⟩
          have e82 := hk.at_ 8 _ 82 _ rfl (by decide) _ rfl rfl rfl
          exact op_val (by simp [go_sem, ev' e82]) (hK _ hw)
        | 11, ho, hv =>
          cases ho; cases hv
          refine .inl ⟨rfl, fun done a W hd hp hk hw K hK => ?_⟩
          have e84 := hk.at_ 10 _ 84 _ rfl (by decide) _ rfl rfl rfl
          exact op_val (by simp [go_sem, ev' e84]) (hK _ hw)
        | 12, ho, hv =>
          cases ho; cases hv
          refine .inl ⟨rfl, fun done a W hd hp hk hw K hK => ?_⟩
          have e83 := hk.at_ 9 _ 83 _ rfl (by decide) _ rfl rfl rfl
          have e85 := hk.at_ 11 _ 85 _ rfl (by decide) _ rfl rfl rfl
          exact op_val (by simp [go_sem, ev' e83, ev' e85, hm]) (hK _ hw)
        | 13, ho, hv =>
          cases ho; cases hv
          refine .inl ⟨rfl, fun done a W hd hp hk hw K hK => ?_⟩
          have e86 := hk.at_ 12 _ 86 _ rfl (by decide) _ rfl rfl rfl
          exact op_val (by simp [go_sem, ev' e86, hw, z3]) (hK _ hw)
        | 14, ho, hv =>
          cases ho; cases hv
          refine .inl ⟨rfl, fun done a W hd hp hk hw K hK => ?_⟩
          have e5 := hk.same 5 (by decide)
          exact op_val (by simp [go_sem, ev' e5, hw, z4]) (hK _ hw)
        | _ + 15, _, hv => cases hv
      intro done W hd hw
      simp only [List.drop_succ_cons, List.drop_zero, List.zip_cons_cons, List.zip_nil_right, putAll]
      simp only [Act.put, List.setIfInBounds_toArray, List.set]
      clear hd
      subst hw
      by_cases hrr : r m < r n
      · have t4 : decide (r m < r n) = true := by simpa using hrr
        have HRR := Lib.hid hrr
        clear hrr
        go_wp2_with fail
        change K1 _ _
        refine H1 _ _ ?_
        clear H1
        refine wpIn_cond_true (by simp [Act.eval]) ?_
        refine wpIn_seq_k fun K2 H2 => ?_
        refine wpIn_region_of_list (by kernel_rfl) ?_
        go_wp2_with fail
        change K2 _ _
        refine H2 _ _ ?_
        clear H2
        refine wpIn_ret ?_
        refine ⟨(Kept3.of_aft (Aft.drew W) (by omega)).setCell (p := ⟨S + 1, 0, none⟩) (by left; show S + 1 < W5.heap.size; omega) _, ((HI.out.1.later (Aft.drew W)).store (g := S + 1) (t := 4) (cs := #[.bool false]) (by simp) 0 (.bool true) (by simp)), rfl, List.any_eq_true.2 ⟨_, List.mem_of_getElem? hx, by rw [decide_eq_true HF1.out, decide_eq_true HRR.out]; rfl⟩⟩
      · have t4 : decide (r m < r n) = false := by simpa using hrr
        have HRR := Lib.hid hrr
        clear hrr
        go_wp2_with fail
        change K1 _ _
        refine H1 _ _ ?_
        clear H1
        refine wpIn_cond_false (by simp [Act.eval]) ?_
        refine wpIn_skip ?_
        rw [hz5]
        exact NO.out (by rw [decide_eq_false HRR.out, Bool.and_false]) _ (Aft.drew W)
    · have t3 : (((f m : Nat) : Int) == 1) = false := by simp; omega
      have HF1 := Lib.hid hf1
      clear hf1
      refine wpIn_region_valsT (by kernel_rfl) (by kernel_rfl) 15 91 rfl (by kernel_rfl) (by kernel_rfl) (by kernel_rfl) [.pointer (some ⟨d, 0, none⟩), .int .i64 m, .pointer (some ⟨d, 0, none⟩), .pointer (some ⟨d, 31, none⟩), .pointer (some ⟨d, 31 + m, none⟩), .int .i64 (f m : Nat), .bool false, .bool false, undef, undef, undef, undef, undef, undef, undef] rfl (fun _ W' => W' = W.drew) (rfl) ?st4 ?fi4
      case st4 =>
        intro i o v ho hv
        match i, ho, hv with
        | 0, ho, hv =>
          cases ho; cases hv
          refine .inl ⟨rfl, fun done a W hd hp hk hw K hK => ?_⟩
          have e2 := hk.same 2 (by decide)
          exact op_val (by simp [go_sem, ev' e2, hw, z1]) (hK _ hw)
        | 1, ho, hv =>
          cases ho; cases hv
          refine .inl ⟨rfl, fun done a W hd hp hk hw K hK => ?_⟩
          have e6 := hk.same 6 (by decide)
          exact op_val (by simp [go_sem, ev' e6]) (hK _ hw)
        | 2, ho, hv =>
          cases ho; cases hv
          refine .inl ⟨rfl, fun done a W hd hp hk hw K hK => ?_⟩
          have e74 := hk.at_ 0 _ 74 _ rfl (by decide) _ rfl rfl rfl
          exact op_val (by simp [go_sem, ev' e74]) (hK _ hw)
        | 3, ho, hv =>
          cases ho; cases hv
          refine .inl ⟨rfl, fun done a W hd hp hk hw K hK => ?_⟩
          have e76 := hk.at_ 2 _ 76 _ rfl (by decide) _ rfl rfl rfl
          exact op_val (by simp [go_sem, ev' e76]) (hK _ hw)
        | 4, ho, hv =>
          cases ho; cases hv
          refine .inl ⟨rfl, fun done a W hd hp hk hw K hK => ?_⟩
          have e75 := hk.at_ 1 _ 75 _ rfl (by decide) _ rfl rfl rfl
          have e77 := hk.at_ 3 _ 77 _ rfl (by decide) _ rfl rfl rfl
          exact op_val (by simp [go_sem, ev' e75, ev' e77, hm]) (hK _ hw)
        | 5, ho, hv =>
          cases ho; cases hv
          refine .inl ⟨rfl, fun done a W hd hp hk hw K hK => ?_⟩
          have e78 := hk.at_ 4 _ 78 _ rfl (by decide) _ rfl rfl rfl
          exact op_val (by simp [go_sem, ev' e78, hw, z2]) (hK _ hw)
        | 6, ho, hv =>
          cases ho; cases hv
          refine .inl ⟨rfl, fun done a W hd hp hk hw K hK => ?_⟩
          have e79 := hk.at_ 5 _ 79 _ rfl (by decide) _ rfl rfl rfl
          exact op_val (by simp [go_sem, ev' e79, t3]) (hK _ hw)
        | 7, ho, hv =>
          cases ho; cases hv
          refine .inl ⟨rfl, fun done a W hd hp hk hw K hK => ?_⟩
          have e80 := hk.at_ 6 _ 80 _ rfl (by decide) _ rfl rfl rfl
          exact op_val (by simp [go_sem, ev' e80]) (hK _ hw)
        | 8, ho, hv => cases ho; cases hv; exact .inr ⟨rfl, rfl, fun _ _ h => h⟩
        | 9, ho, hv => cases ho; cases hv; exact .inr ⟨rfl, rfl, fun _ _ h => h⟩
        | 10, ho, hv => cases ho; cases hv; exact .inr ⟨rfl, rfl, fun _ _ h => h⟩
        | 11, ho, hv => cases ho; cases hv; exact .inr ⟨rfl, rfl, fun _ _ h => h⟩
        | 12, ho, hv => cases ho; cases hv; exact .inr ⟨rfl, rfl, fun _ _ h => h⟩
        | 13, ho, hv => cases ho; cases hv; exact .inr ⟨rfl, rfl, fun _ _ h => h⟩
        | 14, ho, hv => cases ho; cases hv; exact .inr ⟨rfl, rfl, fun _ _ h => h⟩
        | _ + 15, _, hv => cases hv
      intro done W hd hw
      simp only [List.drop_succ_cons, List.drop_zero, List.zip_cons_cons, List.zip_nil_right, putAll]
      simp only [Act.put, List.setIfInBounds_toArray, List.set]
      clear hd
      subst hw
      go_wp2_with fail
      change K1 _ _
      refine H1 _ _ ?_
      clear H1
      refine wpIn_cond_false (by simp [Act.eval]) ?_
      refine wpIn_skip ?_
      rw [hz5]
      exact NO.out (by rw [decide_eq_false HF1.out, Bool.false_and]) _ (Aft.drew W)
  case done =>
    intro D W hDD hI hd
    have b2 := hI.1.nth 1 rfl
    have q4 := b2.cell 0
    have q5 := b2.frozen 0
    have q6 := b2.lt
    have HI := Lib.hid hI
    have HN : Hid (((strikers C.strikes sure n).any (fun x => decide (f x = 1) && decide (r x < r n))) = false) := Lib.hid (by
      rw [Bool.eq_false_iff]
      intro h
      obtain ⟨x, hx, h2⟩ := List.any_eq_true.1 h
      obtain ⟨j, hj, rfl⟩ := List.getElem_of_mem hx
      have h3 := hI.2 j _ hj (List.getElem?_eq_getElem hj)
      dsimp only at h3
      rw [h3] at h2
      cases h2)
    have hd2 : (W.setCell ⟨S + 1, 0, none⟩ (.bool false)).heap[D]? = some (.deferred (some [])) := (Below.heap_setCell W ⟨S + 1, 0, none⟩ (.bool false) D (by show D ≠ S + 1; omega)).trans hd
    have HB2 := Lib.hid (b2.store 0 (.bool false))
    have HD2 := Lib.hid hd2
    clear hI b2 hd2 hd
    go_wp2_with fail
    refine ⟨by simp, .inl ⟨_, _, rfl, run_takeDeferred HD2.out, ?_⟩⟩
    have y1 := (HB2.out.grown (grownBy_putObj' _ D (.deferred none)) (fun e => by cases e; omega)).cell 0
    refine ⟨.bool false, ?_, ret_bool (by rw [← HXX.out, HN.out]), (HI.out.1.aft.then_setCell (p := ⟨S + 1, 0, none⟩) (by show w.heap.size ≤ S + 1; omega) _).grown (grownBy_putObj' _ D (.deferred none)) (fun k e => by cases e; omega)⟩
    generalize ((W.setCell ⟨S + 1, 0, none⟩ (.bool false)).putObj D (.deferred none)) = Y at *
    have y1' : Y.cell? ⟨S + 1, 0, none⟩ = some (.bool false) := y1
    simp [results, Tryz.results93, go_sem, y1']
  case stop =>
    intro D c W hDD hI hd
    obtain ⟨hF, rfl, hany⟩ := hI
    refine wpIn_ret ?_
    refine ⟨by simp, .inl ⟨_, _, rfl, run_takeDeferred hd, ?_⟩⟩
    have y1 := ((hF.nth 0 rfl).grown (grownBy_putObj' W D (.deferred none)) (fun e => by cases e; omega)).cell 0
    refine ⟨.bool true, ?_, ret_bool (by rw [← HXX.out, hany]), hF.aft.grown (grownBy_putObj' _ D (.deferred none)) (fun k e => by cases e; omega)⟩
    generalize (W.putObj D (.deferred none)) = Y at *
    have y1' : Y.cell? ⟨S + 1, 0, none⟩ = some (.bool true) := y1
    simp [results, Tryz.results93, go_sem, y1']

theorem held_any (w0 w : World) (d : Nat) (C : CaseL) (a1 a2 : Option Addr) (c1 c2 : Nat) (ref sure : Int → Bool) (f r : Int → Nat) (hD : DeskAt w0 w d C a1 a2 c1 c2 ref sure f r) (n : Nat) (hn : n < 14) (hS : ∀ s ∈ C.strikes, 0 ≤ s.1 ∧ s.1 < 14) (hr : ∀ x, r x ≤ 1000) :
    Calls Tryz.prog 93 #[.pointer (some ⟨d, 0, none⟩), .int .i64 n] w fun e w' => e = .returned (.bool (heldB C.strikes sure ref f r n)) ∧ Aft w w' := by
  by_cases h : ref n = true ∨ f n = 0 ∨ f n = 1
  · exact held_easy w0 w d C a1 a2 c1 c2 ref sure f r hD n hn hS hr h
  · exact held_range w0 w d C a1 a2 c1 c2 ref sure f r hD n hn hS hr (by simpa using fun h' => h (.inl h')) (fun h' => h (.inr (.inl h'))) (fun h' => h (.inr (.inr h')))
end Go.Proofs
end
