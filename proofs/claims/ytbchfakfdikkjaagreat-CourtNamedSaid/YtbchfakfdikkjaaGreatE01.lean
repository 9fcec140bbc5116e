/- Own texts, merged: CtNa0 CtNb CtL7. -/
import Derived.Test.YtbchfakfdikkjaaGreatD01
import Derived.Test.YtbchfakfdikkjaaGreatP02
import Derived.BigGuard
import Derived.Deep.CutRange
import Derived.Deep.RegionLaw
set_option linter.unusedSimpArgs false
set_option linter.unusedVariables false
set_option linter.unnecessarySimpa false
section
namespace Go.Proofs
open Go.RowKit
open Court (refL begF noS award grow Names InR FewIs winB Wins Sim)

theorem allN_mem {N : Nat} {n : Int} : n ∈ Court.allN N ↔ 0 ≤ n ∧ n < N := Court.mem_allN
theorem allN_nodup (N : Nat) : (Court.allN N).Nodup := (Court.allN_sorted N).imp fun h e => by omega
theorem nodup_at {α : Type} {l : List α} (h : l.Nodup) {i j : Nat} (hi : i < l.length) (hj : j < l.length) (e : l[i] = l[j]) : i = j := by
  rcases Nat.lt_trichotomy i j with q | q | q
  · exact absurd e (List.pairwise_iff_getElem.1 h i j hi hj q)
  · exact q
  · exact absurd e.symm (List.pairwise_iff_getElem.1 h j i hj hi q)
def nmP (P : List Int) (n : Int) : Int := P.getD n.toNat 0
def nmQ (P : List Int) (m : Int) : Int := (P.idxOf m : Nat)
theorem nmP_at {P : List Int} {k : Nat} (h : k < P.length) : nmP P k = P[k] := by
  unfold nmP
  rw [Int.toNat_natCast, List.getD_eq_getElem?_getD, List.getElem?_eq_getElem h, Option.getD_some]
theorem nm_names {P : List Int} {N : Nat} (h : P.Perm (Court.allN N)) : Names N (nmP P) (nmQ P) := by
  have hl : P.length = N := by rw [h.length_eq, allN_len]
  have hn : P.Nodup := h.nodup_iff.2 (allN_nodup N)
  have hm : ∀ m, m ∈ P ↔ 0 ≤ m ∧ m < N := fun m => by rw [h.mem_iff, allN_mem]
  have hto : ∀ n : Int, 0 ≤ n ∧ n < N → 0 ≤ nmP P n ∧ nmP P n < N := fun n hn => by
    obtain ⟨k, rfl⟩ := Int.eq_ofNat_of_zero_le hn.1
    rw [nmP_at (by omega)]
    exact (hm _).1 (List.getElem_mem _)
  have hfro : ∀ m : Int, 0 ≤ m ∧ m < N → P.idxOf m < P.length := fun m hr => List.idxOf_lt_length_of_mem ((hm m).2 hr)
  have hpq : ∀ m : Int, 0 ≤ m ∧ m < N → nmP P (nmQ P m) = m := fun m hr => by
    unfold nmQ
    rw [nmP_at (hfro m hr)]
    exact List.getElem_idxOf _
  refine ⟨hto, fun m hr => ?_, fun n hr => ?_, hpq⟩
  · have := hfro m hr
    unfold nmQ
    omega
  · obtain ⟨k, rfl⟩ := Int.eq_ofNat_of_zero_le hr.1
    have hk : k < P.length := by omega
    have h2 := hfro _ (hto k hr)
    have h3 : P[P.idxOf (nmP P k)] = nmP P k := List.getElem_idxOf h2
    have := nodup_at hn h2 hk (h3.trans (nmP_at hk))
    show ((P.idxOf (nmP P k) : Nat) : Int) = k
    omega
def toldL (P : List Int) (L : List (Int × Int)) (Q : List Int) : List (Int × Int) := Q.map fun i => (nmP P (L.getD i.toNat (0, 0)).1, nmP P (L.getD i.toNat (0, 0)).2)
theorem getD_at {α : Type} {l : List α} {d : α} {k : Nat} (h : k < l.length) : l.getD k d = l[k] := by
  rw [List.getD_eq_getElem?_getD, List.getElem?_eq_getElem h, Option.getD_some]
theorem toldL_succ {P Q : List Int} {L : List (Int × Int)} {k j : Nat} (hk : k < Q.length) (e : Q[k] = (j : Int)) (hj : j < L.length) : toldL P L (Q.take (k + 1)) = toldL P L (Q.take k) ++ [(nmP P L[j].1, nmP P L[j].2)] := by
  unfold toldL
  rw [List.take_succ_eq_append_getElem hk, List.map_append, List.map_singleton, e, Int.toNat_natCast, getD_at hj]
theorem toldL_len {P Q : List Int} {L : List (Int × Int)} : (toldL P L Q).length = Q.length := by unfold toldL; rw [List.length_map]
section
variable {P Q : List Int} {L : List (Int × Int)} {N : Nat}
theorem toldL_told (hQ : Q.Perm (Court.allN L.length)) : Court.Told L (toldL P L Q) (nmP P) := fun t => by
  unfold toldL
  rw [List.mem_map]
  constructor
  · rintro ⟨i, hi, rfl⟩
    have := allN_mem.1 (hQ.mem_iff.1 hi)
    obtain ⟨k, rfl⟩ := Int.eq_ofNat_of_zero_le this.1
    have hk : k < L.length := by omega
    exact ⟨L[k], List.getElem_mem hk, by rw [Int.toNat_natCast, getD_at hk]⟩
  · rintro ⟨s, hs, rfl⟩
    obtain ⟨k, hk, rfl⟩ := List.getElem_of_mem hs
    exact ⟨k, hQ.mem_iff.2 (allN_mem.2 (by omega)), by rw [Int.toNat_natCast, getD_at hk]⟩
theorem toldL_drawn {T : List (List Int)} (hP : P.Perm (Court.allN N)) (hQ : Q.Perm (Court.allN L.length)) (h : Drawn N L T) : Drawn N (toldL P L Q) [] := by
  have hn := nm_names hP
  refine ⟨(toldL_told hQ).inR hn h.ins, ?_, by rw [toldL_len, hQ.length_eq, allN_len]; exact h.len, fun l h => by cases h⟩
  refine Court.map_nodup (hQ.nodup_iff.2 (allN_nodup _)) fun x hx y hy e => ?_
  have h1 := allN_mem.1 (hQ.mem_iff.1 hx)
  have h2 := allN_mem.1 (hQ.mem_iff.1 hy)
  obtain ⟨i, rfl⟩ := Int.eq_ofNat_of_zero_le h1.1
  obtain ⟨j, rfl⟩ := Int.eq_ofNat_of_zero_le h2.1
  have hi : i < L.length := by omega
  have hj : j < L.length := by omega
  simp only [Int.toNat_natCast, getD_at hi, getD_at hj, Prod.mk.injEq] at e
  have r1 := h.ins _ (List.getElem_mem hi)
  have r2 := h.ins _ (List.getElem_mem hj)
  have a1 : L[i].1 = L[j].1 := by rw [← hn.qp _ r1.1, ← hn.qp _ r2.1, e.1]
  have a2 : L[i].2 = L[j].2 := by rw [← hn.qp _ r1.2, ← hn.qp _ r2.2, e.2]
  have := nodup_at h.nodup hi hj (Prod.ext a1 a2)
  omega
theorem toldL_self (hP : P.Perm (Court.allN N)) (hQ : Q.Perm (Court.allN L.length)) (h : InR L N) {q : Int} (hq : 0 ≤ q ∧ q < N) : (nmP P q, nmP P q) ∈ toldL P L Q ↔ (q, q) ∈ L := by
  have hn := nm_names hP
  rw [toldL_told hQ]
  constructor
  · rintro ⟨s, hs, e⟩
    have r := h s hs
    simp only [Prod.mk.injEq] at e
    have a1 : q = s.1 := by rw [← hn.qp _ hq, ← hn.qp _ r.1, e.1]
    have a2 : q = s.2 := by rw [← hn.qp _ hq, ← hn.qp _ r.2, e.2]
    have : s = (q, q) := Prod.ext a1.symm a2.symm
    rw [← this]
    exact hs
  · intro hs
    exact ⟨_, hs, rfl⟩
end
theorem few_le {S S' : List (Int × Int)} {N : Nat} {p q : Int → Int} (hn : Names N p q) (hS : InR S N) (ht : Court.Told S S' p) {c : Int} (hc : 0 ≤ c ∧ c < N) {L1 L2 : List Int} (h1 : FewIs S N c L1) (h2 : FewIs S' N (p c) L2) : L2.length ≤ L1.length := by
  obtain ⟨⟨a1, a2⟩, a3, -⟩ := h1.facts
  obtain ⟨-, -, b3⟩ := h2.facts
  have hw : Wins S N c L1 := ⟨⟨a1, fun x hx => by have := a2 x hx; omega, fun h => (a2 c h).2.2 rfl⟩, of_decide_eq_true a3⟩
  obtain ⟨⟨⟨w1, w2, w3⟩, w4⟩, w5⟩ := Court.wins_named hn hS ht hc hw
  rw [← w5]
  refine b3 _ w1 (fun x hx => ⟨(w2 x hx).1, (w2 x hx).2, fun e => w3 (by rw [← e]; exact hx)⟩) (decide_eq_true w4)
theorem few_named {S S' : List (Int × Int)} {N : Nat} {p q : Int → Int} (hn : Names N p q) (hS : InR S N) (ht : Court.Told S S' p) {c : Int} (hc : 0 ≤ c ∧ c < N) {L1 L2 : List Int} (h1 : FewIs S N c L1) (h2 : FewIs S' N (p c) L2) : L1.length = L2.length := by
  refine Nat.le_antisymm ?_ (few_le hn hS ht hc h1 h2)
  have := few_le (c := p c) hn.symm (ht.inR hn hS) (ht.back hn hS) (hn.tow c hc) h2 (by rw [hn.qp c hc]; exact h1)
  exact this
end Go.Proofs
end

section
namespace Go.Proofs
open Go.RowKit
open Court (refL begF noS FewIs)
def FullN (G : Nat) (w : World) (e : Ending) (w' : World) : Prop := ∃ A c, e = .returned (.tuple #[.slice A (if 50 < G then 0 else G) c, .int .i64 (if 50 < G then 11 else 0)]) ∧ Aft w w'
theorem full27_count (C : CaseL) (a1 a2 : Option Addr) (c1 c2 : Nat) (R : List Int) (A : Option Addr) (c : Nat) (w : World) (hC : CRep w C a1 a2) (hA : Ints w A R) (he : openE C R = 0) :
    Calls Tryz.prog 27 #[(.agg #[.int .i64 C.claims, .slice a1 C.strikes.length c1, .slice a2 C.surveys.length c2]), .slice A R.length c] w (FullN (fullsL C R).length w) := by
  unfold FullN
  by_cases h : 50 < (fullsL C R).length
  · have hf : fullE C R = 11 := by unfold fullE; rw [if_pos he, if_pos h]
    refine (full27_bad C a1 a2 c1 c2 R A c w hC hA (by rw [hf]; decide)).mono ?_
    rintro e w' ⟨rfl, ha⟩
    exact ⟨none, 0, by rw [if_pos h, if_pos h, hf], ha⟩
  · have hf : fullE C R = 0 := by unfold fullE; rw [if_pos he, if_neg h]
    refine (full27_good C a1 a2 c1 c2 R A c w hC hA hf).mono ?_
    rintro e w' ⟨A', c', F, rfl, hF, hp, hs, ha⟩
    exact ⟨A', c', by rw [if_neg h, if_neg h, hp.length_eq], ha⟩
def FewU (S : List (Int × Int)) (N : Nat) (q : Int) (w : World) (e : Ending) (w' : World) : Prop := ∃ A c m E, e = .returned (.tuple #[.slice A m c, .int .i64 E]) ∧ ((E = 7 ∧ m = 0 ∧ (q, q) ∈ S) ∨ (E = 0 ∧ (q, q) ∉ S ∧ ∃ Lw, FewIs S N q Lw ∧ m = Lw.length)) ∧ Aft w w'
theorem few20_any (C : CaseL) (a1 a2 : Option Addr) (c1 c2 : Nat) (q : Nat) (w : World) (hC : CRep w C a1 a2) (hc : caseE C = 0) (hq : (q : Int) < C.claims) (hN : C.claims ≤ 14) :
    Calls Tryz.prog 20 #[(.agg #[.int .i64 C.claims, .slice a1 C.strikes.length c1, .slice a2 C.surveys.length c2]), .int .i64 q] w (FewU C.strikes C.claims.toNat q w) := by
  have hcl : Cl (q : Int) C.claims = true := Cl_iff.2 ⟨by omega, hq⟩
  by_cases h : ((q : Int), (q : Int)) ∈ C.strikes
  · have hf : fewE C q = 7 := by unfold fewE; rw [if_pos hc, if_pos hcl, if_pos h]
    refine (few20_bad C a1 a2 c1 c2 q w hC (by rw [hf]; decide)).mono ?_
    rintro e w' ⟨rfl, ha⟩
    exact ⟨none, 0, 0, 7, by rw [hf], .inl ⟨rfl, rfl, h⟩, ha⟩
  · have hf : fewE C q = 0 := by unfold fewE; rw [if_pos hc, if_pos hcl, if_neg h]
    refine (few20_good C a1 a2 c1 c2 q w hC hf).mono ?_
    rintro e w' ⟨Lw, hL, v, rfl, ho, ha⟩
    have := few_len hL
    obtain ⟨A, c, rfl, _, _⟩ := own_ints ho (by omega)
    exact ⟨A, c, _, 0, rfl, .inr ⟨rfl, h, Lw, hL, rfl⟩, ha⟩
theorem few_same {S S' : List (Int × Int)} {N : Nat} {p q : Int → Int} (hn : Court.Names N p q) (hS : Court.InR S N) (ht : Court.Told S S' p) {c : Int} (hc : 0 ≤ c ∧ c < N) (hself : (p c, p c) ∈ S' ↔ (c, c) ∈ S) {m m' : Nat} {E E' : Int}
    (h : (E = 7 ∧ m = 0 ∧ (c, c) ∈ S) ∨ (E = 0 ∧ (c, c) ∉ S ∧ ∃ Lw, FewIs S N c Lw ∧ m = Lw.length)) (h' : (E' = 7 ∧ m' = 0 ∧ (p c, p c) ∈ S') ∨ (E' = 0 ∧ (p c, p c) ∉ S' ∧ ∃ Lw, FewIs S' N (p c) Lw ∧ m' = Lw.length)) : E' = E ∧ m' = m := by
  rcases h with ⟨rfl, rfl, h⟩ | ⟨rfl, h, L1, hL1, rfl⟩
  · rcases h' with ⟨rfl, rfl, _⟩ | ⟨_, h2, _⟩
    · exact ⟨rfl, rfl⟩
    · exact absurd (hself.2 h) h2
  · rcases h' with ⟨_, _, h2⟩ | ⟨rfl, _, L2, hL2, rfl⟩
    · exact absurd (hself.1 h2) h
    · exact ⟨rfl, (few_named hn hS ht hc hL1 hL2).symm⟩
def FullM (m : Nat) (E : Int) (w : World) (e : Ending) (w' : World) : Prop := ∃ A c, e = .returned (.tuple #[.slice A m c, .int .i64 E]) ∧ Aft w w'
theorem full_m (G : Nat) : ∃ m E, FullN G = FullM m E := ⟨_, _, rfl⟩
end Go.Proofs
end

section
namespace Go.Proofs
open Go.RowKit
open Court (refL begF noS struckB nextR hears award Done HeldP FewIs)
attribute [local go_sem] Oper.semAt_some

set_option maxRecDepth 100000 in
set_option maxHeartbeats 16000000 in
theorem named_any (w : World) (A : Option Addr) (l : List Int) (c : Nat) (Am : Option Addr) (tr : List Int) (cm : Nat) (q0 : Nat) (hq0 : q0 ≤ 255) (hA : Bytes w A l) (hB : Bytes w Am tr) : Calls Tryz.prog 7 #[.slice A l.length c, .slice Am tr.length cm, .int .u8 q0] w fun e w' => e = .returned (.bool true) ∧ Aft w w' := by
  have HA := Lib.hid hA
  have HB := Lib.hid hB
  clear hA hB
  go_enter Tryz.func7, Tryz.ntmps7
  (repeat (first | go_big_skip | go_big_want | go_big_move | go_big_op | go_step | go_upon | go_back))
  go_at_call 37
  refine (of_any A l c w HA.out).mono ?_
  rintro e x ⟨rfl, hdk⟩
  dsimp only
  have HDK := Lib.hid hdk
  clear hdk
  (repeat (first | go_big_skip | go_big_want | go_big_move | go_big_op | go_step | go_upon | go_back))
  go_at_call 36
  refine (made_any w w.heap.size A l c 0 8 x HDK.out (by omega) (by omega) (by omega)).mono ?_
  rintro e y ⟨N, L, T, a1, a2, c1, c2, rfl, hN1, hN14, hdr, hT3, hrep, hd1, hg1⟩
  dsimp only
  have HDR := Lib.hid hdr
  have HY0 := Lib.hid (hd1.2.2.1)
  have HRS := Lib.hid hrep
  clear hd1 hdr hrep hg1 HDK
  go_upto_region 2 with (refine wpList_store_new rfl 25 (.tmp 7) (.tmp 31) rfl rfl rfl info25b rfl (all_oneCell_toArray (by intro v hv; simp at hv; rcases hv with rfl | rfl | rfl <;> rfl)) ?_)
  try simp only [Act.put]
  have HY := Lib.hid (Aft.alloc y (.cells #[.int .i64 N, .slice a1 L.length c1, .slice a2 T.length c2] 25))
  have HBX := Lib.hid (Blk.new y 25 #[.int .i64 N, .slice a1 L.length c1, .slice a2 T.length c2])
  have HSY := Lib.hid (Sm.of_aft (b := x.heap.size) HY.out)
  have hyY : y.heap.size < (y.alloc (.cells #[.int .i64 N, .slice a1 L.length c1, .slice a2 T.length c2] 25)).heap.size := by simp
  have HWY := Lib.hid (HY0.out.trans HY.out)
  obtain ⟨b7, hb7⟩ : ∃ b7, y.heap.size = b7 := ⟨_, rfl⟩
  rw [hb7] at HBX hyY ⊢
  have HB7S := Lib.hid hb7
  clear HY hb7 HY0
  generalize y.alloc (.cells #[.int .i64 N, .slice a1 L.length c1, .slice a2 T.length c2] 25) = Y at *
  have hcase : caseE ⟨N, L, T⟩ = 0 := HDR.out.ok ⟨hN1, by omega⟩ (by omega)
  have HCASE := Lib.hid hcase
  have hL60 := HDR.out.len
  clear hcase
  apply wp_region_lit
  (repeat (first | go_big_skip | go_big_want | go_big_move | go_big_op | go_step | go_upon | go_back))
  go_at_call 37
  refine (of_any Am tr cm Y (HB.out.aft HWY.out)).mono ?_
  rintro e z ⟨rfl, hdk⟩
  dsimp only
  have hdt0 : w.heap.size ≤ Y.heap.size := HWY.out.size
  have HD2 := Lib.hid (hdk.base HB.out (HWY.out.trans hdk.2.2.1) hdt0)
  have hz := hdk.lt
  have HBX := Lib.hid (HBX.out.aft hdk.2.2.1)
  have HSZ := Lib.hid (HSY.out.trans (Sm.of_aft (b := x.heap.size) hdk.2.2.1))
  obtain ⟨dt, hdt⟩ : ∃ dt, Y.heap.size = dt := ⟨_, rfl⟩
  rw [hdt] at HD2 hz hyY ⊢
  have HWD := Lib.hid (show w.heap.size ≤ dt by omega)
  clear hdk hdt hdt0 HA HB HWY HSY
  have hqN : (q0 : Int) % (N : Int) < N := Int.emod_lt_of_pos _ (by omega)
  obtain ⟨q, hq⟩ : ∃ q : Nat, (q0 : Int) % (N : Int) = q := ⟨((q0 : Int) % (N : Int)).toNat, by have := Int.emod_nonneg (q0 : Int) (show (N : Int) ≠ 0 by omega); omega⟩
  rw [hq] at hqN
  have hqN' : q < N := by omega
  have HQ := Lib.hid hq
  clear hq hqN
  have HSH := Lib.hid (shuffle_any w dt Am tr cm 0 N z HD2.out (by omega) (by omega))
  obtain ⟨k0, k1, k2⟩ := box25 HBX.out
  have k3 := HBX.out.lt
  go_upto_region 4 with (go_at_call 40; refine HSH.out.mono ?_; rintro e z1 ⟨v, P, rfl, ho, hP, hd, hg⟩; have hPl : P.length = N := (by rw [hP.length_eq, allN_len]); rw [← hPl] at ho; obtain ⟨A9, c9, rfl, hpi⟩ := IntsS.of_own (b := z.heap.size) ho (by omega) (Nat.le_refl _); rw [hPl]; have HPI := Lib.hid hpi; have HP := Lib.hid hP; have HPL := Lib.hid hPl; have HD2 := Lib.hid hd; have HEX := Lib.hid ((Ex.refl dt z).deal hg); clear ho hpi hP hPl hd hg k0 k1 k2 k3)
  have HBX := Lib.hid (blk_ex HBX.out HEX.out (by omega))
  have hz1 := HEX.out.size
  obtain ⟨k0, k1, k2⟩ := box25 HBX.out
  have k3 := HBX.out.lt
  go_upto_region 5 with fail
  rw [HQ.out]
  clear HQ HSH
  go_upto_region 6 with (refine wpList_store_new rfl 25 (.tmp 11) (.tmp 45) rfl rfl rfl info25b rfl (all_oneCell_toArray (by intro v hv; simp at hv; rcases hv with rfl | rfl | rfl <;> rfl)) ?_)
  try simp only [Act.put]
  have HA2 := Lib.hid (Aft.alloc z1 (.cells #[.int .i64 N, .slice none 0 0, .slice none 0 0] 25))
  have HB11 := Lib.hid (Blk.new z1 25 #[.int .i64 N, .slice none 0 0, .slice none 0 0])
  have hz2 : z1.heap.size < (z1.alloc (.cells #[.int .i64 N, .slice none 0 0, .slice none 0 0] 25)).heap.size := by simp
  obtain ⟨b11, hb11⟩ : ∃ b11, z1.heap.size = b11 := ⟨_, rfl⟩
  rw [hb11] at HB11 hz2 hz1 ⊢
  have HBX := Lib.hid (HBX.out.aft HA2.out)
  have HD2 := Lib.hid (HD2.out.aft HA2.out)
  have HEX := Lib.hid (HEX.out.aft HA2.out)
  have HS12 := Lib.hid (Sm.of_aft (b := z.heap.size) HA2.out)
  have HB11S := Lib.hid hb11
  clear hb11 HA2 k0 k1 k2 k3
  generalize z1.alloc (.cells #[.int .i64 N, .slice none 0 0, .slice none 0 0] 25) = z2 at *
  have HSH := Lib.hid (shuffle_any w dt Am tr cm (0 + N) L.length z2 HD2.out (by omega) (by omega))
  obtain ⟨k0, k1, k2⟩ := box25 HBX.out
  have k3 := HBX.out.lt
  go_upto_block 0 with (go_at_call 40; refine HSH.out.mono ?_; rintro e z3 ⟨v, Q, rfl, ho, hQ, hd, hg⟩; have hQl : Q.length = L.length := (by rw [hQ.length_eq, allN_len]); rw [← hQl] at ho; obtain ⟨A50, c50, rfl, hqi⟩ := IntsS.of_own (b := z2.heap.size) ho (by omega) (Nat.le_refl _); rw [hQl]; have HQI := Lib.hid hqi; have HQP := Lib.hid hQ; have HQL := Lib.hid hQl; have HD2 := Lib.hid hd; have HG2 := Lib.hid hg; clear ho hqi hQ hQl hd hg k0 k1 k2 k3)
  clear HSH
  have HEX := Lib.hid (HEX.out.deal HG2.out)
  have HBX := Lib.hid (blk_ex HBX.out ((Ex.refl dt z2).deal HG2.out) (by omega))
  have HB11 := Lib.hid (blk_ex HB11.out ((Ex.refl dt z2).deal HG2.out) (by omega))
  have HS12 := Lib.hid (HS12.out.trans (sm_deal HG2.out hz))
  have HWZ : Hid (Aft w z3) := Lib.hid HD2.out.2.2.1
  have hz3 : z2.heap.size ≤ z3.heap.size := HG2.out.size
  have hw11 : w.heap.size ≤ b11 := by have := HWD.out; omega
  have HREP : Hid (∀ W, Ex b11 z3 W → CRep W ⟨N, L, T⟩ a1 a2) := Lib.hid fun W hW => HRS.out W ((HSZ.out.ex HEX.out (by have := HB7S.out; omega)).ex hW (by have := HB7S.out; omega))
  have HB7 : Hid (∀ W, Ex b11 z3 W → Blk W b7 25 #[.int .i64 N, .slice a1 L.length c1, .slice a2 T.length c2]) := Lib.hid fun W hW => blk_ex HBX.out hW (by omega)
  have HPI : Hid (∀ W, Ex b11 z3 W → Ints W A9 P) := Lib.hid fun W hW => HPI.out W (HS12.out.ex hW (by have := HB11S.out; omega))
  have HQI : Hid (∀ W, Ex b11 z3 W → Ints W A50 Q) := Lib.hid fun W hW => HQI.out W (hW.sm hz2)
  clear HEX HBX HG2 HD2 HRS HSZ HB11S HB7S HWD HS12
  have hPl := HPL.out
  obtain ⟨bP, oP, rfl, hltP, -⟩ := (HPI.out z3 (Ex.refl _ _)).at (show 0 < P.length by omega)
  have HXP : Hid (∀ W, Ex b11 z3 W → ∀ j, (h : j < P.length) → W.cell? ⟨bP, oP + j, none⟩ = some (.int .i64 P[j])) := Lib.hid fun W hW j hj => by
    obtain ⟨b', o', e', _, hc'⟩ := (HPI.out W hW).at hj
    cases e'
    exact hc' j hj
  have HNN := Lib.hid (nm_names HP.out)
  have HNM : Hid (∀ j : Nat, j < N → ∃ X : Nat, nmP P j = X ∧ X < N ∧ ∀ W, Ex b11 z3 W → W.cell? ⟨bP, oP + j, none⟩ = some (.int .i64 X)) := Lib.hid fun j hj => by
    have h1 := HNN.out.tow j ⟨by omega, by omega⟩
    have h2 := nmP_at (P := P) (k := j) (by omega)
    obtain ⟨X, hX⟩ := Int.eq_ofNat_of_zero_le h1.1
    refine ⟨X, hX, by omega, fun W hW => ?_⟩
    have h3 := HXP.out W hW j (by omega)
    rw [← h2, hX] at h3
    exact h3
  clear hPl HPI
  have HO0 := Lib.hid (World.ownsRow_nil z3 z3.heap.size 57 2)
  refine wp_block ?_
  go_loopw [52] (fun i wr => ∃ (k : Nat) (vS : Value) (L2 : List (Int × Int)), i = .int .i64 k ∧ k ≤ L.length ∧ Hid (L2 = toldL P L (Q.take k)) ∧ wr.ownsRow z3.heap.size 57 2 vS L2.length (strC L2) ∧ Blk wr b11 25 #[.int .i64 N, vS, .slice none 0 0] ∧ Ex b11 z3 wr ∧ Aft w wr) (fun i _ => L.length - (intOf i).toNat)
  case atStart => exact ⟨0, _, [], rfl, by omega, Lib.hid rfl, HO0.out, HB11.out, Ex.refl _ _, HWZ.out⟩
  case round =>
    obtain ⟨k, vS, L2, rfl, hk, HL2, hown, hbk, hex, hax⟩ := hrel
    have HOS := Lib.hid hown
    have HBK := Lib.hid hbk
    have HX := Lib.hid hex
    have HAX := Lib.hid hax
    have hL2l : L2.length ≤ k := by rw [HL2.out, toldL_len, List.length_take, HQL.out]; omega
    clear hown hbk hex hax
    by_cases hkL : k < L.length
    · have t1 : decide (k < L.length) = true := by simpa using hkL
      have ik : (0 : Int) ≤ (k : Int) ∧ (k : Int) < (L.length : Int) := by omega
      obtain ⟨bQ, oQ, hbQ, hltQ, hcQ⟩ := (HQI.out wr HX.out).at (show k < Q.length by rw [HQL.out]; exact hkL)
      subst hbQ
      have x0 := hcQ k (by rw [HQL.out]; exact hkL)
      have hqm := allN_mem.1 (HQP.out.mem_iff.1 (List.getElem_mem (show k < Q.length by rw [HQL.out]; exact hkL)))
      obtain ⟨j, hj⟩ := Int.eq_ofNat_of_zero_le hqm.1
      rw [hj] at x0 hqm
      have hjL : j < L.length := by omega
      have HTS := Lib.hid (toldL_succ (P := P) (show k < Q.length by rw [HQL.out]; exact hkL) hj hjL)
      obtain ⟨bs, os, hbs, hlts, hcs⟩ := (HREP.out wr HX.out).strikes.at hjL
      subst hbs
      obtain ⟨x1, x2⟩ := hcs j hjL
      have hin := HDR.out.ins _ (List.getElem_mem hjL)
      obtain ⟨⟨y0, y1⟩, hy⟩ : ∃ y, L[j] = y := ⟨_, rfl⟩
      rw [hy] at x1 x2 hin HTS
      obtain ⟨⟨ha0, ha1⟩, hb0, hb1⟩ := hin
      dsimp only at ha0 ha1 hb0 hb1 x1 x2 HTS
      obtain ⟨Y0, rfl⟩ := Int.eq_ofNat_of_zero_le ha0
      obtain ⟨Y1, rfl⟩ := Int.eq_ofNat_of_zero_le hb0
      obtain ⟨X0, hX0, hX0N, hcX0⟩ := HNM.out Y0 (by omega)
      obtain ⟨X1, hX1, hX1N, hcX1⟩ := HNM.out Y1 (by omega)
      rw [hX0, hX1] at HTS
      have ij : (0 : Int) ≤ (j : Int) ∧ (j : Int) < (L.length : Int) := by omega
      have iy0 : (0 : Int) ≤ (Y0 : Int) ∧ (Y0 : Int) < (N : Int) := by omega
      have iy1 : (0 : Int) ≤ (Y1 : Int) ∧ (Y1 : Int) < (N : Int) := by omega
      obtain ⟨A8, c8, rfl, hst8, _⟩ := own_strs HOS.out (by omega)
      have HVS : Hid (∀ W, Aft wr W → W.cell? ⟨b11, 1, none⟩ = some (.slice A8 L2.length c8)) := Lib.hid fun W h => (HBK.out.aft h).cell 1
      have HV7 : Hid (∀ W, Aft wr W → W.cell? ⟨b7, 1, none⟩ = some (.slice (some ⟨bs, os, none⟩) L.length c1)) := Lib.hid fun W h => (HB7.out W (HX.out.aft h)).cell 1
      have HS0 : Hid (∀ W, Aft wr W → W.cell? ⟨bs, os + j * 2, none⟩ = some (.int .i64 Y0)) := Lib.hid fun W h => cell_of_aft x1 hlts h
      have HS1 : Hid (∀ W, Aft wr W → W.cell? ⟨bs, os + j * 2 + 1, none⟩ = some (.int .i64 Y1)) := Lib.hid fun W h => cell_of_aft x2 hlts h
      have HN0 : Hid (∀ W, Aft wr W → W.cell? ⟨bP, oP + Y0, none⟩ = some (.int .i64 X0)) := Lib.hid fun W h => hcX0 W (HX.out.aft h)
      have HN1 : Hid (∀ W, Aft wr W → W.cell? ⟨bP, oP + Y1, none⟩ = some (.int .i64 X1)) := Lib.hid fun W h => hcX1 W (HX.out.aft h)
      clear hj hqm hcQ hcs hy x1 x2 ha0 ha1 hb0 hb1 hX0 hX1 hcX0 hcX1 hst8
      go_upto_region 9 with fail
      clear x0
      refine wp_region_valsT (by kernel_rfl) 22 233 rfl (by kernel_rfl) (by kernel_rfl) (by kernel_rfl) [.pointer (some ⟨b11, 1, none⟩), .slice A8 L2.length c8, .slice (some ⟨bP, oP, none⟩) N c9, .pointer (some ⟨b7, 1, none⟩), .slice (some ⟨bs, os, none⟩) L.length c1, .int .i64 j, .pointer (some ⟨bs, os + j * 2, none⟩), .pointer (some ⟨bs, os + j * 2, none⟩), .int .i64 Y0, .pointer (some ⟨bP, oP + Y0, none⟩), .int .i64 X0, .slice (some ⟨bP, oP, none⟩) N c9, .pointer (some ⟨b7, 1, none⟩), .slice (some ⟨bs, os, none⟩) L.length c1, .int .i64 j, .pointer (some ⟨bs, os + j * 2, none⟩), .pointer (some ⟨bs, os + j * 2 + 1, none⟩), .int .i64 Y1, .pointer (some ⟨bP, oP + Y1, none⟩), .int .i64 X1, .agg #[.int .i64 X0, .int .i64 X1], .slice (some ⟨wr.heap.size, 0, none⟩) 1 1] rfl (fun done W => Aft wr W ∧ (if done 21 = true then W = wr.drew.alloc (.cells #[.int .i64 X0, .int .i64 X1] 57) else W = wr.drew)) (⟨Aft.drew _, by simp⟩) ?st1 ?fi1
      case st1 =>
        intro i o v ho hv
        match i, ho, hv with
        | 0, ho, hv =>
          cases ho; cases hv
          refine .inl ⟨rfl, fun done a W hd hp hk hw K hK => ?_⟩
          have e11 := hk.same 11 (by decide)
          exact op_val (by simp [go_sem, ev' e11]) (hK _ (⟨hw.1, by rw [upd_ne' (by decide)]; exact hw.2⟩))
        | 1, ho, hv =>
          cases ho; cases hv
          refine .inl ⟨rfl, fun done a W hd hp hk hw K hK => ?_⟩
          have e56 := hk.at_ 0 _ 56 _ rfl (by decide) _ rfl rfl rfl
          exact op_val (by simp [go_sem, ev' e56, HVS.out W hw.1]) (hK _ (⟨hw.1, by rw [upd_ne' (by decide)]; exact hw.2⟩))
        | 2, ho, hv =>
          cases ho; cases hv
          refine .inl ⟨rfl, fun done a W hd hp hk hw K hK => ?_⟩
          have e9 := hk.same 9 (by decide)
          exact op_val (by simp [go_sem, ev' e9]) (hK _ (⟨hw.1, by rw [upd_ne' (by decide)]; exact hw.2⟩))
        | 3, ho, hv =>
          cases ho; cases hv
          refine .inl ⟨rfl, fun done a W hd hp hk hw K hK => ?_⟩
          have e7 := hk.same 7 (by decide)
          exact op_val (by simp [go_sem, ev' e7]) (hK _ (⟨hw.1, by rw [upd_ne' (by decide)]; exact hw.2⟩))
        | 4, ho, hv =>
          cases ho; cases hv
          refine .inl ⟨rfl, fun done a W hd hp hk hw K hK => ?_⟩
          have e59 := hk.at_ 3 _ 59 _ rfl (by decide) _ rfl rfl rfl
          exact op_val (by simp [go_sem, ev' e59, HV7.out W hw.1]) (hK _ (⟨hw.1, by rw [upd_ne' (by decide)]; exact hw.2⟩))
        | 5, ho, hv =>
          cases ho; cases hv
          refine .inl ⟨rfl, fun done a W hd hp hk hw K hK => ?_⟩
          have e13 := hk.same 13 (by decide)
          exact op_val (by simp [go_sem, ev' e13]) (hK _ (⟨hw.1, by rw [upd_ne' (by decide)]; exact hw.2⟩))
        | 6, ho, hv =>
          cases ho; cases hv
          refine .inl ⟨rfl, fun done a W hd hp hk hw K hK => ?_⟩
          have e60 := hk.at_ 4 _ 60 _ rfl (by decide) _ rfl rfl rfl
          have e61 := hk.at_ 5 _ 61 _ rfl (by decide) _ rfl rfl rfl
          exact op_val (by simp [go_sem, ev' e60, ev' e61, ij]) (hK _ (⟨hw.1, by rw [upd_ne' (by decide)]; exact hw.2⟩))
        | 7, ho, hv =>
          cases ho; cases hv
          refine .inl ⟨rfl, fun done a W hd hp hk hw K hK => ?_⟩
          have e62 := hk.at_ 6 _ 62 _ rfl (by decide) _ rfl rfl rfl
          exact op_val (by simp [go_sem, ev' e62]) (hK _ (⟨hw.1, by rw [upd_ne' (by decide)]; exact hw.2⟩))
        | 8, ho, hv =>
          cases ho; cases hv
          refine .inl ⟨rfl, fun done a W hd hp hk hw K hK => ?_⟩
          have e63 := hk.at_ 7 _ 63 _ rfl (by decide) _ rfl rfl rfl
          exact op_val (by simp [go_sem, ev' e63, HS0.out W hw.1]) (hK _ (⟨hw.1, by rw [upd_ne' (by decide)]; exact hw.2⟩))
        | 9, ho, hv =>
          cases ho; cases hv
          refine .inl ⟨rfl, fun done a W hd hp hk hw K hK => ?_⟩
          have e58 := hk.at_ 2 _ 58 _ rfl (by decide) _ rfl rfl rfl
          have e64 := hk.at_ 8 _ 64 _ rfl (by decide) _ rfl rfl rfl
          exact op_val (by simp [go_sem, ev' e58, ev' e64, iy0]) (hK _ (⟨hw.1, by rw [upd_ne' (by decide)]; exact hw.2⟩))
        | 10, ho, hv =>
          cases ho; cases hv
          refine .inl ⟨rfl, fun done a W hd hp hk hw K hK => ?_⟩
          have e65 := hk.at_ 9 _ 65 _ rfl (by decide) _ rfl rfl rfl
          exact op_val (by simp [go_sem, ev' e65, HN0.out W hw.1]) (hK _ (⟨hw.1, by rw [upd_ne' (by decide)]; exact hw.2⟩))
        | 11, ho, hv =>
          cases ho; cases hv
          refine .inl ⟨rfl, fun done a W hd hp hk hw K hK => ?_⟩
          have e9 := hk.same 9 (by decide)
          exact op_val (by simp [go_sem, ev' e9]) (hK _ (⟨hw.1, by rw [upd_ne' (by decide)]; exact hw.2⟩))
        | 12, ho, hv =>
          cases ho; cases hv
          refine .inl ⟨rfl, fun done a W hd hp hk hw K hK => ?_⟩
          have e7 := hk.same 7 (by decide)
          exact op_val (by simp [go_sem, ev' e7]) (hK _ (⟨hw.1, by rw [upd_ne' (by decide)]; exact hw.2⟩))
        | 13, ho, hv =>
          cases ho; cases hv
          refine .inl ⟨rfl, fun done a W hd hp hk hw K hK => ?_⟩
          have e68 := hk.at_ 12 _ 68 _ rfl (by decide) _ rfl rfl rfl
          exact op_val (by simp [go_sem, ev' e68, HV7.out W hw.1]) (hK _ (⟨hw.1, by rw [upd_ne' (by decide)]; exact hw.2⟩))
        | 14, ho, hv =>
          cases ho; cases hv
          refine .inl ⟨rfl, fun done a W hd hp hk hw K hK => ?_⟩
          have e13 := hk.same 13 (by decide)
          exact op_val (by simp [go_sem, ev' e13]) (hK _ (⟨hw.1, by rw [upd_ne' (by decide)]; exact hw.2⟩))
        | 15, ho, hv =>
          cases ho; cases hv
          refine .inl ⟨rfl, fun done a W hd hp hk hw K hK => ?_⟩
          have e69 := hk.at_ 13 _ 69 _ rfl (by decide) _ rfl rfl rfl
          have e70 := hk.at_ 14 _ 70 _ rfl (by decide) _ rfl rfl rfl
          exact op_val (by simp [go_sem, ev' e69, ev' e70, ij]) (hK _ (⟨hw.1, by rw [upd_ne' (by decide)]; exact hw.2⟩))
        | 16, ho, hv =>
          cases ho; cases hv
          refine .inl ⟨rfl, fun done a W hd hp hk hw K hK => ?_⟩
          have e71 := hk.at_ 15 _ 71 _ rfl (by decide) _ rfl rfl rfl
          exact op_val (by simp [go_sem, ev' e71]) (hK _ (⟨hw.1, by rw [upd_ne' (by decide)]; exact hw.2⟩))
        | 17, ho, hv =>
          cases ho; cases hv
          refine .inl ⟨rfl, fun done a W hd hp hk hw K hK => ?_⟩
          have e72 := hk.at_ 16 _ 72 _ rfl (by decide) _ rfl rfl rfl
          exact op_val (by simp [go_sem, ev' e72, HS1.out W hw.1]) (hK _ (⟨hw.1, by rw [upd_ne' (by decide)]; exact hw.2⟩))
        | 18, ho, hv =>
          cases ho; cases hv
          refine .inl ⟨rfl, fun done a W hd hp hk hw K hK => ?_⟩
          have e67 := hk.at_ 11 _ 67 _ rfl (by decide) _ rfl rfl rfl
          have e73 := hk.at_ 17 _ 73 _ rfl (by decide) _ rfl rfl rfl
          exact op_val (by simp [go_sem, ev' e67, ev' e73, iy1]) (hK _ (⟨hw.1, by rw [upd_ne' (by decide)]; exact hw.2⟩))
        | 19, ho, hv =>
          cases ho; cases hv
          refine .inl ⟨rfl, fun done a W hd hp hk hw K hK => ?_⟩
          have e74 := hk.at_ 18 _ 74 _ rfl (by decide) _ rfl rfl rfl
          exact op_val (by simp [go_sem, ev' e74, HN1.out W hw.1]) (hK _ (⟨hw.1, by rw [upd_ne' (by decide)]; exact hw.2⟩))
        | 20, ho, hv =>
          cases ho; cases hv
          refine .inl ⟨rfl, fun done a W hd hp hk hw K hK => ?_⟩
          have e66 := hk.at_ 10 _ 66 _ rfl (by decide) _ rfl rfl rfl
          have e75 := hk.at_ 19 _ 75 _ rfl (by decide) _ rfl rfl rfl
          exact op_val (by simp [go_sem, ev' e66, ev' e75]) (hK _ (⟨hw.1, by rw [upd_ne' (by decide)]; exact hw.2⟩))
        | 21, ho, hv =>
          cases ho; cases hv
          refine .inl ⟨rfl, fun done a W hd hp hk hw K hK => ?_⟩
          have e76 := hk.at_ 20 _ 76 _ rfl (by decide) _ rfl rfl rfl
          have h2 := hw.2
          rw [hd] at h2
          simp only [Bool.false_eq_true, if_false] at h2
          subst h2
          exact op_valW (v := .slice (some ⟨wr.heap.size, 0, none⟩) 1 1) (w' := wr.drew.alloc (.cells #[.int .i64 X0, .int .i64 X1] 57)) (by simp [go_sem, ev' e76]) (hK _ ⟨(Aft.drew wr).then_alloc _, by rw [upd_same', if_pos rfl]⟩)
        | _ + 22, _, hv => cases hv
      intro done W hd hw
      simp only [List.drop_succ_cons, List.drop_zero, List.zip_cons_cons, List.zip_nil_right, putAll]
      simp only [Act.put, List.setIfInBounds_toArray, List.set]
      have hw2 := hw.2
      rw [if_pos (hd 21 (by decide))] at hw2
      clear hw hd
      subst hw2
      have HTA := Lib.hid (own_aft HOS.out ((Aft.drew wr).then_alloc (.cells #[.int .i64 X0, .int .i64 X1] 57)))
      have hbase2 : z3.heap.size ≤ (wr.drew.alloc (.cells #[.int .i64 X0, .int .i64 X1] 57)).heap.size := Nat.le_trans HX.out.size ((Aft.drew wr).then_alloc (.cells #[.int .i64 X0, .int .i64 X1] 57)).size
      have HC0 : Hid ((wr.drew.alloc (.cells #[.int .i64 X0, .int .i64 X1] 57)).cell? ⟨wr.heap.size, 0, none⟩ = some (.int .i64 X0)) := Lib.hid ((Blk.new wr.drew 57 #[.int .i64 X0, .int .i64 X1]).cell 0)
      have HC1 : Hid ((wr.drew.alloc (.cells #[.int .i64 X0, .int .i64 X1] 57)).cell? ⟨wr.heap.size, 1, none⟩ = some (.int .i64 X1)) := Lib.hid ((Blk.new wr.drew 57 #[.int .i64 X0, .int .i64 X1]).cell 1)
      have HBK2 := Lib.hid (HBK.out.aft ((Aft.drew wr).then_alloc (.cells #[.int .i64 X0, .int .i64 X1] 57)))
      have HX2 := Lib.hid (HX.out.aft ((Aft.drew wr).then_alloc (.cells #[.int .i64 X0, .int .i64 X1] 57)))
      have HAX2 := Lib.hid (HAX.out.trans ((Aft.drew wr).then_alloc (.cells #[.int .i64 X0, .int .i64 X1] 57)))
      clear HVS HV7 HS0 HS1 HN0 HN1 HOS HX HAX HBK
      generalize wr.drew.alloc (.cells #[.int .i64 X0, .int .i64 X1] 57) = W2 at *
      have hge := own_ge HTA.out
      go_wp2_with (at_builtin; refine wpList_push22 rfl _ _ rfl HTA.out hbase2 rfl rfl HC0.out HC1.out (by omega) ?_; intro v8 w8 ho8 hg8; obtain ⟨A80, c80, rfl, _, _⟩ := own_strs ho8 (by simp; omega); have HO8 := Lib.hid ho8; have HG8 := Lib.hid hg8; have y2 := HBK2.out.grown hg8 (fun e => by have := hge b11 e.symm; omega); have HB8 := Lib.hid y2; have y5 := y2.cell 1; have y6 := y2.frozen 1; have y7 := y2.lt; clear ho8)
      have hset : w8.grownBy (w8.setCell ⟨b11, 1, none⟩ (.slice A80 (L2.length + 1) c80)) (some b11) := only_setCell (only_refl w8 (some b11)) (p := ⟨b11, 1, none⟩) (.inl rfl) _
      have hO9 := HO8.out
      rw [show (L2 ++ [((X0 : Int), (X1 : Int))]).length = L2.length + 1 by simp] at hO9
      have hO9 := own_sm hO9 (Sm.of_grown (b := b11 + 1) hset fun k e => by cases e; omega) (by omega)
      have hX9 := (HX2.out.next HG8.out (fun g e => .inr (hge g e))).next hset (fun g e => by cases e; exact .inl rfl)
      have hA9 := (HAX2.out.grown HG8.out (fun g e => by have := hge g e; have := HWZ.out.size; omega)).grown hset (fun g e => by cases e; omega)
      have hB9 : Blk (w8.setCell ⟨b11, 1, none⟩ (.slice A80 (L2.length + 1) c80)) b11 25 #[.int .i64 N, .slice A80 (L2.length + 1) c80, .slice none 0 0] := by
        have := HB8.out.store 1 (.slice A80 (L2.length + 1) c80)
        simpa using this
      have hO10 : (w8.setCell ⟨b11, 1, none⟩ (.slice A80 (L2.length + 1) c80)).ownsRow z3.heap.size 57 2 (.slice A80 (L2.length + 1) c80) (L2 ++ [((X0 : Int), (X1 : Int))]).length (strC (L2 ++ [((X0 : Int), (X1 : Int))])) := by
        rw [show (L2 ++ [((X0 : Int), (X1 : Int))]).length = L2.length + 1 by simp]
        exact hO9
      exact ⟨⟨k + 1, _, L2 ++ [((X0 : Int), (X1 : Int))], by go_num, by omega, Lib.hid (by rw [HTS.out, HL2.out]), hO10, hB9, hX9, hA9⟩, by simp [intOf]; omega⟩
    · have t1 : decide (k < L.length) = false := by simpa using hkL
      obtain rfl : L.length = k := by omega
      have hL2 : L2 = toldL P L Q := by
        have := HL2.out
        rwa [List.take_of_length_le (by rw [HQL.out]; exact Nat.le_refl _)] at this
      obtain ⟨W1, rfl⟩ : ∃ W1, W1 = wr := ⟨_, rfl⟩
      obtain ⟨A8, c8, rfl, hst8, _⟩ := own_strs HOS.out (by omega)
      have hdr2 : Drawn N L2 [] := by rw [hL2]; exact toldL_drawn HP.out HQP.out HDR.out
      have HDR2 := Lib.hid hdr2
      have HTOLD : Hid (Court.Told L L2 (nmP P)) := Lib.hid (by rw [hL2]; exact toldL_told HQP.out)
      have HINR : Hid (Court.InR L N) := Lib.hid HDR.out.ins
      have HSELF : Hid ((nmP P q, nmP P q) ∈ L2 ↔ ((q : Int), (q : Int)) ∈ L) := Lib.hid (by rw [hL2]; exact toldL_self HP.out HQP.out HINR.out ⟨by omega, by omega⟩)
      have HCASE2 : Hid (caseE ⟨N, L2, []⟩ = 0) := Lib.hid (hdr2.ok ⟨hN1, by omega⟩ (by simp))
      have HR2 : Hid (∀ W, Aft W1 W → CRep W ⟨N, L2, []⟩ A8 none) := Lib.hid fun W h => ⟨hst8.aft h, ⟨by simp, .inl rfl⟩⟩
      have HB11 : Hid (∀ W, Aft W1 W → Blk W b11 25 #[.int .i64 N, .slice A8 L2.length c8, .slice none 0 0]) := Lib.hid fun W h => HBK.out.aft h
      have HREP : Hid (∀ W, Aft W1 W → CRep W ⟨N, L, T⟩ a1 a2) := Lib.hid fun W h => HREP.out W (HX.out.aft h)
      have HB7 : Hid (∀ W, Aft W1 W → Blk W b7 25 #[.int .i64 N, .slice a1 L.length c1, .slice a2 T.length c2]) := Lib.hid fun W h => HB7.out W (HX.out.aft h)
      have HNM : Hid (∀ j : Nat, j < N → ∃ X : Nat, nmP P j = X ∧ X < N ∧ ∀ W, Aft W1 W → W.cell? ⟨bP, oP + j, none⟩ = some (.int .i64 X)) := Lib.hid fun j hj => by
        obtain ⟨X, h1, h2, h3⟩ := HNM.out j hj
        exact ⟨X, h1, h2, fun W h => h3 W (HX.out.aft h)⟩
      clear hdr2 hst8 hL2 HL2 HOS HBK HX hkL HQI HXP HO0
      obtain ⟨f1, hf1⟩ : ∃ f1, award L noS N (begF (refL [])) = f1 := ⟨_, rfl⟩
      obtain ⟨f2, hf2⟩ : ∃ f2, award L2 noS N (begF (refL [])) = f2 := ⟨_, rfl⟩
      have HF1 := Lib.hid hf1
      have HSIM : Hid (∀ n : Nat, n < N → f2 (nmP P n) = f1 n) := Lib.hid fun n hn => by
        have := Court.award_named HNN.out HINR.out HTOLD.out (ref := refL []) (ref' := refL []) (fun _ _ => rfl) n ⟨by omega, by omega⟩
        rw [hf1, hf2] at this
        exact this
      have HOPA : Hid (openE ⟨N, L, T⟩ [] = 0) := Lib.hid (openE_zero HCASE.out (fun x hx => by cases hx) rfl)
      have HOPB : Hid (openE ⟨N, L2, []⟩ [] = 0) := Lib.hid (openE_zero HCASE2.out (fun x hx => by cases hx) rfl)
      have H39A : Hid (∀ W, Aft W1 W → Calls Tryz.prog 39 #[.agg #[.int .i64 N, .slice a1 L.length c1, .slice a2 T.length c2], .slice none 0 0] W (GoodL (foundL f1 N) W)) := Lib.hid fun W h => by
        rw [← hf1]
        exact award_good ⟨N, L, T⟩ a1 a2 c1 c2 [] none 0 W (HREP.out W h) (ints_none W) HOPA.out N rfl
      have H39B : Hid (∀ W, Aft W1 W → Calls Tryz.prog 39 #[.agg #[.int .i64 N, .slice A8 L2.length c8, .slice none 0 0], .slice none 0 0] W (GoodL (foundL f2 N) W)) := Lib.hid fun W h => by
        rw [← hf2]
        exact award_good ⟨N, L2, []⟩ A8 none c8 0 [] none 0 W (HR2.out W h) (ints_none W) HOPB.out N rfl
      obtain ⟨aw1, haw1⟩ : ∃ aw1, foundL f1 N = aw1 := ⟨_, rfl⟩
      obtain ⟨aw2, haw2⟩ : ∃ aw2, foundL f2 N = aw2 := ⟨_, rfl⟩
      have HAL1 : Hid (aw1.length = N) := Lib.hid (by rw [← haw1, foundL_len])
      have HAL2 : Hid (aw2.length = N) := Lib.hid (by rw [← haw2, foundL_len])
      have HAG1 : Hid (∀ i, (h : i < N) → (h1 : i < aw1.length) → aw1[i] = ((f1 i : Nat) : Int)) := Lib.hid fun i h h1 => by
        have : (foundL f1 N)[i]'(by rw [foundL_len]; exact h) = ((f1 i : Nat) : Int) := foundL_get _ _ _
        simpa only [haw1] using this
      have HAG2 : Hid (∀ i, (h : i < N) → (h1 : i < aw2.length) → aw2[i] = ((f2 i : Nat) : Int)) := Lib.hid fun i h h1 => by
        have : (foundL f2 N)[i]'(by rw [foundL_len]; exact h) = ((f2 i : Nat) : Int) := foundL_get _ _ _
        simpa only [haw2] using this
      rw [haw1] at H39A
      rw [haw2] at H39B
      clear haw1 haw2 hf1 hf2
      obtain ⟨k0, k1, k2⟩ := box25 (HB7.out W1 (Aft.refl _))
      have k3 := (HB7.out W1 (Aft.refl _)).lt
      go_upto_region 12 with (go_at_call 39; refine (H39A.out _ (Aft.refl _)).mono ?_; rintro e w4 ⟨v, rfl, ho, ha⟩; obtain ⟨A14, c14, rfl, _, hi⟩ := own_ints ho (by have := HAL1.out; omega); have HI1 := Lib.hid hi; have HX := Lib.hid ha; rw [HAL1.out]; clear ho hi ha k0 k1 k2 k3)
      obtain ⟨j0, j1, j2⟩ := box25 (HB11.out w4 HX.out)
      have j3 := (HB11.out w4 HX.out).lt
      go_upto_region 13 with (go_at_call 39; refine (H39B.out _ HX.out).mono ?_; rintro e w5 ⟨v, rfl, ho, ha⟩; obtain ⟨A16, c16, rfl, _, hi⟩ := own_ints ho (by have := HAL2.out; omega); have HI2 := Lib.hid hi; have HI1 := Lib.hid (HI1.out.aft ha); have HX := Lib.hid (HX.out.trans ha); rw [HAL2.out]; clear ho hi ha j0 j1 j2 j3)
      obtain ⟨k0, k1, k2⟩ := box25 (HB7.out w5 HX.out)
      have k3 := (HB7.out w5 HX.out).lt
      go_upto_block 2 with fail
      clear k0 k1 k2 k3 H39A H39B
      obtain ⟨b14, o14, rfl, hlt14, -⟩ := HI1.out.at (show 0 < aw1.length by rw [HAL1.out]; omega)
      obtain ⟨b16, o16, rfl, hlt16, -⟩ := HI2.out.at (show 0 < aw2.length by rw [HAL2.out]; omega)
      have HC14 : Hid (∀ W, Aft w5 W → ∀ i, i < N → W.cell? ⟨b14, o14 + i, none⟩ = some (.int .i64 ((f1 i : Nat) : Int))) := Lib.hid fun W h i hi => by
        obtain ⟨b', o', e', _, hc'⟩ := (HI1.out.aft h).at (show i < aw1.length by rw [HAL1.out]; exact hi)
        cases e'
        have := hc' i (by rw [HAL1.out]; exact hi)
        rw [HAG1.out i hi] at this
        exact this
      have HC16 : Hid (∀ W, Aft w5 W → ∀ i : Nat, i < N → W.cell? ⟨b16, o16 + i, none⟩ = some (.int .i64 ((f2 i : Nat) : Int))) := Lib.hid fun W h i hi => by
        obtain ⟨b', o', e', _, hc'⟩ := (HI2.out.aft h).at (show i < aw2.length by rw [HAL2.out]; exact hi)
        cases e'
        have := hc' i (by rw [HAL2.out]; exact hi)
        rw [HAG2.out i hi] at this
        exact this
      clear HI1 HI2 HAG1 HAG2 HAL1 HAL2
      refine wp_block ?_
      go_loopw [113] (fun i wr => ∃ k : Nat, i = .int .i64 k ∧ k ≤ N ∧ Aft w5 wr) (fun i _ => N - (intOf i).toNat)
      case atStart => exact ⟨0, rfl, by omega, Aft.refl _⟩
      case round =>
        obtain ⟨k, rfl, hk, hy⟩ := hrel
        have HY := Lib.hid hy
        clear hy
        by_cases hkN : k < N
        · have t2 : decide (k < N) = true := by simpa using hkN
          have ik : (0 : Int) ≤ (k : Int) ∧ (k : Int) < (N : Int) := by omega
          obtain ⟨X, hX, hXN, hcX⟩ := HNM.out k hkN
          have iX : (0 : Int) ≤ (X : Int) ∧ (X : Int) < (N : Int) := by omega
          have hfx := HSIM.out k hkN
          rw [hX] at hfx
          obtain ⟨fv, hfv⟩ : ∃ fv, f1 k = fv := ⟨_, rfl⟩
          have HV1 : Hid (∀ W, Aft wr W → W.cell? ⟨b14, o14 + k, none⟩ = some (.int .i64 fv)) := Lib.hid fun W h => by
            rw [← hfv]
            exact HC14.out W (HY.out.trans h) k hkN
          have HV2 : Hid (∀ W, Aft wr W → W.cell? ⟨b16, o16 + X, none⟩ = some (.int .i64 fv)) := Lib.hid fun W h => by
            rw [← hfv, ← hfx]
            exact HC16.out W (HY.out.trans h) X hXN
          have HV3 : Hid (∀ W, Aft wr W → W.cell? ⟨bP, oP + k, none⟩ = some (.int .i64 X)) := Lib.hid fun W h => hcX W (HX.out.trans (HY.out.trans h))
          clear hX hcX hfx hfv
          go_upto_region 18 with fail
          refine wp_region_valsG (by kernel_rfl) 233 rfl (by kernel_rfl) (by kernel_rfl) [.slice (some ⟨b14, o14, none⟩) N c14, .int .i64 k, .pointer (some ⟨b14, o14 + k, none⟩), .int .i64 fv, .slice (some ⟨b16, o16, none⟩) N c16, .slice (some ⟨bP, oP, none⟩) N c9, .int .i64 k, .pointer (some ⟨bP, oP + k, none⟩), .int .i64 X, .pointer (some ⟨b16, o16 + X, none⟩), .int .i64 fv, .bool false] rfl (fun W => Aft wr W) (Aft.drew _) ?st2 ?fi2
          case st2 =>
            intro i o v ho hv
            match i, ho, hv with
            | 0, ho, hv =>
              cases ho; cases hv
              refine .inl ⟨rfl, fun a W hk hw K hK => ?_⟩
              have e14 := hk.same 14 (by decide)
              exact op_val (by simp [go_sem, ev' e14]) (hK _ hw)
            | 1, ho, hv =>
              cases ho; cases hv
              refine .inl ⟨rfl, fun a W hk hw K hK => ?_⟩
              have e18 := hk.same 18 (by decide)
              exact op_val (by simp [go_sem, ev' e18]) (hK _ hw)
            | 2, ho, hv =>
              cases ho; cases hv
              refine .inl ⟨rfl, fun a W hk hw K hK => ?_⟩
              have e116 := hk.at_ 0 _ 116 _ rfl (by decide) _ rfl rfl rfl
              have e117 := hk.at_ 1 _ 117 _ rfl (by decide) _ rfl rfl rfl
              exact op_val (by simp [go_sem, ev' e116, ev' e117, ik]) (hK _ hw)
            | 3, ho, hv =>
              cases ho; cases hv
              refine .inl ⟨rfl, fun a W hk hw K hK => ?_⟩
              have e118 := hk.at_ 2 _ 118 _ rfl (by decide) _ rfl rfl rfl
              exact op_val (by simp [go_sem, ev' e118, HV1.out W hw]) (hK _ hw)
            | 4, ho, hv =>
              cases ho; cases hv
              refine .inl ⟨rfl, fun a W hk hw K hK => ?_⟩
              have e16 := hk.same 16 (by decide)
              exact op_val (by simp [go_sem, ev' e16]) (hK _ hw)
            | 5, ho, hv =>
              cases ho; cases hv
              refine .inl ⟨rfl, fun a W hk hw K hK => ?_⟩
              have e9 := hk.same 9 (by decide)
              exact op_val (by simp [go_sem, ev' e9]) (hK _ hw)
            | 6, ho, hv =>
              cases ho; cases hv
              refine .inl ⟨rfl, fun a W hk hw K hK => ?_⟩
              have e18 := hk.same 18 (by decide)
              exact op_val (by simp [go_sem, ev' e18]) (hK _ hw)
            | 7, ho, hv =>
              cases ho; cases hv
              refine .inl ⟨rfl, fun a W hk hw K hK => ?_⟩
              have e121 := hk.at_ 5 _ 121 _ rfl (by decide) _ rfl rfl rfl
              have e122 := hk.at_ 6 _ 122 _ rfl (by decide) _ rfl rfl rfl
              exact op_val (by simp [go_sem, ev' e121, ev' e122, ik]) (hK _ hw)
            | 8, ho, hv =>
              cases ho; cases hv
              refine .inl ⟨rfl, fun a W hk hw K hK => ?_⟩
              have e123 := hk.at_ 7 _ 123 _ rfl (by decide) _ rfl rfl rfl
              exact op_val (by simp [go_sem, ev' e123, HV3.out W hw]) (hK _ hw)
            | 9, ho, hv =>
              cases ho; cases hv
              refine .inl ⟨rfl, fun a W hk hw K hK => ?_⟩
              have e120 := hk.at_ 4 _ 120 _ rfl (by decide) _ rfl rfl rfl
              have e124 := hk.at_ 8 _ 124 _ rfl (by decide) _ rfl rfl rfl
              exact op_val (by simp [go_sem, ev' e120, ev' e124, iX]) (hK _ hw)
            | 10, ho, hv =>
              cases ho; cases hv
              refine .inl ⟨rfl, fun a W hk hw K hK => ?_⟩
              have e125 := hk.at_ 9 _ 125 _ rfl (by decide) _ rfl rfl rfl
              exact op_val (by simp [go_sem, ev' e125, HV2.out W hw]) (hK _ hw)
            | 11, ho, hv =>
              cases ho; cases hv
              refine .inl ⟨rfl, fun a W hk hw K hK => ?_⟩
              have e119 := hk.at_ 3 _ 119 _ rfl (by decide) _ rfl rfl rfl
              have e126 := hk.at_ 10 _ 126 _ rfl (by decide) _ rfl rfl rfl
              exact op_val (by simp [go_sem, ev' e119, ev' e126]) (hK _ hw)
            | _ + 12, _, hv => cases hv
          intro W hw
          simp only [List.drop_succ_cons, List.drop_zero, List.zip_cons_cons, List.zip_nil_right, putAll]
          simp only [Act.put, List.setIfInBounds_toArray, List.set]
          go_wp2_with fail
          exact ⟨⟨k + 1, by go_num, by omega, HY.out.trans hw⟩, by simp [intOf]; omega⟩
        · have t2 : decide (k < N) = false := by simpa using hkN
          obtain ⟨W6, rfl⟩ : ∃ W6, W6 = wr := ⟨_, rfl⟩
          have HX0 := Lib.hid (HX.out.trans HY.out)
          have HX6 := Lib.hid (Aft.refl W6)
          replace HAX := Lib.hid (HAX.out.trans HX0.out)
          replace HREP := Lib.hid fun W (h : Aft W6 W) => HREP.out W (HX0.out.trans h)
          replace HB7 := Lib.hid fun W (h : Aft W6 W) => HB7.out W (HX0.out.trans h)
          replace HR2 := Lib.hid fun W (h : Aft W6 W) => HR2.out W (HX0.out.trans h)
          replace HB11 := Lib.hid fun W (h : Aft W6 W) => HB11.out W (HX0.out.trans h)
          replace HC14 := Lib.hid fun W (h : Aft W6 W) => HC14.out W (HY.out.trans h)
          replace HNM : Hid (∀ j : Nat, j < N → ∃ X : Nat, nmP P j = X ∧ X < N ∧ ∀ W, Aft W6 W → W.cell? ⟨bP, oP + j, none⟩ = some (.int .i64 X)) := Lib.hid fun j hj => by
            obtain ⟨X, h1, h2, h3⟩ := HNM.out j hj
            exact ⟨X, h1, h2, fun W h => h3 W (HX0.out.trans h)⟩
          clear HC16 HX0 HX
          have h27 : ∃ m E, (∀ W, Aft W6 W → Calls Tryz.prog 27 #[.agg #[.int .i64 N, .slice a1 L.length c1, .slice a2 T.length c2], .slice none 0 0] W (FullM m E W)) ∧ ∀ W, Aft W6 W → Calls Tryz.prog 27 #[.agg #[.int .i64 N, .slice A8 L2.length c8, .slice none 0 0], .slice none 0 0] W (FullM m E W) := by
            have hct : (fullsL ⟨N, L2, []⟩ []).length = (fullsL ⟨N, L, T⟩ []).length := by
              show (Court.grow L2 (refL []) (N : Int).toNat (N : Int).toNat 0 []).length = (Court.grow L (refL []) (N : Int).toNat (N : Int).toNat 0 []).length
              rw [Int.toNat_natCast]
              exact (Court.full_count HNN.out HINR.out HTOLD.out (fun _ _ => rfl)).symm
            obtain ⟨m, E, hm⟩ := full_m (fullsL ⟨N, L, T⟩ []).length
            refine ⟨m, E, fun W h => ?_, fun W h => ?_⟩
            · rw [← hm]
              exact full27_count ⟨N, L, T⟩ a1 a2 c1 c2 [] none 0 W (HREP.out W h) (ints_none W) HOPA.out
            · rw [← hm, ← hct]
              exact full27_count ⟨N, L2, []⟩ A8 none c8 0 [] none 0 W (HR2.out W h) (ints_none W) HOPB.out
          obtain ⟨m27, FE, h27a, h27b⟩ := h27
          have H27A := Lib.hid h27a
          have H27B := Lib.hid h27b
          clear HY hkN h27a h27b
          obtain ⟨k0, k1, k2⟩ := box25 (HB7.out W6 HX6.out)
          have k3 := (HB7.out W6 HX6.out).lt
          go_upto_region 22 with (go_at_call 27; refine (H27A.out W6 HX6.out).mono ?_; rintro e w7 ⟨A19, c19, rfl, ha⟩; have HX7 := Lib.hid (HX6.out.trans ha); have HW7 := Lib.hid ha; clear ha k0 k1 k2 k3)
          obtain ⟨j0, j1, j2⟩ := box25 (HB11.out w7 HX7.out)
          have j3 := (HB11.out w7 HX7.out).lt
          go_upto_region 23 with (go_at_call 27; refine (H27B.out w7 HX7.out).mono ?_; rintro e w8 ⟨A20, c20, rfl, ha⟩; have HX8 := Lib.hid (HX7.out.trans ha); clear ha j0 j1 j2 j3)
          clear H27A H27B
          have HFA := Lib.hid (few20_any ⟨N, L, T⟩ a1 a2 c1 c2 q w8 (HREP.out w8 HX8.out) HCASE.out (by show (q : Int) < N; omega) (by show (N : Int) ≤ 14; omega))
          obtain ⟨k0, k1, k2⟩ := box25 (HB7.out w8 HX8.out)
          have k3 := (HB7.out w8 HX8.out).lt
          go_upto_region 24 with (go_at_call 20; refine HFA.out.mono ?_; rintro e w9 ⟨A21, c21, m1, E1, rfl, hU, ha⟩; have HU1 := Lib.hid hU; have HX9 := Lib.hid (HX8.out.trans ha); clear ha hU k0 k1 k2 k3)
          clear HFA
          obtain ⟨X, hX, hXN, hcX⟩ := HNM.out q hqN'
          have iq : (0 : Int) ≤ (q : Int) ∧ (q : Int) < (N : Int) := by omega
          have HCX : Hid (∀ W, Aft w9 W → W.cell? ⟨bP, oP + q, none⟩ = some (.int .i64 X)) := Lib.hid fun W h => hcX W (HX9.out.trans h)
          have HBB : Hid (∀ W, Aft w9 W → W.cell? ⟨b11, 0, none⟩ = some (.int .i64 N) ∧ W.cell? ⟨b11, 1, none⟩ = some (.slice A8 L2.length c8) ∧ W.cell? ⟨b11, 2, none⟩ = some (.slice none 0 0)) := Lib.hid fun W h => box25 (HB11.out W (HX9.out.trans h))
          have HFB : Hid (∀ W, Aft w9 W → Calls Tryz.prog 20 #[.agg #[.int .i64 N, .slice A8 L2.length c8, .slice none 0 0], .int .i64 X] W (FewU L2 (N : Int).toNat X W)) := Lib.hid fun W h => few20_any ⟨N, L2, []⟩ A8 none c8 0 X W (HR2.out W (HX9.out.trans h)) HCASE2.out (by show (X : Int) < N; omega) (by show (N : Int) ≤ 14; omega)
          have HSM := Lib.hid (fun (m m' : Nat) (E E' : Int) h h' => few_same (S := L) (S' := L2) (N := N) (m := m) (m' := m') (E := E) (E' := E') HNN.out HINR.out HTOLD.out (c := (q : Int)) ⟨by omega, by omega⟩ HSELF.out h h')
          rw [hX] at HSM
          clear hX hcX
          obtain ⟨j0, j1, j2⟩ := HBB.out w9 (Aft.refl _)
          have j3 := (HB11.out w9 HX9.out).lt
          have j4 := HCX.out w9 (Aft.refl _)
          have HFD := Lib.hid (HFB.out w9.drew (Aft.drew _))
          go_cut [23, 24] from 145 to 154 (fun s23 s24 wx => ∃ A23 c23 m2 E2, s23 = .slice A23 m2 c23 ∧ s24 = .int .i64 E2 ∧ ((E2 = 7 ∧ m2 = 0 ∧ ((X : Int), (X : Int)) ∈ L2) ∨ (E2 = 0 ∧ ((X : Int), (X : Int)) ∉ L2 ∧ ∃ Lw, FewIs L2 (N : Int).toNat (X : Int) Lw ∧ m2 = Lw.length)) ∧ Aft w9 wx)
          case first =>
            go_region_law (refine step_call2 Tryz.func20 (by kernel_rfl) (by kernel_rfl) rfl _ _ rfl rfl rfl HFD.out ?_; rintro e w10 ⟨A23, c23, m2, E2, rfl, hU, ha⟩; have HU2 := Lib.hid hU; have HW10 := Lib.hid ((Aft.drew w9).trans ha); clear ha hU j0 j1 j2 j3 j4; refine ⟨_, rfl, ?_⟩)
            all_goals
              go_wp2_with fail
              go_meet
              exact ⟨_, _, _, _, rfl, rfl, HU2.out, HW10.out⟩
          obtain ⟨A23, c23, m2, E2, rfl, rfl, hU2, ha2⟩ := hcut
          obtain ⟨rfl, rfl⟩ := HSM.out _ _ _ _ HU1.out (by simpa using hU2)
          have HX10 := Lib.hid (HX9.out.trans ha2)
          clear HFB HFD HSM HBB HCX HU1 hU2 ha2 j0 j1 j2 j3 j4
          obtain ⟨W10, rfl⟩ : ∃ W10, W10 = wc := ⟨_, rfl⟩
          go_upto_region 25 with fail
          have t3 : (FE != FE) = false := by simp
          have t4 : (E2 != E2) = false := by simp
          go_cut [175] from 154 to 175 (fun s175 wx => s175 = .bool false ∧ wx = W10)
          case first =>
            (repeat (first | go_big_skip | go_big_want | go_big_move | go_big_op | go_step | go_upon | go_back))
            go_meet
            exact ⟨rfl, rfl⟩
          obtain ⟨rfl, rfl⟩ := hcut
          clear t3 t4
          obtain ⟨k0, k1, k2⟩ := box25 (HB7.out wc HX10.out)
          have k3 := (HB7.out wc HX10.out).lt
          go_upto_block 4 with fail
          clear k0 k1 k2 k3
          obtain ⟨W10, rfl⟩ : ∃ W10, W10 = wc := ⟨_, rfl⟩
          refine wp_block ?_
          go_loopw [179] (fun i wr => ∃ k : Nat, i = .int .i64 k ∧ k ≤ L.length ∧ Aft W10 wr ∧ Hid (∀ j, (h : j < L.length) → j < k → L[j].1 ≠ (q : Int))) (fun i _ => L.length - (intOf i).toNat)
          case atStart => exact ⟨0, rfl, by omega, Aft.refl _, Lib.hid fun j h h' => by omega⟩
          case round =>
            obtain ⟨k, rfl, hk, hy, HNO⟩ := hrel
            have HY := Lib.hid hy
            clear hy
            by_cases hkL : k < L.length
            · have t7 : decide (k < L.length) = true := by simpa using hkL
              have ik : (0 : Int) ≤ (k : Int) ∧ (k : Int) < (L.length : Int) := by omega
              obtain ⟨bs, os, hbs, hlts, hcs⟩ := (HREP.out wr (HX10.out.trans HY.out)).strikes.at hkL
              subst hbs
              obtain ⟨x0, x1⟩ := hcs k hkL
              obtain ⟨⟨y0, y1⟩, hyy⟩ : ∃ y, L[k] = y := ⟨_, rfl⟩
              rw [hyy] at x0 x1
              have HYY := Lib.hid hyy
              clear hcs hyy
              go_upto_region 30 with (refine wpList_store_new rfl 57 (.tmp 26) (.tmp 182) rfl rfl rfl info57' rfl (all_oneCell_toArray (by intro v hv; simp at hv; rcases hv with rfl | rfl <;> rfl)) ?_)
              try simp only [Act.put]
              have HB33 := Lib.hid (Blk.new wr 57 #[.int .i64 y0, .int .i64 y1])
              have HA33 := Lib.hid (Aft.alloc wr (.cells #[.int .i64 y0, .int .i64 y1] 57))
              obtain ⟨b33, hb33⟩ : ∃ b33, wr.heap.size = b33 := ⟨_, rfl⟩
              rw [hb33] at HB33 ⊢
              have HY := Lib.hid (HY.out.trans HA33.out)
              clear hb33 HA33 x0 x1
              generalize wr.alloc (.cells #[.int .i64 y0, .int .i64 y1] 57) = W13 at *
              have j0 : W13.cell? ⟨b33, 0, none⟩ = some (.int .i64 y0) := HB33.out.cell 0
              have j1 : W13.cell? ⟨b33, 1, none⟩ = some (.int .i64 y1) := HB33.out.cell 1
              have j2 := HB33.out.lt
              cases hyq : (y0 == (q : Int))
              · have HNO2 : Hid (∀ j, (h : j < L.length) → j < k + 1 → L[j].1 ≠ (q : Int)) := Lib.hid fun j h h' => by
                  by_cases e : j = k
                  · subst e
                    rw [HYY.out]
                    simpa using hyq
                  · exact HNO.out j h (by omega)
                go_wp2_with fail
                exact ⟨⟨k + 1, by go_num, by omega, HY.out, HNO2⟩, by simp [intOf]; omega⟩
              · go_wp2_with (go_at_call 12; refine (awake_any _).mono ?_; rintro e w14 ⟨rfl, ha⟩; have HEND := Lib.hid (HAX.out.trans (HX10.out.trans (HY.out.trans ha))); clear ha)
                go_ret
                exact ⟨rfl, HEND.out⟩
            · have t7 : decide (k < L.length) = false := by simpa using hkL
              obtain ⟨W11, rfl⟩ : ∃ W11, W11 = wr := ⟨_, rfl⟩
              have HX11 := Lib.hid (HX10.out.trans HY.out)
              have HIDLE : Hid (∀ s ∈ L, s.1 ≠ (q : Int)) := Lib.hid fun s hs => by
                obtain ⟨j, hj, rfl⟩ := List.mem_iff_getElem.1 hs
                exact HNO.out j hj (by omega)
              clear HY hkL HNO
              obtain ⟨f3, hf3⟩ : ∃ f3, award L noS N (begF (refL [(q : Int)])) = f3 := ⟨_, rfl⟩
              have HF3 : Hid (∀ n : Nat, n < N → n ≠ q → f3 n = f1 n) := Lib.hid fun n hn hne => by
                have h := Court.award_idle HIDLE.out (ref := refL []) (ref' := refL [(q : Int)]) (N := N) (fun n hn => by simp [refL]; omega) (by simp [refL]) (n : Int) (by omega)
                rw [hf3, HF1.out] at h
                exact h
              have HF3Q : Hid (f3 q = 2) := Lib.hid (by
                rw [← hf3]
                exact Court.award_ref (by simp [refL]))
              have HOPQ : Hid (openE ⟨N, L, T⟩ [(q : Int)] = 0) := Lib.hid (openE_zero HCASE.out (fun x hx => by simp at hx; subst hx; exact ⟨by omega, by show (q : Int) < N; omega⟩) rfl)
              have H39C : Hid (∀ W, Aft W6 W → Calls Tryz.prog 39 #[.agg #[.int .i64 N, .slice a1 L.length c1, .slice a2 T.length c2], .slice (some ⟨W.heap.size, 0, none⟩) 1 1] (W.alloc (.cells #[.int .i64 q] 3)) (GoodL (foundL f3 N) (W.alloc (.cells #[.int .i64 q] 3)))) := Lib.hid fun W h => by
                rw [← hf3]
                exact award_good ⟨N, L, T⟩ a1 a2 c1 c2 [(q : Int)] (some ⟨W.heap.size, 0, none⟩) 1 _ (HREP.out _ (h.trans (Aft.alloc _ _))) (Nums.ints (Blk.new W 3 #[.int .i64 q]) (nums_self [(q : Int)]) (by simp)) HOPQ.out N rfl
              obtain ⟨aw3, haw3⟩ : ∃ aw3, foundL f3 N = aw3 := ⟨_, rfl⟩
              have HAL3 : Hid (aw3.length = N) := Lib.hid (by rw [← haw3, foundL_len])
              have HAG3 : Hid (∀ i, (h : i < N) → (h1 : i < aw3.length) → aw3[i] = ((f3 i : Nat) : Int)) := Lib.hid fun i h h1 => by
                have : (foundL f3 N)[i]'(by rw [foundL_len]; exact h) = ((f3 i : Nat) : Int) := foundL_get _ _ _
                simpa only [haw3] using this
              rw [haw3] at H39C
              have H39 := Lib.hid (H39C.out W11 HX11.out)
              clear haw3 hf3 H39C
              obtain ⟨k0, k1, k2⟩ := box25 (HB7.out W11 HX11.out)
              have k3 := (HB7.out W11 HX11.out).lt
              go_upto_region 34 with (go_at_call 39; refine H39.out.mono ?_; rintro e w12 ⟨v, rfl, ho, ha⟩; obtain ⟨A27, c27, rfl, _, hi⟩ := own_ints ho (by have := HAL3.out; omega); have HI3 := Lib.hid hi; have HX12 := Lib.hid (HX11.out.trans ((Aft.alloc _ _).trans ha)); rw [HAL3.out]; clear ho hi ha k0 k1 k2 k3)
              obtain ⟨k0, k1, k2⟩ := box25 (HB7.out w12 HX12.out)
              have k3 := (HB7.out w12 HX12.out).lt
              go_upto_block 6 with fail
              clear k0 k1 k2 k3 H39
              obtain ⟨b27, o27, rfl, hlt27, -⟩ := HI3.out.at (show 0 < aw3.length by rw [HAL3.out]; omega)
              have HC27 : Hid (∀ W, Aft w12 W → ∀ i : Nat, i < N → W.cell? ⟨b27, o27 + i, none⟩ = some (.int .i64 ((f3 i : Nat) : Int))) := Lib.hid fun W h i hi => by
                obtain ⟨b', o', e', _, hc'⟩ := (HI3.out.aft h).at (show i < aw3.length by rw [HAL3.out]; exact hi)
                cases e'
                have := hc' i (by rw [HAL3.out]; exact hi)
                rw [HAG3.out i hi] at this
                exact this
              have HAE := Lib.hid (HAX.out.trans HX12.out)
              have HC14 : Hid (∀ W, Aft w12 W → ∀ i, i < N → W.cell? ⟨b14, o14 + i, none⟩ = some (.int .i64 ((f1 i : Nat) : Int))) := Lib.hid fun W h i hi => HC14.out W (HX12.out.trans h) i hi
              clear HI3 HAG3 HAL3
              refine wp_block ?_
              go_loopw [207] (fun i wr => ∃ k : Nat, i = .int .i64 k ∧ k ≤ N ∧ Aft w12 wr) (fun i _ => N - (intOf i).toNat)
              case atStart => exact ⟨0, rfl, by omega, Aft.refl _⟩
              case round =>
                obtain ⟨k, rfl, hk, hy⟩ := hrel
                have HY := Lib.hid hy
                clear hy
                by_cases hkN : k < N
                · have t8 : decide (k < N) = true := by simpa using hkN
                  have ik : (0 : Int) ≤ (k : Int) ∧ (k : Int) < (N : Int) := by omega
                  obtain ⟨fv, hfv⟩ : ∃ fv, f1 k = fv := ⟨_, rfl⟩
                  have HFV := Lib.hid hfv
                  have HV1 : Hid (∀ W, Aft wr W → W.cell? ⟨b14, o14 + k, none⟩ = some (.int .i64 fv)) := Lib.hid fun W h => by
                    rw [← hfv]
                    exact HC14.out W (HY.out.trans h) k hkN
                  clear hfv
                  go_upto_region 39 with fail
                  by_cases hkq : k = q
                  · have n1 : ((k : Int) != (q : Int)) = false := by simp; omega
                    have HKQ := Lib.hid hkq
                    clear hkq
                    refine wp_region_valsG (by kernel_rfl) 233 rfl (by kernel_rfl) (by kernel_rfl) [.int .i64 k, .int .i64 q, .bool false, .bool false, undef, undef, undef, undef, undef, undef, undef, undef, undef, .bool false] rfl (fun W => Aft wr W) (Aft.drew _) ?st3 ?fi3
                    case st3 =>
                      intro i o v ho hv
                      match i, ho, hv with
                      | 0, ho, hv =>
                        cases ho; cases hv
                        refine .inl ⟨rfl, fun a W hk hw K hK => ?_⟩
                        have e28 := hk.same 28 (by decide)
                        exact op_val (by simp [go_sem, ev' e28]) (hK _ hw)
                      | 1, ho, hv =>
                        cases ho; cases hv
                        refine .inl ⟨rfl, fun a W hk hw K hK => ?_⟩
                        have e10 := hk.same 10 (by decide)
                        exact op_val (by simp [go_sem, ev' e10]) (hK _ hw)
                      | 2, ho, hv =>
                        cases ho; cases hv
                        refine .inl ⟨rfl, fun a W hk hw K hK => ?_⟩
                        have e210 := hk.at_ 0 _ 210 _ rfl (by decide) _ rfl rfl rfl
                        have e211 := hk.at_ 1 _ 211 _ rfl (by decide) _ rfl rfl rfl
                        exact op_val (by simp [go_sem, ev' e210, ev' e211, n1]) (hK _ hw)
                      | 3, ho, hv =>
                        cases ho; cases hv
                        refine .inl ⟨rfl, fun a W hk hw K hK => ?_⟩
                        have e212 := hk.at_ 2 _ 212 _ rfl (by decide) _ rfl rfl rfl
                        exact op_val (by simp [go_sem, ev' e212]) (hK _ hw)
                      | 4, ho, hv => cases ho; cases hv; exact .inr ⟨rfl, rfl⟩
                      | 5, ho, hv => cases ho; cases hv; exact .inr ⟨rfl, rfl⟩
                      | 6, ho, hv => cases ho; cases hv; exact .inr ⟨rfl, rfl⟩
                      | 7, ho, hv => cases ho; cases hv; exact .inr ⟨rfl, rfl⟩
                      | 8, ho, hv => cases ho; cases hv; exact .inr ⟨rfl, rfl⟩
                      | 9, ho, hv => cases ho; cases hv; exact .inr ⟨rfl, rfl⟩
                      | 10, ho, hv => cases ho; cases hv; exact .inr ⟨rfl, rfl⟩
                      | 11, ho, hv => cases ho; cases hv; exact .inr ⟨rfl, rfl⟩
                      | 12, ho, hv => cases ho; cases hv; exact .inr ⟨rfl, rfl⟩
                      | 13, ho, hv =>
                        cases ho; cases hv
                        refine .inl ⟨rfl, fun a W hk hw K hK => ?_⟩
                        have e213 := hk.at_ 3 _ 213 _ rfl (by decide) _ rfl rfl rfl
                        have e222 := hk.at_ 12 _ 222 _ rfl (by decide) _ rfl rfl rfl
                        exact op_val (by simp [go_sem, ev' e213, ev' e222]) (hK _ hw)
                      | _ + 14, _, hv => cases hv
                    intro W hw
                    simp only [List.drop_succ_cons, List.drop_zero, List.zip_cons_cons, List.zip_nil_right, putAll]
                    simp only [Act.put, List.setIfInBounds_toArray, List.set]
                    go_wp2_with fail
                    exact ⟨⟨k + 1, by go_num, by omega, HY.out.trans hw⟩, by simp [intOf]; omega⟩
                  · have n1 : ((k : Int) != (q : Int)) = true := by simp; omega
                    have HV2 : Hid (∀ W, Aft wr W → W.cell? ⟨b27, o27 + k, none⟩ = some (.int .i64 fv)) := Lib.hid fun W h => by
                      rw [← HFV.out, ← HF3.out k hkN hkq]
                      exact HC27.out W (HY.out.trans h) k hkN
                    clear hkq
                    refine wp_region_valsG (by kernel_rfl) 233 rfl (by kernel_rfl) (by kernel_rfl) [.int .i64 k, .int .i64 q, .bool true, .bool true, .slice (some ⟨b14, o14, none⟩) N c14, .int .i64 k, .pointer (some ⟨b14, o14 + k, none⟩), .int .i64 fv, .slice (some ⟨b27, o27, none⟩) N c27, .int .i64 k, .pointer (some ⟨b27, o27 + k, none⟩), .int .i64 fv, .bool false, .bool false] rfl (fun W => Aft wr W) (Aft.drew _) ?st4 ?fi4
                    case st4 =>
                      intro i o v ho hv
                      match i, ho, hv with
                      | 0, ho, hv =>
                        cases ho; cases hv
                        refine .inl ⟨rfl, fun a W hk hw K hK => ?_⟩
                        have e28 := hk.same 28 (by decide)
                        exact op_val (by simp [go_sem, ev' e28]) (hK _ hw)
                      | 1, ho, hv =>
                        cases ho; cases hv
                        refine .inl ⟨rfl, fun a W hk hw K hK => ?_⟩
                        have e10 := hk.same 10 (by decide)
                        exact op_val (by simp [go_sem, ev' e10]) (hK _ hw)
                      | 2, ho, hv =>
                        cases ho; cases hv
                        refine .inl ⟨rfl, fun a W hk hw K hK => ?_⟩
                        have e210 := hk.at_ 0 _ 210 _ rfl (by decide) _ rfl rfl rfl
                        have e211 := hk.at_ 1 _ 211 _ rfl (by decide) _ rfl rfl rfl
                        exact op_val (by simp [go_sem, ev' e210, ev' e211, n1]) (hK _ hw)
                      | 3, ho, hv =>
                        cases ho; cases hv
                        refine .inl ⟨rfl, fun a W hk hw K hK => ?_⟩
                        have e212 := hk.at_ 2 _ 212 _ rfl (by decide) _ rfl rfl rfl
                        exact op_val (by simp [go_sem, ev' e212]) (hK _ hw)
                      | 4, ho, hv =>
                        cases ho; cases hv
                        refine .inl ⟨rfl, fun a W hk hw K hK => ?_⟩
                        have e14 := hk.same 14 (by decide)
                        exact op_val (by simp [go_sem, ev' e14]) (hK _ hw)
                      | 5, ho, hv =>
                        cases ho; cases hv
                        refine .inl ⟨rfl, fun a W hk hw K hK => ?_⟩
                        have e28 := hk.same 28 (by decide)
                        exact op_val (by simp [go_sem, ev' e28]) (hK _ hw)
                      | 6, ho, hv =>
                        cases ho; cases hv
                        refine .inl ⟨rfl, fun a W hk hw K hK => ?_⟩
                        have e214 := hk.at_ 4 _ 214 _ rfl (by decide) _ rfl rfl rfl
                        have e215 := hk.at_ 5 _ 215 _ rfl (by decide) _ rfl rfl rfl
                        exact op_val (by simp [go_sem, ev' e214, ev' e215, ik]) (hK _ hw)
                      | 7, ho, hv =>
                        cases ho; cases hv
                        refine .inl ⟨rfl, fun a W hk hw K hK => ?_⟩
                        have e216 := hk.at_ 6 _ 216 _ rfl (by decide) _ rfl rfl rfl
                        exact op_val (by simp [go_sem, ev' e216, HV1.out W hw]) (hK _ hw)
                      | 8, ho, hv =>
                        cases ho; cases hv
                        refine .inl ⟨rfl, fun a W hk hw K hK => ?_⟩
                        have e27 := hk.same 27 (by decide)
                        exact op_val (by simp [go_sem, ev' e27]) (hK _ hw)
                      | 9, ho, hv =>
                        cases ho; cases hv
                        refine .inl ⟨rfl, fun a W hk hw K hK => ?_⟩
                        have e28 := hk.same 28 (by decide)
                        exact op_val (by simp [go_sem, ev' e28]) (hK _ hw)
                      | 10, ho, hv =>
                        cases ho; cases hv
                        refine .inl ⟨rfl, fun a W hk hw K hK => ?_⟩
                        have e218 := hk.at_ 8 _ 218 _ rfl (by decide) _ rfl rfl rfl
                        have e219 := hk.at_ 9 _ 219 _ rfl (by decide) _ rfl rfl rfl
                        exact op_val (by simp [go_sem, ev' e218, ev' e219, ik]) (hK _ hw)
                      | 11, ho, hv =>
                        cases ho; cases hv
                        refine .inl ⟨rfl, fun a W hk hw K hK => ?_⟩
                        have e220 := hk.at_ 10 _ 220 _ rfl (by decide) _ rfl rfl rfl
                        exact op_val (by simp [go_sem, ev' e220, HV2.out W hw]) (hK _ hw)
                      | 12, ho, hv =>
                        cases ho; cases hv
                        refine .inl ⟨rfl, fun a W hk hw K hK => ?_⟩
                        have e217 := hk.at_ 7 _ 217 _ rfl (by decide) _ rfl rfl rfl
                        have e221 := hk.at_ 11 _ 221 _ rfl (by decide) _ rfl rfl rfl
                        exact op_val (by simp [go_sem, ev' e217, ev' e221]) (hK _ hw)
                      | 13, ho, hv =>
                        cases ho; cases hv
                        refine .inl ⟨rfl, fun a W hk hw K hK => ?_⟩
                        have e213 := hk.at_ 3 _ 213 _ rfl (by decide) _ rfl rfl rfl
                        have e222 := hk.at_ 12 _ 222 _ rfl (by decide) _ rfl rfl rfl
                        exact op_val (by simp [go_sem, ev' e213, ev' e222]) (hK _ hw)
                      | _ + 14, _, hv => cases hv
                    intro W hw
                    simp only [List.drop_succ_cons, List.drop_zero, List.zip_cons_cons, List.zip_nil_right, putAll]
                    simp only [Act.put, List.setIfInBounds_toArray, List.set]
                    go_wp2_with fail
                    exact ⟨⟨k + 1, by go_num, by omega, HY.out.trans hw⟩, by simp [intOf]; omega⟩
                · have t8 : decide (k < N) = false := by simpa using hkN
                  have iq : (0 : Int) ≤ (q : Int) ∧ (q : Int) < (N : Int) := by omega
                  have x0 := HC27.out wr HY.out q hqN'
                  rw [HF3Q.out] at x0
                  replace x0 : wr.cell? ⟨b27, o27 + q, none⟩ = some (.int .i64 2) := x0
                  go_wp2_with (go_at_call 12; refine (awake_any _).mono ?_; rintro e w14 ⟨rfl, ha⟩; have HEND := Lib.hid (HAE.out.trans (HY.out.trans ha)); clear ha)
                  go_ret
                  exact ⟨rfl, HEND.out⟩
end Go.Proofs
end
