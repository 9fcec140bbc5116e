/- Own texts, merged: CtFw CtFi CtYb Xf CtAw0 CtAw CtLa0. -/
import Derived.Test.YtbchfakfdikkjaaGreatP02
import Derived.Test.YtbchfakfdikkjaaGreatP06
import Derived.Test.YtbchfakfdikkjaaGreatP07
import Derived.Test.YtbchfakfdikkjaaGreatP10
import Derived.Test.YtbchfakfdikkjaaGreatP13
import Derived.Test.YtbchfakfdikkjaaGreatP14
import Derived.Test.YtbchfakfdikkjaaGreatP15
import Derived.Test.YtbchfakfdikkjaaGreatP16
import Derived.Laws.MakeOwn
import Derived.Laws.IdiomCopy
import Derived.BigGuard
set_option linter.unusedSimpArgs false
set_option linter.unusedVariables false
set_option linter.unnecessarySimpa false
section
namespace Go.Proofs
open Go.RowKit
open Court (refL begF noS award winB tryW FewIs)
attribute [local go_sem] Oper.semAt_some

def fewE (C : CaseL) (n : Int) : Int := if caseE C = 0 then (if Cl n C.claims then (if (n, n) ∈ C.strikes then 7 else 0) else 2) else caseE C

set_option maxRecDepth 100000 in
set_option maxHeartbeats 2000000 in
theorem few20_bad (C : CaseL) (a1 a2 : Option Addr) (c1 c2 : Nat) (n : Int) (w : World) (hC : CRep w C a1 a2) (he : fewE C n ≠ 0) :
    Calls Tryz.prog 20 #[(.agg #[.int .i64 C.claims, .slice a1 C.strikes.length c1, .slice a2 C.surveys.length c2]), .int .i64 n] w (BadS (fewE C n) w) := by
  have H0 := Lib.hid ((Aft.alloc w (.cells #[.int .i64 C.claims, .slice a1 C.strikes.length c1, .slice a2 C.surveys.length c2] 25)).then_alloc (.cells #[.int .i64 n] 3))
  have HB := Lib.hid ((Blk.new w 25 #[.int .i64 C.claims, .slice a1 C.strikes.length c1, .slice a2 C.surveys.length c2]).alloc (.cells #[.int .i64 n] 3))
  have HQ : Hid (Blk ((w.alloc (.cells #[.int .i64 C.claims, .slice a1 C.strikes.length c1, .slice a2 C.surveys.length c2] 25)).alloc (.cells #[.int .i64 n] 3)) (w.heap.size + 1) 3 #[.int .i64 n]) := Lib.hid (by
    have := Blk.new (w.alloc (.cells #[.int .i64 C.claims, .slice a1 C.strikes.length c1, .slice a2 C.surveys.length c2] 25)) 3 #[.int .i64 n]
    rwa [World.size_alloc] at this)
  have H1 : Hid (∀ W, Aft w W → Calls Tryz.prog 34 #[(.agg #[.int .i64 C.claims, .slice a1 C.strikes.length c1, .slice a2 C.surveys.length c2])] W fun e w' => e = .returned (.int .i64 (caseE C)) ∧ Aft W w') := Lib.hid fun W h => check_any C a1 a2 c1 c2 W (hC.aft h)
  have hlen := hC.strikes.len
  unfold BadS
  unfold fewE at he ⊢
  by_cases h1 : caseE C = 0
  · rw [if_pos h1] at he ⊢
    have hok := caseE_ok h1
    have H2 : Hid (∀ W, Calls Tryz.prog 59 #[(.agg #[.int .i64 C.claims, .slice a1 C.strikes.length c1, .slice a2 C.surveys.length c2]), .int .i64 n] W fun e w' => e = .returned (.bool (!Cl n C.claims)) ∧ Aft W w') := Lib.hid fun W => strange_any C.claims n a1 a2 C.strikes.length C.surveys.length c1 c2 W ⟨hok.n1, hok.n2⟩
    have H3 : Hid (∀ W, Aft w W → Calls Tryz.prog 45 #[.slice a1 C.strikes.length c1, .agg #[.int .i64 n, .int .i64 n]] W fun e w' => e = .returned (.bool (decide ((n, n) ∈ C.strikes))) ∧ Aft W w') := Lib.hid fun W h => containsS_any a1 C.strikes c1 n n W (hC.strikes.aft h)
    rw [h1] at H1
    cases h2 : Cl n C.claims
    · rw [h2] at H2
      rw [if_neg (by decide)]
      clear hC he h1 h2 H3 hok
      go_enter Tryz.func20, Tryz.ntmps20
      go_wp2_with (first | (go_at_call 34; refine (H1.out _ H0.out).mono ?_; rintro e w1 ⟨rfl, ha1⟩; have HA1 := Lib.hid ha1; obtain ⟨k0, k1, k2⟩ := box25 (HB.out.aft ha1); have hlt := (HB.out.aft ha1).lt; have k3 := (HQ.out.aft ha1).cell 0; have hlt3 := (HQ.out.aft ha1).lt; clear ha1) | (go_at_call 59; refine (H2.out _).mono ?_; rintro e w2 ⟨rfl, ha2⟩; have HA2 := Lib.hid ha2; clear ha2))
      go_ret2
      exact ⟨rfl, (H0.out.trans HA1.out).trans HA2.out⟩
    · rw [h2] at H2 he
      rw [if_pos rfl] at he ⊢
      have h3 : (n, n) ∈ C.strikes := by
        by_cases h : (n, n) ∈ C.strikes
        · exact h
        · rw [if_neg h] at he; exact absurd rfl he
      rw [if_pos h3]
      rw [decide_eq_true h3] at H3
      clear hC he h1 h2 h3 hok
      go_enter Tryz.func20, Tryz.ntmps20
      go_wp2_with (first | (go_at_call 34; refine (H1.out _ H0.out).mono ?_; rintro e w1 ⟨rfl, ha1⟩; have HA1 := Lib.hid ha1; obtain ⟨k0, k1, k2⟩ := box25 (HB.out.aft ha1); have hlt := (HB.out.aft ha1).lt; have k3 := (HQ.out.aft ha1).cell 0; have hlt3 := (HQ.out.aft ha1).lt; clear ha1) | (go_at_call 59; refine (H2.out _).mono ?_; rintro e w2 ⟨rfl, ha2⟩; have HA2 := Lib.hid (HA1.out.trans ha2); obtain ⟨j0, j1, j2⟩ := box25 (HB.out.aft HA2.out); have jlt := (HB.out.aft HA2.out).lt; have j3 := (HQ.out.aft HA2.out).cell 0; have jlt3 := (HQ.out.aft HA2.out).lt; clear ha2 k0 k1 k2 k3 hlt hlt3) | (go_at_call 45; refine (H3.out _ (H0.out.trans HA2.out)).mono ?_; rintro e w3 ⟨rfl, ha3⟩; have HA3 := Lib.hid ha3; clear ha3))
      go_ret2
      exact ⟨rfl, (H0.out.trans HA2.out).trans HA3.out⟩
  · rw [if_neg h1] at he ⊢
    have t1 : (caseE C != 0) = true := by simpa using he
    clear hC he h1
    generalize caseE C = E at *
    go_enter Tryz.func20, Tryz.ntmps20
    go_wp2_with (go_at_call 34; refine (H1.out _ H0.out).mono ?_; rintro e w1 ⟨rfl, ha1⟩; have HA1 := Lib.hid ha1; clear ha1)
    go_ret2
    exact ⟨rfl, H0.out.trans HA1.out⟩

theorem fewE_ok {C : CaseL} {n : Int} (h : fewE C n = 0) : caseE C = 0 ∧ Cl n C.claims = true ∧ (n, n) ∉ C.strikes := by
  unfold fewE at h
  by_cases h1 : caseE C = 0
  · rw [if_pos h1] at h
    cases h2 : Cl n C.claims
    · rw [h2, if_neg (by decide)] at h; cases h
    · rw [h2, if_pos rfl] at h
      by_cases h3 : (n, n) ∈ C.strikes
      · rw [if_pos h3] at h; cases h
      · exact ⟨h1, rfl, h3⟩
  · rw [if_neg h1] at h; exact absurd h h1
def GoodFew (C : CaseL) (n : Int) (w : World) (e : Ending) (w' : World) : Prop := ∃ L, FewIs C.strikes C.claims.toNat n L ∧ GoodL L w e w'

set_option maxRecDepth 100000 in
set_option maxHeartbeats 4000000 in
theorem few20_good (C : CaseL) (a1 a2 : Option Addr) (c1 c2 : Nat) (q : Nat) (w : World) (hC : CRep w C a1 a2) (he : fewE C q = 0) :
    Calls Tryz.prog 20 #[(.agg #[.int .i64 C.claims, .slice a1 C.strikes.length c1, .slice a2 C.surveys.length c2]), .int .i64 q] w (GoodFew C q w) := by
  have H0 := Lib.hid ((Aft.alloc w (.cells #[.int .i64 C.claims, .slice a1 C.strikes.length c1, .slice a2 C.surveys.length c2] 25)).then_alloc (.cells #[.int .i64 q] 3))
  have HB := Lib.hid ((Blk.new w 25 #[.int .i64 C.claims, .slice a1 C.strikes.length c1, .slice a2 C.surveys.length c2]).alloc (.cells #[.int .i64 q] 3))
  have HQ : Hid (Blk ((w.alloc (.cells #[.int .i64 C.claims, .slice a1 C.strikes.length c1, .slice a2 C.surveys.length c2] 25)).alloc (.cells #[.int .i64 q] 3)) (w.heap.size + 1) 3 #[.int .i64 q]) := Lib.hid (by
    have := Blk.new (w.alloc (.cells #[.int .i64 C.claims, .slice a1 C.strikes.length c1, .slice a2 C.surveys.length c2] 25)) 3 #[.int .i64 q]
    rwa [World.size_alloc] at this)
  obtain ⟨h1, h2, h3⟩ := fewE_ok he
  have hok := caseE_ok h1
  obtain ⟨N, hN⟩ : ∃ N : Nat, C.claims = N := ⟨C.claims.toNat, by have := hok.n1; omega⟩
  have hN14 : N ≤ 14 := by have := hok.n2; omega
  have hqN : q < N := by have := Cl_iff.1 h2; omega
  have hlen := hC.strikes.len
  have H1 : Hid (∀ W, Aft w W → Calls Tryz.prog 34 #[(.agg #[.int .i64 C.claims, .slice a1 C.strikes.length c1, .slice a2 C.surveys.length c2])] W fun e w' => e = .returned (.int .i64 0) ∧ Aft W w') := Lib.hid fun W h => by
    have := check_any C a1 a2 c1 c2 W (hC.aft h)
    rwa [h1] at this
  have H2 : Hid (∀ W, Calls Tryz.prog 59 #[(.agg #[.int .i64 C.claims, .slice a1 C.strikes.length c1, .slice a2 C.surveys.length c2]), .int .i64 q] W fun e w' => e = .returned (.bool false) ∧ Aft W w') := Lib.hid fun W => by
    have := strange_any C.claims q a1 a2 C.strikes.length C.surveys.length c1 c2 W ⟨hok.n1, hok.n2⟩
    rwa [h2] at this
  have H3 : Hid (∀ W, Aft w W → Calls Tryz.prog 45 #[.slice a1 C.strikes.length c1, .agg #[.int .i64 q, .int .i64 q]] W fun e w' => e = .returned (.bool false) ∧ Aft W w') := Lib.hid fun W h => by
    have := containsS_any a1 C.strikes c1 q q W (hC.strikes.aft h)
    rwa [decide_eq_false h3] at this
  have HBD : Hid (∀ m, (∀ j, j < m → tryW C.strikes N q N 0 j [] = none) → m < N) := Lib.hid fun m h => Court.few_bound ⟨by omega, by omega⟩ h3 (fun s hs => by have := (hok.ins s hs).1; omega) h
  have HOK := Lib.hid hok
  have HC := Lib.hid hC
  have HN := Lib.hid hN
  unfold GoodFew
  have eN : C.claims.toNat = N := by omega
  rw [eN]
  clear hC he h1 h2 h3 hok hN eN
  go_enter Tryz.func20, Tryz.ntmps20
  go_upto_region 8 with (first | (go_at_call 34; refine (H1.out _ H0.out).mono ?_; rintro e w1 ⟨rfl, ha1⟩; have HA1 := Lib.hid ha1; obtain ⟨k0, k1, k2⟩ := box25 (HB.out.aft ha1); have hlt := (HB.out.aft ha1).lt; have k3 := (HQ.out.aft ha1).cell 0; have hlt3 := (HQ.out.aft ha1).lt; clear ha1) | (go_at_call 59; refine (H2.out _).mono ?_; rintro e w2 ⟨rfl, ha2⟩; have HA2 := Lib.hid (HA1.out.trans ha2); obtain ⟨j0, j1, j2⟩ := box25 (HB.out.aft HA2.out); have jlt := (HB.out.aft HA2.out).lt; have j3 := (HQ.out.aft HA2.out).cell 0; have jlt3 := (HQ.out.aft HA2.out).lt; clear ha2 k0 k1 k2 k3 hlt hlt3) | (go_at_call 45; refine (H3.out _ (H0.out.trans HA2.out)).mono ?_; rintro e w3 ⟨rfl, ha3⟩; have HA3 := Lib.hid (HA2.out.trans ha3); clear ha3))
  clear j0 j1 j2 jlt j3 jlt3
  have HAW := Lib.hid (H0.out.trans HA3.out)
  have HB3 := Lib.hid (HB.out.aft HA3.out)
  have HQ3 := Lib.hid (HQ.out.aft HA3.out)
  obtain ⟨bC, hbC⟩ : ∃ bC, w.heap.size = bC := ⟨_, rfl⟩
  obtain ⟨bQ, hbQ⟩ : ∃ bQ, w.heap.size + 1 = bQ := ⟨_, rfl⟩
  have HSZ := Lib.hid hbC
  rw [hbQ] at HQ3 ⊢
  rw [hbC] at HB3 ⊢
  clear hbC hbQ H0 HB HQ HA3 HA2 HA1
  go_upto_region 12 with (fail)
  have HF0 : Hid (FI w3 w3.heap.size bC bQ C a1 a2 c1 c2 q none (((w3.alloc (.cells #[.slice none 0 0] 33)).alloc (.cells #[.bool false] 4)).alloc (.cells #[.func (.func 60) #[] #[.pointer (some ⟨w3.heap.size + 1, 0, none⟩), .pointer (some ⟨bC, 0, none⟩), .pointer (some ⟨bQ, 0, none⟩), .pointer (some ⟨w3.heap.size, 0, none⟩), .pointer (some ⟨w3.heap.size + 1 + 1, 0, none⟩)]] 91))) := Lib.hid (by
    refine ⟨((Aft.alloc w3 _).then_alloc _).then_alloc _, rfl, HC.out.aft HAW.out, HB3.out, HQ3.out, ⟨_, ((Blk.new w3 33 _).alloc _).alloc _, World.ownsRow_nil _ _ 3 1⟩, ?_, ?_⟩
    · have := (Blk.new (w3.alloc (.cells #[.slice none 0 0] 33)) 4 #[.bool false]).alloc (.cells #[.func (.func 60) #[] #[.pointer (some ⟨w3.heap.size + 1, 0, none⟩), .pointer (some ⟨bC, 0, none⟩), .pointer (some ⟨bQ, 0, none⟩), .pointer (some ⟨w3.heap.size, 0, none⟩), .pointer (some ⟨w3.heap.size + 1 + 1, 0, none⟩)]] 91)
      rwa [World.size_alloc] at this
    · have := Blk.new ((w3.alloc (.cells #[.slice none 0 0] 33)).alloc (.cells #[.bool false] 4)) 91 #[.func (.func 60) #[] #[.pointer (some ⟨w3.heap.size + 1, 0, none⟩), .pointer (some ⟨bC, 0, none⟩), .pointer (some ⟨bQ, 0, none⟩), .pointer (some ⟨w3.heap.size, 0, none⟩), .pointer (some ⟨w3.heap.size + 1 + 1, 0, none⟩)]]
      rwa [World.size_alloc, World.size_alloc] at this)
  generalize (((w3.alloc (.cells #[.slice none 0 0] 33)).alloc (.cells #[.bool false] 4)).alloc (.cells #[.func (.func 60) #[] #[.pointer (some ⟨w3.heap.size + 1, 0, none⟩), .pointer (some ⟨bC, 0, none⟩), .pointer (some ⟨bQ, 0, none⟩), .pointer (some ⟨w3.heap.size, 0, none⟩), .pointer (some ⟨w3.heap.size + 1 + 1, 0, none⟩)]] 91)) = W0 at *
  have HF : Hid (∀ (m : Nat) (W : World), m ≤ 1000 → FI w3 w3.heap.size bC bQ C a1 a2 c1 c2 q none W → Calls Tryz.prog 60 #[.int .i64 0, .int .i64 m, .slice none 0 0, .pointer (some ⟨w3.heap.size + 1, 0, none⟩), .pointer (some ⟨bC, 0, none⟩), .pointer (some ⟨bQ, 0, none⟩), .pointer (some ⟨w3.heap.size, 0, none⟩), .pointer (some ⟨w3.heap.size + 1 + 1, 0, none⟩)] W (FewR w3 w3.heap.size bC bQ C a1 a2 c1 c2 q (tryW C.strikes N q N 0 m []) W)) := Lib.hid fun m W hm hG => by
    have := few_any w3 w3.heap.size bC bQ N q C a1 a2 c1 c2 HOK.out HN.out hqN N 0 m [] (.slice none 0 0) none W (by omega) (fun x hx => by cases hx) (by simp) hm (World.ownsRow_nil _ _ 3 1) hG
    rwa [Option.none_or] at this
  obtain ⟨b, hb⟩ : ∃ b, w3.heap.size = b := ⟨_, rfl⟩
  rw [hb] at HF HF0 ⊢
  have HBS := Lib.hid hb
  clear hb
  go_upto_block 1 with (fail)
  refine wp_block ?_
  go_loopw [10] (fun i wr => ∃ (m : Nat) (X : Option (List Int)), i = .int .i64 m ∧ m ≤ N ∧ FI w3 b bC bQ C a1 a2 c1 c2 q X wr ∧ (X = none → ∀ j, j < m → tryW C.strikes N q N 0 j [] = none) ∧ (∀ L, X = some L → FewIs C.strikes N q L)) (fun i _ => N - (intOf i).toNat)
  case atStart => exact ⟨0, none, rfl, by omega, HF0.out, fun _ j hj => absurd hj (Nat.not_lt_zero _), fun L h => by cases h⟩
  case round =>
    obtain ⟨m, X, rfl, hm, hf, hx0, hx1⟩ := hrel
    have k0 : wr.cell? ⟨b + 1, 0, none⟩ = some (.bool X.isSome) := hf.b1.cell 0
    have l0 := hf.b1.lt
    have HFI := Lib.hid hf
    have HX0 := Lib.hid hx0
    have HX1 := Lib.hid hx1
    clear hf hx0 hx1
    cases X with
    | none =>
      have HXN := Lib.hid (HX0.out rfl)
      have hmN : m < N := HBD.out m HXN.out
      rw [show (none : Option (List Int)).isSome = false from rfl] at k0
      have k1 : wr.cell? ⟨b + 1 + 1, 0, none⟩ = some (.func (.func 60) #[] #[.pointer (some ⟨b + 1, 0, none⟩), .pointer (some ⟨bC, 0, none⟩), .pointer (some ⟨bQ, 0, none⟩), .pointer (some ⟨b, 0, none⟩), .pointer (some ⟨b + 1 + 1, 0, none⟩)]) := HFI.out.b2.cell 0
      have l1 := HFI.out.b2.lt
      have HI := Lib.hid (HF.out m wr (by omega) HFI.out)
      go_wp2_with (go_at_call 60; refine HI.out.mono ?_; rintro e w9 ⟨⟨v9, rfl⟩, hg9, -⟩; have HG9 := Lib.hid hg9; clear hg9)
      refine ⟨⟨m + 1, _, by go_num, by omega, HG9.out, fun h j hj => ?_, fun L h => ⟨m, h, HXN.out⟩⟩, by simp [intOf]; omega⟩
      by_cases e : j < m
      · exact HXN.out j e
      · obtain rfl : j = m := by omega
        exact h
    | some L =>
      rw [show (some L).isSome = true from rfl] at k0
      obtain ⟨v, hbv, hov⟩ := HFI.out.b0
      have HFW := Lib.hid (HX1.out L rfl)
      have hL : L.length ≤ 1000 := by
        obtain ⟨⟨h1, h2⟩, -⟩ := HFW.out.facts
        have := Court.nodup_sub_len (l := L) (m := Court.allN N) (h1.imp fun h e => by omega) (fun x hx => Court.mem_allN.2 (by have := h2 x hx; omega))
        unfold Court.allN at this
        simp at this
        omega
      rw [show (some L).getD [] = L from rfl] at hov
      obtain ⟨A, c, rfl, _, _⟩ := own_ints hov (by omega)
      have k1 : wr.cell? ⟨b, 0, none⟩ = some (.slice A L.length c) := hbv.cell 0
      have l1 := hbv.lt
      have HOV := Lib.hid hov
      have HA9 := Lib.hid (HAW.out.trans HFI.out.aft)
      clear hbv hov
      go_wp2_with fail
      go_ret2
      exact ⟨L, HFW.out, _, rfl, own_base HOV.out (by have := HAW.out.size; have := HBS.out; omega), HA9.out⟩
end Go.Proofs
end

section
namespace Go.Proofs
open Go.RowKit
attribute [local go_sem] Oper.semAt_some

theorem nums_self (l : List Int) : Nums (l.map (Value.int .i64)).toArray l := ⟨by simp, fun t ht => by simp [ht]⟩
def fiveL : List Int := [0, 1, 1, 2, 2, 3, 3, 2, 3, 4]
def fiveC : CaseL := ⟨5, [(0, 1), (1, 2), (2, 3), (3, 2), (3, 4)], [[0], [3]]⟩
theorem five_pairs : prL fiveL (fiveL.length / 2) = fiveC.strikes := by decide

theorem strs_grown {w w' : World} {A : Option Addr} {l : List (Int × Int)} {row : Option Nat} (h : Strs w A l) (hg : w.grownBy w' row) (hr : ∀ b o, A = some ⟨b, o, none⟩ → some b ≠ row) : Strs w' A l := by
  refine ⟨h.1, ?_⟩
  rcases h.2 with h | ⟨b, o, rfl, hb, hc⟩
  · exact .inl h
  · refine .inr ⟨b, o, rfl, Nat.lt_of_lt_of_le hb hg.size, fun i hi => ?_⟩
    obtain ⟨vs, h1, h2, h3⟩ := hc i hi
    exact ⟨vs, h1, h2, fun j hj => (World.cell?_of_block (hg.block b hb (hr b o rfl))).trans (h3 j hj)⟩
theorem info25' : (Tryz.prog.info? 25).map (·.size) = some 3 := by kernel_rfl
set_option maxRecDepth 100000 in
set_option maxHeartbeats 2000000 in
theorem five_any (w : World) : Calls Tryz.prog 32 #[] w fun e w' => ∃ a1 a2 c1 c2, e = .returned (.agg #[.int .i64 5, .slice a1 5 c1, .slice a2 2 c2]) ∧ CRep w' fiveC a1 a2 ∧ Aft w w' := by
  have H1 : Hid (∀ W (b : Nat), Blk W b 3 #[.int .i64 0, .int .i64 1, .int .i64 1, .int .i64 2, .int .i64 2, .int .i64 3, .int .i64 3, .int .i64 2, .int .i64 3, .int .i64 4] → Calls Tryz.prog 80 #[.slice (some ⟨b, 0, none⟩) 10 10] W fun e w' => ∃ A' c', e = .returned (.slice A' 5 c') ∧ Strs w' A' fiveC.strikes ∧ (∀ b o, A' = some ⟨b, o, none⟩ → W.heap.size ≤ b) ∧ Aft W w') := Lib.hid fun W b hb => by
    have h := struck80_any fiveL (some ⟨b, 0, none⟩) 10 W (Nums.ints hb (nums_self fiveL) (by decide)) (by decide)
    rw [five_pairs] at h
    exact h
  have HB0 := Lib.hid (Blk.new w 25 #[.int .i64 0, .slice none 0 0, .slice none 0 0])
  have HB1 : Hid (Blk ((w.alloc (.cells #[.int .i64 0, .slice none 0 0, .slice none 0 0] 25)).alloc (.cells #[.int .i64 0, .int .i64 1, .int .i64 1, .int .i64 2, .int .i64 2, .int .i64 3, .int .i64 3, .int .i64 2, .int .i64 3, .int .i64 4] 3)) (w.heap.size + 1) 3 #[.int .i64 0, .int .i64 1, .int .i64 1, .int .i64 2, .int .i64 2, .int .i64 3, .int .i64 3, .int .i64 2, .int .i64 3, .int .i64 4]) := Lib.hid (by
    have := Blk.new (w.alloc (.cells #[.int .i64 0, .slice none 0 0, .slice none 0 0] 25)) 3 #[.int .i64 0, .int .i64 1, .int .i64 1, .int .i64 2, .int .i64 2, .int .i64 3, .int .i64 3, .int .i64 2, .int .i64 3, .int .i64 4]
    rwa [World.size_alloc] at this)
  go_enter Tryz.func32, Tryz.ntmps32
  go_wp2_with (first | (go_at_call 80; refine (H1.out _ _ HB1.out).mono ?_; rintro e w2 ⟨A2, c2, rfl, hs2, hb2, ha2⟩; have HS2 := Lib.hid hs2; have HA2 := Lib.hid (((Aft.alloc w _).then_alloc _).trans ha2); have HBX := Lib.hid ((HB0.out.alloc (.cells #[.int .i64 0, .int .i64 1, .int .i64 1, .int .i64 2, .int .i64 2, .int .i64 3, .int .i64 3, .int .i64 2, .int .i64 3, .int .i64 4] 3)).aft ha2); have HBB := Lib.hid hb2; clear hs2 hb2 ha2) | (refine wpList_store_mid rfl 25 (.tmp 0) (.tmp 6) rfl w.heap.size 0 #[.int .i64 5, .slice A2 5 c2, .slice (some ⟨w2.heap.size + 1 + 1, 0, none⟩) 2 2] rfl rfl (blk_there (((HBX.out.alloc _).alloc _).alloc _) rfl) info25' (all_oneCell_toArray (by intro v hv; simp at hv; rcases hv with rfl | rfl | rfl <;> rfl)) ?_))
  have hne : ∀ g, w2.heap.size ≤ g → w.heap.size ≠ g := fun g hg => by have := HBX.out.lt; omega
  have G3 := Lib.hid (((Blk.new w2 3 #[.int .i64 0]).alloc (.cells #[.int .i64 3] 3)).alloc (.cells #[.slice (some ⟨w2.heap.size, 0, none⟩) 1 1, .slice (some ⟨w2.heap.size + 1, 0, none⟩) 1 1] 33))
  have G4 := Lib.hid ((Blk.new (w2.alloc (.cells #[.int .i64 0] 3)) 3 #[.int .i64 3]).alloc (.cells #[.slice (some ⟨w2.heap.size, 0, none⟩) 1 1, .slice (some ⟨w2.heap.size + 1, 0, none⟩) 1 1] 33))
  have G5 := Lib.hid (Blk.new ((w2.alloc (.cells #[.int .i64 0] 3)).alloc (.cells #[.int .i64 3] 3)) 33 #[.slice (some ⟨w2.heap.size, 0, none⟩) 1 1, .slice (some ⟨w2.heap.size + 1, 0, none⟩) 1 1])
  have G0 := Lib.hid (((HBX.out.alloc (.cells #[.int .i64 0] 3)).alloc (.cells #[.int .i64 3] 3)).alloc (.cells #[.slice (some ⟨w2.heap.size, 0, none⟩) 1 1, .slice (some ⟨w2.heap.size + 1, 0, none⟩) 1 1] 33))
  rw [World.size_alloc] at G4
  rw [World.size_alloc, World.size_alloc] at G5
  have GA := Lib.hid ((((Aft.alloc w2 (.cells #[.int .i64 0] 3)).then_alloc (.cells #[.int .i64 3] 3)).then_alloc (.cells #[.slice (some ⟨w2.heap.size, 0, none⟩) 1 1, .slice (some ⟨w2.heap.size + 1, 0, none⟩) 1 1] 33)))
  generalize (((w2.alloc (.cells #[.int .i64 0] 3)).alloc (.cells #[.int .i64 3] 3)).alloc (.cells #[.slice (some ⟨w2.heap.size, 0, none⟩) 1 1, .slice (some ⟨w2.heap.size + 1, 0, none⟩) 1 1] 33)) = W3 at *
  have hbb : ∀ b o, A2 = some ⟨b, o, none⟩ → w.heap.size ≠ b := fun b o e => by have := HBB.out b o e; simp at this; omega
  generalize w2.heap.size = g at *
  obtain ⟨W9, hW9, hl9, hg9⟩ : ∃ W9, W3.setCells w.heap.size 0 [.int .i64 5, .slice A2 5 c2, .slice (some ⟨g + 1 + 1, 0, none⟩) 2 2] = W9 ∧ (loadVar 25 ⟨w.heap.size, 0, none⟩).run Tryz.prog W9 = .ok (.agg #[.int .i64 5, .slice A2 5 c2, .slice (some ⟨g + 1 + 1, 0, none⟩) 2 2]) W9 ∧ W3.grownBy W9 (some w.heap.size) :=
    ⟨_, rfl, run_loadVar_mid (P := Tryz.prog) _ w.heap.size 0 25 [.int .i64 5, .slice A2 5 c2, .slice (some ⟨g + 1 + 1, 0, none⟩) 2 2] _ (World.rangeAt_setCells_same W3 w.heap.size 0 _ (blk_there G0.out rfl)) Tryz.underlying25 rfl info25', only_setCells _ _ _ (only_refl _ _)⟩
  rw [hW9]
  have q3 := (G3.out.grown hg9 (fun e => hne _ (Nat.le_refl _) (Option.some.inj e).symm))
  have q4 := (G4.out.grown hg9 (fun e => hne _ (Nat.le_succ _) (Option.some.inj e).symm))
  have q5 := (G5.out.grown hg9 (fun e => hne (g + 1 + 1) (by omega) (Option.some.inj e).symm))
  refine bodyPost_ret (v := .agg #[.int .i64 5, .slice A2 5 c2, .slice (some ⟨g + 1 + 1, 0, none⟩) 2 2]) (by simp [results, Tryz.results32, Act.put, asAddr, hl9]) rfl ⟨_, _, _, _, rfl, ⟨?_, ?_⟩, (HA2.out.trans GA.out).grown hg9 (fun k e => by cases e; exact Nat.le_refl _)⟩
  · exact strs_grown (HS2.out.aft GA.out) hg9 (fun b o e e2 => hbb b o e (Option.some.inj e2).symm)
  · refine ⟨by decide, .inr ⟨g + 1 + 1, 0, rfl, q5.lt, fun i hi => ?_⟩⟩
    match i, hi with
    | 0, _ => exact ⟨[.slice (some ⟨g, 0, none⟩) 1 1], rfl, ⟨_, 1, rfl, Nums.ints q3 (nums_self [0]) (by show 1 ≤ 17592186043904; decide)⟩, fun j hj => by
        have : j = 0 := by simpa using hj
        subst this
        exact q5.cell 0⟩
    | 1, _ => exact ⟨[.slice (some ⟨g + 1, 0, none⟩) 1 1], rfl, ⟨_, 1, rfl, Nums.ints q4 (nums_self [3]) (by show 1 ≤ 17592186043904; decide)⟩, fun j hj => by
        have : j = 0 := by simpa using hj
        subst this
        exact q5.cell 1⟩
end Go.Proofs
end

section
namespace Go.Proofs
open Go.RowKit
open Court (refL begF noS struckB nextR strikeL canB coverB grow)
attribute [local go_sem] Oper.semAt_some

set_option maxRecDepth 100000 in
set_option maxHeartbeats 2000000 in
theorem always_good (C : CaseL) (a1 a2 : Option Addr) (c1 c2 : Nat) (R : List Int) (A : Option Addr) (c : Nat) (w : World) (hC : CRep w C a1 a2) (hA : Ints w A R) (he : alwaysE C R = 0) :
    Calls Tryz.prog 30 #[(.agg #[.int .i64 C.claims, .slice a1 C.strikes.length c1, .slice a2 C.surveys.length c2]), .slice A R.length c] w (GoodI (alwaysL C R) w) := by
  have H0 := Lib.hid (Aft.alloc w (.cells #[.int .i64 C.claims, .slice a1 C.strikes.length c1, .slice a2 C.surveys.length c2] 25))
  unfold alwaysE at he
  have h1 : openE C R = 0 := by
    by_cases h1 : openE C R = 0
    · exact h1
    · rw [if_neg h1] at he; exact he
  rw [if_pos h1] at he
  have h2 : fullsA C R ≠ [] := fun h => by rw [if_pos h] at he; cases he
  have H1 : Hid (∀ W, Aft w W → Calls Tryz.prog 68 #[(.agg #[.int .i64 C.claims, .slice a1 C.strikes.length c1, .slice a2 C.surveys.length c2]), .slice A R.length c] W (Opened C a1 a2 c1 c2 R W)) := Lib.hid fun W h => opened_good C a1 a2 c1 c2 R A c W (hC.aft h) (hA.aft h) h1
  have H2 := Lib.hid (fulls_all C a1 a2 c1 c2 R h1)
  obtain ⟨hT, hTl⟩ := fulls_len C R h1
  unfold GoodI alwaysL
  clear hC hA h1 he
  generalize fullsA C R = T at *
  obtain ⟨l0, hl0⟩ : ∃ l0, T.headD [] = l0 := ⟨_, rfl⟩
  have h0 : 0 < T.length := List.length_pos_iff.2 h2
  have hl00 : T[0] = l0 := by rw [← hl0]; cases T with | nil => exact absurd rfl h2 | cons x r => rfl
  have hl14 : l0.length ≤ 14 := by rw [← hl00]; exact hTl _ (List.getElem_mem h0)
  rw [hl0]
  have HL0 := Lib.hid hl00
  have t1 : ((T.length : Int) == 0) = false := by simp; omega
  have HTL := Lib.hid (show ∀ x ∈ T, x.length ≤ 17592186043904 from fun x hx => by have := hTl x hx; omega)
  have i0 : (0 : Int) ≤ 0 ∧ (0 : Int) < (T.length : Int) := by omega
  clear h2 hTl hl0 hl00
  go_enter Tryz.func30, Tryz.ntmps30
  go_upto_region 7 with (first | (go_at_call 68; refine (H1.out _ H0.out).mono ?_; rintro e w1 ⟨d, rfl, hd⟩; have HD := Lib.hid hd; clear hd) | (go_at_call 74; refine (H2.out _ _ _ HD.out).mono ?_; rintro e w2 ⟨v, rfl, hov, ha2⟩; obtain ⟨A9, c9, rfl, _, hli⟩ := hov.lists (by omega) HTL.out; have HLI := Lib.hid hli; have HA2 := Lib.hid ((H0.out.trans HD.out.aft).trans ha2); clear ha2 hov hli))
  have HA3 := Lib.hid (HA2.out.then_alloc (.cells #[.slice A9 T.length c9] 23))
  have HL3 := Lib.hid (HLI.out.aft (Aft.alloc w2 (.cells #[.slice A9 T.length c9] 23)))
  have HB3 := Lib.hid (Blk.new w2 23 #[.slice A9 T.length c9])
  clear HLI HA2
  generalize w2.alloc (.cells #[.slice A9 T.length c9] 23) = W3 at *
  generalize w2.heap.size = b8 at *
  obtain ⟨b9, o9, rfl, hb9, hc9⟩ := HL3.out.at h0
  obtain ⟨A1, c1', x0, hi0⟩ := hc9 0 h0
  rw [HL0.out, Nat.add_zero] at x0
  rw [HL0.out] at hi0
  have y0 : W3.cell? ⟨b8, 0, none⟩ = some (.slice (some ⟨b9, o9, none⟩) T.length c9) := HB3.out.cell 0
  have y1 := HB3.out.lt
  have HI0 := Lib.hid hi0
  have hll := hi0.len
  clear hc9 hi0
  obtain ⟨Z, hZ, hmk⟩ : ∃ Z : Array Value, Z.size = l0.length ∧ (Instr.makeSlice 33 (.int .i64 l0.length) (.int .i64 l0.length)).run Tryz.prog W3 = .ok (.slice (some ⟨W3.heap.size, 0, none⟩) l0.length l0.length) (W3.alloc (.cells Z 3)) := by
    obtain ⟨ht, ⟨i, z, hi, hz, hsize, hby, hzs⟩, hsz⟩ := ty24
    have h := run_makeSlice (P := Tryz.prog) (w := W3) 33 3 i z ht hi hz .i64 .i64 l0.length l0.length (by omega) (Int.le_refl _) (by rw [hsize]; simp; omega) (by rw [hby]; omega) (by omega)
    rw [Int.toNat_natCast, hsize, Nat.mul_one] at h
    exact ⟨_, size_madeCells _ _, h⟩
  have HZ := Lib.hid hZ
  clear hZ
  go_upto_region 8 with (fail)
  clear hmk
  have HBZ := Lib.hid (Blk.new W3 3 Z)
  have HAZ := Lib.hid (Aft.alloc W3 (.cells Z 3))
  obtain ⟨W5, hcp, hd5, hn5, hg5⟩ : ∃ W5, (Builtin.copy_ #[33, 33] 3 #[.slice (some ⟨W3.heap.size, 0, none⟩) l0.length l0.length, .slice A1 l0.length c1']).run Tryz.prog (W3.alloc (.cells Z 3)) = .ok (.int .i64 l0.length) W5 ∧ (∃ cs, Blk W5 W3.heap.size 3 cs ∧ Nums cs l0) ∧ True ∧ (W3.alloc (.cells Z 3)).grownBy W5 (some W3.heap.size) := by
    have i3 : (Tryz.prog.info? 3).map (·.size) = some 1 := by kernel_rfl
    by_cases h00 : 0 < l0.length
    · obtain ⟨bF, oF, rfl, -⟩ := ints_mem HI0.out h00
      have h := run_copy_row (P := Tryz.prog) (W3.alloc (.cells Z 3)) 33 33 3 3 W3.heap.size 0 l0.length l0.length ⟨bF, oF, none⟩ l0.length c1' Z 3 (l0.map (Value.int .i64)) Tryz.underlying33 i3 HBZ.out (by rw [List.length_map]; exact (Nat.min_self _).symm) (ints_src (HI0.out.aft HAZ.out) _ rfl) (by rw [List.length_map, HZ.out]; omega) (ints_one l0)
      rw [List.length_map] at h
      refine ⟨_, h, ⟨_, setRow_heap _ W3.heap.size Z _ 3 _ HBZ.out, ?_⟩, trivial, only_setRow _ _ _⟩
      refine ⟨by simp, fun t ht => ?_⟩
      simp only [List.getElem?_toArray, List.take_zero, List.nil_append, Nat.zero_add]
      rw [List.getElem?_append_left (by simpa using ht)]
      simp [ht]
    · have e0 : l0 = [] := List.eq_nil_of_length_eq_zero (by omega)
      subst e0
      exact ⟨_, run_copy_none (P := Tryz.prog) _ 33 33 3 3 _ _ _ _ _ _ Tryz.underlying33 i3 rfl, ⟨_, HBZ.out, ⟨by simp, fun t ht => by simp at ht⟩⟩, trivial, ⟨rfl, rfl, rfl, Nat.le_refl _, fun _ _ _ => rfl⟩⟩
  have HD5 := Lib.hid hd5
  have HG5 := Lib.hid hg5
  clear hd5 hn5 hg5
  have y0 : (W3.alloc (.cells Z 3)).cell? ⟨b8, 0, none⟩ = some (.slice (some ⟨b9, o9, none⟩) T.length c9) := (HB3.out.aft HAZ.out).cell 0
  go_upto_region 9 with (fail)
  clear hcp
  have HA5 : Hid (Aft W3 W5) := Lib.hid (HAZ.out.grown HG5.out (fun k e => by cases e; exact Nat.le_refl _))
  have hlt := HB3.out.lt
  have HDEL : Hid (Calls Tryz.prog 47 #[.slice (some ⟨W3.heap.size, 0, none⟩) l0.length l0.length, .func (.func 77) #[] #[.pointer (some ⟨b8, 0, none⟩)]] W5 fun e w' => ∃ c, e = .returned (.slice (some ⟨W3.heap.size, 0, none⟩) (l0.filter fun n => !(T.any fun x => !hasB x n)).length c) ∧ Ints w' (some ⟨W3.heap.size, 0, none⟩) (l0.filter fun n => !(T.any fun x => !hasB x n)) ∧ Aft W3 w') := Lib.hid (by
    obtain ⟨cs, hb, hn⟩ := HD5.out
    refine (deleteFunc_blk (fun W => Aft W3 W) W3.heap.size (fun W W' h h' => h.trans h') (fun W i v h => h.then_setCell (Nat.le_refl _) _) 77 [.pointer (some ⟨b8, 0, none⟩)] (fun n => T.any fun x => !hasB x n) l0 l0.length cs W5 (by omega) hb hn (Nat.le_refl _) HA5.out runs_77 (fun x hx W hW => always1_any _ T c9 x b8 W (HL3.out.aft hW) (HB3.out.aft hW))).mono ?_
    rintro e w' ⟨rfl, hg, cs', _, hb', hn'⟩
    exact ⟨_, rfl, Nums.ints hb' hn' (Nat.le_trans (List.length_filter_le _ _) (by omega)), HA5.out.grown hg (fun k e => by cases e; exact Nat.le_refl _)⟩)
  go_wp2_with (go_at_call 47; refine HDEL.out.mono ?_; rintro e w6 ⟨c6, rfl, hi6, ha6⟩; have HI6 := Lib.hid hi6; have HA6 := Lib.hid ha6; clear hi6 ha6)
  go_ret2
  exact ⟨_, c6, rfl, HI6.out, HA3.out.trans HA6.out⟩
end Go.Proofs
end

section
namespace Go.Proofs
open Go.RowKit

set_option maxHeartbeats 1000000 in
theorem cloneAll_any (w : World) (A : Option Addr) (ls : List (List Int)) (c : Nat) (hA : Lists w A ls) (hl : ls.length ≤ 1000) :
    Calls Tryz.prog 53 #[.slice A ls.length c] w fun e w' => ∃ v, e = .returned v ∧ OwnLists w' w.heap.size v ls ∧ Aft w w' := by
  go_enter Tryz.func53, Tryz.ntmps53
  go_wp2_with fail
  go_loopw [3, 8] (fun v i wr => ∃ k : Nat, i = .int .i64 k ∧ k ≤ ls.length ∧ Aft w wr ∧ ∃ vs, OwnLs wr w.heap.size v vs (ls.take k)) (fun _ i _ => ls.length - (intOf i).toNat)
  case atStart => exact ⟨0, rfl, by omega, Aft.refl _, [], OwnLs.nil⟩
  case round =>
    obtain ⟨k, rfl, hk, hw, vs, hown⟩ := hrel
    have HO := Lib.hid hown
    clear hown
    by_cases hkl : k < ls.length
    · obtain ⟨b, o, rfl, hb, hc⟩ := (hA.aft hw).at hkl
      obtain ⟨Ai, ci, h1, h2⟩ := hc k hkl
      have hlr := h2.len
      have HCL := Lib.hid (kitClone_int Ai ls[k] ci wr h2)
      have HT := Lib.hid (show ls.take (k + 1) = ls.take k ++ [ls[k]] from List.take_succ_eq_append_getElem hkl)
      have hll : (ls.take k).length ≤ 1000000 := by rw [List.length_take]; omega
      have hws : w.heap.size ≤ wr.heap.size := hw.size
      clear hc h2
      generalize ls[k] = r at *
      go_wp2_with (first
        | (go_at_call 24; refine HCL.out.mono ?_; rintro e w1 ⟨v1, rfl, hrow, u, rfl⟩; obtain ⟨A1, c1, rfl, _, _⟩ := own_ints hrow hlr; have HROW := Lib.hid hrow; clear hrow)
        | (at_builtin; refine wpList_app_list rfl _ _ rfl (W := wr) HO.out hws rfl rfl (cell_new1 _ _ _) rfl ((Aft.lat _ _).then_alloc _) (own_aft HROW.out (Aft.alloc _ _)) hll ?_; intro v' vs' w5 hown5 hg5))
      have hlt : ∀ g, u3.ownBlock = some g → w.heap.size ≤ g := fun g hg => (HO.out.own.lt g hg).1
      refine ⟨⟨k + 1, by go_num, by omega, (((hw.then_lat u).then_alloc _).grown hg5 hlt), vs', ?_⟩, by simp [intOf]; omega⟩
      rw [HT.out]
      exact hown5
    · obtain rfl : k = ls.length := by omega
      have ho := HO.out
      rw [List.take_of_length_le (Nat.le_refl _)] at ho
      go_wp2_with fail
      go_ret
      exact ⟨_, rfl, ⟨vs, ho⟩, hw⟩

set_option maxRecDepth 100000 in
set_option maxHeartbeats 1000000 in
theorem equalAll_any (w : World) (A A' : Option Addr) (l l' : List (List Int)) (c c' : Nat) (hA : Lists w A l) (hA' : Lists w A' l') :
    Calls Tryz.prog 29 #[.slice A l.length c, .slice A' l'.length c'] w fun e w' => e = .returned (.bool (eqB l l')) ∧ Aft w w' := by
  have hl := hA.len
  have hl' := hA'.len
  go_enter Tryz.func29, Tryz.ntmps29
  go_wp2_with fail
  go_loopw [8] (fun i wr => ∃ k : Nat, i = .int .i64 k ∧ k ≤ l.length ∧ k ≤ l'.length ∧ (∀ j, (h : j < l.length) → (h' : j < l'.length) → j < k → l[j] = l'[j]) ∧ Aft w wr) (fun i _ => l.length - (intOf i).toNat)
  case atStart => exact ⟨0, rfl, by omega, by omega, fun j _ _ h => by omega, Aft.refl _⟩
  case round =>
    obtain ⟨k, rfl, hk, hk', hh, hw⟩ := hrel
    have HH := Lib.hid hh
    clear hh
    by_cases hkl : k < l.length
    · by_cases hkl' : k < l'.length
      · obtain ⟨b, o, rfl, hb, hc⟩ := (hA.aft hw.then_drew).at hkl
        obtain ⟨A1, c1, h1, h2⟩ := hc k hkl
        obtain ⟨b', o', rfl, hb', hc'⟩ := (hA'.aft hw.then_drew).at hkl'
        obtain ⟨A2, c2, h1', h2'⟩ := hc' k hkl'
        have HEQ := Lib.hid (kitEqual_int A1 A2 l[k] l'[k] c1 c2 wr.drew h2 h2')
        have HST := Lib.hid (show l[k] = l'[k] → ∀ j, (h : j < l.length) → (h' : j < l'.length) → j < k + 1 → l[j] = l'[j] from fun e j h h' hj => by
          by_cases e2 : j = k
          · subst e2; exact e
          · exact HH.out j h h' (by omega))
        have HNE := Lib.hid (show ¬ l[k] = l'[k] → eqB l l' = false from fun e => decide_eq_false fun e2 => e (by subst e2; rfl))
        have hge : decide (l'.length ≤ k) = false := by simp; omega
        have i1 : (0 : Int) ≤ (k : Int) ∧ (k : Int) < (l.length : Int) := by omega
        have i2 : (0 : Int) ≤ (k : Int) ∧ (k : Int) < (l'.length : Int) := by omega
        clear hc hc' h2 h2'
        generalize l[k] = r at *
        generalize l'[k] = r' at *
        cases he : eqB r r'
        all_goals
          rw [he] at HEQ
          have HE := Lib.hid he
          clear he
          go_wp2_with fail
          refine wp_region_tail 13 (by kernel_rfl) (by kernel_rfl) ?_
          simp only [List.take_succ_cons, List.take_zero, List.drop_succ_cons, List.drop_zero]
          repeat (first | go_big_quiet_skip | (go_big_quiet_want; go_big_quiet_op; go_big_quiet_on))
          refine wpQuiet_nil ?_
          go_wp2_with (go_at_call 17; refine HEQ.out.mono ?_; rintro e w2 ⟨rfl, ha⟩)
        · go_ret
          exact ⟨ret_bool (HNE.out (of_decide_eq_false HE.out)).symm, hw.then_drew.trans ha⟩
        · refine ⟨⟨k + 1, by go_num, by omega, by omega, HST.out (of_decide_eq_true HE.out), hw.then_drew.trans ha⟩, by simp [intOf]; omega⟩
      · have hge : decide (l'.length ≤ k) = true := by simp; omega
        go_wp2_with fail
        refine wp_region_tail 13 (by kernel_rfl) (by kernel_rfl) ?_
        simp only [List.take_succ_cons, List.take_zero, List.drop_succ_cons, List.drop_zero]
        repeat (first | go_big_quiet_skip | (go_big_quiet_want; go_big_quiet_op; go_big_quiet_on))
        refine wpQuiet_nil ?_
        go_wp2_with fail
        go_ret
        exact ⟨ret_bool (decide_eq_false fun e => by subst e; omega).symm, hw.then_drew⟩
    · go_wp2_with fail
      go_ret
      refine ⟨ret_bool ?_, hw⟩
      unfold eqB
      by_cases e : l.length = l'.length
      · rw [e]
        have : l = l' := eq_of_steps l l' (fun i h h' => HH.out i h h' (by omega)) e
        rw [decide_eq_true this]; simp
      · rw [decide_eq_false (fun e2 => e (by rw [e2]))]
        simp; omega
end Go.Proofs
end

section
namespace Go.Proofs
open Go.RowKit
open Court (refL begF noS award winB tryW FewIs hears)
set_option maxRecDepth 100000
theorem aw_r : foundL (award fiveC.strikes noS 5 (begF (refL []))) 5 = [1,2,0,0,0] := by kernel_rfl
theorem aw_r0 : foundL (award fiveC.strikes noS 5 (begF (refL [0]))) 5 = [2,1,2,1,2] := by kernel_rfl
theorem aw_e : openE fiveC [] = 0 := by kernel_rfl
theorem aw_e0 : openE fiveC [0] = 0 := by kernel_rfl
theorem aw_he : holdsE fiveC [] [1,2,0,0,0] [1,2,0,0,0] = 0 := by kernel_rfl
theorem aw_hb : ((List.range 5).all fun n => heldB fiveC.strikes noS (refL []) (overF [1,2,0,0,0] (begF (refL []))) (overF [1,2,0,0,0] fun _ => 0) (n : Nat)) = true := by kernel_rfl
theorem aw_fe : fullE fiveC [] = 0 := by kernel_rfl
theorem aw_fl : fullsL fiveC [] = [[0,2,4],[0,3]] := by kernel_rfl
theorem aw_ae : alwaysE fiveC [] = 0 := by kernel_rfl
theorem aw_al : alwaysL fiveC [] = [0] := by kernel_rfl
theorem aw_de : decidingE fiveC 0 = 0 := by kernel_rfl
theorem aw_dl : idxL (fun (i : Nat) => decidesB fiveC 0 i) 14 = [0, 1] := by kernel_rfl
theorem aw_se : surveyingE fiveC 4 = 0 := by kernel_rfl
theorem aw_sl : idxL (fun i => decidesB fiveC i 4) 2 = [1] := by kernel_rfl
theorem aw_we : fewE fiveC 4 = 0 := by kernel_rfl
theorem aw_w0 : tryW fiveC.strikes 5 4 5 0 0 [] = none := by kernel_rfl
theorem aw_w1 : tryW fiveC.strikes 5 4 5 0 1 [] = some [3] := by kernel_rfl
theorem aw_oe : heardE fiveC [] [4,3,2,1,0] = 0 := by kernel_rfl
theorem aw_ol : foundL (hears fiveC.strikes noS (begF (refL [])) [4,3,2,1,0]) 5 = [1,0,0,0,0] := by kernel_rfl
theorem few_five {L : List Int} (h : FewIs fiveC.strikes 5 4 L) : L = [3] := by
  obtain ⟨m, h1, h2⟩ := h
  match m, h1, h2 with
  | 0, h1, _ => rw [aw_w0] at h1; cases h1
  | 1, h1, _ => rw [aw_w1] at h1; cases h1; rfl
  | m + 2, _, h2 => have := h2 1 (by omega); rw [aw_w1] at this; cases this
theorem sorted_two {L : List (List Int)} (hp : L.Perm [[0,2,4],[0,3]]) (hs : SortedZ L) : L = [[0,2,4],[0,3]] :=
  sortedZ_eq hp hs (List.Pairwise.cons (fun y hy => by rw [List.mem_singleton] at hy; subst hy; decide) (List.Pairwise.cons (fun y hy => by cases hy) List.Pairwise.nil))

def AwG (n : Nat) (L : List Int) (W : World) (e : Ending) (w' : World) : Prop := Aft W w' ∧ ∃ A c, e = .returned (.tuple #[.slice A n c, .int .i64 0]) ∧ Ints w' A L
theorem al1 (w : World) (t : TypeId) (cs : Array Value) : Blk (w.alloc (.cells cs t)) w.heap.size t cs := Blk.new w t cs
theorem al2 (w : World) (x : Obj) (t : TypeId) (cs : Array Value) : Blk ((w.alloc x).alloc (.cells cs t)) (w.heap.size + 1) t cs := by
  have h := Blk.new (w.alloc x) t cs
  rwa [World.size_alloc] at h
theorem al3 (w : World) (x y : Obj) (t : TypeId) (cs : Array Value) : Blk (((w.alloc x).alloc y).alloc (.cells cs t)) (w.heap.size + 1 + 1) t cs := by
  have h := al2 (w.alloc x) y t cs
  rwa [World.size_alloc] at h
theorem lists_blk33 {w : World} {b : Nat} {cs : Array Value} {l : List (List Int)} (hb : Blk w b 33 cs) (hl : l.length ≤ 17592186043904)
    (h : ∀ i, (hi : i < l.length) → ∃ A c, cs[i]? = some (.slice A l[i].length c) ∧ Ints w A l[i]) : Lists w (some ⟨b, 0, none⟩) l := by
  refine ⟨by simpa using hl, .inr ⟨b, 0, rfl, hb.lt, fun i hi => ?_⟩⟩
  obtain ⟨A, c, h1, h2⟩ := h i hi
  refine ⟨[.slice A l[i].length c], rfl, ⟨A, c, rfl, h2⟩, fun j hj => ?_⟩
  have : j = 0 := by simp at hj; omega
  subst this
  have := (hb.cell i).trans h1
  simpa using this
section
variable {W : World} {a1 a2 : Option Addr} {c1 c2 : Nat}
theorem ints_none (W : World) : Ints W none [] := ⟨by simp, .inl rfl⟩
theorem aw39 (hC : CRep W fiveC a1 a2) : Calls Tryz.prog 39 #[.agg #[.int .i64 5, .slice a1 5 c1, .slice a2 2 c2], .slice none 0 0] W (AwG 5 [1,2,0,0,0] W) := by
  refine (award_good fiveC a1 a2 c1 c2 [] none 0 W hC (ints_none W) aw_e 5 rfl).mono ?_
  rintro e w' ⟨v, rfl, hv, ha⟩
  rw [aw_r] at hv
  obtain ⟨A, c, rfl, _, hi⟩ := own_ints hv (by decide)
  exact ⟨ha, A, c, rfl, hi⟩
theorem aw43 (hC : CRep W fiveC a1 a2) {g k : Nat} (hg : Blk W g 3 #[.int .i64 1, .int .i64 2, .int .i64 0, .int .i64 0, .int .i64 0]) (hk : Blk W k 3 #[.int .i64 1, .int .i64 2, .int .i64 0, .int .i64 0, .int .i64 0]) : Calls Tryz.prog 43 #[.agg #[.int .i64 5, .slice a1 5 c1, .slice a2 2 c2], .slice none 0 0, .slice (some ⟨g, 0, none⟩) 5 5, .slice (some ⟨k, 0, none⟩) 5 5] W fun e w' => e = .returned (.tuple #[.bool true, .int .i64 0]) ∧ Aft W w' := by
  have h := holds_good fiveC a1 a2 c1 c2 [] [1,2,0,0,0] [1,2,0,0,0] none (some ⟨g, 0, none⟩) (some ⟨k, 0, none⟩) 0 5 5 W hC (ints_none W) (Nums.ints hg (nums_self [1,2,0,0,0]) (by decide)) (Nums.ints hk (nums_self [1,2,0,0,0]) (by decide)) aw_he 5 rfl
  rw [aw_hb] at h
  exact h
theorem aw27 (hC : CRep W fiveC a1 a2) : Calls Tryz.prog 27 #[.agg #[.int .i64 5, .slice a1 5 c1, .slice a2 2 c2], .slice none 0 0] W fun e w' => Aft W w' ∧ ∃ A c, e = .returned (.tuple #[.slice A 2 c, .int .i64 0]) ∧ Lists w' A [[0,2,4],[0,3]] := by
  refine (full27_good fiveC a1 a2 c1 c2 [] none 0 W hC (ints_none W) aw_fe).mono ?_
  rintro e w' ⟨A, c, L, rfl, hL, hp, hs, ha⟩
  rw [aw_fl] at hp
  have := sorted_two hp hs
  subst this
  exact ⟨ha, A, c, rfl, hL⟩
theorem aw30 (hC : CRep W fiveC a1 a2) : Calls Tryz.prog 30 #[.agg #[.int .i64 5, .slice a1 5 c1, .slice a2 2 c2], .slice none 0 0] W (AwG 1 [0] W) := by
  refine (always_good fiveC a1 a2 c1 c2 [] none 0 W hC (ints_none W) aw_ae).mono ?_
  rintro e w' ⟨A, c, rfl, hi, ha⟩
  rw [aw_al] at hi ⊢
  exact ⟨ha, A, c, rfl, hi⟩
theorem aw39b (hC : CRep W fiveC a1 a2) {g : Nat} (hg : Blk W g 3 #[.int .i64 0]) : Calls Tryz.prog 39 #[.agg #[.int .i64 5, .slice a1 5 c1, .slice a2 2 c2], .slice (some ⟨g, 0, none⟩) 1 1] W (AwG 5 [2,1,2,1,2] W) := by
  refine (award_good fiveC a1 a2 c1 c2 [0] (some ⟨g, 0, none⟩) 1 W hC (Nums.ints hg (nums_self [0]) (by decide)) aw_e0 5 rfl).mono ?_
  rintro e w' ⟨v, rfl, hv, ha⟩
  rw [aw_r0] at hv
  obtain ⟨A, c, rfl, _, hi⟩ := own_ints hv (by decide)
  exact ⟨ha, A, c, rfl, hi⟩
theorem aw15 (hC : CRep W fiveC a1 a2) : Calls Tryz.prog 15 #[.agg #[.int .i64 5, .slice a1 5 c1, .slice a2 2 c2], .int .i64 0] W (AwG 2 [0, 1] W) := by
  refine (decides15_good fiveC a1 a2 c1 c2 0 W hC aw_de).mono ?_
  rintro e w' ⟨A, c, rfl, hi, ha⟩
  rw [aw_dl] at hi ⊢
  exact ⟨ha, A, c, rfl, hi⟩
theorem aw18 (hC : CRep W fiveC a1 a2) : Calls Tryz.prog 18 #[.agg #[.int .i64 5, .slice a1 5 c1, .slice a2 2 c2], .int .i64 4] W (AwG 1 [1] W) := by
  refine (surveys_good fiveC a1 a2 c1 c2 4 W hC aw_se).mono ?_
  rintro e w' ⟨A, c, rfl, hi, ha⟩
  have e2 : idxL (fun i => decidesB fiveC i (4 : Nat)) fiveC.surveys.length = [1] := aw_sl
  rw [e2] at hi ⊢
  exact ⟨ha, A, c, rfl, hi⟩
theorem aw20 (hC : CRep W fiveC a1 a2) : Calls Tryz.prog 20 #[.agg #[.int .i64 5, .slice a1 5 c1, .slice a2 2 c2], .int .i64 4] W (AwG 1 [3] W) := by
  refine (few20_good fiveC a1 a2 c1 c2 4 W hC aw_we).mono ?_
  rintro e w' ⟨L, hf, v, rfl, hv, ha⟩
  have := few_five hf
  subst this
  obtain ⟨A, c, rfl, _, hi⟩ := own_ints hv (by decide)
  exact ⟨ha, A, c, rfl, hi⟩
theorem aw35 (hC : CRep W fiveC a1 a2) {g : Nat} (hg : Blk W g 3 #[.int .i64 4, .int .i64 3, .int .i64 2, .int .i64 1, .int .i64 0]) : Calls Tryz.prog 35 #[.agg #[.int .i64 5, .slice a1 5 c1, .slice a2 2 c2], .slice none 0 0, .slice (some ⟨g, 0, none⟩) 5 5] W (AwG 5 [1,0,0,0,0] W) := by
  refine (heard_good fiveC a1 a2 c1 c2 [] [4,3,2,1,0] none (some ⟨g, 0, none⟩) 0 5 W hC (ints_none W) (Nums.ints hg (nums_self [4,3,2,1,0]) (by decide)) aw_oe 5 rfl).mono ?_
  rintro e w' ⟨v, rfl, hv, ha⟩
  rw [aw_ol] at hv
  obtain ⟨A, c, rfl, _, hi⟩ := own_ints hv (by decide)
  exact ⟨ha, A, c, rfl, hi⟩
theorem aw17 {X : World} {A A' : Option Addr} {c c' : Nat} (l : List Int) (hA : Ints X A l) (hA' : Ints X A' l) :
    Calls Tryz.prog 17 #[.slice A l.length c, .slice A' l.length c'] X fun e w' => e = .returned (.bool true) ∧ Aft X w' := by
  refine (kitEqual_int A A' l l c c' X hA hA').mono ?_
  rintro e w' ⟨rfl, ha⟩
  exact ⟨by simp [eqB], ha⟩
theorem aw29 {A : Option Addr} {c k1 k2 k : Nat} (hA : Lists W A [[0,2,4],[0,3]]) (h1 : Blk W k1 3 #[.int .i64 0, .int .i64 2, .int .i64 4]) (h2 : Blk W k2 3 #[.int .i64 0, .int .i64 3]) (hk : Blk W k 33 #[.slice (some ⟨k1, 0, none⟩) 3 3, .slice (some ⟨k2, 0, none⟩) 2 2]) :
    Calls Tryz.prog 29 #[.slice A 2 c, .slice (some ⟨k, 0, none⟩) 2 2] W fun e w' => e = .returned (.bool true) ∧ Aft W w' :=
  (equalAll_any W A _ [[0,2,4],[0,3]] [[0,2,4],[0,3]] c 2 hA (lists_blk33 hk (by decide) fun i hi => by
    match i, hi with
    | 0, _ => exact ⟨_, 3, rfl, Nums.ints h1 (nums_self [0,2,4]) (show ([0,2,4] : List Int).length ≤ 17592186043904 by decide)⟩
    | 1, _ => exact ⟨_, 2, rfl, Nums.ints h2 (nums_self [0,3]) (show ([0,3] : List Int).length ≤ 17592186043904 by decide)⟩)).mono fun e w' ⟨h, ha⟩ => ⟨by rw [h]; simp [eqB], ha⟩
end
end Go.Proofs
end

section
namespace Go.Proofs
open Go.RowKit


set_option maxRecDepth 100000 in
set_option maxHeartbeats 4000000 in
theorem awake_any (w : World) : Calls Tryz.prog 12 #[] w fun e w' => e = .returned (.bool true) ∧ Aft w w' := by
  go_enter Tryz.func12, Tryz.ntmps12
  go_upto_region 2 with (first | (go_at_call 32; refine (five_any _).mono ?_; rintro e x ⟨a1, a2, c1, c2, rfl, hC, ha⟩; have HC := Lib.hid hC; have HA := Lib.hid ha; clear hC ha) | (go_at_call 39; refine (aw39 HC.out).mono ?_; rintro e x1 ⟨ha, A1, d1, rfl, hi⟩; have HA := Lib.hid (HA.out.trans ha); have H1 := Lib.hid hi; clear hi ha))
  clear HC
  go_upto_region 3 with (first | (go_at_call 32; refine (five_any _).mono ?_; rintro e x2 ⟨a1, a2, c1, c2, rfl, hC, ha⟩; have HC := Lib.hid hC; have H1 := Lib.hid (H1.out.aft ha); have HA := Lib.hid (HA.out.trans ha); clear hC ha) | (go_at_call 43; refine (aw43 (HC.out.aft ((Aft.alloc _ _).then_alloc _)) ((al1 _ _ _).alloc _) (al2 _ _ _ _)).mono ?_; rintro e x3 ⟨rfl, ha⟩; have H1 := Lib.hid (H1.out.aft (((Aft.alloc _ _).then_alloc _).trans ha)); have HA := Lib.hid (HA.out.trans (((Aft.alloc _ _).then_alloc _).trans ha)); clear ha))
  clear HC
  go_upto_region 4 with (first | (go_at_call 32; refine (five_any _).mono ?_; rintro e x4 ⟨a1, a2, c1, c2, rfl, hC, ha⟩; have HC := Lib.hid hC; have H1 := Lib.hid (H1.out.aft ha); have HA := Lib.hid (HA.out.trans ha); clear hC ha) | (go_at_call 27; refine (aw27 HC.out).mono ?_; rintro e x5 ⟨ha, A3, d3, rfl, hl⟩; have H3 := Lib.hid hl; have H1 := Lib.hid (H1.out.aft ha); have HA := Lib.hid (HA.out.trans ha); clear ha hl))
  clear HC
  go_upto_region 5 with (first | (go_at_call 32; refine (five_any _).mono ?_; rintro e x6 ⟨a1, a2, c1, c2, rfl, hC, ha⟩; have HC := Lib.hid hC; have H1 := Lib.hid (H1.out.aft ha); have H3 := Lib.hid (H3.out.aft ha); have HA := Lib.hid (HA.out.trans ha); clear hC ha) | (go_at_call 30; refine (aw30 HC.out).mono ?_; rintro e x7 ⟨ha, A4, d4, rfl, hi⟩; have H4 := Lib.hid hi; have H1 := Lib.hid (H1.out.aft ha); have H3 := Lib.hid (H3.out.aft ha); have HA := Lib.hid (HA.out.trans ha); clear ha hi))
  clear HC
  apply wp_region_lit
  (repeat (first | go_big_skip | go_big_want | go_big_move | go_big_op | go_step | go_upon | go_back))
  go_at_call 17
  refine (aw17 [1,2,0,0,0] (H1.out.aft (Aft.alloc _ _)) (Nums.ints (al1 _ _ _) (nums_self [1,2,0,0,0]) (by decide))).mono ?_
  rintro e x ⟨rfl, ha⟩
  dsimp only
  have H3 := Lib.hid (H3.out.aft ((Aft.alloc _ _).trans ha))
  have H4 := Lib.hid (H4.out.aft ((Aft.alloc _ _).trans ha))
  have HA := Lib.hid (HA.out.trans ((Aft.alloc _ _).trans ha))
  clear ha H1
  (repeat (first | go_big_skip | go_big_want | go_big_move | go_big_op | go_step | go_upon | go_back))
  go_at_call 29
  refine (aw29 (H3.out.aft (((Aft.alloc _ _).then_alloc _).then_alloc _)) (((al1 _ _ _).alloc _).alloc _) ((al2 _ _ _ _).alloc _) (al3 _ _ _ _ _)).mono ?_
  rintro e x ⟨rfl, ha⟩
  dsimp only
  have H4 := Lib.hid (H4.out.aft ((((Aft.alloc _ _).then_alloc _).then_alloc _).trans ha))
  have HA := Lib.hid (HA.out.trans ((((Aft.alloc _ _).then_alloc _).then_alloc _).trans ha))
  clear ha H3
  (repeat (first | go_big_skip | go_big_want | go_big_move | go_big_op | go_step | go_upon | go_back))
  go_at_call 17
  refine (aw17 [0] (H4.out.aft (Aft.alloc _ _)) (Nums.ints (al1 _ _ _) (nums_self [0]) (by decide))).mono ?_
  rintro e x ⟨rfl, ha⟩
  dsimp only
  have HA := Lib.hid (HA.out.trans ((Aft.alloc _ _).trans ha))
  clear ha H4
  (repeat (first | go_big_skip | go_big_want | go_big_move | go_big_op | go_step | go_upon | go_back))
  go_at_call 32
  refine (five_any _).mono ?_
  rintro e x ⟨a1, a2, c1, c2, rfl, hC, ha⟩
  dsimp only
  have HC := Lib.hid hC
  have HA := Lib.hid (HA.out.trans ha)
  clear ha hC
  (repeat (first | go_big_skip | go_big_want | go_big_move | go_big_op | go_step | go_upon | go_back))
  go_at_call 39
  refine (aw39b (HC.out.aft (Aft.alloc _ _)) (al1 _ _ _)).mono ?_
  rintro e x ⟨ha, A5, d5, rfl, hi⟩
  dsimp only
  have H5 := Lib.hid hi
  have HA := Lib.hid (HA.out.trans ((Aft.alloc _ _).trans ha))
  clear ha hi HC
  (repeat (first | go_big_skip | go_big_want | go_big_move | go_big_op | go_step | go_upon | go_back))
  go_at_call 32
  refine (five_any _).mono ?_
  rintro e x ⟨a1, a2, c1, c2, rfl, hC, ha⟩
  dsimp only
  have HC := Lib.hid hC
  have H5 := Lib.hid (H5.out.aft (ha))
  have HA := Lib.hid (HA.out.trans ha)
  clear ha hC
  (repeat (first | go_big_skip | go_big_want | go_big_move | go_big_op | go_step | go_upon | go_back))
  go_at_call 15
  refine (aw15 HC.out).mono ?_
  rintro e x ⟨ha, A6, d6, rfl, hi⟩
  dsimp only
  have H6 := Lib.hid hi
  have H5 := Lib.hid (H5.out.aft (ha))
  have HA := Lib.hid (HA.out.trans (ha))
  clear ha hi HC
  (repeat (first | go_big_skip | go_big_want | go_big_move | go_big_op | go_step | go_upon | go_back))
  go_at_call 32
  refine (five_any _).mono ?_
  rintro e x ⟨a1, a2, c1, c2, rfl, hC, ha⟩
  dsimp only
  have HC := Lib.hid hC
  have H5 := Lib.hid (H5.out.aft (ha))
  have H6 := Lib.hid (H6.out.aft (ha))
  have HA := Lib.hid (HA.out.trans ha)
  clear ha hC
  (repeat (first | go_big_skip | go_big_want | go_big_move | go_big_op | go_step | go_upon | go_back))
  go_at_call 18
  refine (aw18 HC.out).mono ?_
  rintro e x ⟨ha, A7, d7, rfl, hi⟩
  dsimp only
  have H7 := Lib.hid hi
  have H5 := Lib.hid (H5.out.aft (ha))
  have H6 := Lib.hid (H6.out.aft (ha))
  have HA := Lib.hid (HA.out.trans (ha))
  clear ha hi HC
  (repeat (first | go_big_skip | go_big_want | go_big_move | go_big_op | go_step | go_upon | go_back))
  go_at_call 32
  refine (five_any _).mono ?_
  rintro e x ⟨a1, a2, c1, c2, rfl, hC, ha⟩
  dsimp only
  have HC := Lib.hid hC
  have H5 := Lib.hid (H5.out.aft (ha))
  have H6 := Lib.hid (H6.out.aft (ha))
  have H7 := Lib.hid (H7.out.aft (ha))
  have HA := Lib.hid (HA.out.trans ha)
  clear ha hC
  (repeat (first | go_big_skip | go_big_want | go_big_move | go_big_op | go_step | go_upon | go_back))
  go_at_call 20
  refine (aw20 HC.out).mono ?_
  rintro e x ⟨ha, A8, d8, rfl, hi⟩
  dsimp only
  have H8 := Lib.hid hi
  have H5 := Lib.hid (H5.out.aft (ha))
  have H6 := Lib.hid (H6.out.aft (ha))
  have H7 := Lib.hid (H7.out.aft (ha))
  have HA := Lib.hid (HA.out.trans (ha))
  clear ha hi HC
  (repeat (first | go_big_skip | go_big_want | go_big_move | go_big_op | go_step | go_upon | go_back))
  go_at_call 32
  refine (five_any _).mono ?_
  rintro e x ⟨a1, a2, c1, c2, rfl, hC, ha⟩
  dsimp only
  have HC := Lib.hid hC
  have H5 := Lib.hid (H5.out.aft (ha))
  have H6 := Lib.hid (H6.out.aft (ha))
  have H7 := Lib.hid (H7.out.aft (ha))
  have H8 := Lib.hid (H8.out.aft (ha))
  have HA := Lib.hid (HA.out.trans ha)
  clear ha hC
  (repeat (first | go_big_skip | go_big_want | go_big_move | go_big_op | go_step | go_upon | go_back))
  go_at_call 35
  refine (aw35 (HC.out.aft (Aft.alloc _ _)) (al1 _ _ _)).mono ?_
  rintro e x ⟨ha, A9, d9, rfl, hi⟩
  dsimp only
  have H9 := Lib.hid hi
  have H5 := Lib.hid (H5.out.aft ((Aft.alloc _ _).trans ha))
  have H6 := Lib.hid (H6.out.aft ((Aft.alloc _ _).trans ha))
  have H7 := Lib.hid (H7.out.aft ((Aft.alloc _ _).trans ha))
  have H8 := Lib.hid (H8.out.aft ((Aft.alloc _ _).trans ha))
  have HA := Lib.hid (HA.out.trans ((Aft.alloc _ _).trans ha))
  clear ha hi HC
  (repeat (first | go_big_skip | go_big_want | go_big_move | go_big_op | go_step | go_upon | go_back))
  go_at_call 17
  refine (aw17 [2,1,2,1,2] (H5.out.aft (Aft.alloc _ _)) (Nums.ints (al1 _ _ _) (nums_self [2,1,2,1,2]) (by decide))).mono ?_
  rintro e x ⟨rfl, ha⟩
  dsimp only
  have H6 := Lib.hid (H6.out.aft ((Aft.alloc _ _).trans ha))
  have H7 := Lib.hid (H7.out.aft ((Aft.alloc _ _).trans ha))
  have H8 := Lib.hid (H8.out.aft ((Aft.alloc _ _).trans ha))
  have H9 := Lib.hid (H9.out.aft ((Aft.alloc _ _).trans ha))
  have HA := Lib.hid (HA.out.trans ((Aft.alloc _ _).trans ha))
  clear ha H5
  (repeat (first | go_big_skip | go_big_want | go_big_move | go_big_op | go_step | go_upon | go_back))
  go_at_call 17
  refine (aw17 [0,1] (H6.out.aft (Aft.alloc _ _)) (Nums.ints (al1 _ _ _) (nums_self [0,1]) (by decide))).mono ?_
  rintro e x ⟨rfl, ha⟩
  dsimp only
  have H7 := Lib.hid (H7.out.aft ((Aft.alloc _ _).trans ha))
  have H8 := Lib.hid (H8.out.aft ((Aft.alloc _ _).trans ha))
  have H9 := Lib.hid (H9.out.aft ((Aft.alloc _ _).trans ha))
  have HA := Lib.hid (HA.out.trans ((Aft.alloc _ _).trans ha))
  clear ha H6
  (repeat (first | go_big_skip | go_big_want | go_big_move | go_big_op | go_step | go_upon | go_back))
  go_at_call 17
  refine (aw17 [1] (H7.out.aft (Aft.alloc _ _)) (Nums.ints (al1 _ _ _) (nums_self [1]) (by decide))).mono ?_
  rintro e x ⟨rfl, ha⟩
  dsimp only
  have H8 := Lib.hid (H8.out.aft ((Aft.alloc _ _).trans ha))
  have H9 := Lib.hid (H9.out.aft ((Aft.alloc _ _).trans ha))
  have HA := Lib.hid (HA.out.trans ((Aft.alloc _ _).trans ha))
  clear ha H7
  (repeat (first | go_big_skip | go_big_want | go_big_move | go_big_op | go_step | go_upon | go_back))
  go_at_call 17
  refine (aw17 [3] (H8.out.aft (Aft.alloc _ _)) (Nums.ints (al1 _ _ _) (nums_self [3]) (by decide))).mono ?_
  rintro e x ⟨rfl, ha⟩
  dsimp only
  have H9 := Lib.hid (H9.out.aft ((Aft.alloc _ _).trans ha))
  have HA := Lib.hid (HA.out.trans ((Aft.alloc _ _).trans ha))
  clear ha H8
  (repeat (first | go_big_skip | go_big_want | go_big_move | go_big_op | go_step | go_upon | go_back))
  go_at_call 17
  refine (aw17 [1,0,0,0,0] (H9.out.aft (Aft.alloc _ _)) (Nums.ints (al1 _ _ _) (nums_self [1,0,0,0,0]) (by decide))).mono ?_
  rintro e x ⟨rfl, ha⟩
  dsimp only
  have HA := Lib.hid (HA.out.trans ((Aft.alloc _ _).trans ha))
  clear ha H9
  (repeat (first | go_big_skip | go_big_want | go_big_move | go_big_op | go_step | go_upon | go_back))
  go_ret
  exact ⟨rfl, HA.out⟩
end Go.Proofs
end

section
namespace Go.Proofs
open Go.RowKit
open Court (refL begF noS struckB nextR hears award Done HeldP)

def IntsS (b : Nat) (w : World) (A : Option Addr) (l : List Int) : Prop := ∀ X, Sm b w X → Ints X A l
theorem IntsS.sm {b : Nat} {w w' : World} {A : Option Addr} {l : List Int} (h : IntsS b w A l) (hs : Sm b w w') : IntsS b w' A l := fun X hX => h X (hs.trans hX)
theorem CRepS.sm {b : Nat} {w w' : World} {C : CaseL} {a1 a2 : Option Addr} (h : CRepS b w C a1 a2) (hs : Sm b w w') : CRepS b w' C a1 a2 := fun X hX => h X (hs.trans hX)
theorem IntsS.of_own {b base : Nat} {w : World} {v : Value} {l : List Int} (h : w.ownsRow base 3 1 v l.length (l.map (Value.int .i64))) (hl : l.length ≤ 17592186043904) (hb : b ≤ base) : ∃ A c, v = .slice A l.length c ∧ IntsS b w A l := by
  obtain ⟨A, c, e, _, _⟩ := own_ints h hl
  refine ⟨A, c, e, fun X hX => ?_⟩
  obtain ⟨A', c', e', _, hi⟩ := own_ints (own_sm h hX hb) hl
  rw [e] at e'
  cases e'
  exact hi
theorem DeckAt.base {w w1 w0 : World} {d : Nat} {A : Option Addr} {l : List Int} {c m : Nat} (h : DeckAt w1 d A l c m w) (hB : Bytes w0 A l) (ha : Aft w0 w) (hd : w0.heap.size ≤ d) : DeckAt w0 d A l c m w := by
  obtain ⟨_, _, _, h4⟩ := h
  exact ⟨hB, hd, ha, h4⟩
theorem DeckAt.other {w0 w w' : World} {d k : Nat} {A : Option Addr} {l : List Int} {c m : Nat} (h : DeckAt w0 d A l c m w) (hg : w.grownBy w' (some k)) (hne : d ≠ k) (hk : w0.heap.size ≤ k) : DeckAt w0 d A l c m w' := by
  obtain ⟨h1, h2, h3, q, s, h4, h5, h6⟩ := h
  exact ⟨h1, h2, h3.grown hg (fun i e => by cases e; exact hk), q, s, h4.grown hg (fun e => hne (Option.some.inj e)), h5, h6⟩
theorem sm_deal {b d : Nat} {w w' : World} (hg : w.grownBy w' (some d)) (hd : d < b) : Sm b w w' := Sm.of_grown hg fun k e => by cases e; exact .inl hd

section
variable {S : List (Int × Int)} {ref : Int → Bool} {N : Nat} {f r : Int → Nat}
theorem hears_outN {o : List Int} {f0 : Int → Nat} (ho : ∀ n ∈ o, 0 ≤ n ∧ n < N) {n : Int} (hn : ¬ (0 ≤ n ∧ n < N)) : hears S noS f0 o n = f0 n := Court.hears_out o f0 n fun h => hn (ho n h)
theorem beg_out (href : ∀ n, ref n = true → 0 ≤ n ∧ n < N) {n : Int} (hn : ¬ (0 ≤ n ∧ n < N)) : begF ref n = 0 := by
  unfold begF
  rw [if_neg fun h => hn (href n h)]
theorem award_out (href : ∀ n, ref n = true → 0 ≤ n ∧ n < N) {n : Int} (hn : ¬ (0 ≤ n ∧ n < N)) : award S noS N (begF ref) n = 0 := by
  obtain ⟨o, ho, e⟩ := Court.award_reach S noS N (begF ref)
  rw [e, hears_outN ho hn, beg_out href hn]
theorem award_three : Court.Three (award S noS N (begF ref)) := (Court.award_reach S noS N (begF ref)).three (Court.begF_three ref)
theorem over_found {g : Int → Nat} (h : ∀ n : Int, ¬ (0 ≤ n ∧ n < N) → g n = f n) : overF (foundL f N) g = f := by
  funext n
  unfold overF
  rw [foundL_len]
  by_cases hn : 0 ≤ n ∧ n < N
  · rw [if_pos hn]
    obtain ⟨k, rfl⟩ := Int.eq_ofNat_of_zero_le hn.1
    have hk : k < (foundL f N).length := by rw [foundL_len]; omega
    rw [Int.toNat_natCast, List.getD_eq_getElem?_getD, List.getElem?_eq_getElem hk, Option.getD_some, foundL_get, Int.toNat_natCast]
  · rw [if_neg hn, h n hn]
theorem heldB_iff {sure : Int → Bool} {n : Int} (h3 : f n ≤ 2) : heldB S sure ref f r n = true ↔ HeldP S sure ref f r n := by
  unfold heldB HeldP
  by_cases hr : ref n = true
  · rw [if_pos hr, if_pos hr]; simp
  · rw [if_neg hr, if_neg hr]
    by_cases h0 : f n = 0
    · rw [if_pos h0, if_pos h0]; simp
    · rw [if_neg h0, if_neg h0]
      by_cases h1 : f n = 1
      · rw [if_pos h1, if_pos h1]; unfold freeB; simp [and_assoc]
      · rw [if_neg h1, if_neg h1, List.any_eq_true]
        constructor
        · rintro ⟨x, hx, h⟩
          unfold strikers at hx
          obtain ⟨s, hs, rfl⟩ := List.mem_map.1 hx
          obtain ⟨hs1, hs2⟩ := List.mem_filter.1 hs
          simp at hs2 h
          exact ⟨hs2.2, s, hs1, hs2.1, h.1, h.2⟩
        · rintro ⟨hsu, s, hs, e, e1, e2⟩
          refine ⟨s.1, ?_, by simp [e1, e2]⟩
          unfold strikers
          exact List.mem_map.2 ⟨s, List.mem_filter.2 ⟨hs, by simp [e, hsu]⟩, rfl⟩
theorem all_held {r : Int → Nat} (href : ∀ n, ref n = true → 0 ≤ n ∧ n < N) (hh : HeardS S noS N (begF ref) (award S noS N (begF ref)) r) :
    ((List.range N).all fun n => heldB S noS ref (overF (foundL (award S noS N (begF ref)) N) (begF ref)) (overF (foundL r N) fun _ => 0) (n : Nat)) = true := by
  have hok := hh.ok (Court.begF_three ref)
  have e1 : overF (foundL (award S noS N (begF ref)) N) (begF ref) = award S noS N (begF ref) := over_found fun n hn => by rw [award_out href hn, beg_out href hn]
  have e2 : overF (foundL r N) (fun _ => 0) = r := over_found fun n hn => (hok.zero n (award_out href hn)).symm
  rw [e1, e2]
  refine List.all_eq_true.2 fun n hn => ?_
  have hn := List.mem_range.1 hn
  exact (heldB_iff (award_three n)).2 (Court.ranks_hold hok (Court.award_done S noS N (begF ref)) ⟨by omega, by omega⟩)
theorem held_only {F K : List Int} (hF : F.length = N) (hF3 : ∀ x ∈ F, 0 ≤ x ∧ x ≤ 2) (hS : ∀ s ∈ S, 0 ≤ s.1 ∧ s.1 < N) (href : ∀ n, ref n = true → 0 ≤ n ∧ n < N)
    (h : ((List.range N).all fun n => heldB S noS ref (overF F (begF ref)) (overF K fun _ => 0) (n : Nat)) = true) : F = foundL (award S noS N (begF ref)) N := by
  have hget : ∀ k : Nat, (hk : k < N) → ((overF F (begF ref) (k : Int) : Nat) : Int) = F[k]'(by omega) := fun k hk => by
    unfold overF
    rw [if_pos ⟨by omega, by omega⟩, Int.toNat_natCast, List.getD_eq_getElem?_getD, List.getElem?_eq_getElem (by omega), Option.getD_some]
    have := (hF3 _ (List.getElem_mem (show k < F.length by omega))).1
    omega
  have hout : ∀ n : Int, ¬ (0 ≤ n ∧ n < N) → overF F (begF ref) n = 0 := fun n hn => by
    unfold overF
    rw [hF, if_neg hn, beg_out href hn]
  have h3 : Court.Three (overF F (begF ref)) := fun n => by
    by_cases hn : 0 ≤ n ∧ n < N
    · obtain ⟨k, rfl⟩ := Int.eq_ofNat_of_zero_le hn.1
      have := hget k (by omega)
      have := (hF3 _ (List.getElem_mem (show k < F.length by omega))).2
      omega
    · rw [hout n hn]; omega
  have he := Court.held_award (r := overF K fun _ => 0) h3 hout hS href fun n hn => by
    obtain ⟨k, rfl⟩ := Int.eq_ofNat_of_zero_le hn.1
    exact (heldB_iff (h3 _)).1 (List.all_eq_true.1 h k (List.mem_range.2 (by omega)))
  apply List.ext_getElem (by rw [hF, foundL_len])
  intro k h1 h2
  rw [foundL_get, ← hget k (by omega), he]
end
theorem refL_in {R : List Int} {N : Nat} (h : ∀ x ∈ R, 0 ≤ x ∧ x < N) : ∀ n, refL R n = true → 0 ≤ n ∧ n < N := fun n hn => h n (List.contains_iff_mem.1 hn)
theorem foundL_mem {f : Int → Nat} {N b : Nat} (h : ∀ n, f n ≤ b) : ∀ x ∈ foundL f N, 0 ≤ x ∧ x ≤ b := fun x hx => by
  unfold foundL at hx
  obtain ⟨i, -, rfl⟩ := List.mem_map.1 hx
  have := h i
  omega
theorem openE_zero {C : CaseL} {R : List Int} (h : caseE C = 0) (h1 : ∀ x ∈ R, 0 ≤ x ∧ x < C.claims) (h2 : risesB R = true) : openE C R = 0 := by
  unfold openE
  rw [if_pos h, listedE_zero h1 h2]
theorem heardE_zero {C : CaseL} {R O : List Int} (h : openE C R = 0) (h1 : O.length ≤ 400) (h2 : ∀ x ∈ O, 0 ≤ x ∧ x < C.claims) : heardE C R O = 0 := by
  unfold heardE
  rw [if_pos h, if_neg (by omega), if_pos (List.all_eq_true.2 fun x hx => Cl_iff.2 (h2 x hx))]
theorem holdsE_zero {C : CaseL} {R F K : List Int} (h : openE C R = 0) (h1 : (F.length : Int) = C.claims) (h2 : (K.length : Int) = C.claims) (h3 : ∀ x ∈ F, 0 ≤ x ∧ x ≤ 2) (h4 : ∀ x ∈ K, 0 ≤ x ∧ x ≤ 14) : holdsE C R F K = 0 := by
  unfold holdsE
  rw [if_pos h, if_neg (fun e => e.elim (fun e => e h1) (fun e => e h2)), if_pos]
  rw [Bool.and_eq_true]
  exact ⟨List.all_eq_true.2 fun x hx => fromB_iff.2 (h3 x hx), List.all_eq_true.2 fun x hx => fromB_iff.2 (h4 x hx)⟩
theorem wpList_pushL {w : World} {ops : Array Oper} {rest : List Oper} {o : Oper} {a : Act} {Q : Exit → Act → World → Prop}
    (hgd : o.guard = none) (s x : Operand) (ho : o.op = .call { callee := .builtin .append, args := #[s, x], argTypes := #[33, 33] })
    {base : Nat} {v : Value} {l : List Int} (hown : w.ownsRow base 3 1 v l.length (l.map (Value.int .i64))) (hbase : base ≤ w.heap.size) (hs : a.eval s = v)
    {A : Option Addr} {c : Nat} {l2 : List Int} (hx : a.eval x = .slice A l2.length c) (hi : Ints w A l2) (hl : l.length + l2.length ≤ 1000000)
    (hn : ∀ v' w', w'.ownsRow base 3 1 v' (l ++ l2).length ((l ++ l2).map (Value.int .i64)) → w.grownBy w' v.ownBlock → wpList Tryz.prog ops Q rest (a.put o.dst v') w') : wpList Tryz.prog ops Q (o :: rest) a w := by
  refine wpList_app_at ty24 hgd s x ho hbase hs hown hx (news := l2.map (Value.int .i64)) (by simp) (fun e => ?_) (fun ad e j u h => ?_) (fun u hu => ?_) (by omega) (by decide) fun v' w' h1 h2 => hn v' w' (by simpa using h1) h2
  · rcases hi.2 with h | ⟨b, o, e2, _⟩
    · rw [h]; rfl
    · rw [e] at e2; cases e2
  · exact ints_src hi ad e j u h
  · obtain ⟨y, -, rfl⟩ := List.mem_map.1 hu; rfl
end Go.Proofs
end
