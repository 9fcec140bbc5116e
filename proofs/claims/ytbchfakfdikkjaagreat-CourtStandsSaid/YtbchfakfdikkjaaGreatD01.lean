/- Own texts, merged: CtSd0 CtSe CtSf. -/
import Derived.Test.YtbchfakfdikkjaaGreatW01
set_option linter.unusedSimpArgs false
set_option linter.unusedVariables false
set_option linter.unnecessarySimpa false
section
namespace Go.Proofs
open Go.RowKit
open Court (refL begF noS struckB nextR award grow)

theorem mem_strikers {S : List (Int × Int)} {n x : Int} : x ∈ strikers S noS n ↔ ∃ s ∈ S, s.2 = n ∧ s.1 = x := by
  unfold strikers
  rw [List.mem_map]
  constructor
  · rintro ⟨s, hs, e⟩
    obtain ⟨h1, h2⟩ := List.mem_filter.1 hs
    simp [noS, Court.noS] at h2
    exact ⟨s, h1, h2, e⟩
  · rintro ⟨s, hs, e, e2⟩
    exact ⟨s, List.mem_filter.2 ⟨hs, by simp [e, Court.noS]⟩, e2⟩
theorem any_strikers {S : List (Int × Int)} {L : Int → Bool} {n : Int} : (strikers S noS n).any L = Court.strikeL S L n := by
  rw [Bool.eq_iff_iff, List.any_eq_true, Court.strikeL_iff]
  constructor
  · rintro ⟨x, hx, h⟩
    obtain ⟨s, hs, e1, rfl⟩ := mem_strikers.1 hx
    exact ⟨s, hs, e1, h⟩
  · rintro ⟨s, hs, e, h⟩
    exact ⟨s.1, mem_strikers.2 ⟨s, hs, e, rfl⟩, h⟩
theorem def_stand {S : List (Int × Int)} {ref : Int → Bool} {l : List Int} {n : Int} (hn : n ∈ l) : defB S noS ref (refL l) n = (!ref n && !Court.strikeL S (fun x => l.contains x) n && S.all fun s => !decide (s.2 = n) || ref s.1 || Court.strikeL S (fun x => l.contains x) s.1) := by
  have e : refL l = fun x => l.contains x := rfl
  have h1 : l.contains n = true := List.contains_iff_mem.2 hn
  have h2 : ((strikers S noS n).all fun x => ref x || (strikers S noS x).any fun x => l.contains x) = S.all fun s => !decide (s.2 = n) || ref s.1 || Court.strikeL S (fun x => l.contains x) s.1 := by
    rw [Bool.eq_iff_iff, List.all_eq_true, List.all_eq_true]
    constructor
    · intro h s hs
      by_cases q : s.2 = n
      · have := h s.1 (mem_strikers.2 ⟨s, hs, q, rfl⟩)
        rw [any_strikers] at this
        rw [decide_eq_true q]
        simpa using this
      · rw [decide_eq_false q]; rfl
    · intro h x hx
      obtain ⟨s, hs, q, rfl⟩ := mem_strikers.1 hx
      have := h s hs
      rw [decide_eq_true q] at this
      rw [any_strikers]
      simpa using this
  unfold defB
  rw [e, h2, any_strikers]
  show (!l.contains n || _) = _
  rw [h1, Bool.and_assoc]
  rfl
theorem def_out {S : List (Int × Int)} {ref : Int → Bool} {l : List Int} {n : Int} (hn : n ∉ l) : defB S noS ref (refL l) n = true := by
  have h1 : refL l n = false := by
    cases q : refL l n with
    | false => rfl
    | true => exact absurd (List.contains_iff_mem.1 q) hn
  unfold defB
  rw [h1]
  rfl
theorem standsB_eq {S : List (Int × Int)} {ref : Int → Bool} {l : List Int} {N : Nat} (hl : ∀ x ∈ l, 0 ≤ x ∧ x < N) : standsB S noS ref (refL l) N = Court.standB S ref l := by
  unfold standsB Court.standB
  rw [Bool.eq_iff_iff, List.all_eq_true, List.all_eq_true]
  constructor
  · intro h n hn
    obtain ⟨k, rfl⟩ := Int.eq_ofNat_of_zero_le (hl n hn).1
    rw [← def_stand hn]
    exact h k (List.mem_range.2 (by have := (hl _ hn).2; omega))
  · intro h n hn
    by_cases q : (n : Int) ∈ l
    · rw [def_stand q]
      exact h _ q
    · exact def_out q
def seenB (L : List (Int × Int)) (R X : List Int) (i j : Nat) : Bool := hasB X i || hasB R i || (L.take j).any fun s => s.2 == (i : Int) && hasB X s.1
theorem seenB_zero {L : List (Int × Int)} {R X : List Int} {i : Nat} : seenB L R X i 0 = (hasB X i || hasB R i) := by
  unfold seenB
  simp
theorem seenB_succ {L : List (Int × Int)} {R X : List Int} {i j : Nat} (h : j < L.length) : seenB L R X i (j + 1) = (seenB L R X i j || (L[j].2 == (i : Int) && hasB X L[j].1)) := by
  unfold seenB
  rw [any_take_succ _ _ _ h, Bool.or_assoc, Bool.or_assoc, Bool.or_assoc]
theorem cover_seen {L : List (Int × Int)} {R X : List Int} {N : Nat} : Court.coverB L (refL R) N X = (List.range N).all fun i => seenB L R X i L.length := by
  unfold Court.coverB
  congr 1
  funext i
  unfold seenB Court.strikeL
  rw [List.take_length]
  rfl
structure FullF (S : List (Int × Int)) (R : List Int) (N : Nat) (X : List Int) : Prop where
  sorted : X.Pairwise (· < ·)
  ins : ∀ x ∈ X, 0 ≤ x ∧ x < N
  stand : Court.standB S (refL R) X = true
  cover : Court.coverB S (refL R) N X = true
  nice : ∀ n : Nat, hasB R n = true → hasB X n = false
  up : ∀ n : Nat, n < N → award S noS N (begF (refL R)) n = 1 → hasB X n = true
  down : ∀ n : Nat, n < N → award S noS N (begF (refL R)) n = 2 → hasB X n = false
theorem fullF_iff {S : List (Int × Int)} {R X : List Int} {N : Nat} (hS : ∀ s ∈ S, 0 ≤ s.1 ∧ s.1 < N) (h1 : X.Pairwise (· < ·)) (h2 : ∀ x ∈ X, 0 ≤ x ∧ x < N) : X ∈ grow S (refL R) N N 0 [] ↔ (Court.standB S (refL R) X && Court.coverB S (refL R) N X) = true := by
  rw [Court.mem_full, Court.full_iff hS]
  exact ⟨fun h => h.2.2, fun h => ⟨h1, h2, h⟩⟩
theorem fullF_of {S : List (Int × Int)} {R X : List Int} {N : Nat} (hS : ∀ s ∈ S, 0 ≤ s.1 ∧ s.1 < N) (h : X ∈ grow S (refL R) N N 0 []) : FullF S R N X := by
  obtain ⟨h1, h2, h3⟩ := Court.mem_full.1 h
  have h4 := h3
  rw [← Court.full_iff hS, Bool.and_eq_true] at h4
  have h5 := Court.award_full hS h3
  have h6 : Court.niceB S (refL R) X = true := by
    unfold Court.fullB at h3
    rw [Bool.and_eq_true] at h3
    exact h3.1
  refine ⟨h1, h2, h4.1, h4.2, fun n hn => ?_, fun n hn e => ?_, fun n hn e => ?_⟩
  · refine hasB_false.2 fun hm => ?_
    have := (Court.niceB_iff.1 h6 _ hm).1
    rw [show refL R n = true from hn] at this
    cases this
  · exact hasB_iff.2 ((h5 n (by omega) (by omega)).1 e)
  · exact hasB_false.2 ((h5 n (by omega) (by omega)).2 e)
theorem fulls_rise {S : List (Int × Int)} {R : List Int} {N : Nat} {F : List (List Int)} (hp : F.Perm (grow S (refL R) N N 0 [])) (hs : SortedZ F) (k : Nat) (h : k + 1 < F.length) : decide (0 ≤ cmpZ F[k] F[k + 1]) = false := by
  have hn : F.Nodup := hp.nodup_iff.2 (Court.nodup_grow N 0 [] rfl)
  have h1 := List.pairwise_iff_getElem.1 hs k (k + 1) (by omega) h (by omega)
  have h2 := List.pairwise_iff_getElem.1 hn k (k + 1) (by omega) h (by omega)
  refine decide_eq_false fun h3 => h2 ?_
  exact cmpZ_eq (by omega) h1
theorem always_err {C : CaseL} {R : List Int} (h : openE C R = 0) : (alwaysE C R = 0) ↔ 0 < (fullsL C R).length := by
  unfold alwaysE
  rw [if_pos h]
  show (if fullsL C R = [] then (7 : Int) else 0) = 0 ↔ _
  by_cases e : fullsL C R = []
  · rw [if_pos e, e]
    simp
  · rw [if_neg e]
    have : (fullsL C R).length ≠ 0 := fun h => e (List.eq_nil_of_length_eq_zero h)
    simp
    omega
theorem always_in {C : CaseL} {R X : List Int} (hX : X ∈ fullsL C R) : ∀ n ∈ alwaysL C R, hasB X n = true := fun n hn => by
  unfold alwaysL at hn
  obtain ⟨-, h⟩ := List.mem_filter.1 hn
  cases q : hasB X n with
  | true => rfl
  | false =>
    have : ((fullsA C R).any fun x => !hasB x n) = true := List.any_eq_true.2 ⟨X, hX, by rw [q]; rfl⟩
    rw [this] at h
    cases h
theorem always_len {C : CaseL} {R : List Int} (hN : C.claims ≤ 14) : (alwaysL C R).length ≤ 14 := by
  unfold alwaysL
  refine Nat.le_trans (List.length_filter_le _ _) ?_
  cases e : fullsA C R with
  | nil => simp
  | cons x r =>
    have := grow_len' C.claims.toNat 0 [] x (by show x ∈ fullsA C R; rw [e]; exact List.mem_cons_self)
    simp at this ⊢
    omega
def uphL (f : Int → Nat) (k : Nat) : List Int := ((List.range k).filter fun i => decide (f (i : Nat) = 1)).map fun (i : Nat) => (i : Int)
theorem uphL_succ (f : Int → Nat) (k : Nat) : uphL f (k + 1) = uphL f k ++ if f k = 1 then [(k : Int)] else [] := by
  unfold uphL
  rw [List.range_succ, List.filter_append, List.map_append]
  congr 1
  by_cases h : f k = 1
  · rw [if_pos h]; simp [h]
  · rw [if_neg h]; simp [h]
theorem uphL_len (f : Int → Nat) (k : Nat) : (uphL f k).length ≤ k := by
  unfold uphL
  rw [List.length_map]
  exact Nat.le_trans (List.length_filter_le _ _) (by rw [List.length_range]; exact Nat.le_refl _)
theorem uphL_eq (f : Int → Nat) (N : Nat) : uphL f N = Court.upheld f N := by
  unfold uphL Court.upheld Court.allN
  rw [List.filter_map]
  rfl
def openN (f : Int → Nat) (k : Nat) : Nat := (List.range k).countP fun i => decide (f (i : Nat) = 0)
theorem openN_succ (f : Int → Nat) (k : Nat) : openN f (k + 1) = openN f k + if f k = 0 then 1 else 0 := by
  unfold openN
  rw [List.range_succ, List.countP_append, List.countP_singleton]
  congr 1
  by_cases h : f k = 0
  · simp [h]
  · simp [h]
theorem openN_le (f : Int → Nat) (k : Nat) : openN f k ≤ k := by
  unfold openN
  exact Nat.le_trans List.countP_le_length (by rw [List.length_range]; exact Nat.le_refl _)
theorem openN_zero {f : Int → Nat} {N : Nat} (h : openN f N = 0) : ∀ n : Int, 0 ≤ n → n < N → f n ≠ 0 := fun n h0 h1 e => by
  obtain ⟨k, rfl⟩ := Int.eq_ofNat_of_zero_le h0
  have := List.countP_eq_zero.1 h k (List.mem_range.2 (by omega))
  simp [e] at this
theorem sorted_ext : ∀ {l1 l2 : List Int}, l1.Pairwise (· < ·) → l2.Pairwise (· < ·) → (∀ x, x ∈ l1 ↔ x ∈ l2) → l1 = l2
  | [], [], _, _, _ => rfl
  | [], y :: r, _, _, h => by have := (h y).2 List.mem_cons_self; cases this
  | x :: r, [], _, _, h => by have := (h x).1 List.mem_cons_self; cases this
  | x :: r, y :: t, h1, h2, h => by
    have a1 := List.pairwise_cons.1 h1
    have a2 := List.pairwise_cons.1 h2
    have e : x = y := by
      rcases List.mem_cons.1 ((h x).1 List.mem_cons_self) with e | q
      · exact e
      · rcases List.mem_cons.1 ((h y).2 List.mem_cons_self) with e | q2
        · exact e.symm
        · have := a2.1 x q
          have := a1.1 y q2
          omega
    subst e
    congr 1
    refine sorted_ext a1.2 a2.2 fun z => ⟨fun hz => ?_, fun hz => ?_⟩
    · rcases List.mem_cons.1 ((h z).1 (List.mem_cons_of_mem _ hz)) with e | q
      · subst e; have := a1.1 z hz; omega
      · exact q
    · rcases List.mem_cons.1 ((h z).2 (List.mem_cons_of_mem _ hz)) with e | q
      · subst e; have := a2.1 z hz; omega
      · exact q
theorem nodup_one {α : Type} {u : α} : ∀ {l : List α}, l.Nodup → (∀ x ∈ l, x = u) → u ∈ l → l = [u]
  | [], _, _, h => by cases h
  | [x], _, h, _ => by rw [h x List.mem_cons_self]
  | x :: y :: r, hn, h, _ => by
    have e1 := h x List.mem_cons_self
    have e2 := h y (List.mem_cons_of_mem _ List.mem_cons_self)
    subst e1
    subst e2
    exact absurd List.mem_cons_self (List.nodup_cons.1 hn).1
theorem uphL_mem {f : Int → Nat} {N : Nat} {n : Int} : n ∈ uphL f N ↔ (0 ≤ n ∧ n < N) ∧ f n = 1 := by rw [uphL_eq, Court.mem_upheld]
theorem uphL_sorted (f : Int → Nat) (N : Nat) : (uphL f N).Pairwise (· < ·) := by
  unfold uphL
  refine List.pairwise_map.2 ?_
  refine List.Pairwise.filter _ ?_
  exact List.pairwise_lt_range.imp fun h => by omega
theorem fulls_only {S : List (Int × Int)} {R : List Int} {N : Nat} (hS : ∀ s ∈ S, 0 ≤ s.1 ∧ s.1 < N) (h : openN (award S noS N (begF (refL R))) N = 0) : grow S (refL R) N N 0 [] = [uphL (award S noS N (begF (refL R))) N] := by
  obtain ⟨h1, h2⟩ := Court.upheld_only hS (openN_zero h)
  refine nodup_one (Court.nodup_grow N 0 [] rfl) (fun X hX => ?_) ?_
  · obtain ⟨a1, a2, a3⟩ := Court.mem_full.1 hX
    refine sorted_ext a1 (uphL_sorted _ _) fun x => ?_
    rw [uphL_eq]
    exact h2 X a1 a2 a3 x
  · refine Court.mem_full.2 ⟨uphL_sorted _ _, fun x hx => (uphL_mem.1 hx).1, ?_⟩
    rw [uphL_eq]
    exact h1
theorem uphL_stand {S : List (Int × Int)} {R : List Int} {N : Nat} (hS : ∀ s ∈ S, 0 ≤ s.1 ∧ s.1 < N) : standsB S noS (refL R) (refL (uphL (award S noS N (begF (refL R))) N)) N = true := by
  rw [standsB_eq (fun x hx => (uphL_mem.1 hx).1), uphL_eq]
  exact Court.upheld_stand hS
end Go.Proofs
end

section
namespace Go.Proofs
open Go.RowKit
attribute [local go_sem] Oper.semAt_some
theorem runs_51 (args : Array Value) (w : World) : (callFunc 51 args).run Tryz.prog w = .ok (.enter 51 args) w := by simp [go_sem]

theorem same51 (x Y : List Int) (Ax AY : Option Addr) (cx cY b : Nat) (w : World) (hx : Ints w Ax x) (hb : Blk w b 33 #[.slice AY Y.length cY]) (hY : Ints w AY Y) :
    Calls Tryz.prog 51 #[.slice Ax x.length cx, .pointer (some ⟨b, 0, none⟩)] w fun e w' => e = .returned (.bool (eqB x Y)) ∧ Aft w w' := by
  have k0 : w.cell? ⟨b, 0, none⟩ = some (.slice AY Y.length cY) := hb.cell 0
  have k1 := hb.lt
  have HEQ := Lib.hid (kitEqual_int Ax AY x Y cx cY w hx hY)
  clear hb hx hY
  go_enter Tryz.func51, Tryz.ntmps51
  go_wp2_with (go_at_call 17; refine HEQ.out.mono ?_; rintro e w1 ⟨rfl, ha⟩; have HW := Lib.hid ha; clear ha k0 k1)
  go_ret
  exact ⟨rfl, HW.out⟩

set_option maxRecDepth 100000 in
set_option maxHeartbeats 1000000 in
theorem index97 (F : List (List Int)) (Y : List Int) (A AY : Option Addr) (c cY b : Nat) (w : World) (hA : Lists w A F) (hb : Blk w b 33 #[.slice AY Y.length cY]) (hY : Ints w AY Y) :
    Calls Tryz.prog 97 #[.slice A F.length c, .func (.func 51) #[] #[.pointer (some ⟨b, 0, none⟩)]] w fun e w' => IdxSign (F.any fun x => eqB x Y) e ∧ Aft w w' := by
  have hl := hA.len
  have HB := Lib.hid hb
  have HY := Lib.hid hY
  have HLS := Lib.hid hA
  clear hb hY hA
  go_enter Tryz.func97, Tryz.ntmps97
  go_wp2_with fail
  go_loopw [8] (fun i wr => ∃ k : Nat, i = .int .i64 k ∧ k ≤ F.length ∧ ((F.take k).any fun x => eqB x Y) = false ∧ Aft w wr) (fun i _ => F.length - (intOf i).toNat)
  case atStart => exact ⟨0, rfl, by omega, by simp, Aft.refl _⟩
  case round =>
    obtain ⟨k, rfl, hk, hany, hw⟩ := hrel
    have HAN := Lib.hid hany
    have HW := Lib.hid hw
    clear hany hw
    by_cases hlt : k < F.length
    · obtain ⟨b0, o, rfl, hbw, hc⟩ := (HLS.out.aft HW.out).at hlt
      obtain ⟨A1, c1, h1, h2⟩ := hc k hlt
      have i1 : (0 : Int) ≤ (k : Int) ∧ (k : Int) < (F.length : Int) := by omega
      have hcall := same51 F[k] Y A1 AY c1 cY b wr h2 (HB.out.aft HW.out) (HY.out.aft HW.out)
      have HTK := Lib.hid (any_take_succ F (fun x => eqB x Y) k hlt)
      have HGE := Lib.hid (fun h => any_of_get F (fun x => eqB x Y) k hlt h)
      clear hc h2
      generalize F[k] = r at *
      cases hb : eqB r Y
      · rw [hb] at hcall HTK
        clear hb HGE
        go_wp2_with (refine hcall.mono ?_; rintro e w' ⟨rfl, ha⟩; have HW2 := Lib.hid (HW.out.trans ha); clear hcall ha)
        exact ⟨⟨k + 1, by go_num, by omega, by rw [HTK.out, HAN.out]; rfl, HW2.out⟩, by simp [intOf]; omega⟩
      · have HG := Lib.hid (HGE.out hb)
        rw [hb] at hcall
        clear hb HGE
        go_wp2_with (refine hcall.mono ?_; rintro e w' ⟨rfl, ha⟩; have HW2 := Lib.hid (HW.out.trans ha); clear hcall ha)
        go_ret
        exact ⟨IdxSign.yes HG.out _, HW2.out⟩
    · have HEND := Lib.hid (show (F.any fun x => eqB x Y) = false from by have := HAN.out; rwa [List.take_of_length_le (by omega)] at this)
      go_wp2
      go_ret
      exact ⟨IdxSign.no HEND.out, HW.out⟩

theorem among50 (F : List (List Int)) (Y : List Int) (A AY : Option Addr) (c cY b : Nat) (w : World) (hA : Lists w A F) (hb : Blk w b 33 #[.slice AY Y.length cY]) (hY : Ints w AY Y) :
    Calls Tryz.prog 50 #[.slice A F.length c, .func (.func 51) #[] #[.pointer (some ⟨b, 0, none⟩)]] w fun e w' => e = .returned (.bool (F.any fun x => eqB x Y)) ∧ Aft w w' := by
  have HI := Lib.hid (index97 F Y A AY c cY b w hA hb hY)
  clear hA hb hY
  go_enter Tryz.func50, Tryz.ntmps50
  go_wp2_with (go_at_call 97; refine HI.out.mono ?_; rintro e w' ⟨⟨n, rfl, hn⟩, ha⟩; have HN := Lib.hid hn; have HW := Lib.hid ha; clear hn ha)
  go_ret
  exact ⟨ret_bool (by have := HN.out; cases h : (F.any fun x => eqB x Y) <;> simp_all), HW.out⟩
end Go.Proofs
end

section
namespace Go.Proofs
open Go.RowKit Go.Sort Go.Shelf
open Court (refL begF noS struckB nextR strikeL canB coverB grow)
theorem ints_ge {b : Nat} {w X : World} {A : Option Addr} {l : List Int} (h : Ints w A l) (hA : ∀ b' o, A = some ⟨b', o, none⟩ → b ≤ b') (hs : Sm b w X) : Ints X A l := by
  rcases h.2 with e | ⟨b', o, e, hb, hc⟩
  · exact ⟨h.1, .inl e⟩
  · refine ⟨h.1, .inr ⟨b', o, e, Nat.lt_of_lt_of_le hb hs.size, fun i hi => ?_⟩⟩
    obtain ⟨vs, h1, h2, h3⟩ := hc i hi
    exact ⟨vs, h1, h2, fun j hj => (World.cell?_of_block (hs.same b' (hA b' o e) hb)).trans (h3 j hj)⟩

set_option maxHeartbeats 1000000 in
theorem sort_listsS (W : World) (b : Nat) {g cap : Nat} {vs : List Value} {L : List (List Int)} (hO : OutsV W b (.slice (some ⟨g, 0, none⟩) L.length cap) vs L) (h0 : 0 < L.length) (hl : L.length ≤ 1000) (hlen : ∀ x ∈ L, x.length ≤ 1000) :
    Calls Tryz.prog 75 #[.slice (some ⟨g, 0, none⟩) L.length cap, .func (.func 49) #[] #[]] W fun e w' => e = .returned (.tuple #[]) ∧ W.grownBy w' (some g) ∧ ∃ L', L'.Perm L ∧ SortedZ L' ∧ ∀ X, Sm b w' X → Lists X (some ⟨g, 0, none⟩) L' := by
  obtain ⟨hown, hrows⟩ := hO
  have hvl : vs.length = L.length := by simpa using hown.1
  obtain ⟨cs33, hg33⟩ := own33_block hown (g := g) rfl
  let cl : Nat → Nat := fun i => if i < L.length then i else 0
  have hcl : ∀ i, cl i < L.length := fun i => by simp only [cl]; split <;> omega
  let enc : Nat → Value := fun i => vs.getD (cl i) (.slice none 0 0)
  let row : Nat → List Int := fun i => L.getD (cl i) []
  have hrow : ∀ i, row i = L[cl i]'(hcl i) := fun i => by simp only [row]; rw [List.getD_eq_getElem?_getD, List.getElem?_eq_getElem (hcl i)]; rfl
  have henc : ∀ i, ∃ A c, enc i = .slice A (row i).length c ∧ Ints W A (row i) ∧ (∀ b o, A = some ⟨b, o, none⟩ → g ≠ b) ∧ (∀ b' o, A = some ⟨b', o, none⟩ → b ≤ b') := fun i => by
    have hi := hcl i
    have hiv : cl i < vs.length := by omega
    have hr := hrows (cl i) hi hiv
    obtain ⟨A, c, e1, _, h2⟩ := own_ints hr (by have := hlen _ (List.getElem_mem hi); omega)
    refine ⟨A, c, ?_, by rw [hrow]; exact h2, fun b' o e => ?_, fun b' o e => ?_⟩
    · simp only [enc]
      rw [List.getD_eq_getElem?_getD, List.getElem?_eq_getElem hiv, hrow]
      exact e1
    · subst e
      rintro rfl
      rw [e1] at hr
      rcases hr.2 with ⟨h, _⟩ | ⟨g', cap', cur, h, _, hh, _⟩
      · cases h
      · cases h
        rw [hg33] at hh
        cases hh
    · subst e
      rw [e1] at hr
      exact own_ge hr b' (by rfl)
  have h1 : OneCell enc := fun i => by obtain ⟨A, c, e, _⟩ := henc i; rw [e]; rfl
  have hgb : g < W.heap.size := (hown.lt g rfl).2
  have hH : Holds enc W g 0 (Array.range L.length) := fun j hj => by
    have hj' : j < L.length := by simpa using hj
    have e1 : (Array.range L.length)[j]! = j := by rw [getElem!_pos _ j hj]; simp
    refine ⟨?_, hown.frozenAt _⟩
    rw [e1]
    have := hown.cells (g := g) rfl j (enc j) (by simp only [enc, cl, if_pos hj']; rw [List.getD_eq_getElem?_getD, List.getElem?_eq_getElem (by omega)]; rfl)
    rw [Addr.add_lit] at this
    exact this
  have hcmp : CmpReads Tryz.prog 49 #[] enc (fun i j => cmpZ (row i) (row j)) g 0 (Array.range L.length).size W := fun k os dk _ x y => by
    obtain ⟨A, c, e1, i1, n1, -⟩ := henc x
    obtain ⟨B, d, e2, i2, n2, -⟩ := henc y
    have hg := grownBy_sortedV (enc := enc) (w := W) (g := g) (n := k) (os := os) dk
    have := compare_any (sortWorld enc W g 0 k dk os) (row x) (row y) A B c d (ints_grown i1 hg fun b o e h => (n1 b o e) (by injection h with h; exact h.symm)) (ints_grown i2 hg fun b o e h => (n2 b o e) (by injection h with h; exact h.symm))
    rw [← e1, ← e2] at this
    exact this.mono fun e w' ⟨h, h'⟩ => ⟨h, 0, h'⟩
  have hs := Any.slices_SortFunc laySort enc h1 (fun i j => cmpZ (row i) (row j)) (swo_cmpZ row) 49 #[] g 0 cap (Array.range L.length) W (fun args w => by simp [go_sem]) hcmp.lays hH hgb (by simp; omega)
  rw [Array.size_range] at hs
  refine hs.mono ?_
  rintro e w' ⟨he, d', k, os, ⟨hsz, -, hperm⟩, hsrt, rfl⟩
  rw [Array.size_range] at hsz
  have hg := grownBy_sortedV (enc := enc) (w := W) (g := g) (n := k) (os := os) d'
  have hp : d'.toList.Perm (List.range L.length) := by
    have e1 : (d'.extract 0 L.length).toList = d'.toList := by rw [← hsz]; simp
    have e2 : ((Array.range L.length).extract 0 L.length).toList = List.range L.length := by
      have : (Array.range L.length).extract 0 L.length = Array.range L.length := by
        have h := Array.extract_size (xs := Array.range L.length)
        rwa [Array.size_range] at h
      rw [this]; simp
    rw [e1, e2] at hperm
    exact hperm
  have hmap : (List.range L.length).map row = L := by
    apply List.ext_getElem (by simp)
    intro i h1 h2
    simp only [List.getElem_map, List.getElem_range]
    rw [hrow]
    simp only [cl, if_pos h2]
  have hL' : (d'.toList.map row).Perm L := by have := hp.map row; rwa [hmap] at this
  have hget : ∀ j, (hj : j < L.length) → d'[j]! = d'.toList[j]'(by simpa [hsz] using hj) := fun j hj => by rw [getElem!_pos _ j (by omega)]; simp
  refine ⟨he, hg, d'.toList.map row, hL', ?_, ?_⟩
  · unfold SortedZ
    rw [List.pairwise_iff_getElem]
    intro i j hi hj hij
    simp only [List.length_map, Array.length_toList, hsz] at hi hj
    simp only [List.getElem_map]
    have h := hsrt i j (Nat.zero_le _) hij hj
    rw [hget i hi, hget j hj] at h
    exact of_decide_eq_false h
  · intro X hX
    have hbg : b ≤ g := own_ge hown g rfl
    have hgw : g < (sortWorld enc W g 0 k d' os).heap.size := Nat.lt_of_lt_of_le hgb hg.size
    refine ⟨by simp [hsz]; omega, .inr ⟨g, 0, rfl, Nat.lt_of_lt_of_le hgw hX.size, fun i hi => ?_⟩⟩
    have hi' : i < L.length := by simpa [hsz] using hi
    have hil : i < d'.toList.length := by simpa [hsz] using hi'
    obtain ⟨A, c, e1, i1, n1, m1⟩ := henc (d'.toList[i]'(by simpa [hsz] using hi'))
    have hc := cell?_putRow enc (Sort.ahead W k) g 0 (Array.range L.length) d' hH (by simp [hsz]) i (by omega)
    refine ⟨[enc d'.toList[i]], rfl, ⟨A, c, ?_, ?_⟩, fun j hj => ?_⟩
    · rw [e1]; simp
    · simp only [List.getElem_map]
      exact ints_ge (ints_grown i1 hg fun b o e h => (n1 b o e) (by injection h with h; exact h.symm)) m1 hX
    · have : j = 0 := by simpa using hj
      subst this
      rw [hget i hi'] at hc
      refine (World.cell?_of_block (a := ⟨g, 0 + i * 1 + 0, none⟩) (hX.same g hbg hgw)).trans ?_
      show (sortWorld enc W g 0 k d' os).cell? ⟨g, 0 + i * 1 + 0, none⟩ = some (enc _)
      unfold sortWorld
      rw [cell?_grow _ _ _ (by simpa [putRow, mapBlock, Sort.ahead] using hgb)]
      simpa using hc

def GoodFS (C : CaseL) (R : List Int) (w : World) (e : Ending) (w' : World) : Prop := ∃ A c L, e = .returned (.tuple #[.slice A L.length c, .int .i64 0]) ∧ (∀ X, Sm w.heap.size w' X → Lists X A L) ∧ L.Perm (fullsL C R) ∧ SortedZ L ∧ Aft w w'

set_option maxRecDepth 100000 in
set_option maxHeartbeats 2000000 in
theorem full27_goodS (C : CaseL) (a1 a2 : Option Addr) (c1 c2 : Nat) (R : List Int) (A : Option Addr) (c : Nat) (w : World) (hC : CRep w C a1 a2) (hA : Ints w A R) (he : fullE C R = 0) :
    Calls Tryz.prog 27 #[(.agg #[.int .i64 C.claims, .slice a1 C.strikes.length c1, .slice a2 C.surveys.length c2]), .slice A R.length c] w (GoodFS C R w) := by
  have H0 := Lib.hid (Aft.alloc w (.cells #[.int .i64 C.claims, .slice a1 C.strikes.length c1, .slice a2 C.surveys.length c2] 25))
  unfold fullE at he
  have h1 : openE C R = 0 := by
    by_cases h1 : openE C R = 0
    · exact h1
    · rw [if_neg h1] at he; exact he
  rw [if_pos h1] at he
  have h2 : ¬ 50 < (fullsL C R).length := fun h => by rw [if_pos h] at he; cases he
  have hok := (openE_facts h1).1
  have H1 : Hid (∀ W, Aft w W → Calls Tryz.prog 68 #[(.agg #[.int .i64 C.claims, .slice a1 C.strikes.length c1, .slice a2 C.surveys.length c2]), .slice A R.length c] W (Opened C a1 a2 c1 c2 R W)) := Lib.hid fun W h => opened_good C a1 a2 c1 c2 R A c W (hC.aft h) (hA.aft h) h1
  have H2 : Hid (∀ W0 W d, DeskAt W0 W d C a1 a2 c1 c2 (refL R) noS (begF (refL R)) (fun _ => 0) → Calls Tryz.prog 74 #[.pointer (some ⟨d, 0, none⟩), .int .i64 51] W fun e w' => ∃ v, e = .returned v ∧ Outs w' W.heap.size v (fullsL C R) ∧ Aft W w') := Lib.hid fun W0 W d hD => by
    have h := full_any W0 W d 51 C.claims.toNat C a1 a2 c1 c2 (refL R) (begF (refL R)) (fun _ => 0) hD (by have := hok.n1; omega) (by have := hok.n2; omega) (fun s hs => by have := (hok.ins s hs).1; have := hok.n2; omega) (by omega)
    have e : (grow C.strikes (refL R) C.claims.toNat C.claims.toNat 0 []).take 51 = fullsL C R := take51_eq h2
    rw [e] at h
    exact h
  have hlen : ∀ x ∈ fullsL C R, x.length ≤ 1000 := fun x hx => by
    have := grow_len _ _ _ x hx
    have := hok.n2
    simp at *
    omega
  unfold GoodFS
  clear hC hA hok h1 he
  generalize fullsL C R = T at *
  have t1 : decide ((50 : Int) < T.length) = false := by simp; omega
  have h3 : T.length ≤ 1000 := by omega
  clear h2
  have HS : Hid (∀ W b v, Outs W b v T → Calls Tryz.prog 75 #[v, .func (.func 49) #[] #[]] W fun e w' => e = .returned (.tuple #[]) ∧ W.grownBy w' v.ownBlock ∧ (∀ g, v.ownBlock = some g → b ≤ g) ∧ ∃ A c L, v = .slice A L.length c ∧ (∀ X, Sm b w' X → Lists X A L) ∧ L.Perm T ∧ SortedZ L) := Lib.hid fun W b v hO => by
    obtain ⟨vs, hv⟩ := hO
    have hge := own_ge hv.1
    rcases hv.1.2 with ⟨rfl, h0⟩ | ⟨g, cap, cur, rfl, _⟩
    · have e0 : T = [] := List.eq_nil_of_length_eq_zero h0
      subst e0
      exact (sort_none none 0 _ W).mono fun e w' ⟨h, h'⟩ => ⟨h, by subst h'; exact ⟨rfl, rfl, rfl, Nat.le_refl _, fun _ _ _ => rfl⟩, hge, none, 0, [], rfl, fun _ _ => ⟨by simp, .inl rfl⟩, List.Perm.refl _, List.Pairwise.nil⟩
    · by_cases h0 : 0 < T.length
      · exact (sort_listsS W b hv h0 h3 hlen).mono fun e w' ⟨h, hg, L, hp, hs, hl⟩ => ⟨h, hg, hge, _, cap, L, by rw [hp.length_eq], hl, hp, hs⟩
      · have e0 : T = [] := List.eq_nil_of_length_eq_zero (by omega)
        subst e0
        exact (sort_none _ cap _ W).mono fun e w' ⟨h, h'⟩ => ⟨h, by subst h'; exact ⟨rfl, rfl, rfl, Nat.le_refl _, fun _ _ _ => rfl⟩, hge, _, cap, [], rfl, fun X hX => by subst h'; exact ⟨by simp, .inr ⟨g, 0, rfl, Nat.lt_of_lt_of_le (hv.1.lt g rfl).2 hX.size, fun i hi => by simp at hi⟩⟩, List.Perm.refl _, List.Pairwise.nil⟩
  clear hlen h3
  go_enter Tryz.func27, Tryz.ntmps27
  go_wp2_with (first | (go_at_call 68; refine (H1.out _ H0.out).mono ?_; rintro e w1 ⟨d, rfl, hd⟩; have HD := Lib.hid hd; clear hd) | (go_at_call 74; refine (H2.out _ _ _ HD.out).mono ?_; rintro e w2 ⟨v, rfl, hov, ha2⟩; obtain ⟨A9, c9, rfl⟩ := hov.form; have HA2 := Lib.hid ((H0.out.trans HD.out.aft).trans ha2); have HSZ := Lib.hid (H0.out.trans HD.out.aft).size; have HOV := Lib.hid hov; clear ha2 hov) | (go_at_call 75; refine (HS.out _ _ _ HOV.out).mono ?_; rintro e w3 ⟨rfl, hg3, hge, A3, c3, L, hv, hL, hp, hs⟩; have HG3 := Lib.hid hg3; have HGE := Lib.hid hge; have HL := Lib.hid hL; have HP := Lib.hid hp; have HSS := Lib.hid hs; have HV := Lib.hid hv; clear hg3 hge hL hp hs hv))
  go_ret2
  refine ⟨A3, c3, L, by rw [← HV.out]; rfl, fun X hX => HL.out X (hX.mono HSZ.out), HP.out, HSS.out, HA2.out.grown HG3.out (fun g hg => ?_)⟩
  exact Nat.le_trans HSZ.out (HGE.out g hg)
end Go.Proofs
end
