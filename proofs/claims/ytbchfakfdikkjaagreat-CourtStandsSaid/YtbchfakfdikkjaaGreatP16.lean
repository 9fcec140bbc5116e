/- Own texts, merged: CtX CtZ0 CtZ CtY CtSu CtDe. -/
import Derived.Test.YtbchfakfdikkjaaGreatP02
import Derived.Test.YtbchfakfdikkjaaGreatP06
import Derived.Test.YtbchfakfdikkjaaGreatP15
import Derived.Laws.CopyOwn
set_option linter.unusedSimpArgs false
set_option linter.unusedVariables false
set_option linter.unnecessarySimpa false
section
namespace Go.Proofs
open Go.RowKit
open Court (refL begF noS struckB nextR strikeL canB coverB grow)

theorem grow_len {S : List (Int × Int)} {ref : Int → Bool} {N : Nat} : ∀ (k n : Nat) (l : List Int), ∀ x ∈ grow S ref N k n l, x.length ≤ l.length + k
  | 0, n, l, x, h => by
    unfold grow at h
    split at h
    · rw [List.mem_singleton] at h; subst h; omega
    · cases h
  | k + 1, n, l, x, h => by
    have h' : x ∈ (if canB S ref l n then grow S ref N k (n + 1) (l ++ [(n : Int)]) else []) ++ grow S ref N k (n + 1) l := h
    rcases List.mem_append.1 h' with h | h
    · split at h
      · have := grow_len k (n + 1) _ x h
        rw [List.length_append, List.length_singleton] at this
        omega
      · cases h
    · have := grow_len k (n + 1) _ x h
      omega
def fullsL (C : CaseL) (R : List Int) : List (List Int) := grow C.strikes (refL R) C.claims.toNat C.claims.toNat 0 []
def fullE (C : CaseL) (R : List Int) : Int := if openE C R = 0 then (if 50 < (fullsL C R).length then 11 else 0) else openE C R
def BadF (C : CaseL) (R : List Int) (w : World) (e : Ending) (w' : World) : Prop := e = .returned (.tuple #[.slice none 0 0, .int .i64 (fullE C R)]) ∧ Aft w w'
def GoodF (C : CaseL) (R : List Int) (w : World) (e : Ending) (w' : World) : Prop := ∃ A c L, e = .returned (.tuple #[.slice A L.length c, .int .i64 0]) ∧ Lists w' A L ∧ L.Perm (fullsL C R) ∧ SortedZ L ∧ Aft w w'
theorem take51 {α : Type} (l : List α) : (50 < (l.take 51).length) ↔ 50 < l.length := by rw [List.length_take]; omega
theorem take51_eq {α : Type} {l : List α} (h : ¬ 50 < l.length) : l.take 51 = l := List.take_of_length_le (by omega)

set_option maxRecDepth 100000 in
set_option maxHeartbeats 2000000 in
theorem full27_bad (C : CaseL) (a1 a2 : Option Addr) (c1 c2 : Nat) (R : List Int) (A : Option Addr) (c : Nat) (w : World) (hC : CRep w C a1 a2) (hA : Ints w A R) (he : fullE C R ≠ 0) :
    Calls Tryz.prog 27 #[(.agg #[.int .i64 C.claims, .slice a1 C.strikes.length c1, .slice a2 C.surveys.length c2]), .slice A R.length c] w (BadF C R w) := by
  have H0 := Lib.hid (Aft.alloc w (.cells #[.int .i64 C.claims, .slice a1 C.strikes.length c1, .slice a2 C.surveys.length c2] 25))
  have HB := Lib.hid (Blk.new w 25 #[.int .i64 C.claims, .slice a1 C.strikes.length c1, .slice a2 C.surveys.length c2])
  unfold BadF
  unfold fullE at he ⊢
  by_cases h1 : openE C R = 0
  · rw [if_pos h1] at he ⊢
    have h2 : 50 < (fullsL C R).length := by
      by_cases h : 50 < (fullsL C R).length
      · exact h
      · rw [if_neg h] at he; exact absurd rfl he
    rw [if_pos h2]
    have hok := (openE_facts h1).1
    have H1 : Hid (∀ W, Aft w W → Calls Tryz.prog 68 #[(.agg #[.int .i64 C.claims, .slice a1 C.strikes.length c1, .slice a2 C.surveys.length c2]), .slice A R.length c] W (Opened C a1 a2 c1 c2 R W)) := Lib.hid fun W h => opened_good C a1 a2 c1 c2 R A c W (hC.aft h) (hA.aft h) h1
    have H2 : Hid (∀ W0 W d, DeskAt W0 W d C a1 a2 c1 c2 (refL R) noS (begF (refL R)) (fun _ => 0) → Calls Tryz.prog 74 #[.pointer (some ⟨d, 0, none⟩), .int .i64 51] W fun e w' => ∃ v, e = .returned v ∧ Outs w' W.heap.size v ((fullsL C R).take 51) ∧ Aft W w') := Lib.hid fun W0 W d hD => full_any W0 W d 51 C.claims.toNat C a1 a2 c1 c2 (refL R) (begF (refL R)) (fun _ => 0) hD (by have := hok.n1; omega) (by have := hok.n2; omega) (fun s hs => by have := (hok.ins s hs).1; have := hok.n2; omega) (by omega)
    have h3 := (take51 (fullsL C R)).2 h2
    clear hC hA hok h1 h2 he
    generalize (fullsL C R).take 51 = T at *
    have t1 : decide ((50 : Int) < T.length) = true := by simp; omega
    clear h3
    go_enter Tryz.func27, Tryz.ntmps27
    go_wp2_with (first | (go_at_call 68; refine (H1.out _ H0.out).mono ?_; rintro e w1 ⟨d, rfl, hd⟩; have HD := Lib.hid hd; clear hd) | (go_at_call 74; refine (H2.out _ _ _ HD.out).mono ?_; rintro e w2 ⟨v, rfl, hov, ha2⟩; obtain ⟨A9, c9, rfl⟩ := hov.form; have HA2 := Lib.hid ha2; clear ha2 hov))
    go_ret2
    exact ⟨rfl, (H0.out.trans HD.out.aft).trans HA2.out⟩
  · rw [if_neg h1] at he ⊢
    have H1 : Hid (∀ W, Aft w W → Calls Tryz.prog 68 #[(.agg #[.int .i64 C.claims, .slice a1 C.strikes.length c1, .slice a2 C.surveys.length c2]), .slice A R.length c] W fun e w' => e = .returned (.tuple #[.pointer none, .int .i64 (openE C R)]) ∧ Aft W w') := Lib.hid fun W h => opened_bad C a1 a2 c1 c2 R A c W (hC.aft h) (hA.aft h) he
    have t1 : (openE C R != 0) = true := by simpa using he
    clear hC hA he h1
    generalize openE C R = E at *
    go_enter Tryz.func27, Tryz.ntmps27
    go_wp2_with (go_at_call 68; refine (H1.out _ H0.out).mono ?_; rintro e w' ⟨rfl, u, rfl⟩)
    go_ret2
    exact ⟨rfl, H0.out.then_lat _⟩

set_option maxRecDepth 100000 in
set_option maxHeartbeats 2000000 in
theorem full27_good (C : CaseL) (a1 a2 : Option Addr) (c1 c2 : Nat) (R : List Int) (A : Option Addr) (c : Nat) (w : World) (hC : CRep w C a1 a2) (hA : Ints w A R) (he : fullE C R = 0) :
    Calls Tryz.prog 27 #[(.agg #[.int .i64 C.claims, .slice a1 C.strikes.length c1, .slice a2 C.surveys.length c2]), .slice A R.length c] w (GoodF C R w) := by
  have H0 := Lib.hid (Aft.alloc w (.cells #[.int .i64 C.claims, .slice a1 C.strikes.length c1, .slice a2 C.surveys.length c2] 25))
  unfold fullE at he
  have h1 : openE C R = 0 := by
    by_cases h1 : openE C R = 0
    · exact h1
    · rw [if_neg h1] at he; exact he
  rw [if_pos h1] at he
  have h2 : ¬ 50 < (fullsL C R).length := fun h => by rw [if_pos h] at he; cases he
  have hok := (openE_facts h1).1
  have H1 : Hid (∀ W, Aft w W → Calls Tryz.prog 68 #[(.agg #[.int .i64 C.claims, .slice a1 C.strikes.length c1, .slice a2 C.surveys.length c2]), .slice A R.length c] W (Opened C a1 a2 c1 c2 R W)) := Lib.hid fun W h => opened_good C a1 a2 c1 c2 R A c W (hC.aft h) (hA.aft h) h1
  have H2 : Hid (∀ W0 W d, DeskAt W0 W d C a1 a2 c1 c2 (refL R) noS (begF (refL R)) (fun _ => 0) → Calls Tryz.prog 74 #[.pointer (some ⟨d, 0, none⟩), .int .i64 51] W fun e w' => ∃ v, e = .returned v ∧ Outs w' W.heap.size v (fullsL C R) ∧ Aft W w') := Lib.hid fun W0 W d hD => by
    have h := full_any W0 W d 51 C.claims.toNat C a1 a2 c1 c2 (refL R) (begF (refL R)) (fun _ => 0) hD (by have := hok.n1; omega) (by have := hok.n2; omega) (fun s hs => by have := (hok.ins s hs).1; have := hok.n2; omega) (by omega)
    have e : (grow C.strikes (refL R) C.claims.toNat C.claims.toNat 0 []).take 51 = fullsL C R := take51_eq h2
    rw [e] at h
    exact h
  have hlen : ∀ x ∈ fullsL C R, x.length ≤ 1000 := fun x hx => by
    have := grow_len _ _ _ x hx
    have := hok.n2
    simp at *
    omega
  unfold GoodF
  clear hC hA hok h1 he
  generalize fullsL C R = T at *
  have t1 : decide ((50 : Int) < T.length) = false := by simp; omega
  have h3 : T.length ≤ 1000 := by omega
  clear h2
  have HS : Hid (∀ W b v, Outs W b v T → Calls Tryz.prog 75 #[v, .func (.func 49) #[] #[]] W fun e w' => e = .returned (.tuple #[]) ∧ W.grownBy w' v.ownBlock ∧ (∀ g, v.ownBlock = some g → b ≤ g) ∧ ∃ A c L, v = .slice A L.length c ∧ Lists w' A L ∧ L.Perm T ∧ SortedZ L) := Lib.hid fun W b v hO => by
    obtain ⟨vs, hv⟩ := hO
    have hge := own_ge hv.1
    rcases hv.1.2 with ⟨rfl, h0⟩ | ⟨g, cap, cur, rfl, _⟩
    · have e0 : T = [] := List.eq_nil_of_length_eq_zero h0
      subst e0
      exact (sort_none none 0 _ W).mono fun e w' ⟨h, h'⟩ => ⟨h, by subst h'; exact ⟨rfl, rfl, rfl, Nat.le_refl _, fun _ _ _ => rfl⟩, hge, none, 0, [], rfl, ⟨by simp, .inl rfl⟩, List.Perm.refl _, List.Pairwise.nil⟩
    · by_cases h0 : 0 < T.length
      · exact (sort_lists W b hv h0 h3 hlen).mono fun e w' ⟨h, hg, L, hp, hs, hl⟩ => ⟨h, hg, hge, _, cap, L, by rw [hp.length_eq], hl, hp, hs⟩
      · have e0 : T = [] := List.eq_nil_of_length_eq_zero (by omega)
        subst e0
        exact (sort_none _ cap _ W).mono fun e w' ⟨h, h'⟩ => ⟨h, by subst h'; exact ⟨rfl, rfl, rfl, Nat.le_refl _, fun _ _ _ => rfl⟩, hge, _, cap, [], rfl, by subst h'; exact ⟨by simp, .inr ⟨g, 0, rfl, (hv.1.lt g rfl).2, fun i hi => by simp at hi⟩⟩, List.Perm.refl _, List.Pairwise.nil⟩
  clear hlen h3
  go_enter Tryz.func27, Tryz.ntmps27
  go_wp2_with (first | (go_at_call 68; refine (H1.out _ H0.out).mono ?_; rintro e w1 ⟨d, rfl, hd⟩; have HD := Lib.hid hd; clear hd) | (go_at_call 74; refine (H2.out _ _ _ HD.out).mono ?_; rintro e w2 ⟨v, rfl, hov, ha2⟩; obtain ⟨A9, c9, rfl⟩ := hov.form; have HA2 := Lib.hid ((H0.out.trans HD.out.aft).trans ha2); have HSZ := Lib.hid (H0.out.trans HD.out.aft).size; have HOV := Lib.hid hov; clear ha2 hov) | (go_at_call 75; refine (HS.out _ _ _ HOV.out).mono ?_; rintro e w3 ⟨rfl, hg3, hge, A3, c3, L, hv, hL, hp, hs⟩; have HG3 := Lib.hid hg3; have HGE := Lib.hid hge; have HL := Lib.hid hL; have HP := Lib.hid hp; have HSS := Lib.hid hs; have HV := Lib.hid hv; clear hg3 hge hL hp hs hv))
  go_ret2
  refine ⟨A3, c3, L, by rw [← HV.out]; rfl, HL.out, HP.out, HSS.out, HA2.out.grown HG3.out (fun g hg => ?_)⟩
  exact Nat.le_trans HSZ.out (HGE.out g hg)
end Go.Proofs
end

section
namespace Go.Proofs
open Go.RowKit
open Court (refL begF noS award)

structure Two (W : World) (base : Nat) (v v' : Value) (l l' : List Int) : Prop where
  own : W.ownsRow base 3 1 v l.length (l.map (Value.int .i64))
  own' : W.ownsRow base 3 1 v' l'.length (l'.map (Value.int .i64))
  apart : ∀ g, v.ownBlock = some g → v'.ownBlock ≠ some g
section
variable {W W' : World} {base : Nat} {v v' : Value} {l l' : List Int}
theorem Two.nil (W : World) (base : Nat) : Two W base (.slice none 0 0) (.slice none 0 0) [] [] := ⟨World.ownsRow_nil _ _ 3 1, World.ownsRow_nil _ _ 3 1, fun g h => by cases h⟩
theorem Two.symm (h : Two W base v v' l l') : Two W base v' v l' l := ⟨h.own', h.own, fun g h1 h2 => h.apart g h2 h1⟩
theorem Two.aft (h : Two W base v v' l l') (ha : Aft W W') : Two W' base v v' l l' := ⟨own_aft h.own ha, own_aft h.own' ha, h.apart⟩
end
theorem wpList_two {w : World} {ops : Array Oper} {rest : List Oper} {o : Oper} {a : Act} {Q : Exit → Act → World → Prop}
    (hgd : o.guard = none) (s x : Operand) (ho : o.op = .call { callee := .builtin .append, args := #[s, x], argTypes := #[33, 33] })
    {base : Nat} {v v' : Value} {l l' : List Int} (h : Two w base v v' l l') (hbase : base ≤ w.heap.size) (hs : a.eval s = v)
    {y : Int} {c : Nat} {b : Nat} (hx : a.eval x = .slice (some ⟨b, 0, none⟩) 1 c) (hb : w.cell? ⟨b, 0, none⟩ = some (.int .i64 y)) (hl : l.length ≤ 1000000)
    (hn : ∀ v2 w2, Two w2 base v2 v' (l ++ [y]) l' → w.grownBy w2 v.ownBlock → wpList Tryz.prog ops Q rest (a.put o.dst v2) w2) : wpList Tryz.prog ops Q (o :: rest) a w := by
  obtain ⟨ht, ⟨i, z, hi, hz, hsize, hby, hzs⟩, hsz⟩ := ty24
  refine wpList_append_own_at (w := w) hgd s x 33 ho base 3 i z 1 8 ht hi hz hsize hby hzs hsz v l.length _ hs h.own ⟨b, 0, none⟩ 1 c [.int .i64 y] hx rfl (fun j u hj => ?_) (one_int y)
    (by unfold maxLen; omega) (by omega) hbase fun v2 w2 h2 h3 _ h5 => ?_
  · match j, hj with
    | 0, hj => simp at hj; subst hj; rw [Addr.add_lit]; simpa using hb
  · refine hn v2 w2 ⟨by simpa using h2, h.own'.kept h3 ?_, fun g hg hg' => ?_⟩ h3
    · cases e : v'.ownBlock with
      | none => left; rfl
      | some g => right; exact fun e2 => h.apart g e2.symm e
    · rcases h5 with h5 | h5
      · exact h.apart g (h5.symm.trans hg) hg'
      · rw [h5] at hg
        cases hg
        have := (h.own'.lt _ hg').2
        omega

def onTo (m : Nat) (l : List Int) (k : Nat) : List Int := ((List.range k).filter fun i => m.testBit i).map fun i => l.getD i 0
def offTo (m : Nat) (l : List Int) (k : Nat) : List Int := ((List.range k).filter fun i => !m.testBit i).map fun i => l.getD i 0
theorem onTo_succ (m : Nat) (l : List Int) (k : Nat) : onTo m l (k + 1) = onTo m l k ++ if m.testBit k then [l.getD k 0] else [] := by
  unfold onTo
  rw [List.range_succ, List.filter_append, List.map_append]
  congr 1
  by_cases h : m.testBit k = true <;> simp [h]
theorem offTo_succ (m : Nat) (l : List Int) (k : Nat) : offTo m l (k + 1) = offTo m l k ++ if m.testBit k then [] else [l.getD k 0] := by
  unfold offTo
  rw [List.range_succ, List.filter_append, List.map_append]
  congr 1
  by_cases h : m.testBit k = true <;> simp [h]
theorem onTo_len (m : Nat) (l : List Int) (k : Nat) : (onTo m l k).length ≤ k := by
  unfold onTo
  rw [List.length_map]
  exact Nat.le_trans (List.length_filter_le _ _) (by simp)
theorem offTo_len (m : Nat) (l : List Int) (k : Nat) : (offTo m l k).length ≤ k := by
  unfold offTo
  rw [List.length_map]
  exact Nat.le_trans (List.length_filter_le _ _) (by simp)
theorem getD_mem {l : List Int} {i : Nat} (h : i < l.length) : l.getD i 0 ∈ l := by
  rw [List.getD_eq_getElem?_getD, List.getElem?_eq_getElem h]
  exact List.getElem_mem h
theorem onTo_mem {m : Nat} {l : List Int} {x : Int} (h : x ∈ onTo m l l.length) : x ∈ l := by
  unfold onTo at h
  obtain ⟨i, hi, rfl⟩ := List.mem_map.1 h
  exact getD_mem (List.mem_range.1 (List.mem_filter.1 hi).1)
theorem offTo_mem {m : Nat} {l : List Int} {x : Int} (h : x ∈ offTo m l l.length) : x ∈ l := by
  unfold offTo at h
  obtain ⟨i, hi, rfl⟩ := List.mem_map.1 h
  exact getD_mem (List.mem_range.1 (List.mem_filter.1 hi).1)
def foundM (C : CaseL) (l : List Int) (N m : Nat) : Int → Nat := award C.strikes (refL (onTo m l l.length)) N (begF (refL (offTo m l l.length)))
def decT (C : CaseL) (l : List Int) (N M : Nat) (n : Int) : Bool := decide (0 ≤ n ∧ n < N) && (List.range M).all fun m => decide (foundM C l N m n ≠ 0)
theorem decT_succ (C : CaseL) (l : List Int) (N M : Nat) (n : Int) : decT C l N (M + 1) n = (decT C l N M n && decide (foundM C l N M n ≠ 0)) := by
  unfold decT
  rw [List.range_succ, List.all_append, Bool.and_assoc]
  simp
def mixT (C : CaseL) (l : List Int) (N M k : Nat) (n : Int) : Bool := if n < k then decT C l N (M + 1) n else decT C l N M n
theorem mixT_zero (C : CaseL) (l : List Int) (N M : Nat) : mixT C l N M 0 = decT C l N M := by
  funext n
  unfold mixT
  split
  · rw [decT_succ]
    have : decT C l N M n = false := by
      unfold decT
      rw [decide_eq_false (by omega)]
      rfl
    rw [this]; rfl
  · rfl
theorem mixT_end (C : CaseL) (l : List Int) (N M : Nat) : mixT C l N M N = decT C l N (M + 1) := by
  funext n
  unfold mixT
  split
  · rfl
  · have : decT C l N M n = false := by
      unfold decT
      rw [decide_eq_false (by omega)]
      rfl
    rw [decT_succ, this]; rfl
def setB (m : Int → Bool) (n : Int) (v : Bool) : Int → Bool := fun k => if k = n then v else m k
theorem mkL_setB (m : Int → Bool) {n : Nat} (h : n < 14) (v : Bool) : (mkL m).set n (.bool v) = mkL (setB m n v) := by
  apply List.ext_getElem?
  intro i
  rw [List.getElem?_set]
  by_cases hi : i < 14
  · rw [mkL_get _ hi, mkL_get _ hi, mkL_len]
    unfold setB
    by_cases e : n = i
    · subst e; simp [h]
    · rw [if_neg e, if_neg (by omega)]
  · rw [if_neg (by omega), List.getElem?_eq_none (by rw [mkL_len]; omega), List.getElem?_eq_none (by rw [mkL_len]; omega)]
theorem mk_setB (m : Int → Bool) {n : Nat} (h : n < 14) (v : Bool) : (mk m).setIfInBounds n (.bool v) = mk (setB m n v) := by
  unfold mk
  rw [List.setIfInBounds_toArray, mkL_setB m h]
theorem mixT_set (C : CaseL) (l : List Int) (N M k : Nat) : setB (mixT C l N M k) k (decT C l N M k && decide (foundM C l N M k ≠ 0)) = mixT C l N M (k + 1) := by
  funext n
  unfold setB mixT
  by_cases e : n = k
  · subst e
    rw [if_pos rfl, if_pos (by omega), decT_succ]
  · rw [if_neg e]
    by_cases h : n < k
    · rw [if_pos h, if_pos (by omega)]
    · rw [if_neg h, if_neg (by omega)]
theorem mixT_at (C : CaseL) (l : List Int) (N M k : Nat) : mixT C l N M k k = decT C l N M k := by unfold mixT; rw [if_neg (by omega)]
def firstB (k : Nat) (n : Int) : Bool := decide (0 ≤ n ∧ n < k)
theorem firstB_zero : firstB 0 = refL [] := by
  funext n
  unfold firstB refL
  rw [decide_eq_false (by omega)]; rfl
theorem firstB_set (k : Nat) : setB (firstB k) k true = firstB (k + 1) := by
  funext n
  unfold setB firstB
  by_cases e : n = k
  · subst e
    rw [if_pos rfl, decide_eq_true (by omega)]
  · rw [if_neg e]
    congr 1
    refine propext ⟨fun h => by omega, fun h => by omega⟩
theorem decT_zero (C : CaseL) (l : List Int) (N : Nat) : decT C l N 0 = firstB N := by
  funext n
  unfold decT firstB
  simp
theorem bit_eq (m k : Nat) : (((m : Int) / 2 ^ k) % 2 = 1) ↔ m.testBit k = true := by
  rw [Nat.testBit_eq_decide_div_mod_eq, decide_eq_true_eq]
  have : ((m : Int) / 2 ^ k) % 2 = ((m / 2 ^ k % 2 : Nat) : Int) := by push_cast; rfl
  rw [this]
  omega
end Go.Proofs
end

section
namespace Go.Proofs
open Go.RowKit
open Court (refL begF noS award)
attribute [local go_sem] Oper.semAt_some

structure DeI (w : World) (S B : Nat) (C : CaseL) (a1 a2 : Option Addr) (c1 c2 : Nat) (T : Int → Bool) (W : World) : Prop where
  aft : Aft w W
  ge : w.heap.size = S
  lt : S + 1 < B
  b0 : Blk W S 25 #[.int .i64 C.claims, .slice a1 C.strikes.length c1, .slice a2 C.surveys.length c2]
  b1 : Blk W (S + 1) 87 (List.replicate 14 (Value.bool false)).toArray
  b2 : Blk W B 87 (mk T)
section
variable {w W W' : World} {S B : Nat} {C : CaseL} {a1 a2 : Option Addr} {c1 c2 : Nat} {T T' : Int → Bool}
theorem DeI.later (h : DeI w S B C a1 a2 c1 c2 T W) (ha : Aft W W') : DeI w S B C a1 a2 c1 c2 T W' := ⟨h.aft.trans ha, h.ge, h.lt, h.b0.aft ha, h.b1.aft ha, h.b2.aft ha⟩
theorem DeI.set (h : DeI w S B C a1 a2 c1 c2 T W) {n : Nat} (hn : n < 14) (v : Bool) : DeI w S B C a1 a2 c1 c2 (setB T n v) (W.setCell ⟨B, n, none⟩ (.bool v)) :=
  ⟨h.aft.then_setCell (by have := h.ge; have := h.lt; show w.heap.size ≤ B; omega) _, h.ge, h.lt, h.b0.far (p := ⟨B, n, none⟩) (by have := h.lt; show S ≠ B; omega) _, h.b1.far (p := ⟨B, n, none⟩) (by have := h.lt; show S + 1 ≠ B; omega) _, by
    have := h.b2.store n (.bool v)
    rwa [mk_setB T hn] at this⟩
end

theorem bits_one : ∀ x : Fin 64, (bits .and .i64 ((x.val : Nat) : Int) 1 == 1) = x.val.testBit 0 := by decide
theorem bits_at {m k : Nat} (hm : m < 64) : (bits .and .i64 ((m : Int) / 2 ^ k) 1 == 1) = m.testBit k := by
  have h := bits_one ⟨m / 2 ^ k, Nat.lt_of_le_of_lt (Nat.div_le_self _ _) hm⟩
  have e : ((m : Int) / 2 ^ k) = ((m / 2 ^ k : Nat) : Int) := by push_cast; rfl
  rw [e]
  rw [Nat.testBit_div_two_pow, Nat.zero_add] at h
  exact h

set_option maxRecDepth 100000 in
set_option maxHeartbeats 4000000 in
theorem decides_any (C : CaseL) (a1 a2 : Option Addr) (c1 c2 : Nat) (l : List Int) (A : Option Addr) (c : Nat) (w : World) (hC : CRep w C a1 a2) (hA : Ints w A l) (N : Nat) (hN : C.claims = N) (hN1 : 1 ≤ N) (hN14 : N ≤ 14) (hS : ∀ s ∈ C.strikes, 0 ≤ s.1 ∧ s.1 < 14) (hl : ∀ x ∈ l, 0 ≤ x ∧ x < N) (hll : l.length ≤ 6) :
    Calls Tryz.prog 55 #[(.agg #[.int .i64 C.claims, .slice a1 C.strikes.length c1, .slice a2 C.surveys.length c2]), .slice A l.length c] w fun e w' => e = .returned (.agg (mk (decT C l N (2 ^ l.length)))) ∧ Aft w w' := by
  have H71 : Hid (∀ W, Aft w W → Calls Tryz.prog 71 #[.slice none 0 0] W (Marked [] W)) := Lib.hid fun W h => marked_any [] none 0 W RowsP.nil (by simp)
  have H61 : Hid (∀ W A1 c1' L1 A2 c2' L2, Aft w W → Ints W A1 L1 → Ints W A2 L2 → (∀ x ∈ L1, x ∈ l) → (∀ x ∈ L2, x ∈ l) → Calls Tryz.prog 61 #[(.agg #[.int .i64 C.claims, .slice a1 C.strikes.length c1, .slice a2 C.surveys.length c2]), .slice A1 L1.length c1', .slice A2 L2.length c2'] W fun e w' => ∃ d, e = .returned (.pointer (some ⟨d, 0, none⟩)) ∧ DeskAt W w' d C a1 a2 c1 c2 (refL L1) (refL L2) (begF (refL L1)) (fun _ => 0)) := Lib.hid fun W A1 c1' L1 A2 c2' L2 h h1 h2 m1 m2 =>
    begun_any C a1 a2 c1 c2 L1 L2 A1 A2 c1' c2' W (by omega) (hC.aft h) h1 h2 (fun n hn => by have := hl n (m1 n hn); omega) (fun n hn => by have := hl n (m2 n hn); omega)
  have H62 : Hid (∀ W0 W d ref sure, DeskAt W0 W d C a1 a2 c1 c2 ref sure (begF ref) (fun _ => 0) → Calls Tryz.prog 62 #[.pointer (some ⟨d, 0, none⟩)] W fun e w' => e = .returned (.pointer (some ⟨d, 0, none⟩)) ∧ W.grownBy w' (some d) ∧ ∃ r, DeskAt W0 w' d C a1 a2 c1 c2 ref sure (award C.strikes sure N (begF ref)) r) := Lib.hid fun W0 W d ref sure hD =>
    (award_any W0 W d C a1 a2 c1 c2 ref sure (begF ref) (begF ref) (fun _ => 0) hD N hN hN14 hS (Court.begF_three _) (HeardS.start _ _ _ _)).mono fun e w' ⟨h, hg, f, r, hd, hh, hdn⟩ => ⟨h, hg, r, by
      have e : f = award C.strikes sure N (begF ref) := Court.award_eq (Court.begF_three _) hh.reach hdn
      subst e; exact hd⟩
  have HA := Lib.hid hA
  have HN := Lib.hid hN
  have hlen := hll
  obtain ⟨q, hq⟩ : ∃ q, 2 ^ l.length = q := ⟨_, rfl⟩
  have hq64 : q ≤ 64 := by rw [← hq]; exact Nat.le_trans (Nat.pow_le_pow_right (by omega) hlen) (by decide)
  have HQI : Hid ((2 : Int) ^ l.length = (q : Int)) := Lib.hid (by rw [← hq]; push_cast; rfl)
  rw [hq]
  clear hq
  clear hC hA hN hS hl
  go_enter Tryz.func55, Tryz.ntmps55
  go_upto_region 2 with (first | (go_at_call 71; refine (H71.out _ ((Aft.alloc _ _).then_alloc _)).mono ?_; rintro e w1 ⟨rfl, ha1⟩; have HA1 := Lib.hid ha1; clear ha1) | (refine wpList_store_new rfl 87 (.tmp 5) (.tmp 14) rfl rfl rfl (by rw [info87, mk_size]) (by rw [mk_size]; rfl) (all_oneCell_toArray (mkL_one _)) ?_))
  have HI0 : Hid (DeI w w.heap.size w1.heap.size C a1 a2 c1 c2 (firstB 0) (w1.alloc (.cells (mk (refL [])) 87))) := Lib.hid (by
    have hs := HA1.out.size
    have q1 : (w.alloc (.cells #[.int .i64 C.claims, .slice a1 C.strikes.length c1, .slice a2 C.surveys.length c2] 25)).heap.size = w.heap.size + 1 := by simp
    refine ⟨(((Aft.alloc _ _).then_alloc _).trans HA1.out).then_alloc _, rfl, by simp at hs; omega, (((Blk.new w 25 #[.int .i64 C.claims, .slice a1 C.strikes.length c1, .slice a2 C.surveys.length c2]).alloc _).aft HA1.out).alloc _, ?_, ?_⟩
    · have := ((Blk.new (w.alloc (.cells #[.int .i64 C.claims, .slice a1 C.strikes.length c1, .slice a2 C.surveys.length c2] 25)) 87 (List.replicate 14 (Value.bool false)).toArray).aft HA1.out).alloc (.cells (mk (refL [])) 87)
      rwa [q1] at this
    · rw [firstB_zero]; exact Blk.new w1 87 _)
  clear HA1 H71
  simp only [Act.put]
  generalize w1.alloc (.cells (mk (refL [])) 87) = W1 at *
  generalize w1.heap.size = B at *
  obtain ⟨S, hSS⟩ : ∃ S, w.heap.size = S := ⟨_, rfl⟩
  rw [hSS] at HI0 ⊢
  have k0 : W1.cell? ⟨S, 0, none⟩ = some (.int .i64 N) := by rw [← HN.out]; exact HI0.out.b0.cell 0
  have k1 := HI0.out.b0.lt
  go_upto_block 0 with (fail)
  clear k0 k1
  refine wp_block ?_
  go_loopw [17] (fun i wr => ∃ k : Nat, i = .int .i64 k ∧ k ≤ N ∧ DeI w S B C a1 a2 c1 c2 (firstB k) wr) (fun i _ => N - (intOf i).toNat)
  case atStart => exact ⟨0, rfl, by omega, HI0.out⟩
  case round =>
    obtain ⟨k, rfl, hk, hi⟩ := hrel
    have HI := Lib.hid hi
    clear hi
    by_cases hkN : k < N
    · have t1 : decide (k < N) = true := by simpa using hkN
      have hk14 : k < 14 := by omega
      have k1 := (HI.out.b2.cell k).trans (mk_get _ hk14)
      have k2 := HI.out.b2.frozen k
      have k3 := HI.out.b2.lt
      have i1 : (0 : Int) ≤ (k : Int) ∧ (k : Int) < 14 := by omega
      go_wp2_with fail
      exact ⟨⟨k + 1, by go_num, by omega, by rw [← firstB_set]; exact HI.out.set hk14 true⟩, by simp [intOf]; omega⟩
    · have t1 : decide (k < N) = false := by simpa using hkN
      obtain rfl : N = k := by omega
      clear hkN
      go_upto_block 2 with (fail)
      rw [HQI.out, show wrap64 (q : Int) = (q : Int) from by unfold wrap64; omega]
      have HI2 : Hid (DeI w S B C a1 a2 c1 c2 (decT C l N 0) wr) := Lib.hid (by rw [decT_zero]; exact HI.out)
      clear HI HI0
      refine wp_block ?_
      go_loopw [26] (fun i wr => ∃ m : Nat, i = .int .i64 m ∧ m ≤ q ∧ DeI w S B C a1 a2 c1 c2 (decT C l N m) wr) (fun i _ => q - (intOf i).toNat)
      case atStart => exact ⟨0, rfl, by omega, HI2.out⟩
      case round =>
        obtain ⟨m, rfl, hm, hi⟩ := hrel
        have HI := Lib.hid hi
        clear hi HI2
        generalize wr = wm at *
        by_cases hmq : m < q
        · have t2 : decide (m < q) = true := by simpa using hmq
          go_upto_block 4 with (fail)
          have HT0 := Lib.hid (Two.nil wm wm.heap.size)
          refine wp_block ?_
          go_loopw [8, 9, 31] (fun v8 v9 i wr => ∃ k : Nat, i = .int .i64 k ∧ k ≤ l.length ∧ Two wr wm.heap.size v8 v9 (offTo m l k) (onTo m l k) ∧ Aft wm wr) (fun _ _ i _ => l.length - (intOf i).toNat)
          case atStart => exact ⟨0, rfl, by omega, HT0.out, Aft.refl _⟩
          case round =>
            obtain ⟨k, rfl, hk, htw, haw⟩ := hrel
            have HTW := Lib.hid htw
            have HAW := Lib.hid haw
            clear htw haw
            by_cases hkl : k < l.length
            · have t3 : decide (k < l.length) = true := by simpa using hkl
              obtain ⟨bx, ox, rfl, -, hx⟩ := (HA.out.aft (HI.out.aft.trans HAW.out)).at hkl
              have x0 := hx k hkl
              have hkx : (0 : Int) ≤ (k : Int) ∧ (k : Int) < (l.length : Int) := by omega
              clear hx
              have hk64 : (0 : Int) ≤ (k : Int) ∧ (k : Int) ≤ 64 := by omega
              have hbit := bits_at (m := m) (k := k) (by omega)
              have hbase : wm.heap.size ≤ wr.heap.size := HAW.out.size
              have hxk : l.getD k 0 = l[k] := by rw [List.getD_eq_getElem?_getD, List.getElem?_eq_getElem hkl]; rfl
              have HON := Lib.hid (onTo_succ m l k)
              have HOF := Lib.hid (offTo_succ m l k)
              have hon := onTo_len m l k
              have hof := offTo_len m l k
              rw [hxk] at HON HOF
              clear hxk
              generalize l[k] = y at *
              cases hb : m.testBit k
              · rw [hb] at hbit HON HOF
                clear hb
                have HTA := Lib.hid (HTW.out.aft (Aft.alloc wr (.cells #[.int .i64 y] 3)))
                have hbase2 : wm.heap.size ≤ (wr.alloc (.cells #[.int .i64 y] 3)).heap.size := by simp; omega
                go_wp2_with (at_builtin; refine wpList_two rfl _ _ rfl HTA.out hbase2 rfl rfl (cell_new1 _ _ _) (by omega) ?_; intro v2 w2 h2 hg2; have H2 := Lib.hid h2; have HG2 := Lib.hid hg2; clear h2 hg2)
                refine ⟨⟨k + 1, by go_num, by omega, by rw [HON.out, HOF.out]; simpa using H2.out, (HAW.out.then_alloc _).grown HG2.out (fun g hg => own_ge HTA.out.own g hg)⟩, by simp [intOf]; omega⟩
              · rw [hb] at hbit HON HOF
                clear hb
                have HTA := Lib.hid (HTW.out.symm.aft (Aft.alloc wr (.cells #[.int .i64 y] 3)))
                have hbase2 : wm.heap.size ≤ (wr.alloc (.cells #[.int .i64 y] 3)).heap.size := by simp; omega
                go_wp2_with (at_builtin; refine wpList_two rfl _ _ rfl HTA.out hbase2 rfl rfl (cell_new1 _ _ _) (by omega) ?_; intro v2 w2 h2 hg2; have H2 := Lib.hid h2.symm; have HG2 := Lib.hid hg2; clear h2 hg2)
                refine ⟨⟨k + 1, by go_num, by omega, by rw [HON.out, HOF.out]; simpa using H2.out, (HAW.out.then_alloc _).grown HG2.out (fun g hg => own_ge HTA.out.own g hg)⟩, by simp [intOf]; omega⟩
            · have t3 : decide (k < l.length) = false := by simpa using hkl
              obtain rfl : k = l.length := by omega
              clear hkl hk
              have HF : Hid (foundM C l N m = award C.strikes (refL (onTo m l l.length)) N (begF (refL (offTo m l l.length)))) := Lib.hid rfl
              have HM8 := Lib.hid (fun (x : Int) (h : x ∈ offTo m l l.length) => offTo_mem h)
              have HM9 := Lib.hid (fun (x : Int) (h : x ∈ onTo m l l.length) => onTo_mem h)
              have hl8 := offTo_len m l l.length
              have hl9 := onTo_len m l l.length
              generalize offTo m l l.length = L8 at *
              generalize onTo m l l.length = L9 at *
              obtain ⟨A8, c8, rfl, _, hi8⟩ := own_ints HTW.out.own (by omega)
              obtain ⟨A9, c9, rfl, _, hi9⟩ := own_ints HTW.out.own' (by omega)
              have HI8 := Lib.hid hi8
              have HI9 := Lib.hid hi9
              have HAWW := Lib.hid (HI.out.aft.trans HAW.out)
              obtain ⟨k0, k1, k2⟩ := box25 (HI.out.b0.aft HAW.out)
              have k3 := (HI.out.b0.aft HAW.out).lt
              clear hi8 hi9 hl8 hl9
              go_upto_block 6 with (first | (go_at_call 61; refine (H61.out _ A8 c8 L8 A9 c9 L9 HAWW.out HI8.out HI9.out HM8.out HM9.out).mono ?_; rintro e w5 ⟨d, rfl, hd⟩; have HD5 := Lib.hid hd; clear hd; clear k0 k1 k2) | (go_at_call 62; refine (H62.out _ _ _ _ _ HD5.out).mono ?_; rintro e w6 ⟨rfl, hg6, r, hd6⟩; have HG6 := Lib.hid hg6; have HD6 := Lib.hid hd6; have HI6 := Lib.hid (HI.out.later (HAW.out.trans (HD5.out.aft.grown hg6 (fun g e => by cases e; exact HD5.out.base)))); have k0 : w6.cell? ⟨S, 0, none⟩ = some (.int .i64 N) := by { rw [← HN.out]; exact HI6.out.b0.cell 0 }; clear hg6 hd6))
              clear k0
              have HFD : Hid (∀ W, Blk W d 94 (deskL C a1 a2 c1 c2 (refL L8) (refL L9) (award C.strikes (refL L9) N (begF (refL L8))) r).toArray → ∀ n : Nat, n < 14 → W.cell? ⟨d, 31 + n, none⟩ = some (.int .i64 (foundM C l N m n : Nat))) := Lib.hid fun W hb n hn => by
                rw [HF.out]
                exact (hb.cell _).trans (by rw [List.getElem?_toArray, deskL_found (h := hn)])
              have HBD := Lib.hid HD6.out.blk
              have hdB : d ≠ B := by have := HD5.out.base; have := (HI.out.b2.aft HAW.out).lt; omega
              generalize (deskL C a1 a2 c1 c2 (refL L8) (refL L9) (award C.strikes (refL L9) N (begF (refL L8))) r).toArray = DC at *
              have HM0 : Hid (DeI w S B C a1 a2 c1 c2 (mixT C l N m 0) w6) := Lib.hid (by rw [mixT_zero]; exact HI6.out)
              clear HTW HAW HF HM8 HM9 HI8 HI9 HAWW HD5 HG6 HD6
              refine wp_block ?_
              go_loopw [57] (fun i wr => ∃ k : Nat, i = .int .i64 k ∧ k ≤ N ∧ DeI w S B C a1 a2 c1 c2 (mixT C l N m k) wr ∧ Blk wr d 94 DC) (fun i _ => N - (intOf i).toNat)
              case atStart => exact ⟨0, rfl, by omega, HM0.out, HBD.out⟩
              case round =>
                obtain ⟨k, rfl, hk, hik, hbk⟩ := hrel
                have HIK := Lib.hid hik
                have HBK := Lib.hid hbk
                clear hik hbk
                by_cases hkN : k < N
                · have t4 : decide (k < N) = true := by simpa using hkN
                  have hk14 : k < 14 := by omega
                  have k1 := (HIK.out.b2.cell k).trans (mk_get _ hk14)
                  have k2 := HIK.out.b2.frozen k
                  have k3 := HIK.out.b2.lt
                  have k4 := HFD.out wr HBK.out k hk14
                  have k5 := HBK.out.lt
                  have i1 : (0 : Int) ≤ (k : Int) ∧ (k : Int) < 14 := by omega
                  have HMS := Lib.hid (mixT_set C l N m k)
                  rw [mixT_at] at k1
                  cases hq : decT C l N m k
                  · rw [hq] at k1 HMS
                    clear hq
                    go_wp2_with fail
                    refine ⟨⟨k + 1, by go_num, by omega, by rw [← HMS.out]; exact HIK.out.set hk14 false, HBK.out.far (p := ⟨B, k, none⟩) hdB _⟩, by simp [intOf]; omega⟩
                  · rw [hq] at k1 HMS
                    clear hq
                    by_cases hf : foundM C l N m k = 0
                    · rw [hf] at k4 HMS
                      clear hf
                      go_wp2_with fail
                      refine ⟨⟨k + 1, by go_num, by omega, by rw [← HMS.out]; exact HIK.out.set hk14 false, HBK.out.far (p := ⟨B, k, none⟩) hdB _⟩, by simp [intOf]; omega⟩
                    · have t5 : (((foundM C l N m k : Nat) : Int) != 0) = true := by simpa using hf
                      rw [decide_eq_true hf] at HMS
                      clear hf
                      generalize foundM C l N m k = fk at *
                      go_wp2_with fail
                      refine ⟨⟨k + 1, by go_num, by omega, by rw [← HMS.out]; exact HIK.out.set hk14 true, HBK.out.far (p := ⟨B, k, none⟩) hdB _⟩, by simp [intOf]; omega⟩
                · have t4 : decide (k < N) = false := by simpa using hkN
                  obtain rfl : N = k := by omega
                  clear hkN
                  have HIE : Hid (DeI w S B C a1 a2 c1 c2 (decT C l N (m + 1)) wr) := Lib.hid (by rw [← mixT_end]; exact HIK.out)
                  clear HFD HM0
                  go_wp2_with fail
                  exact ⟨⟨m + 1, by go_num, by omega, HIE.out⟩, by simp [intOf]; omega⟩
        · have t2 : decide (m < q) = false := by simpa using hmq
          obtain rfl : q = m := by omega
          have HR := Lib.hid (blk_range HI.out.b2)
          have HTH := Lib.hid (blk_there HI.out.b1 (mk_size (decT C l N q)).symm.symm)
          have hge := HI.out.ge
          obtain ⟨W9, hW9, hl2, h9⟩ : ∃ W9, wm.setCells (S + 1) 0 (mk (decT C l N q)).toList = W9 ∧ (loadVar 87 ⟨S + 1, 0, none⟩).run Tryz.prog W9 = .ok (.agg (mk (decT C l N q))) W9 ∧ Aft w W9 :=
            ⟨_, rfl, run_loadVar_mid (P := Tryz.prog) _ (S + 1) 0 87 (mkL (decT C l N q)) _ (World.rangeAt_setCells_same wm (S + 1) 0 (mkL (decT C l N q)) (blk_there HI.out.b1 (mkL_len _))) Tryz.underlying87 rfl (by rw [info87, mkL_len]),
              HI.out.aft.grown (only_setCells _ _ _ (only_refl _ _)) (fun k e => by cases e; omega)⟩
          have H9 := Lib.hid h9
          clear h9 hmq
          go_wp2_with (first | (refine wpList_load_mid rfl 87 (.tmp 5) rfl B 0 rfl (mkL (decT C l N q)) _ HR.out Tryz.underlying87 rfl (by rw [info87, mkL_len]) ?_) | (refine wpList_store_mid rfl 87 (.tmp 4) (.tmp 76) rfl (S + 1) 0 (mk (decT C l N q)) rfl rfl HTH.out (by rw [info87, mk_size]) (all_oneCell_toArray (mkL_one _)) ?_; rw [hW9]))
          refine bodyPost_ret (v := .agg (mk (decT C l N q))) ?_ rfl ⟨rfl, H9.out⟩
          simp [results, Tryz.results55, Act.put, asAddr, hl2]
end Go.Proofs
end

section
namespace Go.Proofs
open Go.RowKit
open Court (refL begF noS struckB nextR strikeL canB coverB grow)
attribute [local go_sem] Oper.semAt_some

theorem runs_77 (args : Array Value) (w : World) : (callFunc 77 args).run Tryz.prog w = .ok (.enter 77 args) w := by simp [go_sem]
theorem runs_79 (args : Array Value) (w : World) : (callFunc 79 args).run Tryz.prog w = .ok (.enter 79 args) w := by simp [go_sem]
theorem always2_any (A : Option Addr) (l : List Int) (c : Nat) (n : Int) (b : Nat) (w : World) (hA : Ints w A l) (hb : Blk w b 3 #[.int .i64 n]) :
    Calls Tryz.prog 79 #[.slice A l.length c, .pointer (some ⟨b, 0, none⟩)] w fun e w' => e = .returned (.bool (!hasB l n)) ∧ Aft w w' := by
  have H : Hid (Calls Tryz.prog 38 #[.slice A l.length c, .int .i64 n] w fun e w' => e = .returned (.bool (hasB l n)) ∧ Aft w w') := Lib.hid ((contains_any A l c n w hA).mono fun e w' ⟨h1, h2⟩ => ⟨h1, by subst h2; exact Aft.refl _⟩)
  have k0 : w.cell? ⟨b, 0, none⟩ = some (.int .i64 n) := hb.cell 0
  have hlt := hb.lt
  clear hA hb
  generalize hasB l n = q at *
  go_enter Tryz.func79, Tryz.ntmps79
  go_wp2_with (go_at_call 38; refine H.out.mono ?_; rintro e w' ⟨rfl, ha⟩; have HA := Lib.hid ha; clear ha)
  go_ret
  exact ⟨rfl, HA.out⟩
theorem always1_any (A : Option Addr) (ls : List (List Int)) (c : Nat) (n : Int) (b : Nat) (w : World) (hA : Lists w A ls) (hb : Blk w b 23 #[.slice A ls.length c]) :
    Calls Tryz.prog 77 #[.int .i64 n, .pointer (some ⟨b, 0, none⟩)] w fun e w' => e = .returned (.bool (ls.any fun x => !hasB x n)) ∧ Aft w w' := by
  have H : Hid (Calls Tryz.prog 78 #[.slice A ls.length c, .func (.func 79) #[] #[.pointer (some ⟨w.heap.size, 0, none⟩)]] (w.alloc (.cells #[.int .i64 n] 3)) fun e w' => e = .returned (.bool (!ls.any fun x => !hasB x n)) ∧ Aft (w.alloc (.cells #[.int .i64 n] 3)) w') := Lib.hid
    (none_lists ListR 79 [.pointer (some ⟨w.heap.size, 0, none⟩)] (fun x => !hasB x n) A ls c _ (hA.aft (Aft.alloc _ _)) runs_79 (fun x hx v0 ⟨A1, c1, hv, hi⟩ => by
      cases hv
      exact fun u => always2_any A1 x c1 n w.heap.size _ (hi.aft (Aft.lat _ u)) ((Blk.new w 3 #[.int .i64 n]).lat u)))
  have k0 : w.cell? ⟨b, 0, none⟩ = some (.slice A ls.length c) := hb.cell 0
  have hlt := hb.lt
  clear hA hb
  generalize (ls.any fun x => !hasB x n) = q at *
  go_enter Tryz.func77, Tryz.ntmps77
  go_wp2_with (go_at_call 78; refine H.out.mono ?_; rintro e w' ⟨rfl, ha⟩; have HA := Lib.hid ha; clear ha)
  go_ret
  exact ⟨by simp, (Aft.alloc _ _).trans HA.out⟩

def fullsA (C : CaseL) (R : List Int) : List (List Int) := grow C.strikes (refL R) C.claims.toNat C.claims.toNat 0 []
def alwaysE (C : CaseL) (R : List Int) : Int := if openE C R = 0 then (if fullsA C R = [] then 7 else 0) else openE C R
def alwaysL (C : CaseL) (R : List Int) : List Int := ((fullsA C R).headD []).filter fun n => !(fullsA C R).any fun x => !hasB x n
def BadA (C : CaseL) (R : List Int) (w : World) (e : Ending) (w' : World) : Prop := e = .returned (.tuple #[.slice none 0 0, .int .i64 (alwaysE C R)]) ∧ Aft w w'
def GoodI (L : List Int) (w : World) (e : Ending) (w' : World) : Prop := ∃ A c, e = .returned (.tuple #[.slice A L.length c, .int .i64 0]) ∧ Ints w' A L ∧ Aft w w'
theorem grow_count {S : List (Int × Int)} {ref : Int → Bool} {N : Nat} : ∀ (k n : Nat) (l : List Int), (grow S ref N k n l).length ≤ 2 ^ k
  | 0, n, l => by unfold grow; split <;> simp
  | k + 1, n, l => by
    show ((if canB S ref l n then grow S ref N k (n + 1) (l ++ [(n : Int)]) else []) ++ grow S ref N k (n + 1) l).length ≤ 2 ^ (k + 1)
    have h1 := grow_count (S := S) (ref := ref) (N := N) k (n + 1) l
    have h2 := grow_count (S := S) (ref := ref) (N := N) k (n + 1) (l ++ [(n : Int)])
    rw [List.length_append, Nat.pow_succ]
    split <;> simp <;> omega
theorem grow_len' {S : List (Int × Int)} {ref : Int → Bool} {N : Nat} : ∀ (k n : Nat) (l : List Int), ∀ x ∈ grow S ref N k n l, x.length ≤ l.length + k
  | 0, n, l, x, h => by
    unfold grow at h
    split at h
    · rw [List.mem_singleton] at h; subst h; omega
    · cases h
  | k + 1, n, l, x, h => by
    have h' : x ∈ (if canB S ref l n then grow S ref N k (n + 1) (l ++ [(n : Int)]) else []) ++ grow S ref N k (n + 1) l := h
    rcases List.mem_append.1 h' with h | h
    · split at h
      · have := grow_len' k (n + 1) _ x h
        rw [List.length_append, List.length_singleton] at this
        omega
      · cases h
    · have := grow_len' k (n + 1) _ x h
      omega
theorem fulls_all (C : CaseL) (a1 a2 : Option Addr) (c1 c2 : Nat) (R : List Int) (h1 : openE C R = 0) (W0 W : World) (d : Nat) (hD : DeskAt W0 W d C a1 a2 c1 c2 (refL R) noS (begF (refL R)) (fun _ => 0)) :
    Calls Tryz.prog 74 #[.pointer (some ⟨d, 0, none⟩), .int .i64 16384] W fun e w' => ∃ v, e = .returned v ∧ Outs w' W.heap.size v (fullsA C R) ∧ Aft W w' := by
  have hok := (openE_facts h1).1
  have h := full_any W0 W d 16384 C.claims.toNat C a1 a2 c1 c2 (refL R) (begF (refL R)) (fun _ => 0) hD (by have := hok.n1; omega) (by have := hok.n2; omega) (fun s hs => by have := (hok.ins s hs).1; have := hok.n2; omega) (by omega)
  have e : (grow C.strikes (refL R) C.claims.toNat C.claims.toNat 0 []).take 16384 = fullsA C R := by
    refine List.take_of_length_le (Nat.le_trans (grow_count _ _ _) ?_)
    exact Nat.le_trans (Nat.pow_le_pow_right (by omega) (by have := hok.n2; omega : C.claims.toNat ≤ 14)) (by decide)
  rw [e] at h
  exact h
theorem fulls_len (C : CaseL) (R : List Int) (h1 : openE C R = 0) : (fullsA C R).length ≤ 16384 ∧ ∀ x ∈ fullsA C R, x.length ≤ 14 := by
  have hok := (openE_facts h1).1
  have hn : C.claims.toNat ≤ 14 := by have := hok.n2; omega
  refine ⟨Nat.le_trans (grow_count _ _ _) (Nat.le_trans (Nat.pow_le_pow_right (by omega) hn) (by decide)), fun x hx => ?_⟩
  have := grow_len' _ _ _ x hx
  simp at this
  omega

set_option maxRecDepth 100000 in
set_option maxHeartbeats 2000000 in
theorem always_bad (C : CaseL) (a1 a2 : Option Addr) (c1 c2 : Nat) (R : List Int) (A : Option Addr) (c : Nat) (w : World) (hC : CRep w C a1 a2) (hA : Ints w A R) (he : alwaysE C R ≠ 0) :
    Calls Tryz.prog 30 #[(.agg #[.int .i64 C.claims, .slice a1 C.strikes.length c1, .slice a2 C.surveys.length c2]), .slice A R.length c] w (BadA C R w) := by
  have H0 := Lib.hid (Aft.alloc w (.cells #[.int .i64 C.claims, .slice a1 C.strikes.length c1, .slice a2 C.surveys.length c2] 25))
  unfold BadA
  unfold alwaysE at he ⊢
  by_cases h1 : openE C R = 0
  · rw [if_pos h1] at he ⊢
    have h2 : fullsA C R = [] := by
      by_cases h : fullsA C R = []
      · exact h
      · rw [if_neg h] at he; exact absurd rfl he
    rw [if_pos h2]
    have H1 : Hid (∀ W, Aft w W → Calls Tryz.prog 68 #[(.agg #[.int .i64 C.claims, .slice a1 C.strikes.length c1, .slice a2 C.surveys.length c2]), .slice A R.length c] W (Opened C a1 a2 c1 c2 R W)) := Lib.hid fun W h => opened_good C a1 a2 c1 c2 R A c W (hC.aft h) (hA.aft h) h1
    have H2 := Lib.hid (fulls_all C a1 a2 c1 c2 R h1)
    rw [h2] at H2
    clear hC hA h1 h2 he
    go_enter Tryz.func30, Tryz.ntmps30
    go_wp2_with (first | (go_at_call 68; refine (H1.out _ H0.out).mono ?_; rintro e w1 ⟨d, rfl, hd⟩; have HD := Lib.hid hd; clear hd) | (go_at_call 74; refine (H2.out _ _ _ HD.out).mono ?_; rintro e w2 ⟨v, rfl, hov, ha2⟩; obtain ⟨A9, c9, rfl⟩ := hov.form; have HA2 := Lib.hid ha2; clear ha2 hov))
    go_ret2
    exact ⟨rfl, ((H0.out.trans HD.out.aft).trans HA2.out).then_alloc _⟩
  · rw [if_neg h1] at he ⊢
    have H1 : Hid (∀ W, Aft w W → Calls Tryz.prog 68 #[(.agg #[.int .i64 C.claims, .slice a1 C.strikes.length c1, .slice a2 C.surveys.length c2]), .slice A R.length c] W fun e w' => e = .returned (.tuple #[.pointer none, .int .i64 (openE C R)]) ∧ Aft W w') := Lib.hid fun W h => opened_bad C a1 a2 c1 c2 R A c W (hC.aft h) (hA.aft h) he
    have t1 : (openE C R != 0) = true := by simpa using he
    clear hC hA he h1
    generalize openE C R = E at *
    go_enter Tryz.func30, Tryz.ntmps30
    go_wp2_with (go_at_call 68; refine (H1.out _ H0.out).mono ?_; rintro e w' ⟨rfl, u, rfl⟩)
    go_ret2
    exact ⟨rfl, H0.out.then_lat _⟩
end Go.Proofs
end

section
namespace Go.Proofs
open Go.RowKit
open Court (refL begF noS award)
attribute [local go_sem] Oper.semAt_some

set_option maxRecDepth 100000 in
theorem index87_any (T : Int → Bool) (W : World) : ∀ n : Nat, n < 14 → (Instr.index 87 (.agg (mk T)) (.int .i64 n)).run Tryz.prog W = .ok (.bool (T n)) W
  | 0, _ => by kernel_rfl
  | 1, _ => by kernel_rfl
  | 2, _ => by kernel_rfl
  | 3, _ => by kernel_rfl
  | 4, _ => by kernel_rfl
  | 5, _ => by kernel_rfl
  | 6, _ => by kernel_rfl
  | 7, _ => by kernel_rfl
  | 8, _ => by kernel_rfl
  | 9, _ => by kernel_rfl
  | 10, _ => by kernel_rfl
  | 11, _ => by kernel_rfl
  | 12, _ => by kernel_rfl
  | 13, _ => by kernel_rfl
  | n + 14, h => absurd h (by omega)
def idxL (p : Nat → Bool) (k : Nat) : List Int := ((List.range k).filter p).map fun (i : Nat) => (i : Int)
theorem idxL_succ (p : Nat → Bool) (k : Nat) : idxL p (k + 1) = idxL p k ++ if p k then [(k : Int)] else [] := by
  unfold idxL
  rw [List.range_succ, List.filter_append, List.map_append]
  congr 1
  by_cases h : p k = true <;> simp [h]
theorem idxL_len (p : Nat → Bool) (k : Nat) : (idxL p k).length ≤ k := by
  unfold idxL
  rw [List.length_map]
  exact Nat.le_trans (List.length_filter_le _ _) (by simp)
def decidesB (C : CaseL) (i : Nat) (n : Int) : Bool := decT C (C.surveys.getD i []) C.claims.toNat (2 ^ (C.surveys.getD i []).length) n
def surveyingE (C : CaseL) (n : Int) : Int := if caseE C = 0 then (if Cl n C.claims then 0 else 2) else caseE C
def BadS (E : Int) (w : World) (e : Ending) (w' : World) : Prop := e = .returned (.tuple #[.slice none 0 0, .int .i64 E]) ∧ Aft w w'
theorem decides_of (C : CaseL) (a1 a2 : Option Addr) (c1 c2 : Nat) (hc : caseE C = 0) (l : List Int) (hl : l ∈ C.surveys) (A : Option Addr) (c : Nat) (w : World) (hC : CRep w C a1 a2) (hA : Ints w A l) :
    Calls Tryz.prog 55 #[(.agg #[.int .i64 C.claims, .slice a1 C.strikes.length c1, .slice a2 C.surveys.length c2]), .slice A l.length c] w fun e w' => e = .returned (.agg (mk (decT C l C.claims.toNat (2 ^ l.length)))) ∧ Aft w w' := by
  have hok := caseE_ok hc
  have hs := hok.svs l hl
  have hr := (listedE_ok hs.2).1
  have := hok.n1
  have := hok.n2
  exact decides_any C a1 a2 c1 c2 l A c w hC hA C.claims.toNat (by omega) (by omega) (by omega) (fun s hs => by have := (hok.ins s hs).1; omega) (fun x hx => by have := hr x hx; omega) hs.1.2

set_option maxRecDepth 100000 in
set_option maxHeartbeats 2000000 in
theorem surveys_bad (C : CaseL) (a1 a2 : Option Addr) (c1 c2 : Nat) (n : Int) (w : World) (hC : CRep w C a1 a2) (he : surveyingE C n ≠ 0) :
    Calls Tryz.prog 18 #[(.agg #[.int .i64 C.claims, .slice a1 C.strikes.length c1, .slice a2 C.surveys.length c2]), .int .i64 n] w (BadS (surveyingE C n) w) := by
  have H0 := Lib.hid (Aft.alloc w (.cells #[.int .i64 C.claims, .slice a1 C.strikes.length c1, .slice a2 C.surveys.length c2] 25))
  have HB := Lib.hid (Blk.new w 25 #[.int .i64 C.claims, .slice a1 C.strikes.length c1, .slice a2 C.surveys.length c2])
  have H1 : Hid (∀ W, Aft w W → Calls Tryz.prog 34 #[(.agg #[.int .i64 C.claims, .slice a1 C.strikes.length c1, .slice a2 C.surveys.length c2])] W fun e w' => e = .returned (.int .i64 (caseE C)) ∧ Aft W w') := Lib.hid fun W h => check_any C a1 a2 c1 c2 W (hC.aft h)
  unfold BadS
  unfold surveyingE at he ⊢
  by_cases h1 : caseE C = 0
  · rw [if_pos h1] at he ⊢
    have hok := caseE_ok h1
    have h2 : Cl n C.claims = false := by
      cases h : Cl n C.claims
      · rfl
      · rw [h] at he; exact absurd rfl he
    have H2 : Hid (∀ W, Aft w W → Calls Tryz.prog 59 #[(.agg #[.int .i64 C.claims, .slice a1 C.strikes.length c1, .slice a2 C.surveys.length c2]), .int .i64 n] W fun e w' => e = .returned (.bool true) ∧ Aft W w') := Lib.hid fun W h => (strange_any C.claims n a1 a2 _ _ c1 c2 W ⟨hok.n1, hok.n2⟩).mono fun e w' ⟨h, h'⟩ => ⟨by rw [h, h2]; rfl, by first | exact h' | (subst h'; exact Aft.refl _)⟩
    rw [h2, if_neg (by decide)]
    rw [h1] at H1
    clear hC he h1 hok h2
    go_enter Tryz.func18, Tryz.ntmps18
    go_wp2_with (first | (go_at_call 34; refine (H1.out _ H0.out).mono ?_; rintro e w1 ⟨rfl, ha1⟩; have HA1 := Lib.hid ha1; obtain ⟨k0, k1, k2⟩ := box25 (HB.out.aft ha1); have hlt := (HB.out.aft ha1).lt; clear ha1) | (go_at_call 59; refine (H2.out _ (H0.out.trans HA1.out)).mono ?_; rintro e w2 ⟨rfl, ha2⟩; have HA2 := Lib.hid ha2; clear ha2))
    go_ret2
    exact ⟨rfl, (H0.out.trans HA1.out).trans HA2.out⟩
  · rw [if_neg h1] at he ⊢
    have t1 : (caseE C != 0) = true := by simpa using he
    clear hC he h1
    generalize caseE C = E at *
    go_enter Tryz.func18, Tryz.ntmps18
    go_wp2_with (go_at_call 34; refine (H1.out _ H0.out).mono ?_; rintro e w1 ⟨rfl, ha1⟩; have HA1 := Lib.hid ha1; clear ha1)
    go_ret2
    exact ⟨rfl, H0.out.trans HA1.out⟩

set_option maxRecDepth 100000 in
set_option maxHeartbeats 2000000 in
theorem surveys_good (C : CaseL) (a1 a2 : Option Addr) (c1 c2 : Nat) (n : Nat) (w : World) (hC : CRep w C a1 a2) (he : surveyingE C n = 0) :
    Calls Tryz.prog 18 #[(.agg #[.int .i64 C.claims, .slice a1 C.strikes.length c1, .slice a2 C.surveys.length c2]), .int .i64 n] w (GoodI (idxL (fun i => decidesB C i n) C.surveys.length) w) := by
  have H0 := Lib.hid (Aft.alloc w (.cells #[.int .i64 C.claims, .slice a1 C.strikes.length c1, .slice a2 C.surveys.length c2] 25))
  have HB := Lib.hid (Blk.new w 25 #[.int .i64 C.claims, .slice a1 C.strikes.length c1, .slice a2 C.surveys.length c2])
  unfold surveyingE at he
  have h1 : caseE C = 0 := by
    by_cases h1 : caseE C = 0
    · exact h1
    · rw [if_neg h1] at he; exact he
  rw [if_pos h1] at he
  have h2 : Cl n C.claims = true := by
    cases h : Cl n C.claims
    · rw [h] at he; cases he
    · rfl
  have hok := caseE_ok h1
  have hn14 : n < 14 := by have := Cl_iff.1 h2; have := hok.n2; omega
  have H1 : Hid (∀ W, Aft w W → Calls Tryz.prog 34 #[(.agg #[.int .i64 C.claims, .slice a1 C.strikes.length c1, .slice a2 C.surveys.length c2])] W fun e w' => e = .returned (.int .i64 0) ∧ Aft W w') := Lib.hid fun W h => by
    have := check_any C a1 a2 c1 c2 W (hC.aft h)
    rwa [h1] at this
  have H2 : Hid (∀ W, Aft w W → Calls Tryz.prog 59 #[(.agg #[.int .i64 C.claims, .slice a1 C.strikes.length c1, .slice a2 C.surveys.length c2]), .int .i64 n] W fun e w' => e = .returned (.bool false) ∧ Aft W w') := Lib.hid fun W h => (strange_any C.claims n a1 a2 _ _ c1 c2 W ⟨hok.n1, hok.n2⟩).mono fun e w' ⟨h, h'⟩ => ⟨by rw [h, h2]; rfl, by first | exact h' | (subst h'; exact Aft.refl _)⟩
  have H3 : Hid (∀ W (i : Nat) (hi : i < C.surveys.length) A c, Aft w W → Ints W A C.surveys[i] → Calls Tryz.prog 55 #[(.agg #[.int .i64 C.claims, .slice a1 C.strikes.length c1, .slice a2 C.surveys.length c2]), .slice A C.surveys[i].length c] W fun e w' => e = .returned (.agg (mk (decT C C.surveys[i] C.claims.toNat (2 ^ C.surveys[i].length)))) ∧ Aft W w') := Lib.hid fun W i hi A c h hA => decides_of C a1 a2 c1 c2 h1 C.surveys[i] (List.getElem_mem hi) A c W (hC.aft h) hA
  have HPI : Hid (∀ (i : Nat) (hi : i < C.surveys.length), decidesB C i n = decT C C.surveys[i] C.claims.toNat (2 ^ C.surveys[i].length) n) := Lib.hid fun i hi => by
    unfold decidesB
    rw [List.getD_eq_getElem?_getD, List.getElem?_eq_getElem hi]
    rfl
  have HL := Lib.hid hC.surveys
  have hfew := hok.fews
  unfold GoodI
  obtain ⟨p, hp⟩ : ∃ p : Nat → Bool, (fun i => decidesB C i n) = p := ⟨_, rfl⟩
  rw [hp]
  have HPP : Hid (∀ i, decidesB C i n = p i) := Lib.hid fun i => by rw [← hp]
  clear hC he h1 h2 hok hp
  go_enter Tryz.func18, Tryz.ntmps18
  go_upto_block 1 with (first | (go_at_call 34; refine (H1.out _ H0.out).mono ?_; rintro e w1 ⟨rfl, ha1⟩; have HA1 := Lib.hid ha1; obtain ⟨k0, k1, k2⟩ := box25 (HB.out.aft ha1); have hlt := (HB.out.aft ha1).lt; clear ha1) | (go_at_call 59; refine (H2.out _ (H0.out.trans HA1.out)).mono ?_; rintro e w2 ⟨rfl, ha2⟩; have HA2 := Lib.hid (HA1.out.trans ha2); obtain ⟨j0, j1, j2⟩ := box25 (HB.out.aft HA2.out); have hlt2 := (HB.out.aft HA2.out).lt; clear ha2))
  clear k0 k1 k2 hlt j0 j1 j2 hlt2
  have HN0 := Lib.hid (World.ownsRow_nil w2 w2.heap.size 3 1)
  refine wp_block ?_
  go_loopw [7, 23] (fun v i wr => ∃ k : Nat, i = .int .i64 k ∧ k ≤ C.surveys.length ∧ wr.ownsRow w2.heap.size 3 1 v (idxL p k).length ((idxL p k).map (Value.int .i64)) ∧ Aft w2 wr) (fun _ i _ => C.surveys.length - (intOf i).toNat)
  case atStart => exact ⟨0, rfl, by omega, HN0.out, Aft.refl _⟩
  case round =>
    obtain ⟨k, rfl, hk, hown, haw⟩ := hrel
    have HOW := Lib.hid hown
    have HAW := Lib.hid ((H0.out.trans HA2.out).trans haw)
    have HAR := Lib.hid haw
    obtain ⟨j0, j1, j2⟩ := box25 (HB.out.aft (HA2.out.trans haw))
    have hlt := (HB.out.aft (HA2.out.trans haw)).lt
    clear hown haw
    by_cases hkl : k < C.surveys.length
    · have t1 : decide (k < C.surveys.length) = true := by simpa using hkl
      obtain ⟨b9, o9, hb9e, hb9, hc9⟩ := (HL.out.aft HAW.out).at hkl
      subst hb9e
      obtain ⟨A3, c3, x0, hi3⟩ := hc9 k hkl
      have HC := Lib.hid (H3.out wr k hkl A3 c3 HAW.out hi3)
      have HP := Lib.hid ((HPI.out k hkl).symm.trans (HPP.out k))
      have HS := Lib.hid (idxL_succ p k)
      have hle := idxL_len p k
      have hi1 : (0 : Int) ≤ (k : Int) ∧ (k : Int) < (C.surveys.length : Int) := by omega
      have hix := fun T W => index87_any T W n hn14
      have HIX := Lib.hid hix
      clear hc9 hi3 hix
      generalize C.surveys[k] = l at *
      generalize decT C l C.claims.toNat (2 ^ l.length) = T at *
      cases hpk : p k
      · rw [hpk] at HP HS
        clear hpk
        have hixT := fun W => (HIX.out T W).trans (by rw [HP.out])
        go_wp2_with (first | (go_at_call 55; refine HC.out.mono ?_; rintro e w5 ⟨rfl, ha5⟩; have HA5 := Lib.hid ha5; have hixw := hixT w5; clear ha5))
        exact ⟨⟨k + 1, by go_num, by omega, by rw [HS.out]; simpa using own_aft HOW.out HA5.out, HAR.out.trans HA5.out⟩, by simp [intOf]; omega⟩
      · rw [hpk] at HP HS
        clear hpk
        have hixT := fun W => (HIX.out T W).trans (by rw [HP.out])
        go_wp2_with (first | (go_at_call 55; refine HC.out.mono ?_; rintro e w5 ⟨rfl, ha5⟩; have HA5 := Lib.hid ha5; have hixw := hixT w5; have hbase : w2.heap.size ≤ (w5.alloc (.cells #[.int .i64 k] 3)).heap.size := Nat.le_trans (HAR.out.trans ha5).size (by simp); clear ha5) | (at_builtin; refine wpList_push rfl _ _ rfl (own_aft HOW.out (HA5.out.then_alloc _)) hbase rfl rfl (cell_new1 _ _ _) (by omega) ?_; intro v7 w7 hr7 hg7; have HR7 := Lib.hid hr7; have HG7 := Lib.hid hg7; clear hr7 hg7))
        exact ⟨⟨k + 1, by go_num, by omega, by rw [HS.out]; simpa using HR7.out, ((HAR.out.trans HA5.out).then_alloc _).grown HG7.out (fun g hg => own_ge HOW.out g hg)⟩, by simp [intOf]; omega⟩
    · have t1 : decide (k < C.surveys.length) = false := by simpa using hkl
      obtain rfl : C.surveys.length = k := by omega
      have hle := idxL_len p C.surveys.length
      obtain ⟨A7, c7, rfl, _, hi7⟩ := own_ints HOW.out (by omega)
      have HI7 := Lib.hid hi7
      clear hi7 hkl
      go_wp2_with fail
      go_ret2
      exact ⟨A7, c7, rfl, HI7.out, HAW.out⟩
end Go.Proofs
end

section
namespace Go.Proofs
open Go.RowKit
open Court (refL begF noS award)
attribute [local go_sem] Oper.semAt_some

def decidingE (C : CaseL) (n : Int) : Int := if caseE C = 0 then (if fromB n 0 ((C.surveys.length : Int) - 1) then 0 else 2) else caseE C

set_option maxRecDepth 100000 in
set_option maxHeartbeats 2000000 in
theorem decides15_bad (C : CaseL) (a1 a2 : Option Addr) (c1 c2 : Nat) (n : Int) (w : World) (hC : CRep w C a1 a2) (he : decidingE C n ≠ 0) :
    Calls Tryz.prog 15 #[(.agg #[.int .i64 C.claims, .slice a1 C.strikes.length c1, .slice a2 C.surveys.length c2]), .int .i64 n] w (BadS (decidingE C n) w) := by
  have H0 := Lib.hid (Aft.alloc w (.cells #[.int .i64 C.claims, .slice a1 C.strikes.length c1, .slice a2 C.surveys.length c2] 25))
  have HB := Lib.hid (Blk.new w 25 #[.int .i64 C.claims, .slice a1 C.strikes.length c1, .slice a2 C.surveys.length c2])
  have H1 : Hid (∀ W, Aft w W → Calls Tryz.prog 34 #[(.agg #[.int .i64 C.claims, .slice a1 C.strikes.length c1, .slice a2 C.surveys.length c2])] W fun e w' => e = .returned (.int .i64 (caseE C)) ∧ Aft W w') := Lib.hid fun W h => check_any C a1 a2 c1 c2 W (hC.aft h)
  have hlen := hC.surveys.len
  unfold BadS
  unfold decidingE at he ⊢
  by_cases h1 : caseE C = 0
  · rw [if_pos h1] at he ⊢
    have h2 : fromB n 0 ((C.surveys.length : Int) - 1) = false := by
      cases h : fromB n 0 ((C.surveys.length : Int) - 1)
      · rfl
      · rw [h] at he; exact absurd rfl he
    have H2 : Hid (∀ W, Calls Tryz.prog 54 #[.int .i64 n, .int .i64 0, .int .i64 ((C.surveys.length : Int) - 1)] W fun e w' => e = .returned (.bool false) ∧ w = w) := Lib.hid fun W => (from_any n 0 ((C.surveys.length : Int) - 1) W).mono fun e w' ⟨h, h'⟩ => ⟨by rw [h]; exact ret_bool h2, rfl⟩
    have H3 : Hid (∀ W, Calls Tryz.prog 54 #[.int .i64 n, .int .i64 0, .int .i64 ((C.surveys.length : Int) - 1)] W fun e w' => e = .returned (.bool false) ∧ Aft W w') := Lib.hid fun W => (from_any n 0 ((C.surveys.length : Int) - 1) W).mono fun e w' ⟨h, h'⟩ => ⟨by rw [h]; exact ret_bool h2, by first | exact h' | (subst h'; exact Aft.refl _)⟩
    rw [h2, if_neg (by decide)]
    rw [h1] at H1
    clear hC he h1 h2 H2
    go_enter Tryz.func15, Tryz.ntmps15
    go_wp2_with (first | (go_at_call 34; refine (H1.out _ H0.out).mono ?_; rintro e w1 ⟨rfl, ha1⟩; have HA1 := Lib.hid ha1; obtain ⟨k0, k1, k2⟩ := box25 (HB.out.aft ha1); have hlt := (HB.out.aft ha1).lt; clear ha1) | (go_at_call 54; refine (H3.out _).mono ?_; rintro e w2 ⟨rfl, ha2⟩; have HA2 := Lib.hid ha2; clear ha2))
    go_ret2
    exact ⟨rfl, (H0.out.trans HA1.out).trans HA2.out⟩
  · rw [if_neg h1] at he ⊢
    have t1 : (caseE C != 0) = true := by simpa using he
    clear hC he h1
    generalize caseE C = E at *
    go_enter Tryz.func15, Tryz.ntmps15
    go_wp2_with (go_at_call 34; refine (H1.out _ H0.out).mono ?_; rintro e w1 ⟨rfl, ha1⟩; have HA1 := Lib.hid ha1; clear ha1)
    go_ret2
    exact ⟨rfl, H0.out.trans HA1.out⟩

set_option maxRecDepth 100000 in
set_option maxHeartbeats 2000000 in
theorem decides15_good (C : CaseL) (a1 a2 : Option Addr) (c1 c2 : Nat) (n : Nat) (w : World) (hC : CRep w C a1 a2) (he : decidingE C n = 0) :
    Calls Tryz.prog 15 #[(.agg #[.int .i64 C.claims, .slice a1 C.strikes.length c1, .slice a2 C.surveys.length c2]), .int .i64 n] w (GoodI (idxL (fun (i : Nat) => decidesB C n i) 14) w) := by
  have H0 := Lib.hid (Aft.alloc w (.cells #[.int .i64 C.claims, .slice a1 C.strikes.length c1, .slice a2 C.surveys.length c2] 25))
  have HB := Lib.hid (Blk.new w 25 #[.int .i64 C.claims, .slice a1 C.strikes.length c1, .slice a2 C.surveys.length c2])
  unfold decidingE at he
  have h1 : caseE C = 0 := by
    by_cases h1 : caseE C = 0
    · exact h1
    · rw [if_neg h1] at he; exact he
  rw [if_pos h1] at he
  have h2 : fromB n 0 ((C.surveys.length : Int) - 1) = true := by
    cases h : fromB n 0 ((C.surveys.length : Int) - 1)
    · rw [h] at he; cases he
    · rfl
  have hns : n < C.surveys.length := by have := fromB_iff.1 h2; omega
  have hlen := hC.surveys.len
  have H1 : Hid (∀ W, Aft w W → Calls Tryz.prog 34 #[(.agg #[.int .i64 C.claims, .slice a1 C.strikes.length c1, .slice a2 C.surveys.length c2])] W fun e w' => e = .returned (.int .i64 0) ∧ Aft W w') := Lib.hid fun W h => by
    have := check_any C a1 a2 c1 c2 W (hC.aft h)
    rwa [h1] at this
  have H2 : Hid (∀ W, Calls Tryz.prog 54 #[.int .i64 n, .int .i64 0, .int .i64 ((C.surveys.length : Int) - 1)] W fun e w' => e = .returned (.bool true) ∧ Aft W w') := Lib.hid fun W => (from_any n 0 ((C.surveys.length : Int) - 1) W).mono fun e w' ⟨h, h'⟩ => ⟨by rw [h]; exact ret_bool h2, by first | exact h' | (subst h'; exact Aft.refl _)⟩
  have H3 : Hid (∀ W A c, Aft w W → Ints W A C.surveys[n] → Calls Tryz.prog 55 #[(.agg #[.int .i64 C.claims, .slice a1 C.strikes.length c1, .slice a2 C.surveys.length c2]), .slice A C.surveys[n].length c] W fun e w' => e = .returned (.agg (mk (decT C C.surveys[n] C.claims.toNat (2 ^ C.surveys[n].length)))) ∧ Aft W w') := Lib.hid fun W A c h hA => decides_of C a1 a2 c1 c2 h1 C.surveys[n] (List.getElem_mem hns) A c W (hC.aft h) hA
  have hPI : ∀ i : Nat, decidesB C n i = decT C C.surveys[n] C.claims.toNat (2 ^ C.surveys[n].length) i := fun i => by
    unfold decidesB
    rw [List.getD_eq_getElem?_getD, List.getElem?_eq_getElem hns]
    rfl
  have HL := Lib.hid hC.surveys
  unfold GoodI
  obtain ⟨l, hl⟩ : ∃ l, C.surveys[n] = l := ⟨_, rfl⟩
  rw [hl] at H3 hPI
  obtain ⟨T, hT⟩ : ∃ T, decT C l C.claims.toNat (2 ^ l.length) = T := ⟨_, rfl⟩
  rw [hT] at H3 hPI
  have e : (fun (i : Nat) => decidesB C n i) = fun (i : Nat) => T i := by funext i; exact hPI i
  rw [e]
  have HLL := Lib.hid (show ∀ h : n < C.surveys.length, C.surveys[n] = l from fun _ => hl)
  have HNS := Lib.hid hns
  have hnl : (0 : Int) ≤ (n : Int) ∧ (n : Int) < (C.surveys.length : Int) := by omega
  clear hC he h1 h2 hl hT hPI e hns
  go_enter Tryz.func15, Tryz.ntmps15
  go_upto_region 7 with (first | (go_at_call 34; refine (H1.out _ H0.out).mono ?_; rintro e w1 ⟨rfl, ha1⟩; have HA1 := Lib.hid ha1; obtain ⟨k0, k1, k2⟩ := box25 (HB.out.aft ha1); have hlt := (HB.out.aft ha1).lt; clear ha1) | (go_at_call 54; refine (H2.out _).mono ?_; rintro e w2 ⟨rfl, ha2⟩; have HA2 := Lib.hid (HA1.out.trans ha2); clear ha2))
  clear k0 k1 k2 hlt
  have HAW := Lib.hid (H0.out.trans HA2.out)
  obtain ⟨b9, o9, hb9e, hb9, -⟩ := (HL.out.aft HAW.out).at HNS.out
  subst hb9e
  have HB2 := Lib.hid (HB.out.aft HA2.out)
  generalize w.heap.size = S at *
  have HX : Hid (∀ W, Aft w2 W → ∃ A3 c3, W.cell? ⟨b9, o9 + n, none⟩ = some (.slice A3 l.length c3) ∧ Ints W A3 l) := Lib.hid fun W h => by
    obtain ⟨b', o', e', hb', hc'⟩ := (HL.out.aft (HAW.out.trans h)).at HNS.out
    cases e'
    obtain ⟨A3, c3, h1, h2⟩ := hc' n HNS.out
    rw [HLL.out HNS.out] at h1 h2
    exact ⟨A3, c3, h1, h2⟩
  obtain ⟨A3, c3, x0, hi3⟩ := HX.out w2 (Aft.refl _)
  have HI3 := Lib.hid hi3
  have HX0 := Lib.hid x0
  clear x0 hi3 HX
  have HK0 := Lib.hid (fun W (h : Aft w2 W) => box25 (HB2.out.aft h))
  have HKB := Lib.hid (fun W (h : Aft w2 W) => (HB2.out.aft h).lt)
  have HKX : Hid (∀ W, Aft w2 W → W.cell? ⟨b9, o9 + n, none⟩ = some (.slice A3 l.length c3)) := Lib.hid fun W h => cell_aft HX0.out hb9 h
  refine wp_region_valsG (by kernel_rfl) 42 rfl (by kernel_rfl) (by kernel_rfl) [(.agg #[.int .i64 C.claims, .slice a1 C.strikes.length c1, .slice (some ⟨b9, o9, none⟩) C.surveys.length c2]), .pointer (some ⟨S, 2, none⟩), .slice (some ⟨b9, o9, none⟩) C.surveys.length c2, .int .i64 n, .pointer (some ⟨b9, o9 + n, none⟩), .slice A3 l.length c3, .agg (mk T), .int .i64 0] rfl (fun W => Aft w2 W) (Aft.drew _) ?st1 ?fi1
  case st1 =>
    intro i o v ho hv
    match i, ho, hv with
    | 0, ho, hv =>
      cases ho; cases hv
      refine .inl ⟨rfl, fun a W hk hw K hK => ?_⟩
      have e2 := hk.same 2 (by decide)
      obtain ⟨j0, j1, j2⟩ := HK0.out W hw
      exact op_val (v := (.agg #[.int .i64 C.claims, .slice a1 C.strikes.length c1, .slice (some ⟨b9, o9, none⟩) C.surveys.length c2])) (by simp [go_sem, ev' e2, j0, j1, j2]) (hK _ hw)
    | 1, ho, hv =>
      cases ho; cases hv
      refine .inl ⟨rfl, fun a W hk hw K hK => ?_⟩
      have e2 := hk.same 2 (by decide)
      exact op_val (by simp [go_sem, ev' e2]) (hK _ hw)
    | 2, ho, hv =>
      cases ho; cases hv
      refine .inl ⟨rfl, fun a W hk hw K hK => ?_⟩
      have e25 := hk.at_ 1 _ 25 _ rfl (by decide) _ rfl rfl rfl
      exact op_val (by simp [go_sem, ev' e25, (HK0.out W hw).2.2]) (hK _ hw)
    | 3, ho, hv =>
      cases ho; cases hv
      refine .inl ⟨rfl, fun a W hk hw K hK => ?_⟩
      have e1 := hk.same 1 (by decide)
      exact op_val (by simp [go_sem, ev' e1]) (hK _ hw)
    | 4, ho, hv =>
      cases ho; cases hv
      refine .inl ⟨rfl, fun a W hk hw K hK => ?_⟩
      have e26 := hk.at_ 2 _ 26 _ rfl (by decide) _ rfl rfl rfl
      have e27 := hk.at_ 3 _ 27 _ rfl (by decide) _ rfl rfl rfl
      exact op_val (by simp [go_sem, ev' e26, ev' e27, hnl]) (hK _ hw)
    | 5, ho, hv =>
      cases ho; cases hv
      refine .inl ⟨rfl, fun a W hk hw K hK => ?_⟩
      have e28 := hk.at_ 4 _ 28 _ rfl (by decide) _ rfl rfl rfl
      exact op_val (by simp [go_sem, ev' e28, HKX.out W hw]) (hK _ hw)
    | 6, ho, hv =>
      cases ho; cases hv
      refine .inl ⟨rfl, fun a W hk hw K hK => ?_⟩
      have e24 := hk.at_ 0 _ 24 _ rfl (by decide) _ rfl rfl rfl
      have e29 := hk.at_ 5 _ 29 _ rfl (by decide) _ rfl rfl rfl
      refine op_callN rfl rfl rfl _ rfl (vs := #[(.agg #[.int .i64 C.claims, .slice a1 C.strikes.length c1, .slice (some ⟨b9, o9, none⟩) C.surveys.length c2]), .slice A3 l.length c3]) (by simp [e24, e29]) (H3.out W A3 c3 (HAW.out.trans hw) (HI3.out.aft hw)) fun e w' h => ?_
      obtain ⟨rfl, ha⟩ := h
      exact ⟨_, rfl, hK _ (hw.trans ha)⟩
    | 7, ho, hv =>
      cases ho; cases hv
      refine .inl ⟨rfl, fun a W hk hw K hK => ?_⟩
      exact op_val (by simp [go_sem]) (hK _ hw)
    | _ + 8, _, hv => cases hv
  intro W hw
  simp only [List.drop_succ_cons, List.drop_zero, List.zip_cons_cons, List.zip_nil_right, putAll]
  simp only [Act.put, List.setIfInBounds_toArray, List.set]
  have HAX := Lib.hid hw
  clear hw
  have HN0 := Lib.hid (World.ownsRow_nil W W.heap.size 3 1)
  go_upto_block 1 with (fail)
  refine wp_block ?_
  go_loopw [7, 31] (fun v i wr => ∃ k : Nat, i = .int .i64 k ∧ k ≤ 14 ∧ wr.ownsRow W.heap.size 3 1 v (idxL (fun i => T i) k).length ((idxL (fun i => T i) k).map (Value.int .i64)) ∧ Aft W wr) (fun _ i _ => 14 - (intOf i).toNat)
  case atStart => exact ⟨0, rfl, by omega, HN0.out, Aft.refl _⟩
  case round =>
    obtain ⟨k, rfl, hk, hown, haw⟩ := hrel
    have HOW := Lib.hid hown
    have HAR := Lib.hid haw
    have hbase : W.heap.size ≤ (wr.alloc (.cells #[.int .i64 k] 3)).heap.size := Nat.le_trans haw.size (by simp)
    clear hown haw
    by_cases hk14 : k < 14
    · have t1 : decide (k < 14) = true := by simpa using hk14
      have HS := Lib.hid (idxL_succ (fun i => T i) k)
      have hle := idxL_len (fun i => T i) k
      have hix := index87_any T wr k hk14
      have hi1 : (0 : Int) ≤ (k : Int) ∧ (k : Int) < 14 := by omega
      cases hpk : T k
      · rw [hpk] at hix HS
        clear hpk
        go_wp2_with fail
        exact ⟨⟨k + 1, by go_num, by omega, by rw [HS.out]; simpa using HOW.out, HAR.out⟩, by simp [intOf]; omega⟩
      · rw [hpk] at hix HS
        clear hpk
        go_wp2_with (at_builtin; refine wpList_push rfl _ _ rfl (own_aft HOW.out (Aft.alloc _ _)) hbase rfl rfl (cell_new1 _ _ _) (by omega) ?_; intro v7 w7 hr7 hg7; have HR7 := Lib.hid hr7; have HG7 := Lib.hid hg7; clear hr7 hg7)
        exact ⟨⟨k + 1, by go_num, by omega, by rw [HS.out]; simpa using HR7.out, (HAR.out.then_alloc _).grown HG7.out (fun g hg => own_ge HOW.out g hg)⟩, by simp [intOf]; omega⟩
    · have t1 : decide (k < 14) = false := by simpa using hk14
      obtain rfl : k = 14 := by omega
      have hle := idxL_len (fun i => T i) 14
      obtain ⟨A7, c7, rfl, _, hi7⟩ := own_ints HOW.out (by omega)
      have HI7 := Lib.hid hi7
      clear hi7 hk14
      go_wp2_with fail
      go_ret2
      exact ⟨A7, c7, rfl, HI7.out, (HAW.out.trans HAX.out).trans HAR.out⟩
end Go.Proofs
end
