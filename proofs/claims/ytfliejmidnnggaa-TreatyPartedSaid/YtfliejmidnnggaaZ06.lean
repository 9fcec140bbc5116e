/- Merged by program out of the texts Xl Ppl. -/
import Derived.Test.YtfliejmidnnggaaZ05
section
/- Walks: whether all lists are among others. -/
namespace Go.Proofs
open Go.RowKit

theorem containsFunc_lists {α : Type} (R : World → α → List Value → Prop) (K : FuncId) (cap : List Value) (p : α → Bool) (A : Option Addr) (l : List α) (c : Nat) (w : World) (hA : RowsP w A 1 R l)
    (hK : ∀ args w, (callFunc K args).run Try.prog w = .ok (.enter K args) w)
    (hp : ∀ x ∈ l, ∀ v0, R w x [v0] → Asks Try.prog K cap w v0 (p x)) :
    Calls Try.prog 82 #[.slice A l.length c, .func (.func K) #[] cap.toArray] w fun e w' => e = .returned (.bool (l.any p)) ∧ Aft w w' := by
  have HC := Lib.hid (indexFunc_lists R K cap p A l c w hA hK hp)
  go_enter Try.func82, Try.ntmps82
  go_wp2_with (go_at_call 112; refine HC.out.mono ?_; rintro e w' ⟨hr, ha⟩; obtain ⟨n, rfl, hn⟩ := hr.sign; clear hr; have HN := Lib.hid hn; clear hn)
  go_ret
  exact ⟨ret_bool (by have := HN.out; cases h : l.any p <;> simp_all), ha⟩

theorem runs_83 (args : Array Value) (w : World) : (callFunc 83 args).run Try.prog w = .ok (.enter 83 args) w := by simp [go_sem]

theorem same_any (bx : Nat) (Ax : Option Addr) (r : List Int) (cx : Nat) (Ay : Option Addr) (y : List Int) (cy : Nat) (w : World) (hx : w.cell? ⟨bx, 0, none⟩ = some (.slice Ax r.length cx)) (hr : Ints w Ax r) (hy : Ints w Ay y) :
    Calls Try.prog 83 #[.slice Ay y.length cy, .pointer (some ⟨bx, 0, none⟩)] w fun e w' => e = .returned (.bool (eqB r y)) ∧ Aft w w' := by
  have HE := Lib.hid (kitEqual_int Ax Ay r y cx cy w hr hy)
  go_enter Try.func83, Try.ntmps83
  go_wp2_with (go_at_call 20; refine HE.out.mono ?_; rintro e w' ⟨rfl, ha⟩)
  go_ret
  exact ⟨rfl, ha⟩

def amongB (a b : List (List Int)) : Bool := a.all fun x => b.any fun y => eqB x y

set_option maxRecDepth 100000 in
set_option maxHeartbeats 2000000 in
theorem among_any (w : World) (A A' : Option Addr) (l l' : List (List Int)) (c c' : Nat) (hA : Lists w A l) (hA' : Lists w A' l') :
    Calls Try.prog 28 #[.slice A l.length c, .slice A' l'.length c'] w fun e w' => e = .returned (.bool (amongB l l')) ∧ Aft w w' := by
  have hl := hA.len
  have hl' := hA'.len
  go_enter Try.func28, Try.ntmps28
  go_wp2_with fail
  go_loopw [9] (fun i wr => ∃ k : Nat, i = .int .i64 k ∧ k ≤ l.length ∧ (∀ x ∈ l.take k, (l'.any fun y => eqB x y) = true) ∧ Aft w wr) (fun i _ => l.length - (intOf i).toNat)
  case atStart => exact ⟨0, rfl, by omega, by simp, Aft.refl _⟩
  case round =>
    obtain ⟨k, rfl, hk, hh, hw⟩ := hrel
    have HH := Lib.hid hh
    clear hh
    by_cases hkl : k < l.length
    · obtain ⟨b, o, rfl, hb, hc⟩ := (hA.aft hw).at hkl
      obtain ⟨A1, c1, h1, h2⟩ := hc k hkl
      have i1 : (0 : Int) ≤ (k : Int) ∧ (k : Int) < (l.length : Int) := by omega
      have HST := Lib.hid (show (l'.any fun y => eqB l[k] y) = true → ∀ x ∈ l.take (k + 1), (l'.any fun y => eqB x y) = true from fun e x hx => by
        rw [List.take_succ_eq_append_getElem hkl, List.mem_append, List.mem_singleton] at hx
        rcases hx with hx | rfl
        · exact HH.out x hx
        · exact e)
      have HNE := Lib.hid (show (l'.any fun y => eqB l[k] y) = false → amongB l l' = false from fun e => by
        unfold amongB
        rw [List.all_eq_false]
        exact ⟨_, List.getElem_mem hkl, by rw [e]; simp⟩)
      clear hc
      generalize l[k] = r at *
      have ha3 : Aft wr (wr.alloc (.cells #[.slice A1 r.length c1] 24)) := Aft.alloc _ _
      have HC := Lib.hid (containsFunc_lists ListR 83 [.pointer (some ⟨wr.heap.size, 0, none⟩)] (fun y => eqB r y) A' l' c' (wr.alloc (.cells #[.slice A1 r.length c1] 24)) ((hA'.aft hw).aft ha3) runs_83 (fun y hy v0 hv u => by
        obtain ⟨Ay, cy, e, hyi⟩ := hv
        cases e
        exact same_any wr.heap.size A1 r c1 Ay y cy _ ((World.lat_cell _ _ _ _ (by simp)).trans (by simp)) ((h2.aft ha3).lat u) (hyi.lat u)))
      cases he : (l'.any fun y => eqB r y)
      all_goals
        rw [he] at HC
        have HE := Lib.hid he
        clear he
        go_wp2_with (go_at_call 82; refine HC.out.mono ?_; rintro e w2 ⟨rfl, ha⟩)
      · go_ret
        exact ⟨ret_bool (HNE.out HE.out).symm, (hw.then_alloc _).trans ha⟩
      · exact ⟨⟨k + 1, by go_num, by omega, HST.out HE.out, (hw.then_alloc _).trans ha⟩, by simp [intOf]; omega⟩
    · obtain rfl : k = l.length := by omega
      go_wp2_with fail
      go_ret
      refine ⟨ret_bool ?_, hw⟩
      have := HH.out
      rw [List.take_length] at this
      exact (List.all_eq_true.2 this).symm
end Go.Proofs
end

section
/- Plain: a treaty that is parted at a leg. -/
namespace Go.Proofs

/-- the first places -/
def rangeZ (k : Nat) : List Int := (List.range k).map fun i : Nat => (i : Int)
theorem rangeZ_succ (k : Nat) : rangeZ (k + 1) = rangeZ k ++ [(k : Int)] := by unfold rangeZ; rw [List.range_succ, List.map_append]; rfl
theorem rangeZ_len (k : Nat) : (rangeZ k).length = k := by simp [rangeZ]
theorem rangeZ_mem {k : Nat} {x : Int} : x ∈ rangeZ k ↔ 0 ≤ x ∧ x < k := by
  unfold rangeZ
  rw [List.mem_map]
  constructor
  · rintro ⟨i, hi, rfl⟩
    have := List.mem_range.1 hi
    omega
  · rintro ⟨h0, h1⟩
    exact ⟨x.toNat, List.mem_range.2 (by omega), by omega⟩
theorem rangeZ_rises (k : Nat) : risesB (rangeZ k) = true := risesB_true _ fun i hi => by
  simp [rangeZ]; omega

def partA (T : Treaty) (k : Nat) : Treaty := { T with legs := T.legs.take k }
def partB (T : Treaty) (k : Nat) : Treaty := { T with starts := rangeZ T.places.toNat, legs := T.legs.drop k }
theorem MOk.partA {T : Treaty} (h : MOk T) (k : Nat) : MOk (partA T k) := by
  obtain ⟨h1, h2, h3, h4, h5, h6, h7, h8, h9, h10, h11, h12, h13, h14, h15⟩ := h
  exact ⟨h1, h2, h3, h4, h5, h6, h7, by show (T.legs.take k).length ≤ 10; rw [List.length_take]; omega, h9, h10, h11, h12, h13, h14, fun l hl => h15 l (List.mem_of_mem_take hl)⟩
theorem MOk.partB {T : Treaty} (h : MOk T) (k : Nat) : MOk (partB T k) := by
  obtain ⟨h1, h2, h3, h4, h5, h6, h7, h8, h9, h10, h11, h12, h13, h14, h15⟩ := h
  exact ⟨h1, h2, h3, h4, h5, by show 1 ≤ (rangeZ T.places.toNat).length; rw [rangeZ_len]; omega, by show ((rangeZ T.places.toNat).length : Int) ≤ T.places; rw [rangeZ_len]; omega, by show (T.legs.drop k).length ≤ 10; rw [List.length_drop]; omega, h9, h10, h11, h12,
    fun x hx => by have := rangeZ_mem.1 hx; show 0 ≤ x ∧ x < T.places; omega, rangeZ_rises _, fun l hl => h15 l (List.mem_of_mem_drop hl)⟩

theorem leadsF_partA (T : Treaty) (R : List Int) (k i a b : Nat) (h : i < k) : leadsF (partA T k) R i a b = leadsF T R i a b := by
  rw [Bool.eq_iff_iff, leadsF_iff, leadsF_iff]
  constructor
  · rintro ⟨h1, h2, h3, h4⟩
    have h1' : i < T.legs.length := by have : i < (T.legs.take k).length := h1; rw [List.length_take] at this; omega
    have e : (partA T k).legs[i] = T.legs[i] := List.getElem_take
    rw [e] at h3 h4
    exact ⟨h1', h2, h3, h4⟩
  · rintro ⟨h1, h2, h3, h4⟩
    have h1' : i < (partA T k).legs.length := by show i < (T.legs.take k).length; rw [List.length_take]; omega
    have e : (partA T k).legs[i] = T.legs[i] := List.getElem_take
    refine ⟨h1', h2, ?_, ?_⟩
    · rw [e]; exact h3
    · rw [e]; exact h4
theorem leadsF_partB (T : Treaty) (R : List Int) (k i a b : Nat) : leadsF (partB T k) R i a b = leadsF T R (k + i) a b := by
  rw [Bool.eq_iff_iff, leadsF_iff, leadsF_iff]
  constructor
  · rintro ⟨h1, h2, h3, h4⟩
    have h1' : k + i < T.legs.length := by have : i < (T.legs.drop k).length := h1; rw [List.length_drop] at this; omega
    have e : (partB T k).legs[i] = T.legs[k + i] := List.getElem_drop
    rw [e] at h3 h4
    exact ⟨h1', h2, h3, h4⟩
  · rintro ⟨h1, h2, h3, h4⟩
    have h1' : i < (partB T k).legs.length := by show i < (T.legs.drop k).length; rw [List.length_drop]; omega
    have e : (partB T k).legs[i] = T.legs[k + i] := List.getElem_drop
    refine ⟨h1', h2, ?_, ?_⟩
    · rw [e]; exact h3
    · rw [e]; exact h4

theorem flo_partA (T : Treaty) (R : List Int) (k i : Nat) : i ≤ k → ∀ b, flo (partA T k) (leadsF (partA T k) R) i b = flo T (leadsF T R) i b := by
  induction i with
  | zero => intro _ b; rfl
  | succ i ih =>
    intro h b
    have e : ∀ a, flo (partA T k) (leadsF (partA T k) R) i a + (if leadsF (partA T k) R i a b then 0 else 1) = flo T (leadsF T R) i a + (if leadsF T R i a b then 0 else 1) := fun a => by
      rw [ih (by omega) a, leadsF_partA T R k i a b (by omega)]
    show (List.range T.places.toNat).foldl (fun m a => min m (flo (partA T k) (leadsF (partA T k) R) i a + if leadsF (partA T k) R i a b then 0 else 1)) 11 = (List.range T.places.toNat).foldl (fun m a => min m (flo T (leadsF T R) i a + if leadsF T R i a b then 0 else 1)) 11
    congr 1
    funext m a
    rw [e a]
theorem flo_partB {T : Treaty} (ok : TOk T) (R : List Int) (k : Nat) (M : Int) (hM : ∀ b, b < T.places.toNat → M ≤ flo T (leadsF T R) k b) (i : Nat) : k + i ≤ 10 → ∀ b, b < T.places.toNat → M + flo (partB T k) (leadsF (partB T k) R) i b ≤ flo T (leadsF T R) (k + i) b := by
  induction i with
  | zero =>
    intro _ b hb
    have e : flo (partB T k) (leadsF (partB T k) R) 0 b = 0 := by
      unfold flo
      rw [if_pos]
      rw [hasB_iff]
      exact rangeZ_mem.2 ⟨by omega, by omega⟩
    rw [e, Nat.add_zero]
    have := hM b hb
    omega
  | succ i ih =>
    intro h b hb
    obtain ⟨a, ha, e⟩ := flo_get ok.start (leadsF T R) (k + i) b (by omega)
    have h1 := ih (by omega) a ha
    have h2 := flo_le_at (partB T k) (leadsF (partB T k) R) i b (a := a) ha
    have e2 : brk (leadsF (partB T k) R) i a b = brk (leadsF T R) (k + i) a b := by unfold brk; rw [leadsF_partB]
    rw [e2] at h2
    rw [show k + (i + 1) = k + i + 1 by omega, e]
    omega
theorem parted_yield {T : Treaty} (h : MOk T) (R : List Int) {k : Nat} (hk : k ≤ T.legs.length) : (yieldL (partA T k) (leadsF (partA T k) R)).length + (yieldL (partB T k) (leadsF (partB T k) R)).length ≤ (yieldL T (leadsF T R)).length := by
  have ok := checkE_ok h.check
  have okA := checkE_ok (h.partA k).check
  have okB := checkE_ok (h.partB k).check
  have e0 := yieldL_len ok (leadsF T R)
  have eA := yieldL_len okA (leadsF (partA T k) R)
  have eB := yieldL_len okB (leadsF (partB T k) R)
  have lA : (partA T k).legs.length = k := by show (T.legs.take k).length = k; rw [List.length_take]; omega
  have lB : (partB T k).legs.length = T.legs.length - k := by show (T.legs.drop k).length = _; rw [List.length_drop]
  have hM : ∀ b, b < T.places.toNat → ((yieldL (partA T k) (leadsF (partA T k) R)).length : Int) ≤ flo T (leadsF T R) k b := fun b hb => by
    have := costL_min (T := partA T k) (leadsF (partA T k) R) (b := b) hb
    rw [eA, ← flo_partA T R k k (Nat.le_refl _) b]
    rw [lA] at this ⊢
    exact this
  have hl := ok.nlegs
  have h1 := flo_partB ok R k _ hM (T.legs.length - k) (by omega) (lastAt T (leadsF T R)) (lastAt_lt ok _)
  have h2 := costL_min (T := partB T k) (leadsF (partB T k) R) (b := lastAt T (leadsF T R)) (lastAt_lt ok _)
  rw [lB] at h2 eB
  rw [show k + (T.legs.length - k) = T.legs.length by omega] at h1
  omega

/-! Lines. -/
theorem linesFrom_partA (T : Treaty) (R : List Int) (k j : Nat) : ∀ leg a, leg + j ≤ k → linesFrom (partA T k) (leadsF (partA T k) R) j leg a = linesFrom T (leadsF T R) j leg a := by
  induction j with
  | zero => intro leg a _; rfl
  | succ j ih =>
    intro leg a h
    show (List.range T.places.toNat).flatMap _ = (List.range T.places.toNat).flatMap _
    congr 1
    funext b
    rw [leadsF_partA T R k leg a b (by omega), ih (leg + 1) b (by omega)]
theorem linesFrom_partB (T : Treaty) (R : List Int) (k j : Nat) : ∀ leg a, linesFrom (partB T k) (leadsF (partB T k) R) j leg a = linesFrom T (leadsF T R) j (k + leg) a := by
  induction j with
  | zero => intro leg a; rfl
  | succ j ih =>
    intro leg a
    show (List.range T.places.toNat).flatMap _ = (List.range T.places.toNat).flatMap _
    congr 1
    funext b
    rw [leadsF_partB T R k leg a b, ih (leg + 1) b]
    rfl
theorem linesFrom_head {T : Treaty} {f : Nat → Nat → Nat → Bool} : ∀ (k leg a : Nat), ∀ l ∈ linesFrom T f k leg a, l.getD 0 0 = (a : Int)
  | 0, leg, a => by intro l hl; simp [linesFrom] at hl; subst hl; rfl
  | k + 1, leg, a => by
    intro l hl
    unfold linesFrom at hl
    rw [List.mem_flatMap] at hl
    obtain ⟨b, _, h⟩ := hl
    split at h
    · rw [List.mem_map] at h
      obtain ⟨l', _, rfl⟩ := h
      rfl
    · cases h
theorem linesFrom_last {T : Treaty} {f : Nat → Nat → Nat → Bool} : ∀ (k leg a : Nat), a < T.places.toNat → ∀ l ∈ linesFrom T f k leg a, ∃ x : Nat, l.getD k 0 = (x : Int) ∧ x < T.places.toNat
  | 0, leg, a => by intro ha l hl; simp [linesFrom] at hl; subst hl; exact ⟨a, rfl, ha⟩
  | k + 1, leg, a => by
    intro _ l hl
    unfold linesFrom at hl
    rw [List.mem_flatMap] at hl
    obtain ⟨b, hb, h⟩ := hl
    split at h
    · rw [List.mem_map] at h
      obtain ⟨l', h1, rfl⟩ := h
      obtain ⟨x, h2, h3⟩ := linesFrom_last k (leg + 1) b (List.mem_range.1 hb) l' h1
      exact ⟨x, by simpa using h2, h3⟩
    · cases h
/-- how many lines go on behind a line -/
def onL (T : Treaty) (f : Nat → Nat → Nat → Bool) (i leg k : Nat) (m : List Int) : Nat := (linesFrom T f i leg (m.getD k 0).toNat).length
theorem sum_flatMap {α β : Type} (g : α → List β) (h : β → Nat) : ∀ l : List α, ((l.flatMap g).map h).sum = (l.map fun x => ((g x).map h).sum).sum
  | [] => rfl
  | x :: l => by rw [List.flatMap_cons, List.map_append, List.sum_append, sum_flatMap g h l, List.map_cons, List.sum_cons]
theorem len_flatMap {α β : Type} (g : α → List β) : ∀ l : List α, (l.flatMap g).length = (l.map fun x => (g x).length).sum
  | [] => rfl
  | x :: l => by rw [List.flatMap_cons, List.length_append, len_flatMap g l, List.map_cons, List.sum_cons]
theorem linesFrom_split (T : Treaty) (f : Nat → Nat → Nat → Bool) (i : Nat) : ∀ (k leg a : Nat), (linesFrom T f (k + i) leg a).length = ((linesFrom T f k leg a).map (onL T f i (leg + k) k)).sum
  | 0, leg, a => by
    rw [Nat.zero_add]
    simp [linesFrom, onL]
  | k + 1, leg, a => by
    rw [show k + 1 + i = (k + i) + 1 by omega]
    show ((List.range T.places.toNat).flatMap fun b => if f leg a b then (linesFrom T f (k + i) (leg + 1) b).map ((a : Int) :: ·) else []).length = (((List.range T.places.toNat).flatMap fun b => if f leg a b then (linesFrom T f k (leg + 1) b).map ((a : Int) :: ·) else []).map (onL T f i (leg + (k + 1)) (k + 1))).sum
    rw [len_flatMap, sum_flatMap]
    congr 1
    refine List.map_congr_left fun b _ => ?_
    split
    · rw [List.length_map, linesFrom_split T f i k (leg + 1) b, List.map_map]
      congr 1
      refine List.map_congr_left fun m _ => ?_
      show onL T f i (leg + 1 + k) k m = onL T f i (leg + (k + 1)) (k + 1) ((a : Int) :: m)
      unfold onL
      rw [show leg + 1 + k = leg + (k + 1) by omega]
      rfl
    · rfl
theorem linesFrom_parts {T : Treaty} {f : Nat → Nat → Nat → Bool} (i : Nat) : ∀ (k leg a : Nat), ∀ l ∈ linesFrom T f (k + i) leg a, l.take (k + 1) ∈ linesFrom T f k leg a ∧ l.drop k ∈ linesFrom T f i (leg + k) (l.getD k 0).toNat
  | 0, leg, a => by
    intro l hl
    rw [Nat.zero_add] at hl
    have h1 := linesFrom_head i leg a l hl
    have h2 := linesFrom_len i leg a l hl
    refine ⟨?_, ?_⟩
    · match l, h2, h1 with
      | x :: r, _, h1 =>
        simp only [List.getD_cons_zero] at h1
        subst h1
        simp [linesFrom]
    · rw [h1]; simpa using hl
  | k + 1, leg, a => by
    intro l hl
    rw [show k + 1 + i = (k + i) + 1 by omega] at hl
    unfold linesFrom at hl
    rw [List.mem_flatMap] at hl
    obtain ⟨b, hb, h⟩ := hl
    split at h
    · rename_i hf
      rw [List.mem_map] at h
      obtain ⟨l', h1, rfl⟩ := h
      obtain ⟨h2, h3⟩ := linesFrom_parts i k (leg + 1) b l' h1
      refine ⟨?_, ?_⟩
      · unfold linesFrom
        rw [List.mem_flatMap]
        refine ⟨b, hb, ?_⟩
        rw [if_pos hf, List.mem_map]
        exact ⟨_, h2, by simp⟩
      · rw [show leg + (k + 1) = leg + 1 + k by omega]
        exact h3
    · cases h
/-- the pairs of lines of both parts that join -/
def joinN (k : Nat) (b : List (List Int)) (m : List Int) : Nat := b.countP fun n => m.getD k 0 == n.getD 0 0
theorem countP_head {T : Treaty} {f : Nat → Nat → Nat → Bool} (i leg : Nat) (x p : Nat) : ((rangeZ p).flatMap fun s => linesFrom T f i leg s.toNat).countP (fun n => (x : Int) == n.getD 0 0) = if x < p then (linesFrom T f i leg x).length else 0 := by
  induction p with
  | zero => rfl
  | succ p ih =>
    rw [rangeZ_succ, List.flatMap_append, List.countP_append, ih]
    have e : ([(p : Int)].flatMap fun s => linesFrom T f i leg s.toNat) = linesFrom T f i leg p := by simp
    rw [e]
    by_cases h : x = p
    · subst h
      rw [if_neg (Nat.lt_irrefl _), if_pos (by omega), Nat.zero_add, List.countP_eq_length.2]
      intro n hn
      rw [linesFrom_head i leg x n hn]; simp
    · have h0 : (linesFrom T f i leg p).countP (fun n => (x : Int) == n.getD 0 0) = 0 := by
        rw [List.countP_eq_zero]
        intro n hn
        rw [linesFrom_head i leg p n hn]
        simp; omega
      rw [h0, Nat.add_zero]
      by_cases h2 : x < p
      · rw [if_pos h2, if_pos (by omega)]
      · rw [if_neg h2, if_neg (by omega)]
theorem parted_count {T : Treaty} (h : MOk T) (R : List Int) {k : Nat} (hk : k ≤ T.legs.length) :
    ((linesL (partA T k) (leadsF (partA T k) R)).map (joinN k (linesL (partB T k) (leadsF (partB T k) R)))).sum = (linesL T (leadsF T R)).length := by
  have ok := checkE_ok h.check
  have lA : (partA T k).legs.length = k := by show (T.legs.take k).length = k; rw [List.length_take]; omega
  have lB : (partB T k).legs.length = T.legs.length - k := by show (T.legs.drop k).length = _; rw [List.length_drop]
  have eA : linesL (partA T k) (leadsF (partA T k) R) = T.starts.flatMap fun s => linesFrom T (leadsF T R) k 0 s.toNat := by
    unfold linesL
    rw [lA]
    show T.starts.flatMap _ = _
    congr 1
    funext s
    exact linesFrom_partA T R k k 0 _ (by omega)
  have eB : linesL (partB T k) (leadsF (partB T k) R) = (rangeZ T.places.toNat).flatMap fun s => linesFrom T (leadsF T R) (T.legs.length - k) k s.toNat := by
    unfold linesL
    rw [lB]
    show (rangeZ T.places.toNat).flatMap _ = _
    congr 1
    funext s
    exact linesFrom_partB T R k _ 0 _
  rw [eA, eB]
  unfold linesL
  rw [sum_flatMap, len_flatMap]
  congr 1
  refine List.map_congr_left fun s hs => ?_
  have h0 := ok.starts s hs
  have e2 := linesFrom_split T (leadsF T R) (T.legs.length - k) k 0 s.toNat
  rw [show k + (T.legs.length - k) = T.legs.length by omega, Nat.zero_add] at e2
  rw [e2]
  congr 1
  refine List.map_congr_left fun m hm => ?_
  obtain ⟨x, hx, hxp⟩ := linesFrom_last k 0 s.toNat (by omega) m hm
  unfold joinN onL
  rw [hx, countP_head, if_pos hxp, Int.toNat_natCast]
theorem parted_lines {T : Treaty} (h : MOk T) (R : List Int) {k : Nat} (hk : k ≤ T.legs.length) {l : List Int} (hl : l ∈ linesL T (leadsF T R)) :
    l.length = T.legs.length + 1 ∧ l.take (k + 1) ∈ linesL (partA T k) (leadsF (partA T k) R) ∧ l.drop k ∈ linesL (partB T k) (leadsF (partB T k) R) := by
  have ok := checkE_ok h.check
  have lA : (partA T k).legs.length = k := by show (T.legs.take k).length = k; rw [List.length_take]; omega
  have lB : (partB T k).legs.length = T.legs.length - k := by show (T.legs.drop k).length = _; rw [List.length_drop]
  unfold linesL at hl
  rw [List.mem_flatMap] at hl
  obtain ⟨s, hs, hl⟩ := hl
  have h0 := ok.starts s hs
  have hlen := linesFrom_len _ _ _ l hl
  have hl2 := hl
  rw [show T.legs.length = k + (T.legs.length - k) by omega] at hl2
  obtain ⟨h1, h2⟩ := linesFrom_parts (T.legs.length - k) k 0 s.toNat l hl2
  obtain ⟨x, hx, hxp⟩ := linesFrom_last k 0 s.toNat (by omega) _ h1
  have hxk : l.getD k 0 = x := by
    rw [← hx]
    rw [List.getD_eq_getElem?_getD, List.getD_eq_getElem?_getD, List.getElem?_take, if_pos (by omega)]
  refine ⟨hlen, ?_, ?_⟩
  · unfold linesL
    rw [List.mem_flatMap, lA]
    exact ⟨s, hs, by rw [linesFrom_partA T R k k 0 _ (by omega)]; exact h1⟩
  · unfold linesL
    rw [List.mem_flatMap, lB]
    refine ⟨(x : Int), rangeZ_mem.2 ⟨by omega, by omega⟩, ?_⟩
    rw [linesFrom_partB, Int.toNat_natCast]
    rw [hxk, Int.toNat_natCast, Nat.zero_add] at h2
    exact h2
end Go.Proofs
end
