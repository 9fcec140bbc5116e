/- Own texts, merged: Ins Jn Mr20. -/
import Derived.Test.YtobpdobneocckaaGreatDoorH18
import Derived.Test.YtobpdobneocckaaGreatDoorH21
import Derived.BigGuard
set_option linter.unusedSimpArgs false
set_option linter.unusedVariables false
section
/- Library: slices.Insert of one number into a list of the call's own; slices.BinarySearch in a list of numbers. -/
namespace Go.Proofs
open Go.RowKit Go.Shelf

/-- An array in which some cells from a place on are written. -/
def putAt (cs : Array Value) : Nat → List Value → Array Value
  | _, [] => cs
  | o, v :: r => putAt (cs.setIfInBounds o v) (o + 1) r
theorem putAt_size : ∀ (vs : List Value) (cs : Array Value) (o : Nat), (putAt cs o vs).size = cs.size
  | [], _, _ => rfl
  | v :: r, cs, o => by rw [putAt, putAt_size r]; simp
theorem putAt_in : ∀ (vs : List Value) (cs : Array Value) (o j : Nat), o + vs.length ≤ cs.size → j < vs.length → (putAt cs o vs)[o + j]? = vs[j]?
  | [], _, _, _, _, h => by simp at h
  | v :: r, cs, o, j, hs, hj => by
    rw [putAt]
    rcases j with _ | j
    · have hout : ∀ (r : List Value) (cs : Array Value) (p q : Nat), q < p → (putAt cs p r)[q]? = cs[q]? := by
        intro r
        induction r with
        | nil => intro cs p q _; rfl
        | cons v r ih => intro cs p q h; rw [putAt, ih _ _ _ (by omega), Array.getElem?_setIfInBounds_ne (by omega)]
      rw [Nat.add_zero, hout _ _ _ _ (by omega)]
      simp at hs
      simp [Array.getElem?_setIfInBounds]
      omega
    · have := putAt_in r (cs.setIfInBounds o v) (o + 1) j (by simp at hs ⊢; omega) (by simpa using hj)
      rw [show o + (j + 1) = o + 1 + j by omega, this]
      simp
theorem putAt_out : ∀ (vs : List Value) (cs : Array Value) (o j : Nat), j < o ∨ o + vs.length ≤ j → (putAt cs o vs)[j]? = cs[j]?
  | [], _, _, _, _ => rfl
  | v :: r, cs, o, j, h => by
    rw [putAt, putAt_out r _ _ _ (by simp at h; omega), Array.getElem?_setIfInBounds_ne (by simp at h; omega)]
theorem blk_setCellsI {g : Nat} {t : TypeId} : ∀ (vs : List Value) {w : World} {cs : Array Value} (o : Nat), Blk w g t cs → Blk (w.setCells g o vs) g t (putAt cs o vs)
  | [], _, _, _, h => h
  | v :: r, _, _, o, h => by
    rw [World.setCells, putAt]
    exact blk_setCellsI r (o + 1) (h.store o v)
theorem only_setCellsI {a : World} {g : Nat} : ∀ (vs : List Value) {w : World} (o : Nat), a.grownBy w (some g) → a.grownBy (w.setCells g o vs) (some g)
  | [], _, _, h => h
  | v :: r, _, o, h => by
    rw [World.setCells]
    exact only_setCellsI r (o + 1) (only_setCell h (.inl rfl) v)
theorem only_setCells_new {a : World} {g : Nat} {row : Option Nat} (hg : a.heap.size ≤ g) : ∀ (vs : List Value) {w : World} (o : Nat), a.grownBy w row → a.grownBy (w.setCells g o vs) row
  | [], _, _, h => h
  | v :: r, w, o, h => by
    rw [World.setCells]
    refine only_setCells_new hg r (o + 1) ⟨h.os, h.tape, h.output, by simpa [World.setCell] using h.size, fun k hk hne => ?_⟩
    rw [Below.heap_setCell w _ v k (by show k ≠ g; omega)]
    exact h.block k hk hne
theorem toList_of {cs : Array Value} {ys : List Value} (hs : ys.length ≤ cs.size) (h : ∀ j, j < ys.length → cs[j]? = ys[j]?) : cs.toList.take ys.length = ys := by
  apply List.ext_getElem?
  intro j
  rw [List.getElem?_take]
  by_cases hj : j < ys.length
  · rw [if_pos hj, Array.getElem?_toList, h j hj]
  · rw [if_neg hj, List.getElem?_eq_none (by omega)]
theorem mapInt_one : ∀ (l : List Int), ∀ v ∈ l.map (Value.int .i64), v.oneCell' = true := fun l v hv => by
  obtain ⟨x, _, rfl⟩ := List.mem_map.1 hv
  rfl
def insI (l : List Int) (i : Nat) (x : Int) : List Int := l.take i ++ x :: l.drop i
theorem insI_len (l : List Int) (i : Nat) (x : Int) (h : i ≤ l.length) : (insI l i x).length = l.length + 1 := by
  unfold insI; simp; omega
theorem insI_at {l : List Int} {i : Nat} {x : Int} (h : i ≤ l.length) (j : Nat) : ((insI l i x).map (Value.int .i64))[j]? = if j < i then (l.map (Value.int .i64))[j]? else if j = i then some (.int .i64 x) else (l.map (Value.int .i64))[j - 1]? := by
  unfold insI
  simp only [List.getElem?_map, List.getElem?_append, List.length_take, List.getElem?_take, List.getElem?_cons, List.getElem?_drop]
  by_cases h1 : j < i
  · rw [if_pos (by omega), if_pos h1, if_pos h1]
  · rw [if_neg (by omega), if_neg h1]
    by_cases h2 : j = i
    · subst h2
      rw [if_pos (by omega), if_pos rfl]; rfl
    · rw [if_neg (by omega), if_neg h2, show i + (j - min i l.length - 1) = j - 1 by omega]

set_option maxHeartbeats 1000000 in
theorem insert_own {w : World} {base : Nat} {A : Option Addr} {c : Nat} {l : List Int} {i : Nat} {vb : Nat} {x : Int} (h : w.ownsRow base 3 1 (.slice A l.length c) l.length (l.map (Value.int .i64))) (hb : base ≤ w.heap.size)
    (hl : l.length ≤ 1000) (hi : i ≤ l.length) (hv : Blk w vb 3 #[.int .i64 x]) (hne : (Value.slice A l.length c).ownBlock ≠ some vb) :
    Calls Tryz.prog 97 #[.slice A l.length c, .int .i64 i, .slice (some ⟨vb, 0, none⟩) 1 1] w fun e w' => ∃ v', e = .returned v' ∧ w'.ownsRow base 3 1 v' (l.length + 1) ((insI l i x).map (Value.int .i64)) ∧ w.grownBy w' (Value.slice A l.length c).ownBlock := by
  have hxl : (l.map (Value.int .i64)).length = l.length := by simp
  have hyl : ((insI l i x).map (Value.int .i64)).length = l.length + 1 := by rw [List.length_map, insI_len l i x hi]
  have hvs : ∀ j v, [Value.int .i64 x][j]? = some v → w.cell? ⟨vb, 0 + j, none⟩ = some v := fun j v hj => by
    rcases j with _ | j
    · rw [hv.cell]; exact hj
    · simp at hj
  have h1v : ∀ v ∈ [Value.int .i64 x], v.oneCell' = true := fun v hv => by rw [List.mem_singleton.1 hv]; rfl
  rcases h.2 with ⟨e0, h0⟩ | ⟨g, cap, cur, e0, hg, hh, hc, hm, hs, ht⟩
  · -- the empty one
    have hl0 : l = [] := List.eq_nil_of_length_eq_zero h0
    subst hl0
    cases e0
    have hi0 : i = 0 := by simpa using hi
    subst hi0
    refine (Any2.slices_Insert_int_end_grow layIns none 0 0 vb 0 1 1 [] [.int .i64 x] w (by decide) (by decide) (by decide) (by decide) rfl rfl (fun _ => rfl) (fun a ha => by cases ha) hvs h1v).mono ?_
    rintro e w' ⟨rfl, rfl⟩
    have hge := grownCap_ge w (0 + 1) 0 (renIns.t 3)
    have hle := grownCap_le_maxLen w (0 + 1) 0 (renIns.t 3) (by decide)
    generalize grownCap w (0 + 1) 0 (renIns.t 3) = G at hge hle
    refine ⟨_, rfl, ⟨by simp [insI], .inr ⟨_, _, _, rfl, hb, heap_alloc_new _ _, by simpa using hge, hle, ?_, ?_⟩⟩, (only_refl w _ |> only_drew).trans (World.grownBy_alloc _ _ _)⟩
    · simp [Builtin.zeroCells, Value.cells]; omega
    · simp [insI, Builtin.zeroCells, Value.cells]
  · cases e0
    have hB : Blk w g 3 cur := hh
    have hgl := hB.lt
    have hcur : ∀ j v, (l.map (Value.int .i64))[j]? = some v → w.cell? ⟨g, 0 + j, none⟩ = some v := fun j v hj => by
      have := h.cells (g := g) rfl j v hj
      rw [Addr.add_lit] at this
      exact this
    have hcg : ∀ j, j < l.length → cur[j]? = (l.map (Value.int .i64))[j]? := fun j hj => by
      rw [← ht, List.getElem?_take, if_pos (by omega), Array.getElem?_toList]
    have hgv : vb ≠ g := fun e => hne (by rw [e]; rfl)
    by_cases hroom : l.length + 1 ≤ c
    · have hfz : ∀ o, w.frozen? ⟨g, o, none⟩ = false := fun o => hB.frozen o
      have hsp : ∀ o, o < c → (w.cell? ⟨g, o, none⟩).isSome = true := fun o ho => by rw [hB.cell, Array.getElem?_eq_getElem (by omega)]; rfl
      by_cases hie : i = l.length
      · subst hie
        refine (Any2.slices_Insert_int_end_room layIns g 0 l.length c vb 0 1 1 [.int .i64 x] w (by decide) hroom (by unfold maxLen at hm; omega) rfl (fun j hj => hsp _ (by omega)) (fun j hj => hfz _) hvs h1v).mono ?_
        rintro e w' ⟨rfl, rfl⟩
        refine ⟨_, rfl, ⟨by rw [hyl]; omega, .inr ⟨g, c, _, rfl, hg, blk_setCellsI [.int .i64 x] (0 + l.length) hB, hroom, hm, by rw [putAt_size]; exact hs, ?_⟩⟩, only_setCellsI _ _ (only_refl _ _)⟩
        rw [show (l.length + 1) * 1 = ((insI l l.length x).map (Value.int .i64)).length by rw [hyl]; omega]
        refine toList_of (by rw [hyl, putAt_size]; omega) fun j hj => ?_
        rw [insI_at hi]
        by_cases h1 : j < l.length
        · rw [if_pos h1, putAt_out _ _ _ _ (.inl (by omega)), hcg j h1]
        · have : j = l.length := by omega
          subst this
          rw [if_neg h1, if_pos rfl]
          have := putAt_in [.int .i64 x] cur (0 + l.length) 0 (by simp; omega) (Nat.zero_lt_succ _)
          simpa using this
      · have hil : i < l.length := by omega
        refine (Any2.slices_Insert_int_shift layIns g 0 l.length c i vb 0 1 1 (l.map (Value.int .i64)) [.int .i64 x] w hil (by decide) hroom (by unfold maxLen at hm; omega) hgv hxl rfl hcur (fun j hj => hsp _ (by omega)) (fun j hj => hfz _) hvs (mapInt_one l) h1v 3 3 1 cur.size (by unfold World.shape?; rw [show w.heap[vb]? = some (.cells #[.int .i64 x] 3 (0, 0)) from hv]; rfl) (by unfold World.shape?; rw [hh]) (by omega) (hv.frozen _) (hv.frozen _)).mono ?_
        rintro e w' ⟨rfl, rfl⟩
        have hB1 := blk_setCellsI ((l.map (Value.int .i64)).drop i) (0 + (i + 1)) hB.drew
        have hB2 := blk_setCellsI [.int .i64 x] (0 + i) hB1
        have hdl : ((l.map (Value.int .i64)).drop i).length = l.length - i := by rw [List.length_drop, hxl]
        refine ⟨_, rfl, ⟨by rw [hyl]; omega, .inr ⟨g, c, _, rfl, hg, hB2, hroom, hm, by rw [putAt_size, putAt_size]; exact hs, ?_⟩⟩, only_setCellsI _ _ (only_setCellsI _ _ (only_drew (only_refl _ _)))⟩
        rw [show (l.length + 1) * 1 = ((insI l i x).map (Value.int .i64)).length by rw [hyl]; omega]
        refine toList_of (by rw [hyl, putAt_size, putAt_size]; omega) fun j hj => ?_
        rw [insI_at hi]
        rcases Nat.lt_trichotomy j i with h1 | h1 | h1
        · rw [if_pos h1, putAt_out _ _ _ _ (.inl (by omega)), putAt_out _ _ _ _ (.inl (by omega)), hcg j (by omega)]
        · subst h1
          rw [if_neg (by omega), if_pos rfl]
          have := putAt_in [.int .i64 x] (putAt cur (0 + (j + 1)) ((l.map (Value.int .i64)).drop j)) (0 + j) 0 (by rw [putAt_size]; simp; omega) (Nat.zero_lt_succ _)
          simpa using this
        · rw [if_neg (by omega), if_neg (by omega), putAt_out _ _ _ _ (.inr (by simp; omega))]
          have := putAt_in ((l.map (Value.int .i64)).drop i) cur (0 + (i + 1)) (j - (i + 1)) (by rw [hdl]; omega) (by rw [hdl]; omega)
          rw [show 0 + (i + 1) + (j - (i + 1)) = j by omega] at this
          rw [this, List.getElem?_drop, show i + (j - (i + 1)) = j - 1 by omega]
    · by_cases hie : i = l.length
      · subst hie
        refine (Any2.slices_Insert_int_end_grow layIns (some ⟨g, 0, none⟩) l.length c vb 0 1 1 (l.map (Value.int .i64)) [.int .i64 x] w (by decide) hc (by omega) (by omega) hxl rfl (fun e => by cases e) (fun a ha j v hj => by cases ha; exact h.cells (g := g) rfl j v hj) hvs h1v).mono ?_
        rintro e w' ⟨rfl, rfl⟩
        have hge := grownCap_ge w (l.length + 1) c (renIns.t 3)
        have hle := grownCap_le_maxLen w (l.length + 1) c (renIns.t 3) (by unfold maxLen; omega)
        generalize grownCap w (l.length + 1) c (renIns.t 3) = G at hge hle
        refine ⟨_, rfl, ⟨by rw [hyl]; omega, .inr ⟨_, _, _, rfl, hb, heap_alloc_new _ _, hge, hle, ?_, ?_⟩⟩, (only_refl w _ |> only_drew).trans (World.grownBy_alloc _ _ _)⟩
        · simp [Builtin.zeroCells, Value.cells]; omega
        · have : (insI l l.length x).map (Value.int .i64) = l.map (Value.int .i64) ++ [.int .i64 x] := by simp [insI]
          rw [this, show (l.length + 1) * 1 = (l.map (Value.int .i64) ++ [Value.int .i64 x]).length by simp]
          simp only [Array.toList_append, List.toList_toArray]
          exact List.take_left
      · have hil : i < l.length := by omega
        refine (Any2.slices_Insert_int_grow layIns g 0 l.length c i vb 0 1 1 (l.map (Value.int .i64)) [.int .i64 x] w hil (by decide) hc (by omega) (by omega) hxl rfl hcur hvs (mapInt_one l) h1v).mono ?_
        rintro e w' ⟨rfl, rfl⟩
        have hge := grownCap_ge w (l.length + 1) c (renIns.t 3)
        have hle := grownCap_le_maxLen w (l.length + 1) c (renIns.t 3) (by unfold maxLen; omega)
        generalize grownCap w (l.length + 1) c (renIns.t 3) = G at hge hle
        obtain ⟨cs0, hcs0⟩ : ∃ cs0, ((l.map (Value.int .i64)).take i).toArray ++ Builtin.zeroCells (Value.int .i64 0).cells (l.length + 1 - i) ++ Builtin.zeroCells (Value.int .i64 0).cells (G - (l.length + 1)) = cs0 := ⟨_, rfl⟩
        have hsz : cs0.size = G := by rw [← hcs0]; simp [Builtin.zeroCells, Value.cells]; omega
        have hc0 : ∀ j, j < i → cs0[j]? = (l.map (Value.int .i64))[j]? := fun j hj => by
          rw [← hcs0, Array.append_assoc, Array.getElem?_append_left (by simp; omega)]
          simp [hj]
        rw [hcs0]
        clear hcs0
        have hB0 : Blk ((w.alloc (.cells cs0 (renIns.t 3))).drew) w.heap.size 3 cs0 := (Blk.new w 3 cs0).drew
        have hB1 := (blk_setCellsI [.int .i64 x] i hB0).drew
        have hB2 := blk_setCellsI ((l.map (Value.int .i64)).drop i) (i + 1) hB1
        have hdl : ((l.map (Value.int .i64)).drop i).length = l.length - i := by rw [List.length_drop, hxl]
        refine ⟨_, rfl, ⟨by rw [hyl]; omega, .inr ⟨_, _, _, rfl, hb, hB2, hge, hle, by rw [putAt_size, putAt_size, hsz]; omega, ?_⟩⟩, only_setCells_new (Nat.le_refl _) _ _ (only_drew (only_setCells_new (Nat.le_refl _) _ _ (only_drew (World.grownBy_alloc _ _ _))))⟩
        rw [show (l.length + 1) * 1 = ((insI l i x).map (Value.int .i64)).length by rw [hyl]; omega]
        refine toList_of (by rw [hyl, putAt_size, putAt_size]; omega) fun j hj => ?_
        rw [insI_at hi]
        rcases Nat.lt_trichotomy j i with h1 | h1 | h1
        · rw [if_pos h1, putAt_out _ _ _ _ (.inl (by omega)), putAt_out _ _ _ _ (.inl (by omega)), hc0 j h1]
        · subst h1
          rw [if_neg (by omega), if_pos rfl, putAt_out _ _ _ _ (.inl (by omega))]
          have := putAt_in [.int .i64 x] cs0 j 0 (by simp; omega) (Nat.zero_lt_succ _)
          simpa using this
        · rw [if_neg (by omega), if_neg (by omega)]
          have := putAt_in ((l.map (Value.int .i64)).drop i) (putAt cs0 i [.int .i64 x]) (i + 1) (j - (i + 1)) (by rw [hdl, putAt_size]; omega) (by rw [hdl]; omega)
          rw [show i + 1 + (j - (i + 1)) = j by omega] at this
          rw [this, List.getElem?_drop, show i + (j - (i + 1)) = j - 1 by omega]

/-- How many are less. -/
def belowN (l : List Int) (x : Int) : Nat := l.countP (· < x)
theorem below_le (l : List Int) (x : Int) : belowN l x ≤ l.length := List.countP_le_length
theorem join_ins : ∀ {l : List Int} {x : Int}, l.Pairwise (fun a b => a < b) → x ∉ l → insI l (belowN l x) x = joinL l x
  | [], x, _, _ => by simp [insI, joinL]
  | y :: r, x, hp, hx => by
    rw [List.pairwise_cons] at hp
    have hne : x ≠ y := fun e => hx (by rw [e]; exact List.mem_cons_self)
    have hr : x ∉ r := fun e => hx (List.mem_cons_of_mem _ e)
    have ih := join_ins hp.2 hr
    unfold joinL at ih ⊢
    rw [if_neg hr] at ih
    rw [if_neg hx]
    unfold insI belowN at ih ⊢
    by_cases hlt : y < x
    · rw [List.countP_cons_of_pos (by simpa using hlt), List.takeWhile_cons_of_pos (by simpa using hlt), List.dropWhile_cons_of_pos (by simpa using hlt)]
      simp only [List.take_succ_cons, List.drop_succ_cons, List.cons_append]
      rw [ih]
    · have h0 : (y :: r).countP (fun a => decide (a < x)) = 0 := by
        rw [List.countP_eq_zero]
        intro a ha
        rcases List.mem_cons.1 ha with e | ha
        · subst e; simpa using hlt
        · have := hp.1 a ha
          simp; omega
      rw [h0, List.takeWhile_cons_of_neg (by simpa using hlt), List.dropWhile_cons_of_neg (by simpa using hlt)]
      rfl
theorem search_any {w : World} {A : Option Addr} {l : List Int} {c : Nat} {x : Int} (h : Ints w A l) (hs : l.Pairwise (fun a b => a < b)) :
    Calls Tryz.prog 96 #[.slice A l.length c, .int .i64 x] w fun e w' => e = .returned (.tuple #[.int .i64 (belowN l x : Nat), .bool (decide (x ∈ l))]) ∧ ∃ q, w' = w.drewN q := by
  rcases Nat.eq_zero_or_pos l.length with h0 | h0
  · have := List.eq_nil_of_length_eq_zero h0
    subst this
    exact (Any.slices_BinarySearch_int_empty laySearch A c x w).mono fun e w' ⟨h1, h2⟩ => ⟨h1, 0, h2⟩
  · have hn := h.len
    obtain ⟨b, o, rfl, -, hc⟩ := Ints.at h h0
    refine (Any.slices_BinarySearch_int laySearch b o l.length c l x w (Nat.le_refl _) (by omega) (fun j hj => ?_) ?_).mono ?_
    · rw [hc j hj, List.getD_eq_getElem?_getD, List.getElem?_eq_getElem hj]; rfl
    · rw [List.take_length]; exact hs.imp fun h => Int.le_of_lt h
    · rintro e w' ⟨rfl, hq⟩
      refine ⟨?_, hq⟩
      rw [List.take_length]
      rw [show l.contains x = decide (x ∈ l) by rw [Bool.eq_iff_iff]; simp]
      rfl
end Go.Proofs
end

section
/- Walks: joined (41). -/
namespace Go.Proofs
open Go.RowKit


set_option maxHeartbeats 1000000 in
theorem joined_any (w : World) (A : Option Addr) (l : List Int) (c : Nat) (x : Int) (hA : Ints w A l) (hs : l.Pairwise (fun a b => a < b)) (hl : l.length ≤ 100) :
    Calls Tryz.prog 41 #[.slice A l.length c, .int .i64 x] w (OwnInts w (joinL l x)) := by
  have HS := Lib.hid hs
  clear hs
  have HC := Lib.hid (kitClone_int A l c w hA)
  go_enter Tryz.func41, Tryz.ntmps41
  (repeat (first | go_big_skip | go_big_want | go_big_move | go_big_op | go_step | go_upon | go_back))
  go_at_call 46
  refine HC.out.mono ?_
  rintro e w1 ⟨v, rfl, hown, ha⟩
  dsimp only
  obtain ⟨A1, c1, rfl, -, hi⟩ := own_ints hown (by omega)
  have HO := Lib.hid hown
  have HA1 := Lib.hid ha
  have HSE := Lib.hid (search_any (c := c1) (x := x) hi HS.out)
  clear hown ha hi HC
  (repeat (first | go_big_skip | go_big_want | go_big_move | go_big_op | go_step | go_upon | go_back))
  go_at_call 96
  refine HSE.out.mono ?_
  rintro e w2 ⟨rfl, q, rfl⟩
  dsimp only
  clear HSE
  by_cases hx : x ∈ l
  · have HJ : Hid (joinL l x = l) := Lib.hid (by unfold joinL; rw [if_pos hx])
    have hd : decide (x ∈ l) = true := decide_eq_true hx
    rw [hd]
    clear hd hx
    (repeat (first | go_big_skip | go_big_want | go_big_move | go_big_op | go_step | go_upon | go_back))
    go_ret
    refine ⟨_, rfl, ?_, HA1.out.then_drewN _⟩
    rw [HJ.out]
    exact own_aft HO.out (Aft.drewN _ _)
  · have HJ : Hid (joinL l x = insI l (belowN l x) x) := Lib.hid (join_ins HS.out hx).symm
    have hd : decide (x ∈ l) = false := decide_eq_false hx
    rw [hd]
    clear hd hx
    have hbl := below_le l x
    have HB := Lib.hid (fun i => insI_len l i x)
    generalize belowN l x = i at *
    have haa : Aft (w1.drewN q) ((w1.drewN q).alloc (.cells #[.int .i64 x] 3)) := Aft.alloc _ _
    have ho2 := own_aft (own_aft HO.out (Aft.drewN w1 q)) haa
    have hsz : w.heap.size ≤ ((w1.drewN q).alloc (.cells #[.int .i64 x] 3)).heap.size := ((HA1.out.then_drewN q).trans haa).size
    have HI := Lib.hid (insert_own (i := i) (vb := (w1.drewN q).heap.size) (x := x) ho2 hsz (by omega) hbl (Blk.new _ _ _) (fun e => by have := (HO.out.lt _ e).2; simp at this))
    have HAA := Lib.hid haa
    clear haa ho2 hsz
    (repeat (first | go_big_skip | go_big_want | go_big_move | go_big_op | go_step | go_upon | go_back))
    go_at_call 97
    refine HI.out.mono ?_
    rintro e w3 ⟨v', rfl, hown, hg⟩
    dsimp only
    have HO3 := Lib.hid hown
    have HG := Lib.hid hg
    clear hown hg
    (repeat (first | go_big_skip | go_big_want | go_big_move | go_big_op | go_step | go_upon | go_back))
    go_ret
    refine ⟨_, rfl, ?_, ?_⟩
    · rw [HJ.out, HB.out i hbl]
      exact HO3.out
    · exact ((HA1.out.then_drewN q).trans HAA.out).grown HG.out (own_ge HO.out)
end Go.Proofs
end

section
/- Walks: a drawn region of the law TreatyMore: a meaning's two lists, each with a number more. -/
namespace Go.Proofs
open Go.RowKit

def Fc20 (gr k0 nk uc ne ec : Nat) (x y : Int) (uA eA : Option Addr) (_ : Nat → Bool) : Nat → Value → World → Prop
  | 0, v, _ => v = .pointer (some ⟨gr, k0 * 2, none⟩)
  | 1, v, _ => v = .pointer (some ⟨gr, k0 * 2, none⟩)
  | 2, v, _ => v = .pointer (some ⟨gr, k0 * 2, none⟩)
  | 3, v, _ => v = .pointer (some ⟨gr, k0 * 2, none⟩)
  | 4, v, _ => v = .pointer (some ⟨gr, k0 * 2, none⟩)
  | 5, v, _ => v = .slice uA nk uc
  | 6, v, _ => v = .int .i64 x
  | 8, v, _ => v = .pointer (some ⟨gr, k0 * 2, none⟩)
  | 9, v, _ => v = .pointer (some ⟨gr, k0 * 2, none⟩)
  | 10, v, _ => v = .pointer (some ⟨gr, k0 * 2 + 1, none⟩)
  | 11, v, _ => v = .slice eA ne ec
  | 12, v, _ => v = .int .i64 y
  | 14, v, _ => v = .pointer (some ⟨gr, k0 * 2, none⟩)
  | 15, v, _ => v = .pointer (some ⟨gr, k0 * 2, none⟩)
  | 17, v, _ => v = .pointer (some ⟨gr, k0 * 2, none⟩)
  | 18, v, _ => v = .pointer (some ⟨gr, k0 * 2 + 1, none⟩)
  | _, _, _ => True
theorem Fc20.any {gr k0 nk uc ne ec : Nat} {x y : Int} {uA eA : Option Addr} {done done' : Nat → Bool} {i : Nat} {v : Value} {w w' : World} (h : Fc20 gr k0 nk uc ne ec x y uA eA done i v w) : Fc20 gr k0 nk uc ne ec x y uA eA done' i v w' := by
  unfold Fc20 at h ⊢
  split at h <;> exact h
def M20 (i : Nat) : Bool := decide (i = 7) || decide (i = 13)
theorem m20_cases {i : Nat} (h : M20 i = true) : i = 7 ∨ i = 13 := by
  unfold M20 at h
  simp only [Bool.or_eq_true, decide_eq_true_eq] at h
  omega
def R20 (l1 l2 : List Int) (a : Act) : Nat → Nat × Nat → World → Prop
  | 7, v, w => OInts (Inr v) (a.eval (.tmp 138)) l1 w
  | 13, v, w => OInts (Inr v) (a.eval (.tmp 144)) l2 w
  | _, _, _ => True
theorem oints_local (u : Value) (l : List Int) : LocalR (fun v w => OInts (Inr v) u l w) := fun v w w' h ha => OwnD.agree h ha
theorem r20_local (l1 l2 : List Int) (a : Act) : ∀ j, M20 j = true → LocalR (R20 l1 l2 a j) := fun j hj => by
  rcases m20_cases hj with rfl | rfl
  · exact oints_local _ _
  · exact oints_local _ _
def Fin20 (X : World) (D2 : Nat → Prop) (v2 : Value) (ws : List (List Mean)) (xs : List Value) (i0 k0 : Nat) (x y : Int) (w : World) : Prop :=
  OWordsX (Dom D2 X) v2 (ws.set i0 ((ws.getD i0 []).set k0 (joinM x y ((ws.getD i0 []).getD k0 ⟨[], []⟩)))) xs w ∧ GrownS (fun k => D2 k ∧ ∃ cs, X.heap[k]? = some (.cells cs 67)) X w
structure W20 (X : World) (D2 : Nat → Prop) (v2 : Value) (ws : List (List Mean)) (xs : List Value) (gr i0 k0 : Nat) (x y : Int) (l1 l2 : List Int) (done : Nat → Bool) (a : Act) (w : World) : Prop where
  pre : done 16 = false → PartsP X NoneS M20 done (R20 l1 l2 a) w
  mid : done 16 = true → done 19 = false → ∃ (wB : World) (v1 : Value), w = wB.setCell ⟨gr, k0 * 2, none⟩ v1 ∧ Aft X wB ∧ OInts (Dom D2 X) v1 l1 wB ∧ OInts (Dom D2 X) (a.eval (.tmp 144)) l2 wB
  fin : done 19 = true → Fin20 X D2 v2 ws xs i0 k0 x y w
def ch20 (s : Nat) : Bool := decide (s = 131) || decide (s = 132) || decide (s = 133) || decide (s = 134) || decide (s = 135) || decide (s = 136) || decide (s = 137) || decide (s = 138) || decide (s = 139) || decide (s = 140) || decide (s = 141) || decide (s = 142) || decide (s = 143) || decide (s = 144) || decide (s = 145) || decide (s = 146) || decide (s = 147) || decide (s = 148)

set_option maxRecDepth 100000 in
set_option maxHeartbeats 4000000 in
theorem region20_mr (D2 : Nat → Prop) (v2 : Value) (ws : List (List Mean)) (ms : List Mean) (xs : List Value) (gr rc i0 k0 : Nat) (x y : Int) (a0 : Act) (Q0 : Exit → Act → World → Prop) (X : World) (hz : a0.tmps.size = 253) (s17 : a0.eval (.tmp 17) = .int .i64 x) (s18 : a0.eval (.tmp 18) = .int .i64 y) (s21 : a0.eval (.tmp 21) = .pointer (some ⟨gr, k0 * 2, none⟩))
    (hWX : OWordsX D2 v2 ws xs X) (hi : i0 < ws.length) (hms : ws[i0] = ms) (hxa : xs[i0]? = some (.slice (some ⟨gr, 0, none⟩) ms.length rc)) (hk0 : k0 < ms.length) (hR1 : ms[k0].kinds.Pairwise (fun a b => a < b)) (hR2 : ms[k0].ends.Pairwise (fun a b => a < b)) (hL : ms[k0].kinds.length ≤ 100 ∧ ms[k0].ends.length ≤ 100)
    (hexit : ∀ a W', a.tmps.size = 253 → a.defers = a0.defers → (∀ s : Nat, ch20 s = false → a.eval (.tmp s) = a0.eval (.tmp s)) → Fin20 X D2 v2 ws xs i0 k0 x y W' → Q0 .normal a W') :
    Code.wp Tryz.prog (Code.region 20 (opsMr 20).toArray true) Q0 a0 X := by
  have HEX := Lib.hid hexit
  clear hexit
  obtain ⟨a', ea', ys, hrx⟩ := hWX.at_ i0 hi
  rw [hxa] at ea'
  cases ea'
  have hrx : ORowX D2 (.slice (some ⟨gr, 0, none⟩) ms.length rc) ms ys X := by rw [hms] at hrx; exact hrx
  obtain ⟨u, e, eu, ee, ou, oe⟩ := hrx.at_ k0 hk0
  obtain ⟨uA, uc, rfl, hI1⟩ := ints_of ou (by omega)
  obtain ⟨eA, ec, rfl, hI2⟩ := ints_of oe (by omega)
  have hku := hrx.own.1.cells (g := gr) rfl (k0 * 2) _ eu
  have hke := hrx.own.1.cells (g := gr) rfl (k0 * 2 + 1) _ ee
  rw [Addr.add_lit, Nat.zero_add] at hku hke
  have hgl := (hrx.own.1.lt gr rfl).2
  have hfz : ∀ o, X.frozen? ⟨gr, o, none⟩ = false := fun o => by
    rcases hrx.own.1.2 with ⟨e, -⟩ | ⟨g', cap', cur', e, -, hh, -⟩
    · cases e
    · cases e
      simp [World.frozen?, hh]
  obtain ⟨l1, hl1⟩ : ∃ l, l = joinL ms[k0].kinds x := ⟨_, rfl⟩
  obtain ⟨l2, hl2⟩ : ∃ l, l = joinL ms[k0].ends y := ⟨_, rfl⟩
  have hloc' := fun a => r20_local l1 l2 a
  refine wp_region_factsF (by kernel_rfl) 253 hz (by kernel_rfl) (Fc20 gr k0 ms[k0].kinds.length uc ms[k0].ends.length ec x y uA eA) ((W20 X D2 v2 ws xs gr i0 k0 x y l1 l2)) ⟨fun _ => PartsP.start (GrownS.of (only_of_aft (Aft.drew _) none) fun _ e => by cases e), (fun h => by cases h), (fun h => by cases h)⟩ ?step ?fin
  case step =>
    intro i o ho done a w hH hd hp K hK
    have hW : (W20 X D2 v2 ws xs gr i0 k0 x y l1 l2) done a w := hH.wd
    have hold : ∀ s : Nat, ch20 s = false → a.eval (.tmp s) = a0.eval (.tmp s) := fun s h => hH.old s fun k ok hk hs => by
      match k, hk with
      | 0, hk => cases hk; cases hs; exact absurd h (by decide)
      | 1, hk => cases hk; cases hs; exact absurd h (by decide)
      | 2, hk => cases hk; cases hs; exact absurd h (by decide)
      | 3, hk => cases hk; cases hs; exact absurd h (by decide)
      | 4, hk => cases hk; cases hs; exact absurd h (by decide)
      | 5, hk => cases hk; cases hs; exact absurd h (by decide)
      | 6, hk => cases hk; cases hs; exact absurd h (by decide)
      | 7, hk => cases hk; cases hs; exact absurd h (by decide)
      | 8, hk => cases hk; cases hs; exact absurd h (by decide)
      | 9, hk => cases hk; cases hs; exact absurd h (by decide)
      | 10, hk => cases hk; cases hs; exact absurd h (by decide)
      | 11, hk => cases hk; cases hs; exact absurd h (by decide)
      | 12, hk => cases hk; cases hs; exact absurd h (by decide)
      | 13, hk => cases hk; cases hs; exact absurd h (by decide)
      | 14, hk => cases hk; cases hs; exact absurd h (by decide)
      | 15, hk => cases hk; cases hs; exact absurd h (by decide)
      | 16, hk => cases hk; cases hs
      | 17, hk => cases hk; cases hs; exact absurd h (by decide)
      | 18, hk => cases hk; cases hs; exact absurd h (by decide)
      | 19, hk => cases hk; cases hs
      | _ + 20, hk => cases hk
    have hsz : a.tmps.size = 253 := by rw [hH.size, hz]
    have hloc := hloc' a
    match i, ho, hd, hp, hK with
    | 0, ho, hd, hp, hK =>
      cases ho
      have e21 : a.eval (.tmp 21) = .pointer (some ⟨gr, k0 * 2, none⟩) := (hold 21 (by decide)).trans s21
      refine op_value (v := .pointer (some ⟨gr, k0 * 2, none⟩)) (by simp [go_sem, ev e21]) (hK _ _ rfl ?_ fun j _ _ _ _ _ hu => hu.any)
      exact ⟨fun h => (hW.pre h).plain (Aft.refl _) rfl hloc (fun j v hj hdj hr => by
          rcases m20_cases hj with rfl | rfl
          · show OInts (Inr v) ((a.put (some 131) _).eval (.tmp 138)) l1 _; rw [put_otherR (by decide)]; exact hr
          · show OInts (Inr v) ((a.put (some 131) _).eval (.tmp 144)) l2 _; rw [put_otherR (by decide)]; exact hr), fun h1 h2 => by rw [put_otherR (by decide)]; exact hW.mid h1 h2, hW.fin⟩
    | 1, ho, hd, hp, hK =>
      cases ho
      have e21 : a.eval (.tmp 21) = .pointer (some ⟨gr, k0 * 2, none⟩) := (hold 21 (by decide)).trans s21
      refine op_value (v := .pointer (some ⟨gr, k0 * 2, none⟩)) (by simp [go_sem, ev e21]) (hK _ _ rfl ?_ fun j _ _ _ _ _ hu => hu.any)
      exact ⟨fun h => (hW.pre h).plain (Aft.refl _) rfl hloc (fun j v hj hdj hr => by
          rcases m20_cases hj with rfl | rfl
          · show OInts (Inr v) ((a.put (some 132) _).eval (.tmp 138)) l1 _; rw [put_otherR (by decide)]; exact hr
          · show OInts (Inr v) ((a.put (some 132) _).eval (.tmp 144)) l2 _; rw [put_otherR (by decide)]; exact hr), fun h1 h2 => by rw [put_otherR (by decide)]; exact hW.mid h1 h2, hW.fin⟩
    | 2, ho, hd, hp, hK =>
      cases ho
      have e21 : a.eval (.tmp 21) = .pointer (some ⟨gr, k0 * 2, none⟩) := (hold 21 (by decide)).trans s21
      refine op_value (v := .pointer (some ⟨gr, k0 * 2, none⟩)) (by simp [go_sem, ev e21]) (hK _ _ rfl ?_ fun j _ _ _ _ _ hu => hu.any)
      exact ⟨fun h => (hW.pre h).plain (Aft.refl _) rfl hloc (fun j v hj hdj hr => by
          rcases m20_cases hj with rfl | rfl
          · show OInts (Inr v) ((a.put (some 133) _).eval (.tmp 138)) l1 _; rw [put_otherR (by decide)]; exact hr
          · show OInts (Inr v) ((a.put (some 133) _).eval (.tmp 144)) l2 _; rw [put_otherR (by decide)]; exact hr), fun h1 h2 => by rw [put_otherR (by decide)]; exact hW.mid h1 h2, hW.fin⟩
    | 3, ho, hd, hp, hK =>
      cases ho
      have e133 : a.eval (.tmp 133) = .pointer (some ⟨gr, k0 * 2, none⟩) := hH.fact 2 _ 133 rfl rfl (hp 2 (by decide))
      refine op_value (v := .pointer (some ⟨gr, k0 * 2, none⟩)) (by simp [go_sem, ev e133]) (hK _ _ rfl ?_ fun j _ _ _ _ _ hu => hu.any)
      exact ⟨fun h => (hW.pre h).plain (Aft.refl _) rfl hloc (fun j v hj hdj hr => by
          rcases m20_cases hj with rfl | rfl
          · show OInts (Inr v) ((a.put (some 134) _).eval (.tmp 138)) l1 _; rw [put_otherR (by decide)]; exact hr
          · show OInts (Inr v) ((a.put (some 134) _).eval (.tmp 144)) l2 _; rw [put_otherR (by decide)]; exact hr), fun h1 h2 => by rw [put_otherR (by decide)]; exact hW.mid h1 h2, hW.fin⟩
    | 4, ho, hd, hp, hK =>
      cases ho
      have e134 : a.eval (.tmp 134) = .pointer (some ⟨gr, k0 * 2, none⟩) := hH.fact 3 _ 134 rfl rfl (hp 3 (by decide))
      refine op_value (v := .pointer (some ⟨gr, k0 * 2, none⟩)) (by simp [go_sem, ev e134]) (hK _ _ rfl ?_ fun j _ _ _ _ _ hu => hu.any)
      exact ⟨fun h => (hW.pre h).plain (Aft.refl _) rfl hloc (fun j v hj hdj hr => by
          rcases m20_cases hj with rfl | rfl
          · show OInts (Inr v) ((a.put (some 135) _).eval (.tmp 138)) l1 _; rw [put_otherR (by decide)]; exact hr
          · show OInts (Inr v) ((a.put (some 135) _).eval (.tmp 144)) l2 _; rw [put_otherR (by decide)]; exact hr), fun h1 h2 => by rw [put_otherR (by decide)]; exact hW.mid h1 h2, hW.fin⟩
    | 5, ho, hd, hp, hK =>
      cases ho
      have e135 : a.eval (.tmp 135) = .pointer (some ⟨gr, k0 * 2, none⟩) := hH.fact 4 _ 135 rfl rfl (hp 4 (by decide))
      have h16 : done 16 = false := not_done hH 16 7 (not_done hH 7 5 hd rfl (by decide)) rfl (by decide)
      have ku : w.cell? ⟨gr, k0 * 2, none⟩ = some (.slice uA ms[k0].kinds.length uc) := (World.cell?_of_block ((hW.pre h16).grown.block gr hgl (fun h => h))).trans hku
      refine op_value (v := .slice uA ms[k0].kinds.length uc) (by simp [go_sem, ev e135, ku]) (hK _ _ rfl ?_ fun j _ _ _ _ _ hu => hu.any)
      exact ⟨fun h => (hW.pre h).plain (Aft.refl _) rfl hloc (fun j v hj hdj hr => by
          rcases m20_cases hj with rfl | rfl
          · show OInts (Inr v) ((a.put (some 136) _).eval (.tmp 138)) l1 _; rw [put_otherR (by decide)]; exact hr
          · show OInts (Inr v) ((a.put (some 136) _).eval (.tmp 144)) l2 _; rw [put_otherR (by decide)]; exact hr), fun h1 h2 => by rw [put_otherR (by decide)]; exact hW.mid h1 h2, hW.fin⟩
    | 6, ho, hd, hp, hK =>
      cases ho
      have e17 : a.eval (.tmp 17) = .int .i64 x := (hold 17 (by decide)).trans s17
      refine op_value (v := .int .i64 x) (by simp [go_sem, ev e17]) (hK _ _ rfl ?_ fun j _ _ _ _ _ hu => hu.any)
      exact ⟨fun h => (hW.pre h).plain (Aft.refl _) rfl hloc (fun j v hj hdj hr => by
          rcases m20_cases hj with rfl | rfl
          · show OInts (Inr v) ((a.put (some 137) _).eval (.tmp 138)) l1 _; rw [put_otherR (by decide)]; exact hr
          · show OInts (Inr v) ((a.put (some 137) _).eval (.tmp 144)) l2 _; rw [put_otherR (by decide)]; exact hr), fun h1 h2 => by rw [put_otherR (by decide)]; exact hW.mid h1 h2, hW.fin⟩
    | 7, ho, hd, hp, hK =>
      cases ho
      have e136 : a.eval (.tmp 136) = .slice uA ms[k0].kinds.length uc := hH.fact 5 _ 136 rfl rfl (hp 5 (by decide))
      have e137 : a.eval (.tmp 137) = .int .i64 x := hH.fact 6 _ 137 rfl rfl (hp 6 (by decide))
      have h16 : done 16 = false := not_done hH 16 7 hd rfl (by decide)
      have h19 : done 19 = false := not_done hH 19 16 h16 rfl (by decide)
      have p1 := hW.pre h16
      refine op_call2 Tryz.func41 (by kernel_rfl) (by kernel_rfl) _ _ rfl e136 e137 (joined_any w uA ms[k0].kinds uc x (hI1.aft p1.aft) hR1 (by omega)) ?_
      rintro e w' ⟨v, rfl, hown', ha⟩
      try rw [← hl1] at hown'
      try rw [← hl2] at hown'
      refine ⟨_, rfl, hK _ _ trivial ⟨fun _ => p1.add ha hd hloc (fun j v hne hj hdj hr => by
          rcases m20_cases hj with rfl | rfl
          · exact absurd rfl hne
          · show OInts (Inr v) ((a.put (some 138) _).eval (.tmp 144)) l2 _; rw [put_otherR (by decide)]; exact hr) ?_, fun h => ?_, fun h => ?_⟩ fun j _ _ _ _ _ hu => hu.any⟩
      · show OInts _ ((a.put (some 138) _).eval (.tmp 138)) l1 _
        rw [Act.eval_put_same _ _ _ (by rw [hsz]; decide)]
        exact OwnD.of hown' fun k h1 h2 => ⟨h1, h2⟩
      · have h' : done 16 = true := h
        rw [h16] at h'; cases h'
      · have h' : done 19 = true := h
        rw [h19] at h'; cases h'
    | 8, ho, hd, hp, hK =>
      cases ho
      have e21 : a.eval (.tmp 21) = .pointer (some ⟨gr, k0 * 2, none⟩) := (hold 21 (by decide)).trans s21
      refine op_value (v := .pointer (some ⟨gr, k0 * 2, none⟩)) (by simp [go_sem, ev e21]) (hK _ _ rfl ?_ fun j _ _ _ _ _ hu => hu.any)
      exact ⟨fun h => (hW.pre h).plain (Aft.refl _) rfl hloc (fun j v hj hdj hr => by
          rcases m20_cases hj with rfl | rfl
          · show OInts (Inr v) ((a.put (some 139) _).eval (.tmp 138)) l1 _; rw [put_otherR (by decide)]; exact hr
          · show OInts (Inr v) ((a.put (some 139) _).eval (.tmp 144)) l2 _; rw [put_otherR (by decide)]; exact hr), fun h1 h2 => by rw [put_otherR (by decide)]; exact hW.mid h1 h2, hW.fin⟩
    | 9, ho, hd, hp, hK =>
      cases ho
      have e139 : a.eval (.tmp 139) = .pointer (some ⟨gr, k0 * 2, none⟩) := hH.fact 8 _ 139 rfl rfl (hp 8 (by decide))
      refine op_value (v := .pointer (some ⟨gr, k0 * 2, none⟩)) (by simp [go_sem, ev e139]) (hK _ _ rfl ?_ fun j _ _ _ _ _ hu => hu.any)
      exact ⟨fun h => (hW.pre h).plain (Aft.refl _) rfl hloc (fun j v hj hdj hr => by
          rcases m20_cases hj with rfl | rfl
          · show OInts (Inr v) ((a.put (some 140) _).eval (.tmp 138)) l1 _; rw [put_otherR (by decide)]; exact hr
          · show OInts (Inr v) ((a.put (some 140) _).eval (.tmp 144)) l2 _; rw [put_otherR (by decide)]; exact hr), fun h1 h2 => by rw [put_otherR (by decide)]; exact hW.mid h1 h2, hW.fin⟩
    | 10, ho, hd, hp, hK =>
      cases ho
      have e140 : a.eval (.tmp 140) = .pointer (some ⟨gr, k0 * 2, none⟩) := hH.fact 9 _ 140 rfl rfl (hp 9 (by decide))
      refine op_value (v := .pointer (some ⟨gr, k0 * 2 + 1, none⟩)) (by simp [go_sem, ev e140]) (hK _ _ rfl ?_ fun j _ _ _ _ _ hu => hu.any)
      exact ⟨fun h => (hW.pre h).plain (Aft.refl _) rfl hloc (fun j v hj hdj hr => by
          rcases m20_cases hj with rfl | rfl
          · show OInts (Inr v) ((a.put (some 141) _).eval (.tmp 138)) l1 _; rw [put_otherR (by decide)]; exact hr
          · show OInts (Inr v) ((a.put (some 141) _).eval (.tmp 144)) l2 _; rw [put_otherR (by decide)]; exact hr), fun h1 h2 => by rw [put_otherR (by decide)]; exact hW.mid h1 h2, hW.fin⟩
    | 11, ho, hd, hp, hK =>
      cases ho
      have e141 : a.eval (.tmp 141) = .pointer (some ⟨gr, k0 * 2 + 1, none⟩) := hH.fact 10 _ 141 rfl rfl (hp 10 (by decide))
      have h16 : done 16 = false := not_done hH 16 13 (not_done hH 13 11 hd rfl (by decide)) rfl (by decide)
      have ke : w.cell? ⟨gr, k0 * 2 + 1, none⟩ = some (.slice eA ms[k0].ends.length ec) := (World.cell?_of_block ((hW.pre h16).grown.block gr hgl (fun h => h))).trans hke
      refine op_value (v := .slice eA ms[k0].ends.length ec) (by simp [go_sem, ev e141, ke]) (hK _ _ rfl ?_ fun j _ _ _ _ _ hu => hu.any)
      exact ⟨fun h => (hW.pre h).plain (Aft.refl _) rfl hloc (fun j v hj hdj hr => by
          rcases m20_cases hj with rfl | rfl
          · show OInts (Inr v) ((a.put (some 142) _).eval (.tmp 138)) l1 _; rw [put_otherR (by decide)]; exact hr
          · show OInts (Inr v) ((a.put (some 142) _).eval (.tmp 144)) l2 _; rw [put_otherR (by decide)]; exact hr), fun h1 h2 => by rw [put_otherR (by decide)]; exact hW.mid h1 h2, hW.fin⟩
    | 12, ho, hd, hp, hK =>
      cases ho
      have e18 : a.eval (.tmp 18) = .int .i64 y := (hold 18 (by decide)).trans s18
      refine op_value (v := .int .i64 y) (by simp [go_sem, ev e18]) (hK _ _ rfl ?_ fun j _ _ _ _ _ hu => hu.any)
      exact ⟨fun h => (hW.pre h).plain (Aft.refl _) rfl hloc (fun j v hj hdj hr => by
          rcases m20_cases hj with rfl | rfl
          · show OInts (Inr v) ((a.put (some 143) _).eval (.tmp 138)) l1 _; rw [put_otherR (by decide)]; exact hr
          · show OInts (Inr v) ((a.put (some 143) _).eval (.tmp 144)) l2 _; rw [put_otherR (by decide)]; exact hr), fun h1 h2 => by rw [put_otherR (by decide)]; exact hW.mid h1 h2, hW.fin⟩
    | 13, ho, hd, hp, hK =>
      cases ho
      have e142 : a.eval (.tmp 142) = .slice eA ms[k0].ends.length ec := hH.fact 11 _ 142 rfl rfl (hp 11 (by decide))
      have e143 : a.eval (.tmp 143) = .int .i64 y := hH.fact 12 _ 143 rfl rfl (hp 12 (by decide))
      have h16 : done 16 = false := not_done hH 16 13 hd rfl (by decide)
      have h19 : done 19 = false := not_done hH 19 16 h16 rfl (by decide)
      have p1 := hW.pre h16
      refine op_call2 Tryz.func41 (by kernel_rfl) (by kernel_rfl) _ _ rfl e142 e143 (joined_any w eA ms[k0].ends ec y (hI2.aft p1.aft) hR2 (by omega)) ?_
      rintro e w' ⟨v, rfl, hown', ha⟩
      try rw [← hl1] at hown'
      try rw [← hl2] at hown'
      refine ⟨_, rfl, hK _ _ trivial ⟨fun _ => p1.add ha hd hloc (fun j v hne hj hdj hr => by
          rcases m20_cases hj with rfl | rfl
          · show OInts (Inr v) ((a.put (some 144) _).eval (.tmp 138)) l1 _; rw [put_otherR (by decide)]; exact hr
          · exact absurd rfl hne) ?_, fun h => ?_, fun h => ?_⟩ fun j _ _ _ _ _ hu => hu.any⟩
      · show OInts _ ((a.put (some 144) _).eval (.tmp 144)) l2 _
        rw [Act.eval_put_same _ _ _ (by rw [hsz]; decide)]
        exact OwnD.of hown' fun k h1 h2 => ⟨h1, h2⟩
      · have h' : done 16 = true := h
        rw [h16] at h'; cases h'
      · have h' : done 19 = true := h
        rw [h19] at h'; cases h'
    | 14, ho, hd, hp, hK =>
      cases ho
      have e131 : a.eval (.tmp 131) = .pointer (some ⟨gr, k0 * 2, none⟩) := hH.fact 0 _ 131 rfl rfl (hp 0 (by decide))
      refine op_value (v := .pointer (some ⟨gr, k0 * 2, none⟩)) (by simp [go_sem, ev e131]) (hK _ _ rfl ?_ fun j _ _ _ _ _ hu => hu.any)
      exact ⟨fun h => (hW.pre h).plain (Aft.refl _) rfl hloc (fun j v hj hdj hr => by
          rcases m20_cases hj with rfl | rfl
          · show OInts (Inr v) ((a.put (some 145) _).eval (.tmp 138)) l1 _; rw [put_otherR (by decide)]; exact hr
          · show OInts (Inr v) ((a.put (some 145) _).eval (.tmp 144)) l2 _; rw [put_otherR (by decide)]; exact hr), fun h1 h2 => by rw [put_otherR (by decide)]; exact hW.mid h1 h2, hW.fin⟩
    | 15, ho, hd, hp, hK =>
      cases ho
      have e145 : a.eval (.tmp 145) = .pointer (some ⟨gr, k0 * 2, none⟩) := hH.fact 14 _ 145 rfl rfl (hp 14 (by decide))
      refine op_value (v := .pointer (some ⟨gr, k0 * 2, none⟩)) (by simp [go_sem, ev e145]) (hK _ _ rfl ?_ fun j _ _ _ _ _ hu => hu.any)
      exact ⟨fun h => (hW.pre h).plain (Aft.refl _) rfl hloc (fun j v hj hdj hr => by
          rcases m20_cases hj with rfl | rfl
          · show OInts (Inr v) ((a.put (some 146) _).eval (.tmp 138)) l1 _; rw [put_otherR (by decide)]; exact hr
          · show OInts (Inr v) ((a.put (some 146) _).eval (.tmp 144)) l2 _; rw [put_otherR (by decide)]; exact hr), fun h1 h2 => by rw [put_otherR (by decide)]; exact hW.mid h1 h2, hW.fin⟩
    | 16, ho, hd, hp, hK =>
      cases ho
      have e146 : a.eval (.tmp 146) = .pointer (some ⟨gr, k0 * 2, none⟩) := hH.fact 15 _ 146 rfl rfl (hp 15 (by decide))
      have h19 : done 19 = false := not_done hH 19 16 hd rfl (by decide)
      have p1 := hW.pre hd
      have ha := p1.aft
      obtain ⟨-, f, hf, -⟩ := id p1
      obtain ⟨f1, -, o1⟩ := hf 7 rfl (hp 7 (by decide))
      obtain ⟨f2, -, o2⟩ := hf 13 rfl (hp 13 (by decide))
      have o1 : OInts (Inr (f 7)) (a.eval (.tmp 138)) l1 w := o1
      have o2 : OInts (Inr (f 13)) (a.eval (.tmp 144)) l2 w := o2
      obtain ⟨v1, e138⟩ : ∃ v, a.eval (.tmp 138) = v := ⟨_, rfl⟩
      rw [e138] at o1
      have q1 : OInts (Dom D2 X) v1 l1 w := OwnD.mono o1 fun k hk _ => .inr (Nat.le_trans f1 hk.1)
      have q2 : OInts (Dom D2 X) (a.eval (.tmp 144)) l2 w := OwnD.mono o2 fun k hk _ => .inr (Nat.le_trans f2 hk.1)
      have hk := hK undef (w.setCell ⟨gr, k0 * 2, none⟩ v1) trivial ⟨(fun h => by (have h' : Go.upd done 16 16 = true := rfl); rw [h'] at h; cases h), (fun _ _ => by rw [put_noneR]; exact ⟨w, v1, rfl, ha, q1, q2⟩), (fun h => by
        have h' : done 19 = true := h
        rw [h19] at h'; cases h')⟩ fun j _ _ _ _ _ hu => hu.any
      obtain ⟨sA, sn, sc, rfl⟩ := own_slice' o1.1
      have c1 : w.cell? ⟨gr, k0 * 2, none⟩ = some (.slice uA ms[k0].kinds.length uc) := (World.cell?_of_block (p1.grown.block gr hgl (fun h => h))).trans hku
      have c2 : w.frozen? ⟨gr, k0 * 2, none⟩ = false := (World.frozen?_of_block (p1.grown.block gr hgl (fun h => h))).trans (hfz _)
      have c3 : gr < w.heap.size := Nat.lt_of_lt_of_le hgl ha.size
      unfold Oper.wp
      simpa [go_sem, ev e146, ev e138, c1, c2, c3] using hk
    | 17, ho, hd, hp, hK =>
      cases ho
      have e132 : a.eval (.tmp 132) = .pointer (some ⟨gr, k0 * 2, none⟩) := hH.fact 1 _ 132 rfl rfl (hp 1 (by decide))
      refine op_value (v := .pointer (some ⟨gr, k0 * 2, none⟩)) (by simp [go_sem, ev e132]) (hK _ _ rfl ?_ fun j _ _ _ _ _ hu => hu.any)
      exact ⟨fun h => (hW.pre h).plain (Aft.refl _) rfl hloc (fun j v hj hdj hr => by
          rcases m20_cases hj with rfl | rfl
          · show OInts (Inr v) ((a.put (some 147) _).eval (.tmp 138)) l1 _; rw [put_otherR (by decide)]; exact hr
          · show OInts (Inr v) ((a.put (some 147) _).eval (.tmp 144)) l2 _; rw [put_otherR (by decide)]; exact hr), fun h1 h2 => by rw [put_otherR (by decide)]; exact hW.mid h1 h2, hW.fin⟩
    | 18, ho, hd, hp, hK =>
      cases ho
      have e147 : a.eval (.tmp 147) = .pointer (some ⟨gr, k0 * 2, none⟩) := hH.fact 17 _ 147 rfl rfl (hp 17 (by decide))
      refine op_value (v := .pointer (some ⟨gr, k0 * 2 + 1, none⟩)) (by simp [go_sem, ev e147]) (hK _ _ rfl ?_ fun j _ _ _ _ _ hu => hu.any)
      exact ⟨fun h => (hW.pre h).plain (Aft.refl _) rfl hloc (fun j v hj hdj hr => by
          rcases m20_cases hj with rfl | rfl
          · show OInts (Inr v) ((a.put (some 148) _).eval (.tmp 138)) l1 _; rw [put_otherR (by decide)]; exact hr
          · show OInts (Inr v) ((a.put (some 148) _).eval (.tmp 144)) l2 _; rw [put_otherR (by decide)]; exact hr), fun h1 h2 => by rw [put_otherR (by decide)]; exact hW.mid h1 h2, hW.fin⟩
    | 19, ho, hd, hp, hK =>
      cases ho
      have e148 : a.eval (.tmp 148) = .pointer (some ⟨gr, k0 * 2 + 1, none⟩) := hH.fact 18 _ 148 rfl rfl (hp 18 (by decide))
      have h16 : done 16 = true := hp 16 (by decide)
      obtain ⟨wB, v1, rfl, ha, q1, q2⟩ := hW.mid h16 hd
      obtain ⟨v2', e144⟩ : ∃ v, a.eval (.tmp 144) = v := ⟨_, rfl⟩
      rw [e144] at q2
      have hWB : OWordsX (Dom D2 X) v2 ws xs wB := (hWX.same fun k hk hl => by obtain ⟨u, rfl⟩ := ha; exact World.lat_heap X u k hl).mono fun k hk _ => .inl hk
      obtain ⟨a', ea', ys', hro⟩ := hWB.at_ i0 hi
      rw [hxa] at ea'
      cases ea'
      have hro : ORowX (Dom D2 X) (.slice (some ⟨gr, 0, none⟩) ms.length rc) ms ys' wB := by rw [hms] at hro; exact hro
      obtain ⟨r1, g1⟩ := hro.setK hk0 q1
      have q2' : OInts (Dom D2 X) v2' l2 (wB.setCell ⟨gr, k0 * 2, none⟩ v1) := OwnD.off q2 g1 (own_off (e' := 3) hro.own.1 (by decide))
      have r1 : ORowX (Dom D2 X) (.slice (some ⟨gr, 0, none⟩) (ms.set k0 ⟨l1, ms[k0].ends⟩).length rc) (ms.set k0 ⟨l1, ms[k0].ends⟩) (ys'.set (k0 * 2) v1) (wB.setCell ⟨gr, k0 * 2, none⟩ v1) := by rw [List.length_set]; exact r1
      obtain ⟨r2, g2⟩ := r1.setE (k := k0) (by rw [List.length_set]; exact hk0) q2'
      have hg := g1.trans g2
      have hin := hWB.inRow (ms := ms.set k0 ⟨l1, l2⟩) hi hxa hro.own.1 hg ⟨_, by
        have e : (ms.set k0 ⟨l1, ms[k0].ends⟩).set k0 ⟨((ms.set k0 ⟨l1, ms[k0].ends⟩)[k0]'(by rw [List.length_set]; exact hk0)).kinds, l2⟩ = ms.set k0 ⟨l1, l2⟩ := by rw [List.set_set, List.getElem_set_self]
        rw [e, List.length_set] at r2
        exact r2⟩
      have hgr : D2 gr := hrx.own.2 gr rfl
      have hfin : Fin20 X D2 v2 ws xs i0 k0 x y ((wB.setCell ⟨gr, k0 * 2, none⟩ v1).setCell ⟨gr, k0 * 2 + 1, none⟩ v2') := by
        refine ⟨?_, (GrownS.of (only_of_aft ha none) (fun _ e => by cases e)).then hg fun q e => by cases e; exact .inl ⟨hgr, own_block hrx.own.1 rfl⟩⟩
        have e1 : ws.getD i0 [] = ms := by rw [List.getD_eq_getElem?_getD, List.getElem?_eq_getElem hi]; exact hms
        have e2 : ms.getD k0 ⟨[], []⟩ = ms[k0] := by rw [List.getD_eq_getElem?_getD, List.getElem?_eq_getElem hk0]; rfl
        rw [e1, e2]
        show OWordsX _ _ (ws.set i0 (ms.set k0 ⟨joinL ms[k0].kinds x, joinL ms[k0].ends y⟩)) _ _
        rw [← hl1, ← hl2]
        exact hin
      have hk := hK undef _ trivial ⟨(fun h => by (have h' : Go.upd done 19 16 = true := h16); rw [h'] at h; cases h), (fun _ h => by (have h' : Go.upd done 19 19 = true := rfl); rw [h'] at h; cases h), (fun _ => hfin)⟩ fun j _ _ _ _ _ hu => hu.any
      obtain ⟨sA, sn, sc, rfl⟩ := own_slice' q2.1
      have hc := r1.own.1.cells (g := gr) rfl (k0 * 2 + 1) _ (List.getElem?_eq_getElem (by have := r1.len; simp only [List.length_set] at this ⊢; omega))
      rw [Addr.add_lit, Nat.zero_add] at hc
      have c2 : (wB.setCell ⟨gr, k0 * 2, none⟩ v1).frozen? ⟨gr, k0 * 2 + 1, none⟩ = false := by
        rcases r1.own.1.2 with ⟨e, -⟩ | ⟨g', cap', cur', e, -, hh, -⟩
        · cases e
        · cases e
          simp [World.frozen?, hh]
      have c3 := (r1.own.1.lt gr rfl).2
      generalize (ys'.set (k0 * 2) v1)[k0 * 2 + 1]'_ = old at hc
      unfold Oper.wp
      simpa [go_sem, ev e148, ev e144, hc, c2, c3] using hk
    | _ + 20, ho, _, _, _ => cases ho
  case fin =>
    intro done a w hall hH
    have hold : ∀ s : Nat, ch20 s = false → a.eval (.tmp s) = a0.eval (.tmp s) := fun s h => hH.old s fun k ok hk hs => by
      match k, hk with
      | 0, hk => cases hk; cases hs; exact absurd h (by decide)
      | 1, hk => cases hk; cases hs; exact absurd h (by decide)
      | 2, hk => cases hk; cases hs; exact absurd h (by decide)
      | 3, hk => cases hk; cases hs; exact absurd h (by decide)
      | 4, hk => cases hk; cases hs; exact absurd h (by decide)
      | 5, hk => cases hk; cases hs; exact absurd h (by decide)
      | 6, hk => cases hk; cases hs; exact absurd h (by decide)
      | 7, hk => cases hk; cases hs; exact absurd h (by decide)
      | 8, hk => cases hk; cases hs; exact absurd h (by decide)
      | 9, hk => cases hk; cases hs; exact absurd h (by decide)
      | 10, hk => cases hk; cases hs; exact absurd h (by decide)
      | 11, hk => cases hk; cases hs; exact absurd h (by decide)
      | 12, hk => cases hk; cases hs; exact absurd h (by decide)
      | 13, hk => cases hk; cases hs; exact absurd h (by decide)
      | 14, hk => cases hk; cases hs; exact absurd h (by decide)
      | 15, hk => cases hk; cases hs; exact absurd h (by decide)
      | 16, hk => cases hk; cases hs
      | 17, hk => cases hk; cases hs; exact absurd h (by decide)
      | 18, hk => cases hk; cases hs; exact absurd h (by decide)
      | 19, hk => cases hk; cases hs
      | _ + 20, hk => cases hk
    have hW : (W20 X D2 v2 ws xs gr i0 k0 x y l1 l2) done a w := hH.wd
    refine HEX.out a w (hH.size.trans hz) hH.defers hold ?_
    exact hW.fin (hall 19 (by decide))

set_option maxRecDepth 100000 in
set_option maxHeartbeats 2000000 in
theorem region20_mrlit (D2 : Nat → Prop) (v2 : Value) (ws : List (List Mean)) (ms : List Mean) (xs : List Value) (gr rc i0 k0 : Nat) (x y : Int) (X : World)
    (hWX : OWordsX D2 v2 ws xs X) (hi : i0 < ws.length) (hms : ws[i0] = ms) (hxa : xs[i0]? = some (.slice (some ⟨gr, 0, none⟩) ms.length rc)) (hk0 : k0 < ms.length) (hR1 : ms[k0].kinds.Pairwise (fun a b => a < b)) (hR2 : ms[k0].ends.Pairwise (fun a b => a < b)) (hL : ms[k0].kinds.length ≤ 100 ∧ ms[k0].ends.length ≤ 100)
    (q0 q1 q2 q3 q4 q5 q6 q7 q8 q9 q10 q11 q12 q13 q14 q15 q16 q19 q20 q22 q23 q24 q25 q26 q27 q28 q29 q30 q31 q32 q33 q34 q35 q36 q37 q38 q39 q40 q41 q42 q43 q44 q45 q46 q47 q48 q49 q50 q51 q52 q53 q54 q55 q56 q57 q58 q59 q60 q61 q62 q63 q64 q65 q66 q67 q68 q69 q70 q71 q72 q73 q74 q75 q76 q77 q78 q79 q80 q81 q82 q83 q84 q85 q86 q87 q88 q89 q90 q91 q92 q93 q94 q95 q96 q97 q98 q99 q100 q101 q102 q103 q104 q105 q106 q107 q108 q109 q110 q111 q112 q113 q114 q115 q116 q117 q118 q119 q120 q121 q122 q123 q124 q125 q126 q127 q128 q129 q130 q131 q132 q133 q134 q135 q136 q137 q138 q139 q140 q141 q142 q143 q144 q145 q146 q147 q148 q149 q150 q151 q152 q153 q154 q155 q156 q157 q158 q159 q160 q161 q162 q163 q164 q165 q166 q167 q168 q169 q170 q171 q172 q173 q174 q175 q176 q177 q178 q179 q180 q181 q182 q183 q184 q185 q186 q187 q188 q189 q190 q191 q192 q193 q194 q195 q196 q197 q198 q199 q200 q201 q202 q203 q204 q205 q206 q207 q208 q209 q210 q211 q212 q213 q214 q215 q216 q217 q218 q219 q220 q221 q222 q223 q224 q225 q226 q227 q228 q229 q230 q231 q232 q233 q234 q235 q236 q237 q238 q239 q240 q241 q242 q243 q244 q245 q246 q247 q248 q249 q250 q251 q252 : Value) (Q0 : Exit → Act → World → Prop)
    (hexit : ∀ (u131 u132 u133 u134 u135 u136 u137 u138 u139 u140 u141 u142 u143 u144 u145 u146 u147 u148 : Value) W', Fin20 X D2 v2 ws xs i0 k0 x y W' → Q0 .normal ⟨(List.toArray (q0 :: q1 :: q2 :: q3 :: q4 :: q5 :: q6 :: q7 :: q8 :: q9 :: q10 :: q11 :: q12 :: q13 :: q14 :: q15 :: q16 :: .int .i64 x :: .int .i64 y :: q19 :: q20 :: .pointer (some ⟨gr, k0 * 2, none⟩) :: q22 :: q23 :: q24 :: q25 :: q26 :: q27 :: q28 :: q29 :: q30 :: q31 :: q32 :: q33 :: q34 :: q35 :: q36 :: q37 :: q38 :: q39 :: q40 :: q41 :: q42 :: q43 :: q44 :: q45 :: q46 :: q47 :: q48 :: q49 :: q50 :: q51 :: q52 :: q53 :: q54 :: q55 :: q56 :: q57 :: q58 :: q59 :: q60 :: q61 :: q62 :: q63 :: q64 :: q65 :: q66 :: q67 :: q68 :: q69 :: q70 :: q71 :: q72 :: q73 :: q74 :: q75 :: q76 :: q77 :: q78 :: q79 :: q80 :: q81 :: q82 :: q83 :: q84 :: q85 :: q86 :: q87 :: q88 :: q89 :: q90 :: q91 :: q92 :: q93 :: q94 :: q95 :: q96 :: q97 :: q98 :: q99 :: q100 :: q101 :: q102 :: q103 :: q104 :: q105 :: q106 :: q107 :: q108 :: q109 :: q110 :: q111 :: q112 :: q113 :: q114 :: q115 :: q116 :: q117 :: q118 :: q119 :: q120 :: q121 :: q122 :: q123 :: q124 :: q125 :: q126 :: q127 :: q128 :: q129 :: q130 :: u131 :: u132 :: u133 :: u134 :: u135 :: u136 :: u137 :: u138 :: u139 :: u140 :: u141 :: u142 :: u143 :: u144 :: u145 :: u146 :: u147 :: u148 :: q149 :: q150 :: q151 :: q152 :: q153 :: q154 :: q155 :: q156 :: q157 :: q158 :: q159 :: q160 :: q161 :: q162 :: q163 :: q164 :: q165 :: q166 :: q167 :: q168 :: q169 :: q170 :: q171 :: q172 :: q173 :: q174 :: q175 :: q176 :: q177 :: q178 :: q179 :: q180 :: q181 :: q182 :: q183 :: q184 :: q185 :: q186 :: q187 :: q188 :: q189 :: q190 :: q191 :: q192 :: q193 :: q194 :: q195 :: q196 :: q197 :: q198 :: q199 :: q200 :: q201 :: q202 :: q203 :: q204 :: q205 :: q206 :: q207 :: q208 :: q209 :: q210 :: q211 :: q212 :: q213 :: q214 :: q215 :: q216 :: q217 :: q218 :: q219 :: q220 :: q221 :: q222 :: q223 :: q224 :: q225 :: q226 :: q227 :: q228 :: q229 :: q230 :: q231 :: q232 :: q233 :: q234 :: q235 :: q236 :: q237 :: q238 :: q239 :: q240 :: q241 :: q242 :: q243 :: q244 :: q245 :: q246 :: q247 :: q248 :: q249 :: q250 :: q251 :: q252 :: [])), []⟩ W') :
    Code.wp Tryz.prog (Code.region 20 (opsMr 20).toArray true) Q0 ⟨(List.toArray (q0 :: q1 :: q2 :: q3 :: q4 :: q5 :: q6 :: q7 :: q8 :: q9 :: q10 :: q11 :: q12 :: q13 :: q14 :: q15 :: q16 :: .int .i64 x :: .int .i64 y :: q19 :: q20 :: .pointer (some ⟨gr, k0 * 2, none⟩) :: q22 :: q23 :: q24 :: q25 :: q26 :: q27 :: q28 :: q29 :: q30 :: q31 :: q32 :: q33 :: q34 :: q35 :: q36 :: q37 :: q38 :: q39 :: q40 :: q41 :: q42 :: q43 :: q44 :: q45 :: q46 :: q47 :: q48 :: q49 :: q50 :: q51 :: q52 :: q53 :: q54 :: q55 :: q56 :: q57 :: q58 :: q59 :: q60 :: q61 :: q62 :: q63 :: q64 :: q65 :: q66 :: q67 :: q68 :: q69 :: q70 :: q71 :: q72 :: q73 :: q74 :: q75 :: q76 :: q77 :: q78 :: q79 :: q80 :: q81 :: q82 :: q83 :: q84 :: q85 :: q86 :: q87 :: q88 :: q89 :: q90 :: q91 :: q92 :: q93 :: q94 :: q95 :: q96 :: q97 :: q98 :: q99 :: q100 :: q101 :: q102 :: q103 :: q104 :: q105 :: q106 :: q107 :: q108 :: q109 :: q110 :: q111 :: q112 :: q113 :: q114 :: q115 :: q116 :: q117 :: q118 :: q119 :: q120 :: q121 :: q122 :: q123 :: q124 :: q125 :: q126 :: q127 :: q128 :: q129 :: q130 :: q131 :: q132 :: q133 :: q134 :: q135 :: q136 :: q137 :: q138 :: q139 :: q140 :: q141 :: q142 :: q143 :: q144 :: q145 :: q146 :: q147 :: q148 :: q149 :: q150 :: q151 :: q152 :: q153 :: q154 :: q155 :: q156 :: q157 :: q158 :: q159 :: q160 :: q161 :: q162 :: q163 :: q164 :: q165 :: q166 :: q167 :: q168 :: q169 :: q170 :: q171 :: q172 :: q173 :: q174 :: q175 :: q176 :: q177 :: q178 :: q179 :: q180 :: q181 :: q182 :: q183 :: q184 :: q185 :: q186 :: q187 :: q188 :: q189 :: q190 :: q191 :: q192 :: q193 :: q194 :: q195 :: q196 :: q197 :: q198 :: q199 :: q200 :: q201 :: q202 :: q203 :: q204 :: q205 :: q206 :: q207 :: q208 :: q209 :: q210 :: q211 :: q212 :: q213 :: q214 :: q215 :: q216 :: q217 :: q218 :: q219 :: q220 :: q221 :: q222 :: q223 :: q224 :: q225 :: q226 :: q227 :: q228 :: q229 :: q230 :: q231 :: q232 :: q233 :: q234 :: q235 :: q236 :: q237 :: q238 :: q239 :: q240 :: q241 :: q242 :: q243 :: q244 :: q245 :: q246 :: q247 :: q248 :: q249 :: q250 :: q251 :: q252 :: [])), []⟩ X := by
  refine region20_mr D2 v2 ws ms xs gr rc i0 k0 x y _ Q0 X rfl rfl rfl rfl hWX hi hms hxa hk0 hR1 hR2 hL ?_
  intro a W' hz hd hs hF
  have e := frame_act 253 a _ hz hd ch20 (fun s hp => hs s hp)
  have e2 : a = ⟨(List.toArray (q0 :: q1 :: q2 :: q3 :: q4 :: q5 :: q6 :: q7 :: q8 :: q9 :: q10 :: q11 :: q12 :: q13 :: q14 :: q15 :: q16 :: .int .i64 x :: .int .i64 y :: q19 :: q20 :: .pointer (some ⟨gr, k0 * 2, none⟩) :: q22 :: q23 :: q24 :: q25 :: q26 :: q27 :: q28 :: q29 :: q30 :: q31 :: q32 :: q33 :: q34 :: q35 :: q36 :: q37 :: q38 :: q39 :: q40 :: q41 :: q42 :: q43 :: q44 :: q45 :: q46 :: q47 :: q48 :: q49 :: q50 :: q51 :: q52 :: q53 :: q54 :: q55 :: q56 :: q57 :: q58 :: q59 :: q60 :: q61 :: q62 :: q63 :: q64 :: q65 :: q66 :: q67 :: q68 :: q69 :: q70 :: q71 :: q72 :: q73 :: q74 :: q75 :: q76 :: q77 :: q78 :: q79 :: q80 :: q81 :: q82 :: q83 :: q84 :: q85 :: q86 :: q87 :: q88 :: q89 :: q90 :: q91 :: q92 :: q93 :: q94 :: q95 :: q96 :: q97 :: q98 :: q99 :: q100 :: q101 :: q102 :: q103 :: q104 :: q105 :: q106 :: q107 :: q108 :: q109 :: q110 :: q111 :: q112 :: q113 :: q114 :: q115 :: q116 :: q117 :: q118 :: q119 :: q120 :: q121 :: q122 :: q123 :: q124 :: q125 :: q126 :: q127 :: q128 :: q129 :: q130 :: a.eval (.tmp 131) :: a.eval (.tmp 132) :: a.eval (.tmp 133) :: a.eval (.tmp 134) :: a.eval (.tmp 135) :: a.eval (.tmp 136) :: a.eval (.tmp 137) :: a.eval (.tmp 138) :: a.eval (.tmp 139) :: a.eval (.tmp 140) :: a.eval (.tmp 141) :: a.eval (.tmp 142) :: a.eval (.tmp 143) :: a.eval (.tmp 144) :: a.eval (.tmp 145) :: a.eval (.tmp 146) :: a.eval (.tmp 147) :: a.eval (.tmp 148) :: q149 :: q150 :: q151 :: q152 :: q153 :: q154 :: q155 :: q156 :: q157 :: q158 :: q159 :: q160 :: q161 :: q162 :: q163 :: q164 :: q165 :: q166 :: q167 :: q168 :: q169 :: q170 :: q171 :: q172 :: q173 :: q174 :: q175 :: q176 :: q177 :: q178 :: q179 :: q180 :: q181 :: q182 :: q183 :: q184 :: q185 :: q186 :: q187 :: q188 :: q189 :: q190 :: q191 :: q192 :: q193 :: q194 :: q195 :: q196 :: q197 :: q198 :: q199 :: q200 :: q201 :: q202 :: q203 :: q204 :: q205 :: q206 :: q207 :: q208 :: q209 :: q210 :: q211 :: q212 :: q213 :: q214 :: q215 :: q216 :: q217 :: q218 :: q219 :: q220 :: q221 :: q222 :: q223 :: q224 :: q225 :: q226 :: q227 :: q228 :: q229 :: q230 :: q231 :: q232 :: q233 :: q234 :: q235 :: q236 :: q237 :: q238 :: q239 :: q240 :: q241 :: q242 :: q243 :: q244 :: q245 :: q246 :: q247 :: q248 :: q249 :: q250 :: q251 :: q252 :: [])), []⟩ := e
  have h := hexit (a.eval (.tmp 131)) (a.eval (.tmp 132)) (a.eval (.tmp 133)) (a.eval (.tmp 134)) (a.eval (.tmp 135)) (a.eval (.tmp 136)) (a.eval (.tmp 137)) (a.eval (.tmp 138)) (a.eval (.tmp 139)) (a.eval (.tmp 140)) (a.eval (.tmp 141)) (a.eval (.tmp 142)) (a.eval (.tmp 143)) (a.eval (.tmp 144)) (a.eval (.tmp 145)) (a.eval (.tmp 146)) (a.eval (.tmp 147)) (a.eval (.tmp 148)) W' hF
  rw [← e2] at h
  exact h
end Go.Proofs
end
