/- Own texts, merged: End Lns WkX. -/
import Derived.Test.YtobpdobneocckaaGreatDoorH12
import Derived.Deep.RegionLaw
set_option linter.unusedSimpArgs false
set_option linter.unusedVariables false
section
/- Walks: Ends. -/
namespace Go.Proofs
open Go.RowKit
attribute [local go_sem] Oper.semAt_some

/-- whether a line can come to a place behind so many legs -/
def comeF (T : Treaty) (f : Nat → Nat → Nat → Bool) : Nat → Nat → Bool
  | 0, b => hasB T.starts b
  | leg + 1, b => (List.range T.places.toNat).any fun a => comeF T f leg a && f leg a b
/-- the same, from the first places alone -/
def comeTo (T : Treaty) (f : Nat → Nat → Nat → Bool) (leg b n : Nat) : Bool := (List.range n).any fun a => comeF T f leg a && f leg a b
theorem comeTo_succ (T : Treaty) (f : Nat → Nat → Nat → Bool) (leg b n : Nat) : comeTo T f leg b (n + 1) = (comeTo T f leg b n || comeF T f leg n && f leg n b) := by
  unfold comeTo; rw [List.range_succ, List.any_append]; simp
theorem comeTo_all (T : Treaty) (f : Nat → Nat → Nat → Bool) (leg b : Nat) : comeTo T f leg b T.places.toNat = comeF T f (leg + 1) b := rfl
/-- whether a line that agrees in a reading is at a place behind so many legs -/
noncomputable def thereR (T : Treaty) (R : List Int) (leg b : Nat) : Bool := comeF T (leadsF T R) leg b && ahd T (leadsF T R) (T.legs.length - leg) leg b
noncomputable def thereK (T : Treaty) (k leg b : Nat) : Bool := ((readingsL T).take k).any fun R => thereR T R leg b
theorem thereK_succ (T : Treaty) {k : Nat} (h : k < prodN (lensOf T)) (leg b : Nat) : thereK T (k + 1) leg b = (thereK T k leg b || thereR T (dig (lensOf T) k) leg b) := by
  have h' : k < (readingsL T).length := by rw [readingsL_len]; exact h
  unfold thereK
  rw [List.take_succ_eq_append_getElem h', List.any_append, readingsL_get]
  simp
/-- the places behind so many legs -/
noncomputable def endRow (T : Treaty) (leg : Nat) : List Int := ((List.range T.places.toNat).filter fun b => thereK T (prodN (lensOf T)) leg b).map fun b : Nat => (b : Int)
noncomputable def endRows (T : Treaty) (n : Nat) : List (List Int) := (List.range n).map (endRow T)

/-- the first of them -/
noncomputable def endTo (T : Treaty) (leg n : Nat) : List Int := ((List.range n).filter fun b => thereK T (prodN (lensOf T)) leg b).map fun b : Nat => (b : Int)
theorem endTo_succ (T : Treaty) (leg n : Nat) : endTo T leg (n + 1) = endTo T leg n ++ if thereK T (prodN (lensOf T)) leg n then [(n : Int)] else [] := by
  unfold endTo
  rw [List.range_succ, List.filter_append, List.map_append]
  congr 1
  cases h : thereK T (prodN (lensOf T)) leg n <;> (simp only [List.filter_cons, List.filter_nil, h]; rfl)
theorem endTo_le (T : Treaty) (leg n : Nat) : (endTo T leg n).length ≤ n := by
  unfold endTo
  rw [List.length_map]
  have := List.length_filter_le (fun b => thereK T (prodN (lensOf T)) leg b) (List.range n)
  simpa using this
theorem endRows_succ (T : Treaty) (n : Nat) : endRows T (n + 1) = endRows T n ++ [endRow T n] := by unfold endRows; rw [List.range_succ, List.map_append]; rfl
theorem endRows_len (T : Treaty) (n : Nat) : (endRows T n).length = n := by simp [endRows]
/-- What Ends answers. -/
def EndsG (w : World) (T : Treaty) (e : Ending) (w' : World) : Prop :=
  Aft w w' ∧ ((¬ (∀ leg, leg ≤ T.legs.length → endRow T leg ≠ []) ∧ e = .returned (.tuple #[.slice none 0 0, .int .i64 7])) ∨
    ((∀ leg, leg ≤ T.legs.length → endRow T leg ≠ []) ∧ ∃ v, e = .returned (.tuple #[v, .int .i64 0]) ∧ OwnLists w' w.heap.size v (endRows T (T.legs.length + 1))))

/-- Between two rounds of Ends. -/
structure EndI (w : World) (T : Treaty) (a1 a2 a3 a4 : Option Addr) (c1 c2 c3 c4 : Nat) (S k : Nat) (W : World) : Prop where
  aft : Aft w W
  box : Blk W w.heap.size 27 #[.int .i64 T.places, .slice a1 T.ways.length c1, .slice a2 T.words.length c2, .slice a3 T.starts.length c3, .slice a4 T.legs.length c4]
  box2 : Blk W (S + 1) 27 #[.int .i64 T.places, .slice a1 T.ways.length c1, .slice a2 T.words.length c2, .slice a3 T.starts.length c3, .slice a4 T.legs.length c4]
  there : ∃ ts tg, Blk W S 110 ts ∧ BGrid ts tg ∧ ∀ i j, i ≤ T.legs.length → j < T.places.toNat → tg i j = thereK T k i j
theorem EndI.three {w : World} {T : Treaty} {a1 a2 a3 a4 : Option Addr} {c1 c2 c3 c4 : Nat} {S : Nat} (hS : w.heap.size < S) : Three (S + 2) (fun k W => EndI w T a1 a2 a3 a4 c1 c2 c3 c4 S k W) := by
  rintro k W W' r ⟨h1, h2, h3, ts, tg, h5, h6, h7⟩ hg hr1 hr2
  exact ⟨h1.grown hg (fun k e => by cases e; omega), h2.grown hg (fun e => by cases e; omega), h3.grown hg (fun e => by cases e; omega), ts, tg, h5.grown hg (fun e => by cases e; omega), h6, h7⟩

theorem Desk.of_block {w w' : World} {D : Nat} {T : Treaty} {a1 a2 a3 a4 : Option Addr} {c1 c2 c3 c4 : Nat} {f : Nat → Nat → Nat → Bool} (h : Desk w D T a1 a2 a3 a4 c1 c2 c3 c4 f) (hs : w.heap.size ≤ w'.heap.size) (hb : w'.heap[D]? = w.heap[D]?) : Desk w' D T a1 a2 a3 a4 c1 c2 c3 c4 f := by
  have hc : ∀ i, w'.cell? ⟨D, i, none⟩ = w.cell? ⟨D, i, none⟩ := fun i => World.cell?_of_block hb
  exact ⟨Nat.lt_of_lt_of_le h.lt hs, (hc 0).trans h.k0, (hc 1).trans h.k1, (hc 2).trans h.k2, (hc 3).trans h.k3, (hc 4).trans h.k4, fun i a b hi ha hb' => (hc _).trans (h.lead i a b hi ha hb')⟩

/-- whether a line comes to a place, so far -/
def pcF (T : Treaty) (f : Nat → Nat → Nat → Bool) : Nat → Nat → Nat → Bool
  | 0, b, _ => hasB T.starts b
  | n + 1, b, a => comeTo T f n b a
/-- One row so far; all rows so far. -/
def RowInv (T : Treaty) (leg b : Nat) (wo : World) (v : Value) (wr : World) : Prop := Aft wo wr ∧ wr.ownsRow wo.heap.size 3 1 v (endTo T leg b).length ((endTo T leg b).map (Value.int .i64))
def OutInv (T : Treaty) (leg : Nat) (W : World) (v : Value) (wr : World) : Prop := Aft W wr ∧ (∃ vs, OwnLs wr W.heap.size v vs (endRows T leg)) ∧ ∀ j, j < leg → endRow T j ≠ []
/-- What stands within a round of Ends. -/
structure EndW (w : World) (T : Treaty) (a1 a2 a3 a4 : Option Addr) (c1 c2 c3 c4 : Nat) (f : Nat → Nat → Nat → Bool) (S D B' rb : Nat) (cs2 : Array Value) (W wr : World) : Prop where
  aft : Aft w wr
  kept : Kept3 (S + 2) W wr
  box : Blk wr w.heap.size 27 #[.int .i64 T.places, .slice a1 T.ways.length c1, .slice a2 T.words.length c2, .slice a3 T.starts.length c3, .slice a4 T.legs.length c4]
  box2 : Blk wr (S + 1) 27 #[.int .i64 T.places, .slice a1 T.ways.length c1, .slice a2 T.words.length c2, .slice a3 T.starts.length c3, .slice a4 T.legs.length c4]
  desk : Desk wr D T a1 a2 a3 a4 c1 c2 c3 c4 f
  tab : Blk wr B' 110 cs2
  rule : Blk wr rb 95 #[.func (.func 110) #[] #[.pointer (some ⟨B', 0, none⟩)]]
section
variable {w : World} {T : Treaty} {a1 a2 a3 a4 : Option Addr} {c1 c2 c3 c4 : Nat} {f : Nat → Nat → Nat → Bool} {S D B' rb : Nat} {cs2 : Array Value} {W wr : World}
theorem EndW.drewN (h : EndW w T a1 a2 a3 a4 c1 c2 c3 c4 f S D B' rb cs2 W wr) (n : Nat) : EndW w T a1 a2 a3 a4 c1 c2 c3 c4 f S D B' rb cs2 W (wr.drewN n) :=
  ⟨h.aft.then_drewN n, ⟨h.kept.size, h.kept.same⟩, h.box.drewN n, h.box2.drewN n, h.desk.aft (Aft.drewN _ _), h.tab.drewN n, h.rule.drewN n⟩
theorem EndW.drew (h : EndW w T a1 a2 a3 a4 c1 c2 c3 c4 f S D B' rb cs2 W wr) : EndW w T a1 a2 a3 a4 c1 c2 c3 c4 f S D B' rb cs2 W wr.drew := h.drewN 1
theorem EndW.set (h : EndW w T a1 a2 a3 a4 c1 c2 c3 c4 f S D B' rb cs2 W wr) (o1 : w.heap.size < S) (o2 : S + 5 ≤ D) (o3 : D < B') (o4 : B' < rb) {p : Addr} (hp : p.block = S ∨ p.block = rb + 1) (v : Value) : EndW w T a1 a2 a3 a4 c1 c2 c3 c4 f S D B' rb cs2 W (wr.setCell p v) := by
  have hs : (wr.setCell p v).heap.size = wr.heap.size := by simp [World.setCell]
  exact ⟨h.aft.then_setCell (by omega) v, h.kept.setCell (by omega) v, h.box.far (by omega) v, h.box2.far (by omega) v, h.desk.of_block (by omega) (Below.heap_setCell wr p v D (by omega)), h.tab.far (by omega) v, h.rule.far (by omega) v⟩
end
/-- Where lines come to, so far. -/
def EndG (T : Treaty) (f : Nat → Nat → Nat → Bool) (p : Nat) (t0 tr : Nat → Nat → Bool) (S rb leg b : Nat) (X : Bool → Prop) (wr : World) : Prop :=
  ∃ cs cg ts tg, Blk wr (rb + 1) 110 cs ∧ BGrid cs cg ∧ Blk wr S 110 ts ∧ BGrid ts tg ∧ (∀ i j, i < leg → j < p → cg i j = comeF T f i j) ∧ (∀ j, j < b → cg leg j = comeF T f leg j) ∧ X (cg leg b) ∧
    (∀ i j, i ≤ T.legs.length → j < p → tg i j = if i < leg ∨ i = leg ∧ j < b then t0 i j || tr i j else t0 i j)

theorem EndG.come {T : Treaty} {f : Nat → Nat → Nat → Bool} {p : Nat} {t0 tr : Nat → Nat → Bool} {S rb leg b : Nat} {X : Bool → Prop} {wr : World} (h : EndG T f p t0 tr S rb leg b X wr) (hS : S ≠ rb + 1) (hl : leg < 11) (hb : b < 12) (y : Bool) {Y : Bool → Prop} (hy : Y y) :
    EndG T f p t0 tr S rb leg b Y (wr.drew.setCell ⟨rb + 1, leg * 12 + b, none⟩ (.bool y)) := by
  obtain ⟨cs, cg, ts, tg, hcs, hcg, hts, htg, hc1, hc2, -, ht1⟩ := h
  refine ⟨_, _, ts, tg, hcs.drew.store _ _, hcg.set (i := leg) (j := b) hl hb y, hts.drew.far (by show S ≠ rb + 1; exact hS) _, htg, fun i j hi hj => ?_, fun j hj => ?_, ?_, ht1⟩
  · rw [upd_other _ _ _ _ (.inl (by omega))]; exact hc1 i j hi hj
  · rw [upd_other _ _ _ _ (.inr (by omega))]; exact hc2 j hj
  · rw [upd_at]; exact hy
theorem EndG.there {T : Treaty} {f : Nat → Nat → Nat → Bool} {p : Nat} {t0 tr g2 : Nat → Nat → Bool} {S rb leg b : Nat} {cs ts : Array Value} {cg tg : Nat → Nat → Bool} {wr : World} (hcs : Blk wr (rb + 1) 110 cs) (hcg : BGrid cs cg) (hts : Blk wr S 110 ts) (htg : BGrid ts tg) (hc1 : ∀ i j, i < leg → j < p → cg i j = comeF T f i j) (hc2 : ∀ j, j < b → cg leg j = comeF T f leg j) (hc3 : cg leg b = comeF T f leg b)
    (ht1 : ∀ i j, i ≤ T.legs.length → j < p → tg i j = if i < leg ∨ i = leg ∧ j < b then t0 i j || tr i j else t0 i j) (had : ∀ i j, i ≤ T.legs.length → j < p → tr i j = (comeF T f i j && g2 i j))
    (hS : S ≠ rb + 1) (hl : leg < 11) (hll : leg ≤ T.legs.length) (hb : b < 12) (hbp : b < p) (z : Bool) (hz : z = (tg leg b || cg leg b && g2 leg b)) :
    EndG T f p t0 tr S rb leg (b + 1) (fun _ => True) (wr.drew.setCell ⟨S, leg * 12 + b, none⟩ (.bool z)) := by
  refine ⟨cs, cg, _, _, hcs.drew.far (by show rb + 1 ≠ S; exact fun e => hS e.symm) _, hcg, hts.drew.store _ _, htg.set (i := leg) (j := b) hl hb z, hc1, fun j hj => ?_, trivial, fun i j hi hj => ?_⟩
  · by_cases e : j = b
    · subst e; exact hc3
    · exact hc2 j (by omega)
  · by_cases e : i = leg ∧ j = b
    · obtain ⟨rfl, rfl⟩ := e
      rw [upd_at, if_pos (by omega), hz, ht1 i j hi hj, if_neg (by omega), hc3, had i j hi hj]
    · rw [upd_other _ _ _ _ (by omega), ht1 i j hi hj]
      by_cases h2 : i < leg ∨ i = leg ∧ j < b
      · rw [if_pos h2, if_pos (by omega)]
      · rw [if_neg h2, if_neg (by omega)]

set_option maxRecDepth 100000 in
set_option maxHeartbeats 4000000 in
theorem ends_good (w : World) (T : Treaty) (a1 a2 a3 a4 : Option Addr) (c1 c2 c3 c4 : Nat) (hT : TRep w T a1 a2 a3 a4) (hc : checkE T = 0) : Calls Tryz.prog 17 #[.agg #[.int .i64 T.places, .slice a1 T.ways.length c1, .slice a2 T.words.length c2, .slice a3 T.starts.length c3, .slice a4 T.legs.length c4]] w (EndsG w T) := by
  have ok := checkE_ok hc
  have HC := Lib.hid hc
  have HT := Lib.hid hT
  have OK := Lib.hid ok
  clear hc hT ok
  have HCK : Hid (∀ W, Aft w W → Calls Tryz.prog 37 #[.agg #[.int .i64 T.places, .slice a1 T.ways.length c1, .slice a2 T.words.length c2, .slice a3 T.starts.length c3, .slice a4 T.legs.length c4]] W fun e w' => e = .returned (.int .i64 (checkE T)) ∧ Aft W w') := Lib.hid fun W ha => check_any T a1 a2 a3 a4 c1 c2 c3 c4 W (HT.out.aft ha)
  rw [HC.out] at HCK
  obtain ⟨p, hpp⟩ := Int.eq_ofNat_of_zero_le (show 0 ≤ T.places by have := OK.out.p1; omega)
  have hp12 : p ≤ 12 := by have := OK.out.p2; omega
  have hp1 : 1 ≤ p := by have := OK.out.p1; omega
  have hnl := OK.out.nlegs
  have HPP := Lib.hid hpp
  clear hpp
  refine (callsIn_wide (n := 5)).1 ?_
  refine callsIn_of_wp_marks Tryz.func17 rfl trivial ?_ rfl
  simp only [Tryz.ntmps17, List.size_toArray, List.length_cons, List.length_nil, Nat.reduceAdd, Nat.reduceSub, Array.replicate_succ, Array.replicate_zero, List.push_toArray, List.append_toArray, List.nil_append, List.cons_append]
  refine wpIn_wide.2 ?_
  go_upto_block 0 with (first
      | (go_at_call 37; refine (HCK.out _ (Aft.alloc _ _)).mono ?_; rintro e w1 ⟨rfl, ha1⟩; have hb1 := (Blk.new w 27 _).aft ha1; have hlt1 := hb1.lt; obtain ⟨k0, k1, k2, k3, k4⟩ := box_cells hb1)
      | (go_at_call 48; refine (readings_any T a1 a2 a3 a4 c1 c2 c3 c4 _).mono ?_; rintro e w4 ⟨rfl, rfl⟩))
  have hA4 : Aft w ((w1.alloc (.cells Tryz.zeroCells110 110)).alloc (.cells #[.int .i64 T.places, .slice a1 T.ways.length c1, .slice a2 T.words.length c2, .slice a3 T.starts.length c3, .slice a4 T.legs.length c4] 27)) := (((Aft.alloc w _).trans ha1).then_alloc _).then_alloc _
  have hb4 := (hb1.alloc (.cells Tryz.zeroCells110 110)).alloc (.cells #[.int .i64 T.places, .slice a1 T.ways.length c1, .slice a2 T.words.length c2, .slice a3 T.starts.length c3, .slice a4 T.legs.length c4] 27)
  have hc4 := (Blk.new w1 110 Tryz.zeroCells110).alloc (.cells #[.int .i64 T.places, .slice a1 T.ways.length c1, .slice a2 T.words.length c2, .slice a3 T.starts.length c3, .slice a4 T.legs.length c4] 27)
  have he4 := Blk.new (w1.alloc (.cells Tryz.zeroCells110 110)) 27 #[.int .i64 T.places, .slice a1 T.ways.length c1, .slice a2 T.words.length c2, .slice a3 T.starts.length c3, .slice a4 T.legs.length c4]
  have hz4 : ((w1.alloc (.cells Tryz.zeroCells110 110)).alloc (.cells #[.int .i64 T.places, .slice a1 T.ways.length c1, .slice a2 T.words.length c2, .slice a3 T.starts.length c3, .slice a4 T.legs.length c4] 27)).heap.size = w1.heap.size + 2 := by simp
  simp only [World.size_alloc] at he4
  clear k0 k1 k2 k3 k4 hb1 ha1
  generalize ((w1.alloc (.cells Tryz.zeroCells110 110)).alloc (.cells #[.int .i64 T.places, .slice a1 T.ways.length c1, .slice a2 T.words.length c2, .slice a3 T.starts.length c3, .slice a4 T.legs.length c4] 27)) = w4 at *
  generalize w1.heap.size = S at *
  have HI0 : Hid (EndI w T a1 a2 a3 a4 c1 c2 c3 c4 S 0 w4) := Lib.hid ⟨hA4, hb4, he4, _, _, hc4, falseGrid, fun _ _ _ _ => rfl⟩
  clear hA4 hb4 hc4 he4
  refine wp_block ?_
  refine (wpIn_wide (n := 5)).1 ?_
  refine wpIn_range3 (gf := 106) (lb := #[.pointer (some ⟨S + 1, 0, none⟩)]) rfl (fun args w => by simp [go_sem]) (iter109 _ (S + 1) _ T a2 c2 OK.out) (fun k W0 W v r o h hr => h.put hr o)
    (fun k W => EndI w T a1 a2 a3 a4 c1 c2 c3 c4 S k W) (fun _ _ => False) (by rw [hz4]; exact EndI.three hlt1) (fun _ _ _ _ _ h _ _ _ => h) (fun k W h => ⟨(box_cells h.box2).2.2.1, (HT.out.aft h.aft).words⟩) HI0.out
    (fun v => { tmps := #[.agg #[.int .i64 T.places, .slice a1 T.ways.length c1, .slice a2 T.words.length c2, .slice a3 T.starts.length c3, .slice a4 T.legs.length c4], .pointer (some ⟨w.heap.size, 0, none⟩), .slice none 0 0, .int .i64 0, .int .i64 0, .pointer (some ⟨S, 0, none⟩), v, undef, undef, undef, undef, undef, undef, undef, undef, undef, undef, .agg #[.int .i64 T.places, .slice a1 T.ways.length c1, .slice a2 T.words.length c2, .slice a3 T.starts.length c3, .slice a4 T.legs.length c4], .int .i64 0, .int .i64 0, .bool false, undef, .agg #[.int .i64 T.places, .slice a1 T.ways.length c1, .slice a2 T.words.length c2, .slice a3 T.starts.length c3, .slice a4 T.legs.length c4], .func (.func 106) #[] #[.pointer (some ⟨S + 1, 0, none⟩)], v, undef, undef, undef, undef, undef, undef, undef, undef, undef, undef, undef, undef, undef, undef, undef, undef, undef, undef, undef, undef, undef, undef, undef, undef, undef, undef, undef, undef, undef, undef, undef, undef, undef, undef, undef, undef, undef, undef, undef, undef, undef, undef, undef, undef, undef, undef, undef, undef, undef, undef, undef, undef, undef, undef, undef, undef, undef, undef, undef, undef, undef, undef, undef, undef, undef, undef, undef, undef, undef, undef, undef, undef, undef, undef, undef, undef, undef, undef, undef, undef, undef, undef, undef, undef, undef, undef, undef, undef, undef, undef, undef, undef, undef, undef, undef, undef, undef, undef, undef, undef, undef, undef, undef, undef, undef, undef, undef, undef, undef, undef, undef, undef, undef, undef, undef, undef, undef, undef, undef, undef], defers := [] }) ?assign ?body ?done ?stop
  case assign =>
    intro l v W K hK
    gi_wp2_with fail
    exact hK
  case body =>
    intro l k v W0 W hk hI ha hB hv
    have hdl : (dig (lensOf T) k).length ≤ 6 := by rw [dig_len]; simp only [lensOf, List.length_map]; exact OK.out.nwords
    obtain ⟨AR, cR, rfl, _, hir⟩ := own_ints hv (by omega)
    have hTW := HT.out.aft (hI.aft.trans ha)
    have hro := readOk_iff.2 (dig_ok _ _ OK.out.lens hk)
    have HOP := Lib.hid (opened_any W T a1 a2 a3 a4 c1 c2 c3 c4 (dig (lensOf T) k) AR cR hTW hir OK.out hro)
    have HTS := Lib.hid (fun leg b => thereK_succ T hk leg b)
    have HII := Lib.hid hI
    have HAA := Lib.hid ha
    have hbW := hI.box.aft ha
    obtain ⟨k0, k1, k2, k3, k4⟩ := box_cells hbW
    have hltW := hbW.lt
    have HBW := Lib.hid hbW
    have HAH := Lib.hid (fun (w5 : World) (D : Nat) (hd : Desk w5 D T a1 a2 a3 a4 c1 c2 c3 c4 (leadsF T (dig (lensOf T) k))) => ahead_any D T a1 a2 a3 a4 c1 c2 c3 c4 (leadsF T (dig (lensOf T) k)) w5 hd OK.out.p1 OK.out.p2 OK.out.nlegs)
    clear hTW hro hI hv ha hir hbW
    generalize dig (lensOf T) k = R at *
    refine wpIn_block ?_
    refine wpIn_seq_k fun K1 H1 => ?_
    refine wpIn_region_of_list (by kernel_rfl) ?_
    go_wp2_with (go_at_call 49; refine HOP.out.mono ?_; rintro e w5 ⟨D, cs, rfl, hD, ha5, hbD, hgD⟩; have hd5 := hgD.desk hbD; have HD5 := Lib.hid hd5; have HA5 := Lib.hid ha5; clear hbD hgD hd5 ha5 HOP)
    change K1 _ _
    refine H1 _ _ ?_
    clear H1
    refine wpIn_seq_k fun K1 H1 => ?_
    refine wpIn_region_of_list (by kernel_rfl) ?_
    go_wp2_with (go_at_call 50; refine (HAH.out w5 D HD5.out).mono ?_; rintro e w6 ⟨B', cs2, g2, rfl, hbL, hgL, hgf, hL, ha6⟩; have HBL := Lib.hid hbL; have HGL := Lib.hid hgL; have HGF := Lib.hid hgf; have HA6 := Lib.hid ha6; clear hbL hgL hgf ha6 HAH)
    change K1 _ _
    refine H1 _ _ ?_
    clear H1
    obtain ⟨ts0, tg0, hts, htg, htk⟩ := HII.out.there
    have hz0 := HAA.out.size
    have hz5 := HA5.out.size
    have hz6 := HBL.out.lt
    have hDlt := HD5.out.lt
    have hW7 := ((HA5.out.trans HA6.out).then_alloc (.cells #[.func (.func 110) #[] #[.pointer (some ⟨B', 0, none⟩)]] 95)).then_alloc (.cells Tryz.zeroCells110 110)
    have o2 : S + 5 ≤ D := by omega
    have o3 : D < B' := by omega
    have o4 : B' < w6.heap.size := hz6
    have HE0 : Hid (EndW w T a1 a2 a3 a4 c1 c2 c3 c4 (leadsF T R) S D B' w6.heap.size cs2 W ((w6.alloc (.cells #[.func (.func 110) #[] #[.pointer (some ⟨B', 0, none⟩)]] 95)).alloc (.cells Tryz.zeroCells110 110))) := Lib.hid
      ⟨HII.out.aft.trans (HAA.out.trans hW7), Kept3.of_aft hW7 (by omega), HII.out.box.aft (HAA.out.trans hW7), HII.out.box2.aft (HAA.out.trans hW7), HD5.out.aft ((HA6.out.then_alloc _).then_alloc _), (HBL.out.alloc _).alloc _, (Blk.new _ _ _).alloc _⟩
    have HC0 : Hid (Blk ((w6.alloc (.cells #[.func (.func 110) #[] #[.pointer (some ⟨B', 0, none⟩)]] 95)).alloc (.cells Tryz.zeroCells110 110)) (w6.heap.size + 1) 110 Tryz.zeroCells110) := Lib.hid (by
      have := Blk.new (w6.alloc (.cells #[.func (.func 110) #[] #[.pointer (some ⟨B', 0, none⟩)]] 95)) 110 Tryz.zeroCells110
      rwa [World.size_alloc] at this)
    have HT0 : Hid (Blk ((w6.alloc (.cells #[.func (.func 110) #[] #[.pointer (some ⟨B', 0, none⟩)]] 95)).alloc (.cells Tryz.zeroCells110 110)) S 110 ts0) := Lib.hid (hts.aft (HAA.out.trans hW7))
    have HTG := Lib.hid htg
    have HTK := Lib.hid htk
    clear hts htg htk hW7 hz6 hDlt hz5
    generalize hrb : w6.heap.size = rb at *
    have HRB := Lib.hid hrb
    clear hrb
    refine wpIn_seq_k fun K1 H1 => ?_
    refine wpIn_region_of_list (by kernel_rfl) ?_
    go_wp2_with fail
    change K1 _ _
    refine H1 _ _ ?_
    clear H1
    rw [HRB.out]
    obtain ⟨f, hf⟩ : ∃ f, f = leadsF T R := ⟨_, rfl⟩
    obtain ⟨t0, ht0⟩ : ∃ t0, t0 = thereK T k := ⟨_, rfl⟩
    obtain ⟨tr, htr⟩ : ∃ tr, tr = thereR T R := ⟨_, rfl⟩
    rw [← hf] at HE0 HGF
    have HG0 : Hid (EndG T f p t0 tr S rb 0 0 (fun _ => True) ((w6.alloc (.cells #[.func (.func 110) #[] #[.pointer (some ⟨B', 0, none⟩)]] 95)).alloc (.cells Tryz.zeroCells110 110))) := Lib.hid
      ⟨_, _, ts0, tg0, HC0.out, falseGrid, HT0.out, HTG.out, fun i j hi => by omega, fun j hj => by omega, trivial, fun i j hi hj => by rw [if_neg (by omega), ht0]; exact HTK.out i j hi (by rw [HPP.out]; omega)⟩
    have HFR := Lib.hid hf
    have HT0' := Lib.hid ht0
    have HTR := Lib.hid htr
    have HAD : Hid (∀ i j, i ≤ T.legs.length → j < p → tr i j = (comeF T f i j && g2 i j)) := Lib.hid fun i j hi hj => by
      rw [htr, HGF.out i j hi (by rw [HPP.out]; omega), hf]; rfl
    have HCA : Hid (∀ n b, comeTo T f n b p = comeF T f (n + 1) b) := Lib.hid fun n b => by rw [← comeTo_all, HPP.out]; rfl
    clear HRB
    clear hf ht0 htr HC0 HT0 HTG HTK HGF HBL HD5 HA5 HA6
    have o1 := hlt1
    generalize hw7 : ((w6.alloc (.cells #[.func (.func 110) #[] #[.pointer (some ⟨B', 0, none⟩)]] 95)).alloc (.cells Tryz.zeroCells110 110)) = w7 at *
    clear hw7
    have m4 := (box_cells HE0.out.box).2.2.2.2
    have l4 := HE0.out.box.lt
    gi_wp2_with fail
    clear m4 l4
    gi_loopw [34] (fun i wr => ∃ leg : Nat, i = .int .i64 leg ∧ leg ≤ T.legs.length + 1 ∧ EndW w T a1 a2 a3 a4 c1 c2 c3 c4 f S D B' rb cs2 W wr ∧ EndG T f p t0 tr S rb leg 0 (fun _ => True) wr) (fun i _ => T.legs.length + 1 - (intOf i).toNat)
    case atStart => exact ⟨0, rfl, by omega, HE0.out, HG0.out⟩
    case round =>
      clear HE0 HG0
      obtain ⟨leg, rfl, hleg, hE, hG⟩ := hrel
      by_cases hl : leg < T.legs.length + 1
      · have HE := Lib.hid hE
        have HG := Lib.hid hG
        have m0 : wr.cell? ⟨w.heap.size, 0, none⟩ = some (.int .i64 p) := by have := (box_cells hE.box).1; rwa [HPP.out] at this
        have l4 := hE.box.lt
        clear hE hG
        have hli : (leg : Int) < 11 := by omega
        have hldc : decide ((leg : Int) < (T.legs.length : Int) + 1) = true := by simp; omega
        gi_wp2_with fail
        clear m0 l4
        gi_loopw [39] (fun i wr => ∃ b : Nat, i = .int .i64 b ∧ b ≤ p ∧ EndW w T a1 a2 a3 a4 c1 c2 c3 c4 f S D B' rb cs2 W wr ∧ EndG T f p t0 tr S rb leg b (fun _ => True) wr) (fun i _ => p - (intOf i).toNat)
        case atStart => exact ⟨0, rfl, by omega, HE.out, HG.out⟩
        case round =>
          clear HE HG
          obtain ⟨b, rfl, hb, hE, cs, cg, ts, tg, hcs, hcg, hts, htg, hc1, hc2, -, ht1⟩ := hrel
          by_cases hbl : b < p
          · have HE := Lib.hid hE
            have HCS := Lib.hid hcs
            have HCG := Lib.hid hcg
            have HTS' := Lib.hid hts
            have HTG := Lib.hid htg
            have H1 := Lib.hid hc1
            have H2 := Lib.hid hc2
            have H3 := Lib.hid ht1
            obtain ⟨m0, m1, m2, m3, m4⟩ := box_cells hE.box
            rw [HPP.out] at m0
            have l4 := hE.box.lt
            have e1 := hcg.cell hcs (i := leg) (j := b) (by omega) (by omega)
            have e2 := hcs.frozen (leg * 12 + b)
            clear hE hcs hcg hts htg hc1 hc2 ht1
            have hbi : (b : Int) < 12 := by omega
            have HGa : Hid (EndG T f p t0 tr S rb leg b (fun _ => True) wr) := Lib.hid ⟨cs, cg, ts, tg, HCS.out, HCG.out, HTS'.out, HTG.out, H1.out, H2.out, trivial, H3.out⟩
            have m3d : wr.drew.cell? ⟨w.heap.size, 3, none⟩ = some (.slice a3 T.starts.length c3) := m3
            have HCT := Lib.hid (show Calls Tryz.prog 60 #[.slice a3 T.starts.length c3, .int .i64 b] wr.drew (fun e w' => e = .returned (.bool (hasB T.starts b)) ∧ w' = wr.drew) from (contains_any a3 T.starts c3 b wr.drew (HT.out.starts.aft (HE.out.aft.then_drew))).mono fun _ _ ⟨h1, h2⟩ => ⟨h1, h2.symm⟩)
            have e1d : wr.drew.cell? ⟨rb + 1, leg * 12 + b, none⟩ = some (.bool (cg leg b)) := e1
            have e2d : wr.drew.frozen? ⟨rb + 1, leg * 12 + b, none⟩ = false := e2
            gi_wp2_with fail
            by_cases hq0 : leg = 0
            case' pos =>
              have hq : ((leg : Int) == 0) = true := by rw [hq0]; rfl
              have HQ0 := Lib.hid hq0
              clear hq0
              obtain ⟨y, hy⟩ : ∃ y, hasB T.starts (b : Int) = y := ⟨_, rfl⟩
              rw [hy] at HCT
              have HYY := Lib.hid hy
              clear hy
              refine wpIn_region_tail' 11 (by kernel_rfl) (by kernel_rfl) (by kernel_rfl) ?_
              simp only [List.take_succ_cons, List.take_zero, List.drop_succ_cons, List.drop_zero]
              repeat (first | go_big_quiet_skip | (go_big_quiet_want; go_big_quiet_op; go_big_quiet_on))
              (go_big_quiet_want; go_big_quiet_op; refine ⟨_, HCT.out, ?_⟩; go_big_quiet_on)
              repeat (first | go_big_quiet_skip | (go_big_quiet_want; go_big_quiet_op; go_big_quiet_on))
              refine wpQuiet_nil ?_
              go_wp2_with fail
              try refine OnlyN.normal ?_
              go_wp2_with fail
              try refine OnlyN.normal ?_
              have hX : Hid (EndW w T a1 a2 a3 a4 c1 c2 c3 c4 f S D B' rb cs2 W (wr.setCell ⟨rb + 1, leg * 12 + b, none⟩ (.bool y)).drew) := Lib.hid (HE.out.set o1 o2 o3 o4 (.inr rfl) _).drew
              have hY : Hid (EndG T f p t0 tr S rb leg b (fun x => x = pcF T f leg b 0) (wr.setCell ⟨rb + 1, leg * 12 + b, none⟩ (.bool y)).drew) := Lib.hid (HGa.out.come (by omega) (by omega) (by omega) y (by rw [← HYY.out, HQ0.out]; rfl))
              generalize (wr.setCell ⟨rb + 1, leg * 12 + b, none⟩ (.bool y)).drew = x1 at *
            case' neg =>
              have hq : ((leg : Int) == 0) = false := by rw [beq_eq_false_iff_ne]; omega
              refine wpIn_region_tail' 11 (by kernel_rfl) (by kernel_rfl) (by kernel_rfl) ?_
              simp only [List.take_succ_cons, List.take_zero, List.drop_succ_cons, List.drop_zero]
              repeat (first | go_big_quiet_skip | (go_big_quiet_want; go_big_quiet_op; go_big_quiet_on))
              refine wpQuiet_nil ?_
              go_wp2_with fail
              try refine OnlyN.normal ?_
              go_wp2_with fail
              try refine OnlyN.normal ?_
              have HQN := Lib.hid hq0
              have hX : Hid (EndW w T a1 a2 a3 a4 c1 c2 c3 c4 f S D B' rb cs2 W (wr.setCell ⟨rb + 1, leg * 12 + b, none⟩ (.bool false)).drew) := Lib.hid (HE.out.set o1 o2 o3 o4 (.inr rfl) _).drew
              have hY : Hid (EndG T f p t0 tr S rb leg b (fun x => x = pcF T f leg b 0) (wr.setCell ⟨rb + 1, leg * 12 + b, none⟩ (.bool false)).drew) := Lib.hid (HGa.out.come (by omega) (by omega) (by omega) false (by
                obtain ⟨n, rfl⟩ : ∃ n, leg = n + 1 := ⟨leg - 1, by omega⟩
                rfl))
              generalize (wr.setCell ⟨rb + 1, leg * 12 + b, none⟩ (.bool false)).drew = x1 at *
            all_goals
              clear hq HE HGa HCT m0 m1 m2 m3 m4 l4 e1 e2 e1d e2d m3d HCS HCG HTS' HTG H1 H2 H3
              clear cs cg ts tg
              gi_wp2_with fail
              gi_loopw [12] (fun i wr => ∃ a : Nat, i = .int .i64 a ∧ (leg = 0 ∧ a = 0 ∨ 0 < leg ∧ a ≤ p) ∧ EndW w T a1 a2 a3 a4 c1 c2 c3 c4 f S D B' rb cs2 W wr ∧ EndG T f p t0 tr S rb leg b (fun x => x = pcF T f leg b a) wr) (fun i _ => p - (intOf i).toNat)
              case atStart => first | exact ⟨0, rfl, .inl ⟨HQ0.out, rfl⟩, hX.out, hY.out⟩ | exact ⟨0, rfl, .inr ⟨by have := HQN.out; omega, by omega⟩, hX.out, hY.out⟩
              case round =>
                clear hX hY
                obtain ⟨a, rfl, hab, hE, cs, cg, ts, tg, hcs, hcg, hts, htg, hc1, hc2, hc3, ht1⟩ := hrel
                have HE := Lib.hid hE
                have HCS := Lib.hid hcs
                have HCG := Lib.hid hcg
                have HTS' := Lib.hid hts
                have HTG := Lib.hid htg
                have H1 := Lib.hid hc1
                have H2 := Lib.hid hc2
                have H3 := Lib.hid ht1
                have H4 := Lib.hid hc3
                obtain ⟨m0, m1, m2, m3, m4⟩ := box_cells hE.box
                rw [HPP.out] at m0
                have l4 := hE.box.lt
                have e1 := hcg.cell hcs (i := leg) (j := b) (by omega) (by omega)
                have e2 := hcs.frozen (leg * 12 + b)
                have HGa : Hid (EndG T f p t0 tr S rb leg b (fun x => x = pcF T f leg b a) wr) := Lib.hid ⟨cs, cg, ts, tg, hcs, hcg, hts, htg, hc1, hc2, hc3, ht1⟩
                clear hE hcs hcg hts htg hc1 hc2 ht1 hc3
                by_cases hgo : 0 < leg ∧ a < p
                · obtain ⟨hg1, hg2⟩ := hgo
                  obtain ⟨n, hn⟩ : ∃ n, leg = n + 1 := ⟨leg - 1, by omega⟩
                  have hgi : (0 : Int) < (leg : Int) := by omega
                  have w1 : IntKind.i64.wrap ((leg : Int) - 1) = (n : Int) := by rw [IntWalk.i64_in _ (by omega)]; omega
                  have e3 := HCG.out.cell HCS.out (i := n) (j := a) (by omega) (by omega)
                  have ev3 : cg n a = comeF T f n a := H1.out n a (by omega) hg2
                  have hst : pcF T f leg b (a + 1) = (pcF T f leg b a || comeF T f n a && f n a b) := by rw [hn]; exact comeTo_succ T f n b a
                  rw [← H4.out, ← ev3] at hst
                  have hca := can_any D T a1 a2 a3 a4 c1 c2 c3 c4 f n a b wr.drew (HE.out.desk.aft (Aft.drew _)) (by omega) (by omega) (by omega) (by omega) (by omega) (by omega)
                  simp only [Int.toNat_natCast] at hca
                  have HCA := Lib.hid (hca.mono (R' := fun e w'' => e = .returned (.bool (f n a b)) ∧ w'' = wr.drew) fun _ _ ⟨h1, h2⟩ => ⟨h1, h2.symm⟩)
                  have hbi' : (n : Int) < 11 := by omega
                  have hai : (a : Int) < 12 := by omega
                  have HN := Lib.hid hn
                  have FIN := Lib.hid (fun (x : Bool) (hx : x = (cg leg b || cg n a && f n a b)) => show ∃ a' : Nat, Value.int .i64 ((a : Int) + 1) = .int .i64 a' ∧ (leg = 0 ∧ a' = 0 ∨ 0 < leg ∧ a' ≤ p) ∧ EndW w T a1 a2 a3 a4 c1 c2 c3 c4 f S D B' rb cs2 W (wr.setCell ⟨rb + 1, leg * 12 + b, none⟩ (.bool x)).drew ∧ EndG T f p t0 tr S rb leg b (fun x => x = pcF T f leg b a') (wr.setCell ⟨rb + 1, leg * 12 + b, none⟩ (.bool x)).drew from
                    ⟨a + 1, by go_num, .inr ⟨hg1, by omega⟩, (HE.out.set o1 o2 o3 o4 (.inr rfl) _).drew, HGa.out.come (by omega) (by omega) (by omega) x (by rw [hx, hst])⟩)
                  clear hn hca hst ev3 hab
                  generalize cg leg b = cur at *
                  generalize cg n a = nx at *
                  generalize f n a b = fb at *
                  have e1d : wr.drew.cell? ⟨rb + 1, leg * 12 + b, none⟩ = some (.bool cur) := e1
                  have e2d : wr.drew.frozen? ⟨rb + 1, leg * 12 + b, none⟩ = false := e2
                  have e3d : wr.drew.cell? ⟨rb + 1, n * 12 + a, none⟩ = some (.bool nx) := e3
                  gi_wp2_with fail
                  cases cur
                  · cases nx
                    · refine wpIn_region_tail' 24 (by kernel_rfl) (by kernel_rfl) (by kernel_rfl) ?_
                      simp only [List.take_succ_cons, List.take_zero, List.drop_succ_cons, List.drop_zero]
                      repeat (first | go_big_quiet_skip | (go_big_quiet_want; go_big_quiet_op; go_big_quiet_on))
                      refine wpQuiet_nil ?_
                      go_wp2_with fail
                      try refine OnlyN.normal ?_
                      gi_wp2_with fail
                      exact ⟨FIN.out false rfl, by simp [intOf]; omega⟩
                    · skip
                      refine wpIn_region_tail' 24 (by kernel_rfl) (by kernel_rfl) (by kernel_rfl) ?_
                      simp only [List.take_succ_cons, List.take_zero, List.drop_succ_cons, List.drop_zero]
                      repeat (first | go_big_quiet_skip | (go_big_quiet_want; go_big_quiet_op; go_big_quiet_on))
                      (go_big_quiet_want; go_big_quiet_op; refine ⟨_, HCA.out, ?_⟩; go_big_quiet_on)
                      repeat (first | go_big_quiet_skip | (go_big_quiet_want; go_big_quiet_op; go_big_quiet_on))
                      refine wpQuiet_nil ?_
                      clear w1
                      go_wp2_with fail
                      try refine OnlyN.normal ?_
                      gi_wp2_with fail
                      exact ⟨FIN.out fb (by simp), by simp [intOf]; omega⟩
                  · skip
                    refine wpIn_region_tail' 24 (by kernel_rfl) (by kernel_rfl) (by kernel_rfl) ?_
                    simp only [List.take_succ_cons, List.take_zero, List.drop_succ_cons, List.drop_zero]
                    repeat (first | go_big_quiet_skip | (go_big_quiet_want; go_big_quiet_op; go_big_quiet_on))
                    refine wpQuiet_nil ?_
                    go_wp2_with fail
                    try refine OnlyN.normal ?_
                    gi_wp2_with fail
                    exact ⟨FIN.out true rfl, by simp [intOf]; omega⟩
                · have hcm : cg leg b = comeF T f leg b := by
                    rw [H4.out]
                    rcases hab with ⟨h0, h1⟩ | ⟨h0, h1⟩
                    · rw [h0]; rfl
                    · obtain ⟨n, hn⟩ : ∃ n, leg = n + 1 := ⟨leg - 1, by omega⟩
                      have : a = p := by omega
                      rw [hn, this]
                      exact HCA.out n b
                  have hru := ahead1_any B' cs2 g2 leg b wr.drew (HE.out.tab.drew) HGL.out (by omega) (by omega) (by omega) (by omega)
                  simp only [Int.toNat_natCast] at hru
                  have HRU := Lib.hid (hru.mono (R' := fun e w'' => e = .returned (.bool (g2 leg b)) ∧ w'' = wr.drew) fun _ _ ⟨h1, h2⟩ => ⟨h1, h2.symm⟩)
                  have FIN := Lib.hid (fun (z : Bool) (hz : z = (tg leg b || cg leg b && g2 leg b)) => show ∃ b' : Nat, Value.int .i64 ((b : Int) + 1) = .int .i64 b' ∧ b' ≤ p ∧ EndW w T a1 a2 a3 a4 c1 c2 c3 c4 f S D B' rb cs2 W (wr.setCell ⟨S, leg * 12 + b, none⟩ (.bool z)).drew ∧ EndG T f p t0 tr S rb leg b' (fun _ => True) (wr.setCell ⟨S, leg * 12 + b, none⟩ (.bool z)).drew from
                    ⟨b + 1, by go_num, by omega, (HE.out.set o1 o2 o3 o4 (.inl rfl) _).drew, EndG.there HCS.out HCG.out HTS'.out HTG.out H1.out H2.out hcm H3.out HAD.out (by omega) (by omega) (by omega) (by omega) hbl z hz⟩)
                  have r1 : wr.drew.cell? ⟨S, leg * 12 + b, none⟩ = some (.bool (tg leg b)) := HTG.out.cell HTS'.out (i := leg) (j := b) (by omega) (by omega)
                  have r2 : wr.drew.frozen? ⟨S, leg * 12 + b, none⟩ = false := HTS'.out.frozen _
                  have r3 : wr.drew.cell? ⟨rb, 0, none⟩ = some (.func (.func 110) #[] #[.pointer (some ⟨B', 0, none⟩)]) := HE.out.rule.cell 0
                  have e1d : wr.drew.cell? ⟨rb + 1, leg * 12 + b, none⟩ = some (.bool (cg leg b)) := e1
                  clear hru hcm
                  generalize tg leg b = th at *
                  generalize cg leg b = cm at *
                  generalize g2 leg b = gv at *
                  rcases hab with ⟨h0, h1⟩ | ⟨h0, h1⟩
                  all_goals
                    have hq1 : ¬ ((0 : Int) < (leg : Int) ∧ (a : Int) < (p : Int)) := by omega
                  case' inl =>
                    first
                      | exact absurd h0 hq0
                      | (have hq2 : decide ((0 : Int) < (leg : Int)) = false := (by simp; omega)
                         have hq3 : (a : Int) < (p : Int) := (by omega))
                  case' inr =>
                    have hq2 : ¬ ((a : Int) < (p : Int)) := by omega
                  all_goals
                    have H5 := Lib.hid h0
                    have H6 := Lib.hid h1
                    clear hq1 h0 h1
                    gi_wp2_with fail
                    clear m0 m1 m2 m3 m4 e1 e2 hq2
                    cases th
                    · cases cm
                      · skip
                        refine wpIn_region_tail' 22 (by kernel_rfl) (by kernel_rfl) (by kernel_rfl) ?_
                        simp only [List.take_succ_cons, List.take_zero, List.drop_succ_cons, List.drop_zero]
                        repeat (first | go_big_quiet_skip | (go_big_quiet_want; go_big_quiet_op; go_big_quiet_on))
                        refine wpQuiet_nil ?_
                        go_wp2_with fail
                        try refine OnlyN.normal ?_
                        gi_wp2_with fail
                        exact ⟨FIN.out false rfl, by simp [intOf]; omega⟩
                      · skip
                        refine wpIn_region_tail' 22 (by kernel_rfl) (by kernel_rfl) (by kernel_rfl) ?_
                        simp only [List.take_succ_cons, List.take_zero, List.drop_succ_cons, List.drop_zero]
                        repeat (first | go_big_quiet_skip | (go_big_quiet_want; go_big_quiet_op; go_big_quiet_on))
                        (go_big_quiet_want; go_big_quiet_op; refine ⟨_, HRU.out, ?_⟩; go_big_quiet_on)
                        repeat (first | go_big_quiet_skip | (go_big_quiet_want; go_big_quiet_op; go_big_quiet_on))
                        refine wpQuiet_nil ?_
                        go_wp2_with fail
                        try refine OnlyN.normal ?_
                        gi_wp2_with fail
                        exact ⟨FIN.out gv (by simp), by simp [intOf]; omega⟩
                    · skip
                      refine wpIn_region_tail' 22 (by kernel_rfl) (by kernel_rfl) (by kernel_rfl) ?_
                      simp only [List.take_succ_cons, List.take_zero, List.drop_succ_cons, List.drop_zero]
                      repeat (first | go_big_quiet_skip | (go_big_quiet_want; go_big_quiet_op; go_big_quiet_on))
                      refine wpQuiet_nil ?_
                      go_wp2_with fail
                      try refine OnlyN.normal ?_
                      gi_wp2_with fail
                      exact ⟨FIN.out true rfl, by simp [intOf]; omega⟩
          · have hbp : b = p := by omega
            have HBP := Lib.hid hbp
            have hq1 : ¬ ((b : Int) < (p : Int)) := by omega
            have HGb : Hid (EndG T f p t0 tr S rb (leg + 1) 0 (fun _ => True) wr) := Lib.hid (by
              subst hbp
              refine ⟨cs, cg, ts, tg, hcs, hcg, hts, htg, fun i j hi hj => ?_, fun j hj => by omega, trivial, fun i j hi hj => ?_⟩
              · by_cases e : i = leg
                · rw [e]; exact hc2 j hj
                · exact hc1 i j (by omega) hj
              · rw [ht1 i j hi hj]
                by_cases h2 : i < leg ∨ i = leg ∧ j < b
                · rw [if_pos h2, if_pos (by omega)]
                · rw [if_neg h2, if_neg (by omega)])
            have HE := Lib.hid hE
            clear hbp hcs hcg hts htg hc1 hc2 ht1 hE hb
            gi_wp2_with fail
            exact ⟨⟨leg + 1, by go_num, by omega, HE.out, HGb.out⟩, by simp [intOf]; omega⟩
      · have hll : leg = T.legs.length + 1 := by omega
        have hq1 : ¬ ((leg : Int) < (T.legs.length : Int) + 1) := by omega
        have HE := Lib.hid hE
        have HG := Lib.hid hG
        have HLL := Lib.hid hll
        clear hll hE hG hleg
        gi_wp2_with fail
        rw [← hz4]
        obtain ⟨cs, cg, ts, tg, hcs, hcg, hts, htg, hc1, hc2, -, ht1⟩ := HG.out
        change Kept3 w4.heap.size W wr ∧ EndI w T a1 a2 a3 a4 c1 c2 c3 c4 S (k + 1) wr
        rw [hz4]
        refine ⟨HE.out.kept, HE.out.aft, HE.out.box, HE.out.box2, ts, tg, hts, htg, fun i j hi hj => ?_⟩
        rw [ht1 i j hi (by rw [HPP.out] at hj; omega), if_pos (by have := HLL.out; omega), HTS.out, HT0'.out, HTR.out]
  case done =>
    intro D W hD hI hK
    obtain ⟨ts, tg, hts, htg, htk⟩ := hI.there
    have HAW := Lib.hid hI.aft
    have HBX := Lib.hid hI.box
    have HTS := Lib.hid hts
    have HTG := Lib.hid htg
    have HTK := Lib.hid (fun i j (hi : i ≤ T.legs.length) (hj : j < p) => htk i j hi (by rw [HPP.out]; omega))
    have HKD := Lib.hid hK
    have hD1 : S + 2 ≤ D := by omega
    have hsz := hts.lt
    have HER : Hid (∀ leg, endTo T leg p = endRow T leg) := Lib.hid fun leg => by unfold endRow endTo; rw [HPP.out]; rfl
    obtain ⟨m0, m1, m2, m3, m4⟩ := box_cells hI.box
    have l4 := hI.box.lt
    have hDlt : D < W.heap.size := (Array.getElem?_eq_some_iff.1 hK).1
    clear hts htg htk hI hK hD
    go_wp2_with fail
    clear m0 m1 m2 m3 m4
    go_loopw [13, 118] (fun v i wr => ∃ leg : Nat, i = .int .i64 leg ∧ leg ≤ T.legs.length + 1 ∧ OutInv T leg W v wr) (fun _ i _ => T.legs.length + 1 - (intOf i).toNat)
    case atStart => exact ⟨0, rfl, by omega, Aft.refl _, ⟨[], OwnLs.nil⟩, fun j hj => by omega⟩
    case round =>
      obtain ⟨leg, rfl, hleg, haw, ⟨vs, hol⟩, hne⟩ := hrel
      have HA := Lib.hid haw
      have HOL := Lib.hid hol
      have HNE := Lib.hid hne
      obtain ⟨wo, hwo⟩ : ∃ wo : World, wo = wr := ⟨_, rfl⟩
      subst hwo
      by_cases hl : leg < T.legs.length + 1
      · have m0 : wo.cell? ⟨w.heap.size, 0, none⟩ = some (.int .i64 p) := by have := (box_cells (HBX.out.aft haw)).1; rwa [HPP.out] at this
        have l5 := (HBX.out.aft haw).lt
        have hldc : decide ((leg : Int) < (T.legs.length : Int) + 1) = true := by simp; omega
        have hli : (leg : Int) < 11 := by omega
        clear haw hol hne
        go_wp2_with fail
        clear m0
        go_loopw [15, 123] (fun v i wr => ∃ b : Nat, i = .int .i64 b ∧ b ≤ p ∧ RowInv T leg b wo v wr) (fun _ i _ => p - (intOf i).toNat)
        case atStart => exact ⟨0, rfl, by omega, Aft.refl _, World.ownsRow_nil _ _ 3 1⟩
        case round =>
          obtain ⟨b, rfl, hb, ha, hown⟩ := hrel
          obtain ⟨x, hx⟩ : ∃ x, x = endTo T leg b := ⟨_, rfl⟩
          rw [← hx] at hown
          have HA2 := Lib.hid ha
          have HO := Lib.hid hown
          have HX := Lib.hid hx
          have hxl : x.length ≤ 12 := by rw [hx]; exact Nat.le_trans (endTo_le _ _ _) (by omega)
          have hAA := HA.out.trans ha
          by_cases hbl : b < p
          · have e1 : wr.cell? ⟨S, leg * 12 + b, none⟩ = some (.bool (tg leg b)) := HTG.out.cell (HTS.out.aft hAA) (i := leg) (j := b) (by omega) (by omega)
            have hbi : (b : Int) < 12 := by omega
            have hst := endTo_succ T leg b
            rw [← hx, ← HTK.out leg b (by omega) hbl] at hst
            have HST := Lib.hid hst
            have hwl := ha.size
            clear ha hown hx hAA hst
            cases htb : tg leg b
            all_goals
              rw [htb] at e1 HST
              clear htb
            · go_wp2_with fail
              exact ⟨⟨b + 1, by go_num, by omega, HA2.out, by rw [HST.out]; simpa using HO.out⟩, by simp [intOf]; omega⟩
            · go_wp2_with (at_builtin; refine wpList_push rfl _ _ rfl (own_aft HO.out (Aft.alloc _ _)) (Nat.le_trans hwl (Aft.alloc _ _).size) rfl rfl (cell_new1 _ _ _) (by omega) ?_; intro v' w6 hown6 hg6)
              go_roundw
              case rel =>
                have hrel : RowInv T leg (b + 1) wo v' w6 := ⟨(HA2.out.then_alloc _).grown hg6 (own_ge HO.out), by rw [HST.out]; exact hown6⟩
                first | exact ⟨b + 1, by go_num, by omega, hrel⟩ | exact ⟨v', _, _, ⟨b + 1, by go_num, by omega, hrel⟩, rfl, rfl, rfl⟩
              case measure => simp [intOf]; omega
          · have hbp : b = p := by omega
            have hxr : x = endRow T leg := by rw [hx, hbp]; exact HER.out leg
            have HXR := Lib.hid hxr
            obtain ⟨A, c, rfl, hc1, hi⟩ := own_ints hown (by omega)
            have hq1 : decide ((b : Int) < (p : Int)) = false := by simp; omega
            clear ha hown hx hxr hbp hi
            by_cases hx0 : x = []
            · have hl0 : x.length = 0 := by rw [hx0]; rfl
              have HX0 := Lib.hid hx0
              have hqe : ((x.length : Int) == 0) = true := by rw [hl0]; rfl
              have HL0 := Lib.hid hl0
              clear hx0 hl0
              go_wp2_with fail
              refine ⟨by simp, .inl ⟨_, _, rfl, run_takeDeferred (w := wr) (((HA.out.trans HA2.out).below.block D hDlt).trans HKD.out), ?_⟩⟩
              refine ⟨.tuple #[.slice none 0 0, .int .i64 7], by simp [results, Tryz.results17, go_sem], ?_⟩
              exact ⟨(HAW.out.trans (HA.out.trans HA2.out)).grown (grownBy_putObj' _ _ _) (fun k e => by cases e; omega), .inl ⟨fun h => h leg (by omega) (by rw [← HXR.out]; exact HX0.out), rfl⟩⟩
            · have hqe : ((x.length : Int) == 0) = false := by
                rw [beq_eq_false_iff_ne]
                intro e
                exact hx0 (List.eq_nil_of_length_eq_zero (by omega))
              have hwl := HA.out.size
              go_wp2_with (at_builtin; refine wpList_app_list (W := wo) (r := .slice A x.length c) (l := x) (c := 1) (b := wr.heap.size) rfl (.tmp 139) (.tmp 141) rfl HOL.out hwl rfl rfl (new_one wr (.slice A x.length c) 24) rfl (HA2.out.then_alloc _) (own_aft HO.out (Aft.alloc _ _)) (by rw [endRows_len]; omega) ?_; intro v' vs' w9 hol9 hg9)
              go_roundw
              case rel =>
                have hrel : OutInv T (leg + 1) W v' w9 := ⟨((HA.out.trans HA2.out).then_alloc _).grown hg9 (own_ge HOL.out.own), ⟨vs', by rw [endRows_succ, ← HXR.out]; exact hol9⟩, fun j hj => by
                  by_cases e : j = leg
                  · rw [e, ← HXR.out]; exact hx0
                  · exact HNE.out j (by omega)⟩
                exact ⟨leg + 1, by go_num, by omega, hrel⟩
              case measure => simp [intOf]; omega
      · have hll : leg = T.legs.length + 1 := by omega
        have hq1 : decide ((leg : Int) < (T.legs.length : Int) + 1) = false := by simp; omega
        have HLL := Lib.hid hll
        clear hll haw hol hne hleg
        go_wp2_with fail
        refine ⟨by simp, .inl ⟨_, _, rfl, run_takeDeferred (w := wo) ((HA.out.below.block D hDlt).trans HKD.out), ?_⟩⟩
        refine ⟨.tuple #[u13, .int .i64 0], by simp [results, Tryz.results17, go_sem], ?_⟩
        refine ⟨(HAW.out.trans HA.out).grown (grownBy_putObj' _ _ _) (fun k e => by cases e; omega), .inr ⟨fun j hj => HNE.out j (by rw [HLL.out]; omega), u13, rfl, vs, ?_⟩⟩
        rw [← HLL.out]
        exact (HOL.out.kept3 (grownBy_putObj' _ D _) (by omega)).mono (by omega)
  case stop =>
    rintro D c W hD hX hK
    exact hX.elim
end Go.Proofs
end

section
/- Plain: the lines that legs allow. -/
namespace Go.Proofs

/-- all ways on from a place, with so many legs left, from one on -/
def linesFrom (T : Treaty) (f : Nat → Nat → Nat → Bool) : Nat → Nat → Nat → List (List Int)
  | 0, _, a => [[(a : Int)]]
  | k + 1, leg, a => (List.range T.places.toNat).flatMap fun b => if f leg a b then (linesFrom T f k (leg + 1) b).map ((a : Int) :: ·) else []
/-- the same, to the first places alone, behind a line -/
def linesTo (T : Treaty) (f : Nat → Nat → Nat → Bool) (k leg a : Nat) (line : List Int) (n : Nat) : List (List Int) := (List.range n).flatMap fun b => if f leg a b then (linesFrom T f k (leg + 1) b).map (line ++ ·) else []
/-- all lines, in their order -/
def linesL (T : Treaty) (f : Nat → Nat → Nat → Bool) : List (List Int) := T.starts.flatMap fun s => linesFrom T f T.legs.length 0 s.toNat

theorem linesTo_succ (T : Treaty) (f : Nat → Nat → Nat → Bool) (k leg a : Nat) (line : List Int) (n : Nat) :
    linesTo T f k leg a line (n + 1) = linesTo T f k leg a line n ++ (if f leg a n then (linesFrom T f k (leg + 1) n).map (line ++ ·) else []) := by
  unfold linesTo; rw [List.range_succ, List.flatMap_append]; simp
theorem linesTo_all (T : Treaty) (f : Nat → Nat → Nat → Bool) (k leg a : Nat) (pre : List Int) : linesTo T f k leg a (pre ++ [(a : Int)]) T.places.toNat = (linesFrom T f (k + 1) leg a).map (pre ++ ·) := by
  show _ = ((List.range T.places.toNat).flatMap fun b => if f leg a b then (linesFrom T f k (leg + 1) b).map ((a : Int) :: ·) else []).map (pre ++ ·)
  unfold linesTo
  rw [List.map_flatMap]
  congr 1
  funext b
  by_cases h : f leg a b = true
  · rw [if_pos h, if_pos h, List.map_map]
    congr 1
    funext l
    simp
  · rw [if_neg h, if_neg h]; rfl
theorem linesFrom_nil {T : Treaty} {f : Nat → Nat → Nat → Bool} : ∀ (k leg a : Nat), ahd T f k leg a = false ↔ linesFrom T f k leg a = []
  | 0, leg, a => by simp [ahd, linesFrom]
  | k + 1, leg, a => by
    unfold ahd linesFrom
    rw [List.any_eq_false, List.flatMap_eq_nil_iff]
    refine forall_congr' fun b => forall_congr' fun _ => ?_
    by_cases h : f leg a b = true
    · rw [if_pos h, h, Bool.true_and, Bool.not_eq_true, linesFrom_nil k (leg + 1) b, List.map_eq_nil_iff]
    · have h' : f leg a b = false := by simpa using h
      rw [if_neg h, h']; simp
theorem linesFrom_len {T : Treaty} {f : Nat → Nat → Nat → Bool} : ∀ (k leg a : Nat), ∀ l ∈ linesFrom T f k leg a, l.length = k + 1
  | 0, leg, a => by intro l hl; simp [linesFrom] at hl; subst hl; rfl
  | k + 1, leg, a => by
    intro l hl
    unfold linesFrom at hl
    rw [List.mem_flatMap] at hl
    obtain ⟨b, _, h⟩ := hl
    by_cases hf : f leg a b = true
    · rw [if_pos hf, List.mem_map] at h
      obtain ⟨l', h1, rfl⟩ := h
      have := linesFrom_len k (leg + 1) b l' h1
      simp [this]
    · rw [if_neg hf] at h; cases h

theorem take_app {α : Type} {M L : List α} {n : Nat} (h : n < M.length) : (M ++ L).take n = M.take n := by
  rw [List.take_append_of_le_length (by omega)]
end Go.Proofs
end

section
/- Walks: lines, the closure that follows them. -/
attribute [local go_sem ↓] Go.wp_at_zero Go.wp_at_succ
namespace Go.Proofs
open Go.RowKit

/-- Later worlds, in which some old blocks may have turned. -/
structure Ext (E : Nat → Prop) (W W' : World) : Prop where
  os : W'.os = W.os
  tape : W'.tape = W.tape
  output : W'.output = W.output
  size : W.heap.size ≤ W'.heap.size
  block : ∀ k, k < W.heap.size → ¬ E k → W'.heap[k]? = W.heap[k]?
theorem Ext.refl (E : Nat → Prop) (W : World) : Ext E W W := ⟨rfl, rfl, rfl, Nat.le_refl _, fun _ _ _ => rfl⟩
theorem Ext.trans {E E' : Nat → Prop} {W W' W'' : World} (h : Ext E W W') (k : Ext E' W' W'') (he : ∀ i, i < W.heap.size → E' i → E i) : Ext E W W'' :=
  ⟨k.os.trans h.os, k.tape.trans h.tape, k.output.trans h.output, Nat.le_trans h.size k.size, fun i hi hn => (k.block i (Nat.lt_of_lt_of_le hi h.size) (fun x => hn (he i hi x))).trans (h.block i hi hn)⟩
theorem Ext.of_aft {E : Nat → Prop} {W W' : World} (h : Aft W W') : Ext E W W' := by
  have hb := h.below
  exact ⟨hb.os, hb.tape, hb.output, hb.size, fun k hk _ => hb.block k hk⟩
theorem Ext.of_grown {E : Nat → Prop} {W W' : World} {row : Option Nat} (h : W.grownBy W' row) (he : ∀ k, row = some k → E k) : Ext E W W' :=
  ⟨h.os, h.tape, h.output, h.size, fun k hk hn => h.block k hk (fun e => hn (he k e.symm))⟩
theorem Ext.own {E : Nat → Prop} {W W' : World} (h : Ext E W W') {base g : Nat} {e : TypeId} {size n c : Nat} {xs : List Value} (ho : W.ownsRow base e size (.slice (some ⟨g, 0, none⟩) n c) n xs) (he : ¬ E g) : W'.ownsRow base e size (.slice (some ⟨g, 0, none⟩) n c) n xs := by
  rcases ho.2 with ⟨e1, _⟩ | ⟨g1, cap1, cur, e1, hbg, hg, h3⟩
  · cases e1
  · cases e1
    exact ⟨ho.1, .inr ⟨g, c, cur, rfl, hbg, (h.block g (Array.getElem?_eq_some_iff.1 hg).1 he).trans hg, h3⟩⟩

/-- The blocks that a slice of slices has are old ones, or new ones. -/
def Fresh (W : World) (vo : Value) (vs : List Value) (vo' : Value) (vs' : List Value) : Prop :=
  (∀ g, vo'.ownBlock = some g → vo.ownBlock = some g ∨ W.heap.size ≤ g) ∧ ∀ x ∈ vs', ∀ g, x.ownBlock = some g → (∃ y ∈ vs, y.ownBlock = some g) ∨ W.heap.size ≤ g
theorem Fresh.refl (W : World) (vo : Value) (vs : List Value) : Fresh W vo vs vo vs := ⟨fun _ h => .inl h, fun x hx _ h => .inl ⟨x, hx, h⟩⟩
theorem Fresh.trans {W W' : World} {vo vo' vo'' : Value} {vs vs' vs'' : List Value} (h : Fresh W vo vs vo' vs') (k : Fresh W' vo' vs' vo'' vs'') (hs : W.heap.size ≤ W'.heap.size) : Fresh W vo vs vo'' vs'' := by
  refine ⟨fun g hg => ?_, fun x hx g hg => ?_⟩
  · rcases k.1 g hg with h1 | h1
    · exact h.1 g h1
    · exact .inr (by omega)
  · rcases k.2 x hx g hg with ⟨y, h1, h2⟩ | h1
    · exact h.2 y h1 g h2
    · exact .inr (by omega)
/-- No block of a slice of slices is this one. -/
def Clear (vo : Value) (vs : List Value) (g : Nat) : Prop := vo.ownBlock ≠ some g ∧ ∀ x ∈ vs, x.ownBlock ≠ some g
theorem Fresh.clear {W : World} {vo vo' : Value} {vs vs' : List Value} (h : Fresh W vo vs vo' vs') {g : Nat} (hg : g < W.heap.size) (hc : Clear vo vs g) : Clear vo' vs' g := by
  refine ⟨fun e => ?_, fun x hx e => ?_⟩
  · rcases h.1 g e with h1 | h1
    · exact hc.1 h1
    · omega
  · rcases h.2 x hx g e with ⟨y, h1, h2⟩ | h1
    · exact hc.2 y h1 h2
    · omega

/-- The state of the search for lines: the boxes that its closure has, and the lists that it grows. -/
structure LB (w : World) (T : Treaty) (f : Nat → Nat → Nat → Bool) (D Bt br most : Nat) (M : List (List Int)) (vo : Value) (vs : List Value) (W : World) : Prop where
  aft : Aft w W
  size : br + 3 ≤ W.heap.size
  kd : W.cell? ⟨w.heap.size, 0, none⟩ = some (.pointer (some ⟨D, 0, none⟩))
  km : W.cell? ⟨w.heap.size + 1, 0, none⟩ = some (.int .i64 most)
  kr : W.cell? ⟨br, 0, none⟩ = some (.func (.func 110) #[] #[.pointer (some ⟨Bt, 0, none⟩)])
  kf : W.cell? ⟨br + 1, 0, none⟩ = some (.bool (decide (most < M.length)))
  zf : W.frozen? ⟨br + 1, 0, none⟩ = false
  kw : W.cell? ⟨br + 2, 0, none⟩ = some (.func (.func 116) #[] #[.pointer (some ⟨w.heap.size, 0, none⟩), .pointer (some ⟨w.heap.size + 2, 0, none⟩), .pointer (some ⟨w.heap.size + 1, 0, none⟩), .pointer (some ⟨br + 1, 0, none⟩), .pointer (some ⟨br, 0, none⟩), .pointer (some ⟨br + 2, 0, none⟩)])
  ko : W.cell? ⟨w.heap.size + 2, 0, none⟩ = some vo
  zo : W.frozen? ⟨w.heap.size + 2, 0, none⟩ = false
  own : OwnLs W (br + 3) vo vs (M.take most)
  tb : ∃ cs g, Blk W Bt 110 cs ∧ BGrid cs g ∧ ∀ i j, i ≤ T.legs.length → j < T.places.toNat → g i j = ahd T f (T.legs.length - i) i j

section
variable {w : World} {T : Treaty} {f : Nat → Nat → Nat → Bool} {D Bt br most : Nat} {M : List (List Int)} {vo : Value} {vs : List Value} {W W' : World}
theorem LB.later (h : LB w T f D Bt br most M vo vs W) (hbr : w.heap.size + 2 < br) (ha : Aft W W') : LB w T f D Bt br most M vo vs W' := by
  have hs := h.size
  obtain ⟨cs, g, h1, h2, h3⟩ := h.tb
  obtain ⟨u, rfl⟩ := ha
  exact ⟨h.aft.then_lat u, Nat.le_trans hs (W.lat_size u), (W.lat_cell u _ _ (by omega)).trans h.kd, (W.lat_cell u _ _ (by omega)).trans h.km, (W.lat_cell u _ _ (by omega)).trans h.kr, (W.lat_cell u _ _ (by omega)).trans h.kf,
    (W.lat_frozen u _ _ (by omega)).trans h.zf, (W.lat_cell u _ _ (by omega)).trans h.kw, (W.lat_cell u _ _ (by omega)).trans h.ko, (W.lat_frozen u _ _ (by omega)).trans h.zo, h.own.aft ⟨u, rfl⟩, cs, g, h1.lat u, h2, h3⟩

theorem OwnLs.grown {base : Nat} {v : Value} {vs : List Value} {ls : List (List Int)} (h : OwnLs W base v vs ls) {g : Nat} (hg : W.grownBy W' (some g)) (hc : Clear v vs g) : OwnLs W' base v vs ls := by
  refine ⟨h.own.kept hg ?_, fun i hi hi' => (h.rows i hi hi').kept hg ?_, h.apart⟩
  · cases hb : v.ownBlock with
    | none => left; rfl
    | some x => right; intro e; cases e; exact hc.1 hb
  · cases hb : vs[i].ownBlock with
    | none => left; rfl
    | some x => right; intro e; cases e; exact hc.2 _ (List.getElem_mem hi') hb

theorem LB.grown (h : LB w T f D Bt br most M vo vs W) (hbr : w.heap.size + 2 < br) (hBt : Bt < br) {g : Nat} (hg : W.grownBy W' (some g)) (hgb : br + 3 ≤ g) (hc : Clear vo vs g) : LB w T f D Bt br most M vo vs W' := by
  have hs := h.size
  obtain ⟨cs, g', h1, h2, h3⟩ := h.tb
  have c : ∀ b i, b < br + 3 → W'.cell? ⟨b, i, none⟩ = W.cell? ⟨b, i, none⟩ := fun b i hb => cell_grown9 hg (by omega) (by intro e; cases e; omega)
  have z : ∀ b i, b < br + 3 → W'.frozen? ⟨b, i, none⟩ = W.frozen? ⟨b, i, none⟩ := fun b i hb => frozen_grown hg (by omega) (by intro e; cases e; omega)
  exact ⟨h.aft.grown hg (fun k hk => by cases hk; omega), Nat.le_trans hs hg.size, (c _ _ (by omega)).trans h.kd, (c _ _ (by omega)).trans h.km, (c _ _ (by omega)).trans h.kr, (c _ _ (by omega)).trans h.kf,
    (z _ _ (by omega)).trans h.zf, (c _ _ (by omega)).trans h.kw, (c _ _ (by omega)).trans h.ko, (z _ _ (by omega)).trans h.zo, h.own.grown hg hc, cs, g', h1.grown hg (by intro e; cases e; omega), h2, h3⟩
theorem LB.desk {a1 a2 a3 a4 : Option Addr} {c1 c2 c3 c4 : Nat} (h : LB w T f D Bt br most M vo vs W) (hd : Desk w D T a1 a2 a3 a4 c1 c2 c3 c4 f) : Desk W D T a1 a2 a3 a4 c1 c2 c3 c4 f := hd.aft h.aft
end

/-- What the closure may turn. -/
def FolE (w : World) (br : Nat) (vo : Value) (g : Nat) : Nat → Prop := fun k => k = w.heap.size + 2 ∨ k = br + 1 ∨ vo.ownBlock = some k ∨ k = g

/-- What the closure leaves. -/
def FolR (w : World) (T : Treaty) (f : Nat → Nat → Nat → Bool) (D Bt br most : Nat) (M L : List (List Int)) (vo : Value) (vs : List Value) (g c : Nat) (line : List Int) (W : World) (e : Ending) (W' : World) : Prop :=
  e = .returned (.tuple #[]) ∧ ∃ vo' vs', LB w T f D Bt br most (M ++ L) vo' vs' W' ∧ W'.ownsRow (br + 3) 3 1 (.slice (some ⟨g, 0, none⟩) line.length c) line.length (line.map (Value.int .i64)) ∧ Fresh W vo vs vo' vs' ∧ Ext (FolE w br vo g) W W' ∧ Clear vo' vs' g

/-- The call of Clone, at a step of a region that draws its order. -/
theorem step_clone84 {w : World} {ops : Array Oper} {o : Oper} {a : Act} {K : Act → World → Prop} {Q : Exit → Act → World → Prop} {E : Prop}
    (hgd : o.guard = none) (x : Operand) (ho : o.op = .call { callee := .value (.func 107), args := #[x], argTypes := #[24] })
    {A : Option Addr} {l : List Int} {n c : Nat} (hx : a.eval x = .slice A n c) (hn : n = l.length) (hi : Ints w A l)
    (h : ∀ A' c' u, (w.lat u).ownsRow w.heap.size 3 1 (.slice A' n c') n (l.map (Value.int .i64)) → K (a.put o.dst (.slice A' n c')) (w.lat u)) :
    if Region.wanted o (yielded ops a.tmps) = true then Oper.wp Tryz.prog o a w K Q else E := by
  subst hn
  have hw : Region.wanted o (yielded ops a.tmps) = true := by simp [Region.wanted, hgd]
  rw [if_pos hw]
  have hc := clone84 A l c w hi
  unfold Oper.wp
  have hrun : (execOp a.eval o).run Tryz.prog w = .ok (.enter 107 #[.slice A l.length c]) w := by
    unfold execOp
    simp [ho, resolve, invoke, go_sem]
    simpa [go_sem] using hx
  rw [hrun, Oper.upon_enter]
  refine hc.mono ?_
  rintro e w' ⟨v, rfl, hown, u, rfl⟩
  obtain ⟨A', c', rfl, _, _⟩ := own_ints hown hi.len
  exact h A' c' u hown
end Go.Proofs
end
