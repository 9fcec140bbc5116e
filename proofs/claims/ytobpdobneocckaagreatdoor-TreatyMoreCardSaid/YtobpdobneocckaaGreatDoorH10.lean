/- Own texts, merged: Rea Yen Ydr Mgc Mge Mgg. -/
import Derived.Test.YtobpdobneocckaaGreatDoorH09
import Derived.Shelf.Slices.Cells
set_option linter.unusedSimpArgs false
set_option linter.unusedVariables false
section
/- Walks: Readings. -/
namespace Go.Proofs
open Go.RowKit
attribute [local go_sem] Oper.semAt_some

/-- The readings in which some line agrees, of the first ones. -/
noncomputable def readK (T : Treaty) (k : Nat) : List (List Int) := ((readingsL T).take k).filter fun R => opens T (leadsF T R)
theorem readK_succ (T : Treaty) {k : Nat} (h : k < prodN (lensOf T)) : readK T (k + 1) = readK T k ++ if opens T (leadsF T (dig (lensOf T) k)) then [dig (lensOf T) k] else [] := by
  have h' : k < (readingsL T).length := by rw [readingsL_len]; exact h
  unfold readK
  rw [List.take_succ_eq_append_getElem h', List.filter_append, readingsL_get]
  simp [List.filter_cons]
theorem readK_len (T : Treaty) (k : Nat) : (readK T k).length ≤ k := Nat.le_trans (List.length_filter_le _ _) (by simp; omega)

/-- What Readings answers. -/
def ReadingsR (w : World) (T : Treaty) (e : Ending) (w' : World) : Prop :=
  Aft w w' ∧ ((checkE T ≠ 0 ∧ e = .returned (.tuple #[.slice none 0 0, .int .i64 (checkE T)])) ∨
    (checkE T = 0 ∧ ∃ v, e = .returned (.tuple #[v, .int .i64 0]) ∧ OwnLists w' w.heap.size v (readK T (prodN (lensOf T)))))

theorem own_slice {W : World} {base : Nat} {e : TypeId} {size : Nat} {v : Value} {k : Nat} {xs : List Value} (h : W.ownsRow base e size v k xs) : ∃ A n c, v = .slice A n c := by
  rcases h.2 with ⟨rfl, _⟩ | ⟨g, cap, _, rfl, _⟩
  · exact ⟨_, _, _, rfl⟩
  · exact ⟨_, _, _, rfl⟩
theorem OwnLs.kept3 {W W' : World} {base : Nat} {v : Value} {vs : List Value} {ls : List (List Int)} (h : OwnLs W base v vs ls) {r : Nat} (hg : W.grownBy W' (some r)) (hr : r < base) : OwnLs W' base v vs ls :=
  ⟨own_kept h.own hg hr, fun i hi hi' => own_kept (h.rows i hi hi') hg hr, h.apart⟩

/-- Between two rounds of Readings. -/
structure ReadI (w : World) (T : Treaty) (a1 a2 a3 a4 : Option Addr) (c1 c2 c3 c4 : Nat) (S k : Nat) (W : World) : Prop where
  aft : Aft w W
  box : Blk W w.heap.size 27 #[.int .i64 T.places, .slice a1 T.ways.length c1, .slice a2 T.words.length c2, .slice a3 T.starts.length c3, .slice a4 T.legs.length c4]
  box2 : Blk W (S + 1) 27 #[.int .i64 T.places, .slice a1 T.ways.length c1, .slice a2 T.words.length c2, .slice a3 T.starts.length c3, .slice a4 T.legs.length c4]
  out : ∃ v vs, Blk W S 37 #[v] ∧ OwnLs W (S + 5) v vs (readK T k)
theorem ReadI.three {w : World} {T : Treaty} {a1 a2 a3 a4 : Option Addr} {c1 c2 c3 c4 : Nat} {S : Nat} (hS : w.heap.size < S) : Three (S + 2) (fun k W => ReadI w T a1 a2 a3 a4 c1 c2 c3 c4 S k W) := by
  rintro k W W' r ⟨h1, h2, h3, v, vs, h5, h6⟩ hg hr1 hr2
  exact ⟨h1.grown hg (fun k e => by cases e; omega), h2.grown hg (fun e => by cases e; omega), h3.grown hg (fun e => by cases e; omega), v, vs, h5.grown hg (fun e => by cases e; omega), h6.kept3 hg (by omega)⟩

set_option maxRecDepth 100000 in
set_option maxHeartbeats 2000000 in
theorem readingsX_any (w : World) (T : Treaty) (a1 a2 a3 a4 : Option Addr) (c1 c2 c3 c4 : Nat) (hT : TRep w T a1 a2 a3 a4) : Calls Tryz.prog 12 #[.agg #[.int .i64 T.places, .slice a1 T.ways.length c1, .slice a2 T.words.length c2, .slice a3 T.starts.length c3, .slice a4 T.legs.length c4]] w (ReadingsR w T) := by
  by_cases hc : checkE T = 0
  · have ok := checkE_ok hc
    have HC := Lib.hid hc
    have HT := Lib.hid hT
    clear hc hT
    have HCK : Hid (∀ W, Aft w W → Calls Tryz.prog 37 #[.agg #[.int .i64 T.places, .slice a1 T.ways.length c1, .slice a2 T.words.length c2, .slice a3 T.starts.length c3, .slice a4 T.legs.length c4]] W fun e w' => e = .returned (.int .i64 (checkE T)) ∧ Aft W w') := Lib.hid fun W ha => check_any T a1 a2 a3 a4 c1 c2 c3 c4 W (HT.out.aft ha)
    rw [HC.out] at HCK
    refine (callsIn_wide (n := 5)).1 ?_
    refine callsIn_of_wp_marks Tryz.func12 rfl trivial ?_ rfl
    simp only [Tryz.ntmps12, List.size_toArray, List.length_cons, List.length_nil, Nat.reduceAdd, Nat.reduceSub, Array.replicate_succ, Array.replicate_zero, List.push_toArray, List.append_toArray, List.nil_append, List.cons_append]
    refine wpIn_wide.2 ?_
    go_upto_block 0 with (first
      | (go_at_call 37; refine (HCK.out _ (Aft.alloc _ _)).mono ?_; rintro e w1 ⟨rfl, ha1⟩; have hb1 := (Blk.new w 27 _).aft ha1; have hlt1 := hb1.lt; obtain ⟨k0, k1, k2, k3, k4⟩ := box_cells hb1)
      | (go_at_call 48; refine (readings_any T a1 a2 a3 a4 c1 c2 c3 c4 _).mono ?_; rintro e w4 ⟨rfl, rfl⟩))
    have hA4 : Aft w ((w1.alloc (.cells #[.slice none 0 0] 37)).alloc (.cells #[.int .i64 T.places, .slice a1 T.ways.length c1, .slice a2 T.words.length c2, .slice a3 T.starts.length c3, .slice a4 T.legs.length c4] 27)) := (((Aft.alloc w _).trans ha1).then_alloc _).then_alloc _
    have hb4 := (hb1.alloc (.cells #[.slice none 0 0] 37)).alloc (.cells #[.int .i64 T.places, .slice a1 T.ways.length c1, .slice a2 T.words.length c2, .slice a3 T.starts.length c3, .slice a4 T.legs.length c4] 27)
    have hc4 := (Blk.new w1 37 #[.slice none 0 0]).alloc (.cells #[.int .i64 T.places, .slice a1 T.ways.length c1, .slice a2 T.words.length c2, .slice a3 T.starts.length c3, .slice a4 T.legs.length c4] 27)
    have he4 := Blk.new (w1.alloc (.cells #[.slice none 0 0] 37)) 27 #[.int .i64 T.places, .slice a1 T.ways.length c1, .slice a2 T.words.length c2, .slice a3 T.starts.length c3, .slice a4 T.legs.length c4]
    have hz4 : ((w1.alloc (.cells #[.slice none 0 0] 37)).alloc (.cells #[.int .i64 T.places, .slice a1 T.ways.length c1, .slice a2 T.words.length c2, .slice a3 T.starts.length c3, .slice a4 T.legs.length c4] 27)).heap.size = w1.heap.size + 2 := by simp
    simp only [World.size_alloc] at he4
    clear k0 k1 k2 k3 k4 hb1 ha1
    generalize ((w1.alloc (.cells #[.slice none 0 0] 37)).alloc (.cells #[.int .i64 T.places, .slice a1 T.ways.length c1, .slice a2 T.words.length c2, .slice a3 T.starts.length c3, .slice a4 T.legs.length c4] 27)) = w4 at *
    generalize w1.heap.size = S at *
    have HI0 : Hid (ReadI w T a1 a2 a3 a4 c1 c2 c3 c4 S 0 w4) := Lib.hid ⟨hA4, hb4, he4, _, [], hc4, OwnLs.nil⟩
    clear hA4 hb4 hc4 he4
    refine wp_block ?_
    refine (wpIn_wide (n := 5)).1 ?_
    refine wpIn_range3 (gf := 106) (lb := #[.pointer (some ⟨S + 1, 0, none⟩)]) rfl (fun args w => by simp [go_sem]) (iter109 _ (S + 1) _ T a2 c2 ok) (fun k W0 W v r o h hr => h.put hr o)
      (fun k W => ReadI w T a1 a2 a3 a4 c1 c2 c3 c4 S k W) (fun _ _ => False) (by rw [hz4]; exact ReadI.three hlt1) (fun _ _ _ _ _ h _ _ _ => h) (fun k W h => ⟨(box_cells h.box2).2.2.1, (HT.out.aft h.aft).words⟩) HI0.out
      (fun v => { tmps := #[.agg #[.int .i64 T.places, .slice a1 T.ways.length c1, .slice a2 T.words.length c2, .slice a3 T.starts.length c3, .slice a4 T.legs.length c4], .pointer (some ⟨w.heap.size, 0, none⟩), .slice none 0 0, .int .i64 0, .int .i64 0, .pointer (some ⟨S, 0, none⟩), v, undef, .agg #[.int .i64 T.places, .slice a1 T.ways.length c1, .slice a2 T.words.length c2, .slice a3 T.starts.length c3, .slice a4 T.legs.length c4], .int .i64 0, .int .i64 0, .bool false, undef, .agg #[.int .i64 T.places, .slice a1 T.ways.length c1, .slice a2 T.words.length c2, .slice a3 T.starts.length c3, .slice a4 T.legs.length c4], .func (.func 106) #[] #[.pointer (some ⟨S + 1, 0, none⟩)], v, undef, undef, undef, undef, undef, undef, undef, undef, undef, undef, undef, undef, undef], defers := [] }) ?assign ?body ?done ?stop
    case assign =>
      intro l v W K hK
      gi_wp2_with fail
      exact hK
    case body =>
      intro l k v W0 W hk hI ha hB hv
      have hdl : (dig (lensOf T) k).length ≤ 6 := by rw [dig_len]; simp only [lensOf, List.length_map]; exact ok.nwords
      obtain ⟨AR, cR, rfl, _, hir⟩ := own_ints hv (by omega)
      have hTW := HT.out.aft (hI.aft.trans ha)
      have hro := readOk_iff.2 (dig_ok _ _ ok.lens hk)
      have HOP := Lib.hid (opened_any W T a1 a2 a3 a4 c1 c2 c3 c4 (dig (lensOf T) k) AR cR hTW hir ok hro)
      have HFS := Lib.hid (readK_succ T hk)
      have hmany := (readings_many ok).1
      rw [readingsL_len] at hmany
      have HRL := Lib.hid (Nat.le_trans (readK_len T k) (Nat.le_of_lt hk))
      have HMY := Lib.hid hmany
      have HII := Lib.hid hI
      have HV : Hid (W.ownsRow W0.heap.size 3 1 (.slice AR (dig (lensOf T) k).length cR) (dig (lensOf T) k).length ((dig (lensOf T) k).map (Value.int .i64))) := Lib.hid hv
      have HAA := Lib.hid ha
      have hbW := hI.box.aft ha
      obtain ⟨k0, k1, k2, k3, k4⟩ := box_cells hbW
      have hltW := hbW.lt
      have HBW := Lib.hid hbW
      have OK := Lib.hid ok
      have HAH := Lib.hid (fun (w5 : World) (D : Nat) (hd : Desk w5 D T a1 a2 a3 a4 c1 c2 c3 c4 (leadsF T (dig (lensOf T) k))) => ahead_any D T a1 a2 a3 a4 c1 c2 c3 c4 (leadsF T (dig (lensOf T) k)) w5 hd OK.out.p1 OK.out.p2 OK.out.nlegs)
      clear hTW hro hI hv ha hir hbW ok hmany
      generalize dig (lensOf T) k = R at *
      have HS3 := Lib.hid (fun (X : World) (hX : Aft W X) => HT.out.starts.aft ((HII.out.aft.trans HAA.out).trans hX))
      have HOX := Lib.hid (fun (w6 : World) (B' : Nat) (cs2 : Array Value) (g : Nat → Nat → Bool) (hX : Aft W w6) (hb : Blk w6 B' 110 cs2) (hg : BGrid cs2 g) (hgf : ∀ (i j : Nat), i ≤ T.legs.length → j < T.places.toNat → g i j = ahd T (leadsF T R) (T.legs.length - i) i j) =>
        opens_any 52 (.inr rfl) T (leadsF T R) a3 c3 B' w6.heap.size cs2 g (w6.alloc (.cells #[.func (.func 110) #[] #[.pointer (some ⟨B', 0, none⟩)]] 95)) (HS3.out _ (hX.then_alloc _)) (hb.alloc _) hg (by simp) (by simp) OK.out.starts OK.out.p2 (fun j hj => by have := hgf 0 j (Nat.zero_le _) hj; simpa using this))
      obtain ⟨ov, ovs, hob, hol⟩ := HII.out.out
      have HOB := Lib.hid hob
      have HOL := Lib.hid hol
      have hbase : S + 5 ≤ W0.heap.size := by omega
      clear hob hol
      refine wpIn_block ?_
      refine wpIn_seq_k fun K1 H1 => ?_
      refine wpIn_region_of_list (by kernel_rfl) ?_
      go_wp2_with (first
        | (go_at_call 49; refine HOP.out.mono ?_; rintro e w5 ⟨D, cs, rfl, hD, ha5, hbD, hgD⟩; have hd5 := hgD.desk hbD; have HD5 := Lib.hid hd5; have HA5 := Lib.hid ha5; clear hbD hgD hd5 ha5 HOP)
        | (go_at_call 50; refine (HAH.out w5 D HD5.out).mono ?_; rintro e w6 ⟨B', cs2, g, rfl, hbL, hgL, hgf, hL, ha6⟩; have HBL := Lib.hid hbL; have HGL := Lib.hid hgL; have HGF := Lib.hid hgf; have HA6 := Lib.hid (HA5.out.trans ha6); have hb6 := HBW.out.aft HA6.out; have hlt6 := hb6.lt; obtain ⟨m0, m1, m2, m3, m4⟩ := box_cells hb6; clear hbL hgL hgf ha6 HAH hb6))
      change K1 _ _
      refine H1 _ _ ?_
      clear H1
      refine wpIn_seq_k fun K2 H2 => ?_
      refine wpIn_region_of_list (by kernel_rfl) ?_
      go_wp2_with (go_at_call 51; refine (HOX.out w6 B' cs2 g HA6.out HBL.out HGL.out HGF.out).mono ?_; rintro e w7 ⟨rfl, ha7⟩; have HA7 := Lib.hid ((HA6.out.trans (Aft.alloc _ _)).trans ha7); have HO7 := Lib.hid ((HOB.out.aft HAA.out).aft HA7.out); have s7 : w7.cell? ⟨S, 0, none⟩ = some ov := HO7.out.cell 0; have ls7 := HO7.out.lt; clear ha7)
      change K2 _ _
      refine H2 _ _ ?_
      clear H2
      cases hop : opens T (leadsF T R)
      · refine wpIn_cond_false (by simp [Act.eval]) ?_
        refine wpIn_skip ?_
        change Kept3 w4.heap.size W w7 ∧ ReadI w T a1 a2 a3 a4 c1 c2 c3 c4 S (k + 1) w7
        rw [hz4]
        refine ⟨Kept3.of_aft HA7.out (by have := HAA.out.size; omega), HII.out.aft.trans (HAA.out.trans HA7.out), HII.out.box.aft (HAA.out.trans HA7.out), HII.out.box2.aft (HAA.out.trans HA7.out), ov, ovs, HO7.out, ?_⟩
        rw [HFS.out, hop]
        simpa using HOL.out.aft (HAA.out.trans HA7.out)
      · have HP := Lib.hid hop
        refine wpIn_cond_true (by simp [Act.eval]) ?_
        clear hop
        refine wpIn_region_of_list (by kernel_rfl) ?_
        go_wp2_with (at_builtin; refine wpList_app_list rfl _ _ rfl HOL.out hbase rfl rfl (new_one w7 (.slice AR R.length cR) 24) rfl ((HAA.out.trans HA7.out).then_alloc _) (own_aft HV.out (HA7.out.then_alloc _)) (by have := HRL.out; have := HMY.out; omega) ?_; intro v' vs' w9 hol9 hg9; obtain ⟨A9, n9, c9, rfl⟩ := own_slice hol9.own; have hgs : some S ≠ ov.ownBlock := (fun e => by have := own_ge HOL.out.own _ e.symm; omega); have hb9 := (HO7.out.alloc (.cells #[.slice AR R.length cR] 24)).grown hg9 hgs; have f9 := hb9.frozen 0; have t9 : w9.cell? ⟨S, 0, none⟩ = some ov := hb9.cell 0; have HB9 := Lib.hid hb9; have HOL9 := Lib.hid hol9; have HG9 := Lib.hid hg9; have l9 := hb9.lt; clear hb9 hol9 hg9)
        change Kept3 w4.heap.size W (w9.setCell ⟨S, 0, none⟩ (.slice A9 n9 c9)) ∧ ReadI w T a1 a2 a3 a4 c1 c2 c3 c4 S (k + 1) (w9.setCell ⟨S, 0, none⟩ (.slice A9 n9 c9))
        have hov : ∀ g, ov.ownBlock = some g → S + 5 ≤ g := own_ge HOL.out.own
        have hAA7 := HAA.out.trans HA7.out
        have hsz := HAA.out.size
        have hsz7 := HA7.out.size
        rw [hz4]
        refine ⟨((Kept3.of_aft (HA7.out.then_alloc (.cells #[.slice AR R.length cR] 24)) (by omega)).trans (Kept3.of_grown HG9.out (by simp; omega) (fun g hg => .inr (by have := hov g hg; omega)))).setCell (.inl (by show S < S + 2; omega)) _, ?_⟩
        have hne : some w.heap.size ≠ ov.ownBlock := fun e => by have := hov _ e.symm; omega
        have hne2 : some (S + 1) ≠ ov.ownBlock := fun e => by have := hov _ e.symm; omega
        refine ⟨(((HII.out.aft.trans hAA7).then_alloc (.cells #[.slice AR R.length cR] 24)).grown HG9.out (fun g hg => by have := hov g hg; omega)).then_setCell (p := ⟨S, 0, none⟩) (by show w.heap.size ≤ S; omega) _,
          (((HII.out.box.aft hAA7).alloc _).grown HG9.out hne).far (by show w.heap.size ≠ S; omega) _, (((HII.out.box2.aft hAA7).alloc _).grown HG9.out hne2).far (by show S + 1 ≠ S; omega) _, _, vs', HB9.out.store 0 _, ?_⟩
        rw [HFS.out, HP.out]
        exact HOL9.out.kept3 (grownBy_setCell' w9 S _) (by omega)
    case done =>
      intro D W hD hI hK
      obtain ⟨v, vs, hb1, hb2⟩ := hI.out
      have c1 : W.cell? ⟨S, 0, none⟩ = some v := hb1.cell 0
      have HA := Lib.hid hI.aft
      have HB2 := Lib.hid hb2
      have HKD := Lib.hid hK
      have hlt3 := hb1.lt
      have hDz : D = S + 2 := by omega
      clear hI hb1 hb2 hK hD
      go_wp2_with fail
      refine ⟨by simp, .inl ⟨_, _, rfl, run_takeDeferred (w := W) HKD.out, ?_⟩⟩
      refine ⟨.tuple #[v, .int .i64 0], by simp [results, go_sem], ?_⟩
      exact ⟨HA.out.grown (grownBy_putObj' _ _ _) (fun k e => by cases e; omega), .inr ⟨HC.out, v, rfl, vs, (HB2.out.kept3 (grownBy_putObj' _ D _) (by omega)).mono (by omega)⟩⟩
    case stop =>
      intro D c W _ h _
      exact h.elim
  · have HC := Lib.hid hc
    have hne : (checkE T != 0) = true := by simpa using hc
    have HCK : Hid (∀ W, Aft w W → Calls Tryz.prog 37 #[.agg #[.int .i64 T.places, .slice a1 T.ways.length c1, .slice a2 T.words.length c2, .slice a3 T.starts.length c3, .slice a4 T.legs.length c4]] W fun e w' => e = .returned (.int .i64 (checkE T)) ∧ Aft W w') := Lib.hid fun W ha => check_any T a1 a2 a3 a4 c1 c2 c3 c4 W (hT.aft ha)
    clear hc hT
    generalize hE : checkE T = E at *
    have HE := Lib.hid hE
    clear hE
    go_enter Tryz.func12, Tryz.ntmps12
    go_wp2_with (go_at_call 37; refine (HCK.out _ (Aft.alloc _ _)).mono ?_; rintro e w1 ⟨rfl, ha1⟩)
    refine bodyPost_ret (v := .tuple #[.slice none 0 0, .int .i64 E]) (by simp [results, Tryz.results12, go_sem]) rfl ?_
    exact ⟨(Aft.alloc _ _).trans ha1, .inl ⟨by rw [HE.out]; exact HC.out, by rw [HE.out]⟩⟩
end Go.Proofs
end

section
/- Plain: legs that are enough are as many as must yield; those that are told are enough. -/
namespace Go.Proofs
open Go.RowKit

/-- how many of k legs, from one on, are among some -/
def cntS (S : List Int) : Nat → Nat → Nat
  | _, 0 => 0
  | lo, k + 1 => (if hasB S lo then 1 else 0) + cntS S (lo + 1) k
theorem cntS_one (x : Int) (k : Nat) : ∀ lo, cntS [x] lo k ≤ 1 ∧ (x < lo → cntS [x] lo k = 0) := by
  induction k with
  | zero => intro lo; exact ⟨Nat.zero_le _, fun _ => rfl⟩
  | succ k ih =>
    intro lo
    obtain ⟨h1, h2⟩ := ih (lo + 1)
    unfold cntS
    by_cases e : hasB [x] lo = true
    · have hx : x = lo := by rw [hasB_iff, List.mem_singleton] at e; exact e.symm
      rw [if_pos e, h2 (by omega)]
      exact ⟨Nat.le_refl _, fun h => by omega⟩
    · rw [if_neg e]
      exact ⟨by omega, fun h => by rw [h2 (by omega)]⟩
theorem cntS_cons (x : Int) (S : List Int) (k : Nat) : ∀ lo, cntS (x :: S) lo k ≤ cntS [x] lo k + cntS S lo k := by
  induction k with
  | zero => intro lo; exact Nat.zero_le _
  | succ k ih =>
    intro lo
    have := ih (lo + 1)
    unfold cntS
    by_cases e : hasB (x :: S) lo = true
    · rw [if_pos e]
      rw [hasB_iff, List.mem_cons] at e
      rcases e with e | e
      · rw [if_pos (show hasB [x] lo = true by rw [hasB_iff]; simp [e])]; omega
      · rw [if_pos (show hasB S lo = true from hasB_iff.2 e)]; omega
    · rw [if_neg e]; omega
theorem cntS_le (S : List Int) (lo k : Nat) : cntS S lo k ≤ S.length := by
  induction S with
  | nil =>
    have : ∀ k lo, cntS [] lo k = 0 := by
      intro k
      induction k with
      | zero => intro lo; rfl
      | succ k ih => intro lo; unfold cntS; rw [ih]; simp [hasB]
    rw [this]; exact Nat.zero_le _
  | cons x S ih =>
    have h1 := cntS_cons x S k lo
    have h2 := (cntS_one x k lo).1
    rw [List.length_cons]; omega

theorem ahd_flo {T : Treaty} {f : Nat → Nat → Nat → Bool} {S : List Int} (k : Nat) : ∀ leg a, a < T.places.toNat → ahd T (setS f S T.places.toNat) k leg a = true → ∃ b, b < T.places.toNat ∧ flo T f (leg + k) b ≤ flo T f leg a + cntS S leg k := by
  induction k with
  | zero => intro leg a ha _; exact ⟨a, ha, by unfold cntS; simp⟩
  | succ k ih =>
    intro leg a ha h
    unfold ahd at h
    rw [List.any_eq_true] at h
    obtain ⟨b, hb, h⟩ := h
    rw [Bool.and_eq_true] at h
    have hb' := List.mem_range.1 hb
    obtain ⟨b2, h1, h2⟩ := ih (leg + 1) b hb' h.2
    have h3 := flo_le_at T f leg b ha
    have h4 : brk f leg a b ≤ (if hasB S leg then 1 else 0 : Nat) := by
      unfold brk
      split
      · split <;> decide
      · rename_i hn
        have h5 := h.1
        unfold setS at h5
        rw [Bool.or_eq_true, Bool.and_eq_true, Bool.and_eq_true] at h5
        rcases h5 with h5 | h5
        · exact absurd h5 hn
        · rw [if_pos h5.1.1]; decide
    refine ⟨b2, h1, ?_⟩
    rw [show leg + (k + 1) = leg + 1 + k by omega]
    unfold cntS
    omega
theorem costL_min {T : Treaty} (f : Nat → Nat → Nat → Bool) {b : Nat} (hb : b < T.places.toNat) : flo T f T.legs.length (lastAt T f) ≤ flo T f T.legs.length b := argmin_min _ _ _ hb
/-- Legs without which a line agrees are no fewer than must yield. -/
theorem opens_min {T : Treaty} (ok : TOk T) {f : Nat → Nat → Nat → Bool} {S : List Int} (h : opens T (setS f S T.places.toNat) = true) : flo T f T.legs.length (lastAt T f) ≤ S.length := by
  unfold opens at h
  rw [List.any_eq_true] at h
  obtain ⟨s, hs, h⟩ := h
  have h0 := ok.starts s hs
  obtain ⟨b, hb, h1⟩ := ahd_flo T.legs.length 0 s.toNat (by omega) h
  rw [Nat.zero_add] at h1
  have h2 := costL_min f hb
  have h3 : flo T f 0 s.toNat = 0 := by
    unfold flo
    rw [if_pos]
    rw [hasB_iff, Int.toNat_of_nonneg h0.1]; exact hs
  have h4 := cntS_le S 0 T.legs.length
  omega

theorem yl_opens {T : Treaty} (ok : TOk T) {f : Nat → Nat → Nat → Bool} {S : List Int} (leg : Nat) : leg ≤ 10 → ∀ b k, b < T.places.toNat → flo T f leg b ≤ 10 → (∀ x ∈ yl T f leg b, x ∈ S) → ahd T (setS f S T.places.toNat) k leg b = true →
    ∃ s ∈ T.starts, ahd T (setS f S T.places.toNat) (leg + k) 0 s.toNat = true := by
  induction leg with
  | zero =>
    intro _ b k hb hf _ h
    unfold flo at hf
    split at hf
    · rename_i hs
      exact ⟨b, hasB_iff.1 hs, by rw [Nat.zero_add]; simpa using h⟩
    · omega
  | succ leg ih =>
    intro hl b k hb hf hS h
    obtain ⟨h1, h2, _⟩ := pre_spec ok.start f (leg := leg) b (by omega)
    have hbr := brk_bd f leg (pre T f leg b) b
    have h3 : setS f S T.places.toNat leg (pre T f leg b) b = true := by
      unfold setS
      rw [Bool.or_eq_true, Bool.and_eq_true, Bool.and_eq_true]
      by_cases e : f leg (pre T f leg b) b = true
      · exact .inl e
      · refine .inr ⟨⟨?_, decide_eq_true h1⟩, decide_eq_true hb⟩
        refine hasB_iff.2 (hS _ ?_)
        unfold yl
        rw [if_neg e]; simp
    have h4 := ih (by omega) (pre T f leg b) (k + 1) h1 (by omega) (fun x hx => hS x (by unfold yl; exact List.mem_append_right _ hx)) (by
      unfold ahd
      rw [List.any_eq_true]
      exact ⟨b, List.mem_range.2 hb, by rw [h3, h]; rfl⟩)
    rw [show leg + 1 + k = leg + (k + 1) by omega]
    exact h4
theorem costL_bd {T : Treaty} (ok : TOk T) (f : Nat → Nat → Nat → Bool) : 0 ≤ flo T f T.legs.length (lastAt T f) ∧ flo T f T.legs.length (lastAt T f) ≤ T.legs.length := by
  obtain ⟨a, h1, h2⟩ := flo_small ok.start f T.legs.length
  have h3 := costL_min f h1
  exact ⟨(flo_bd T f _ _).1, by omega⟩
theorem lastAt_lt {T : Treaty} (ok : TOk T) (f : Nat → Nat → Nat → Bool) : lastAt T f < T.places.toNat := argmin_lt _ _ _ (by have := ok.p1; omega) (Nat.le_refl _)
/-- Those that are told are enough. -/
theorem yieldL_opens {T : Treaty} (ok : TOk T) (f : Nat → Nat → Nat → Bool) {S : List Int} (hS : ∀ x ∈ yieldL T f, x ∈ S) : opens T (setS f S T.places.toNat) = true := by
  have hl := ok.nlegs
  have hb := costL_bd ok f
  obtain ⟨s, hs, h⟩ := yl_opens ok (f := f) (S := S) T.legs.length hl (lastAt T f) 0 (lastAt_lt ok f) (by omega) (fun x hx => hS x (by unfold yieldL; rw [List.mem_reverse]; exact hx)) (by unfold ahd; rfl)
  unfold opens
  rw [List.any_eq_true]
  exact ⟨s, hs, h⟩
theorem yieldL_len {T : Treaty} (ok : TOk T) (f : Nat → Nat → Nat → Bool) : ((yieldL T f).length : Int) = flo T f T.legs.length (lastAt T f) := by
  have hl := ok.nlegs
  have hb := costL_bd ok f
  unfold yieldL
  rw [List.length_reverse]
  exact yl_len ok.start f _ _ hl (by omega)


theorem risesB_pair {l : List Int} (h : l.Pairwise (fun x y => x < y)) : risesB l = true := risesB_true l fun k hk => List.pairwise_iff_getElem.1 h k (k + 1) (by omega) hk (by omega)
end Go.Proofs
end

section
/- Walks: TreatyYielded: its drawn regions. -/
namespace Go.Proofs
open Go.RowKit

set_option maxRecDepth 100000 in
theorem op_call1 {o : Oper} {a : Act} {w : World} {K : Act → World → Prop} {Q : Exit → Act → World → Prop} {f : Nat} {fn : Func} (hf : Tryz.prog.funcs[f]? = some fn) (hn : (fn.name == "runtime.NumGoroutine") = false) (hb : fn.body.isNone = false)
    (x : Operand) {t1 : TypeId} (ho : o.op = .call { callee := .value (.func f), args := #[x], argTypes := #[t1] })
    {vx : Value} (hx : a.eval x = vx) {R : Ending → World → Prop} (hc : Calls Tryz.prog f #[vx] w R)
    (h : ∀ e w', R e w' → ∃ v, e = .returned v ∧ K (a.put o.dst v) w') : Oper.wp Tryz.prog o a w K Q := by
  unfold Oper.wp
  have hrun : (execOp a.eval o).run Tryz.prog w = .ok (.enter f #[vx]) w := by
    unfold execOp
    simp only [ho, resolve, invoke, Sem.run_bind, List.map_toArray, List.map_cons, List.map_nil, hx]
    exact run_enters hf hn hb _ w
  rw [hrun]
  refine hc.mono ?_
  rintro e w' hr
  obtain ⟨v, rfl, hK⟩ := h e w' hr
  exact hK

section
variable {W8 : World} {T : Treaty} {a1 a2 a3 a4 : Option Addr} {c1 c2 c3 c4 : Nat} {R : List Int} {AR : Option Addr} {cR : Nat} {Y : List Int} {AY : Option Addr} {cY i' : Nat} {done : Nat → Bool} {w w' : World}
end



section
variable {d : Nat} {T : Treaty} {a1 a2 a3 a4 : Option Addr} {c1 c2 c3 c4 : Nat} {R : List Int} {AR : Option Addr} {cR ny : Nat} {done done' : Nat → Bool} {w w' : World}
end


end Go.Proofs
end

section
/- Walks: a made treaty: how a leg is added. -/
namespace Go.Proofs
open Go.RowKit

def LegOk (nW : Int) (x : Leg) : Prop := 0 ≤ x.word ∧ x.word < nW ∧ -1 ≤ x.other ∧ x.other < nW

structure W21 (w0 : World) (d : Nat) (A : Option Addr) (l : List Int) (c m : Nat) (wE W8 : World) (B base n : Nat) (P : Int) (z1 z3 v4 : Value) (A2 : Option Addr) (nW c2 : Nat) (xs : List Value) (done : Nat → Bool) (w : World) : Prop where
  deck : DeckAt w0 d A l c (m + b1 (done 6) + b1 (done 12)) w
  grown : wE.grownBy w (some d)
  size : base ≤ w.heap.size
  keep : W8.heap.size ≤ w.heap.size ∧ ∀ k, k < W8.heap.size → k ≠ d → k ≠ B → v4.ownBlock ≠ some k → w.heap[k]? = W8.heap[k]?
  box : done 17 = false → Blk w B 27 #[.int .i64 P, z1, .slice A2 nW c2, z3, v4]
  own : done 15 = false → w.ownsRow base 70 2 v4 n xs
  fin : done 17 = true → ∃ v' lg, LegOk nW lg ∧ Blk w B 27 #[.int .i64 P, z1, .slice A2 nW c2, z3, v'] ∧ w.ownsRow base 70 2 v' (n + 1) (xs ++ encLeg lg)

def Fact21 (d B base n : Nat) (nW c2 : Nat) (A2 : Option Addr) (v4 : Value) (xs : List Value) : Nat → Value → World → Prop
  | 0, v, _ => v = .pointer (some ⟨B, 4, none⟩)
  | 1, v, _ => v = v4
  | 2, v, _ => v = .pointer (some ⟨d, 0, none⟩)
  | 3, v, _ => v = .pointer (some ⟨B, 2, none⟩)
  | 4, v, _ => v = .slice A2 nW c2
  | 5, v, _ => v = .int .i64 nW
  | 6, v, _ => ∃ x, v = .int .i64 x ∧ 0 ≤ x ∧ x < (nW : Int)
  | 7, v, _ => v = .pointer (some ⟨d, 0, none⟩)
  | 8, v, _ => v = .pointer (some ⟨B, 2, none⟩)
  | 9, v, _ => v = .slice A2 nW c2
  | 10, v, _ => v = .int .i64 nW
  | 11, v, _ => v = .int .i64 (nW - 1)
  | 12, v, _ => ∃ x, v = .int .i64 x ∧ -1 ≤ x ∧ x < (nW : Int)
  | 13, v, _ => ∃ lg : Leg, LegOk nW lg ∧ v = .agg #[.int .i64 lg.word, .int .i64 lg.other]
  | 14, v, w => ∃ lg : Leg, LegOk nW lg ∧ ∃ b, v = .slice (some ⟨b, 0, none⟩) 1 1 ∧ Blk w b 70 (encLeg lg).toArray ∧ v4.ownBlock ≠ some b ∧ B < b
  | 15, v, w => ∃ lg : Leg, LegOk nW lg ∧ w.ownsRow base 70 2 v (n + 1) (xs ++ encLeg lg)
  | 16, v, _ => v = .pointer (some ⟨B, 4, none⟩)
  | _, _, _ => True
theorem Fact21.kept {d B base n nW c2 : Nat} {A2 : Option Addr} {v4 : Value} {xs : List Value} {w w' : World} {row : Option Nat} (hg : w.grownBy w' row) (hr : ∀ k, row = some k → k < base ∧ (k = d ∨ k = B) ∧ d < B) {i : Nat} {v : Value} (h : Fact21 d B base n nW c2 A2 v4 xs i v w) : Fact21 d B base n nW c2 A2 v4 xs i v w' := by
  unfold Fact21 at h ⊢
  split at h <;> first
    | exact h
    | (obtain ⟨lg, h1, b, h2, h3, h4, h5⟩ := h; exact ⟨lg, h1, b, h2, h3.grown hg (fun e => by have := hr b e.symm; omega), h4, h5⟩)
    | (obtain ⟨lg, h1, h2⟩ := h; refine ⟨lg, h1, h2.kept hg ?_⟩; cases hb : v.ownBlock with
        | none => exact .inl rfl
        | some g => exact .inr fun e => by have := (h2.lt g hb).1; have := hr g (by rw [← e]); omega)
theorem Fact21.low {d B base n nW c2 : Nat} {A2 : Option Addr} {v4 : Value} {xs : List Value} {w w' : World} {i : Nat} {v : Value} (hi : i < 14) (h : Fact21 d B base n nW c2 A2 v4 xs i v w) : Fact21 d B base n nW c2 A2 v4 xs i v w' := by
  unfold Fact21 at h ⊢
  split at h <;> first | exact h | omega

section
variable {w0 : World} {d : Nat} {A : Option Addr} {l : List Int} {c m : Nat} {wE W8 : World} {B base n : Nat} {P : Int} {z1 z3 v4 : Value} {A2 : Option Addr} {nW c2 : Nat} {xs : List Value} {done : Nat → Bool} {w w' : World}
theorem W21.same (h : W21 w0 d A l c m wE W8 B base n P z1 z3 v4 A2 nW c2 xs done w) {i : Nat} (h8 : i ≠ 6) (h14 : i ≠ 12) (h17 : i ≠ 15) (h19 : i ≠ 17) : W21 w0 d A l c m wE W8 B base n P z1 z3 v4 A2 nW c2 xs (Go.upd done i) w := by
  have e : ∀ j, j ≠ i → Go.upd done i j = done j := fun j hj => by unfold Go.upd; rw [if_neg hj]
  refine ⟨?_, h.grown, h.size, h.keep, ?_, ?_, ?_⟩
  · rw [e 6 (Ne.symm h8), e 12 (Ne.symm h14)]; exact h.deck
  · rw [e 17 (Ne.symm h19)]; exact h.box
  · rw [e 15 (Ne.symm h17)]; exact h.own
  · rw [e 17 (Ne.symm h19)]; exact h.fin
theorem W21.kept (h : W21 w0 d A l c m wE W8 B base n P z1 z3 v4 A2 nW c2 xs done w) {row : Option Nat} (hg : w.grownBy w' row) (hr : ∀ k, row = some k → k = d ∨ k = B ∨ v4.ownBlock = some k) : W8.heap.size ≤ w'.heap.size ∧ ∀ k, k < W8.heap.size → k ≠ d → k ≠ B → v4.ownBlock ≠ some k → w'.heap[k]? = W8.heap[k]? :=
  ⟨Nat.le_trans h.keep.1 hg.size, fun k hk h1 h2 h3 => (hg.block k (Nat.lt_of_lt_of_le hk h.keep.1) (fun e => by rcases hr k e.symm with g | g | g <;> (first | exact h1 g | exact h2 g | exact h3 g))).trans (h.keep.2 k hk h1 h2 h3)⟩
end

set_option maxRecDepth 100000 in
set_option maxHeartbeats 2000000 in
theorem region21_made (w0 : World) (d : Nat) (A : Option Addr) (l : List Int) (c m : Nat) (wE : World) (B base n : Nat) (P : Int) (z1 z3 v4 : Value) (A2 : Option Addr) (nW c2 : Nat) (xs : List Value) (a0 : Act) (Q0 : Exit → Act → World → Prop) (W8 : World)
    (hz : a0.tmps.size = 105) (s0 : a0.eval (.tmp 0) = .pointer (some ⟨d, 0, none⟩)) (s5 : a0.eval (.tmp 5) = .pointer (some ⟨B, 0, none⟩)) (hW1 : 1 ≤ nW) (hW3 : nW ≤ 3)
    (hD : DeckAt w0 d A l c m W8) (hm : m ≤ 900000) (hg : wE.grownBy W8 (some d)) (hbx : Blk W8 B 27 #[.int .i64 P, z1, .slice A2 nW c2, z3, v4]) (hown : W8.ownsRow base 70 2 v4 n xs) (hn : n ≤ 100) (hBb : B < base) (hdB : d < B) (hE : wE.heap.size ≤ B) (hsz : base ≤ W8.heap.size)
    (hexit : ∀ a W' lg v', a.tmps.size = 105 → a.defers = a0.defers → (∀ s : Nat, (s < 86 ∨ 102 < s) → a.eval (.tmp s) = a0.eval (.tmp s)) → DeckAt w0 d A l c (m + 2) W' → wE.grownBy W' (some d) → base ≤ W'.heap.size →
      (W8.heap.size ≤ W'.heap.size ∧ ∀ k, k < W8.heap.size → k ≠ d → k ≠ B → v4.ownBlock ≠ some k → W'.heap[k]? = W8.heap[k]?) → Blk W' B 27 #[.int .i64 P, z1, .slice A2 nW c2, z3, v'] → LegOk nW lg → W'.ownsRow base 70 2 v' (n + 1) (xs ++ encLeg lg) → Q0 .normal a W') :
    Code.wp Tryz.prog (Code.region 21 (opsMade 21).toArray true) Q0 a0 W8 := by
  have HEX := Lib.hid hexit
  clear hexit
  refine wp_region_facts (by kernel_rfl) 105 hz (by kernel_rfl) (Fact21 d B base n nW c2 A2 v4 xs) (W21 w0 d A l c m wE W8 B base n P z1 z3 v4 A2 nW c2 xs) ⟨hD.aft (Aft.drew _), only_drew hg, hsz, ⟨Nat.le_refl _, fun _ _ _ _ _ => rfl⟩, fun _ => hbx.drew, fun _ => hown, fun h => by cases h⟩ ?step ?fin
  case step =>
    intro i o ho done a w hH hd hp K hK
    have hW := hH.wd
    have hold : ∀ s : Nat, (s < 86 ∨ 102 < s) → a.eval (.tmp s) = a0.eval (.tmp s) := fun s h => hH.old s fun k ok hk hs => by
      match k, hk with
      | 0, hk => cases hk; cases hs; exact absurd h (by decide)
      | 1, hk => cases hk; cases hs; exact absurd h (by decide)
      | 2, hk => cases hk; cases hs; exact absurd h (by decide)
      | 3, hk => cases hk; cases hs; exact absurd h (by decide)
      | 4, hk => cases hk; cases hs; exact absurd h (by decide)
      | 5, hk => cases hk; cases hs; exact absurd h (by decide)
      | 6, hk => cases hk; cases hs; exact absurd h (by decide)
      | 7, hk => cases hk; cases hs; exact absurd h (by decide)
      | 8, hk => cases hk; cases hs; exact absurd h (by decide)
      | 9, hk => cases hk; cases hs; exact absurd h (by decide)
      | 10, hk => cases hk; cases hs; exact absurd h (by decide)
      | 11, hk => cases hk; cases hs; exact absurd h (by decide)
      | 12, hk => cases hk; cases hs; exact absurd h (by decide)
      | 13, hk => cases hk; cases hs; exact absurd h (by decide)
      | 14, hk => cases hk; cases hs; exact absurd h (by decide)
      | 15, hk => cases hk; cases hs; exact absurd h (by decide)
      | 16, hk => cases hk; cases hs; exact absurd h (by decide)
      | 17, hk => cases hk; cases hs
      | _ + 18, hk => cases hk
    have hK' : ∀ v, i ≠ 6 → i ≠ 12 → i ≠ 15 → i ≠ 17 → Fact21 d B base n nW c2 A2 v4 xs i v w → K (a.put o.dst v) w := fun v h8 h14 h17 h19 hv => hK v w hv (hW.same h8 h14 h17 h19) fun j _ u hu => hu
    have h19 : i ≠ 17 → done 17 = false := fun hi => by
      cases hdk : done 17 with
      | false => rfl
      | true => have := hH.closed 17 _ rfl hdk i (by revert hd; match i, ho with
        | 0, _ => intro _; decide
        | 1, _ => intro _; decide
        | 2, _ => intro _; decide
        | 3, _ => intro _; decide
        | 4, _ => intro _; decide
        | 5, _ => intro _; decide
        | 6, _ => intro _; decide
        | 7, _ => intro _; decide
        | 8, _ => intro _; decide
        | 9, _ => intro _; decide
        | 10, _ => intro _; decide
        | 11, _ => intro _; decide
        | 12, _ => intro _; decide
        | 13, _ => intro _; decide
        | 14, _ => intro _; decide
        | 15, _ => intro _; decide
        | 16, _ => intro _; decide
        | 17, _ => exact absurd rfl hi
        | _ + 18, ho => cases ho); rw [hd] at this; cases this
    match i, ho with
    | 0, ho =>
      cases ho
      have e : a.eval (.tmp 5) = .pointer (some ⟨B, 0, none⟩) := (hold 5 (by decide)).trans s5
      exact op_value (by simp [go_sem, ev e]) (hK' _ (by decide) (by decide) (by decide) (by decide) rfl)
    | 1, ho =>
      cases ho
      have e : a.eval (.tmp 86) = .pointer (some ⟨B, 4, none⟩) := hH.fact 0 _ 86 rfl rfl (hp 0 (by decide))
      have hc : w.cell? ⟨B, 4, none⟩ = some (v4) := (hW.box (h19 (by decide))).cell 4
      exact op_value (by simp [go_sem, ev e, hc]) (hK' _ (by decide) (by decide) (by decide) (by decide) rfl)
    | 2, ho =>
      cases ho
      have e : a.eval (.tmp 0) = .pointer (some ⟨d, 0, none⟩) := (hold 0 (by decide)).trans s0
      exact op_value (by simp [go_sem, ev e]) (hK' _ (by decide) (by decide) (by decide) (by decide) rfl)
    | 3, ho =>
      cases ho
      have e : a.eval (.tmp 5) = .pointer (some ⟨B, 0, none⟩) := (hold 5 (by decide)).trans s5
      exact op_value (by simp [go_sem, ev e]) (hK' _ (by decide) (by decide) (by decide) (by decide) rfl)
    | 4, ho =>
      cases ho
      have e : a.eval (.tmp 89) = .pointer (some ⟨B, 2, none⟩) := hH.fact 3 _ 89 rfl rfl (hp 3 (by decide))
      have hc : w.cell? ⟨B, 2, none⟩ = some (.slice A2 nW c2) := (hW.box (h19 (by decide))).cell 2
      exact op_value (by simp [go_sem, ev e, hc]) (hK' _ (by decide) (by decide) (by decide) (by decide) rfl)
    | 5, ho =>
      cases ho
      have e : a.eval (.tmp 90) = .slice A2 nW c2 := hH.fact 4 _ 90 rfl rfl (hp 4 (by decide))
      exact op_value (by simp [go_sem, ev e]) (hK' _ (by decide) (by decide) (by decide) (by decide) rfl)
    | 6, ho =>
      cases ho
      have e : a.eval (.tmp 88) = .pointer (some ⟨d, 0, none⟩) := hH.fact 2 _ 88 rfl rfl (hp 2 (by decide))
      have e2 : a.eval (.tmp 91) = .int .i64 nW := hH.fact 5 _ 91 rfl rfl (hp 5 (by decide))
      have hdk := hW.deck
      rw [hd] at hdk
      refine op_call2 Tryz.func39 (by kernel_rfl) (by kernel_rfl) _ _ rfl e e2 (draw_any w0 d A l c _ nW w hdk (by have h1 := b1_le (done 12); have h2 : b1 false = 0 := rfl; omega) (by omega) (by omega)) ?_
      rintro e w' ⟨x, rfl, g1, g2, g3, g4⟩
      refine ⟨_, rfl, hK _ _ ⟨x, rfl, g1, by omega⟩ ⟨g3.more ?_, hW.grown.trans g4, Nat.le_trans hW.size g4.size, hW.kept g4 (fun k e => by cases e; exact .inl rfl), fun _ => (hW.box (h19 (by decide))).grown g4 (fun e => by injection e; omega), fun h => ?_, fun h => ?_⟩ fun j _ u hu => Fact21.kept g4 (fun k e => by cases e; exact ⟨by omega, .inl rfl, hdB⟩) hu⟩
      · show m + b1 false + b1 (done 12) + 1 ≤ m + b1 (Go.upd done 6 6) + b1 (Go.upd done 6 12)
        have e1 : Go.upd done 6 6 = true := rfl
        have e2 : Go.upd done 6 12 = done 12 := rfl
        rw [e1, e2]; unfold b1; simp; omega
      · refine (hW.own h).kept g4 ?_
        cases hb : v4.ownBlock with
        | none => exact .inl rfl
        | some g => exact .inr fun e => by cases e; have := ((hW.own h).lt _ hb).1; omega
      · have := h19 (by decide); rw [show Go.upd done 6 17 = done 17 from rfl, this] at h; cases h
    | 7, ho =>
      cases ho
      have e : a.eval (.tmp 0) = .pointer (some ⟨d, 0, none⟩) := (hold 0 (by decide)).trans s0
      exact op_value (by simp [go_sem, ev e]) (hK' _ (by decide) (by decide) (by decide) (by decide) rfl)
    | 8, ho =>
      cases ho
      have e : a.eval (.tmp 5) = .pointer (some ⟨B, 0, none⟩) := (hold 5 (by decide)).trans s5
      exact op_value (by simp [go_sem, ev e]) (hK' _ (by decide) (by decide) (by decide) (by decide) rfl)
    | 9, ho =>
      cases ho
      have e : a.eval (.tmp 94) = .pointer (some ⟨B, 2, none⟩) := hH.fact 8 _ 94 rfl rfl (hp 8 (by decide))
      have hc : w.cell? ⟨B, 2, none⟩ = some (.slice A2 nW c2) := (hW.box (h19 (by decide))).cell 2
      exact op_value (by simp [go_sem, ev e, hc]) (hK' _ (by decide) (by decide) (by decide) (by decide) rfl)
    | 10, ho =>
      cases ho
      have e : a.eval (.tmp 95) = .slice A2 nW c2 := hH.fact 9 _ 95 rfl rfl (hp 9 (by decide))
      exact op_value (by simp [go_sem, ev e]) (hK' _ (by decide) (by decide) (by decide) (by decide) rfl)
    | 11, ho =>
      cases ho
      have e : a.eval (.tmp 96) = .int .i64 nW := hH.fact 10 _ 96 rfl rfl (hp 10 (by decide))
      have hwr : IntKind.i64.wrap ((nW : Int) - 1) = (nW : Int) - 1 := by rw [IntKind.wrap_i64]; omega
      exact op_value (by simp [go_sem, ev e, hwr]) (hK' _ (by decide) (by decide) (by decide) (by decide) rfl)
    | 12, ho =>
      cases ho
      have e : a.eval (.tmp 93) = .pointer (some ⟨d, 0, none⟩) := hH.fact 7 _ 93 rfl rfl (hp 7 (by decide))
      have e2 : a.eval (.tmp 97) = .int .i64 (nW - 1) := hH.fact 11 _ 97 rfl rfl (hp 11 (by decide))
      have hdk := hW.deck
      rw [hd] at hdk
      refine op_call3 Tryz.func66 (by kernel_rfl) (by kernel_rfl) _ _ _ rfl e rfl e2 (between_any w0 d A l c _ (-1) (nW - 1) w hdk (by have h1 := b1_le (done 6); have h2 : b1 false = 0 := rfl; omega) (by omega) (by omega) (by omega)) ?_
      rintro e w' ⟨x, rfl, g1, g2, g3, g4⟩
      refine ⟨_, rfl, hK _ _ ⟨x, rfl, g1, by omega⟩ ⟨g3.more ?_, hW.grown.trans g4, Nat.le_trans hW.size g4.size, hW.kept g4 (fun k e => by cases e; exact .inl rfl), fun _ => (hW.box (h19 (by decide))).grown g4 (fun e => by injection e; omega), fun h => ?_, fun h => ?_⟩ fun j _ u hu => Fact21.kept g4 (fun k e => by cases e; exact ⟨by omega, .inl rfl, hdB⟩) hu⟩
      · show m + b1 (done 6) + b1 false + 1 ≤ m + b1 (Go.upd done 12 6) + b1 (Go.upd done 12 12)
        have e1 : Go.upd done 12 12 = true := rfl
        have e2 : Go.upd done 12 6 = done 6 := rfl
        rw [e1, e2]; unfold b1; simp
      · refine (hW.own h).kept g4 ?_
        cases hb : v4.ownBlock with
        | none => exact .inl rfl
        | some g => exact .inr fun e => by cases e; have := ((hW.own h).lt _ hb).1; omega
      · have := h19 (by decide); rw [show Go.upd done 12 17 = done 17 from rfl, this] at h; cases h
    | 13, ho =>
      cases ho
      obtain ⟨y, e2, i1, i2⟩ : ∃ y, a.eval (.tmp 92) = .int .i64 y ∧ 0 ≤ y ∧ y < (nW : Int) := hH.fact 6 _ 92 rfl rfl (hp 6 (by decide))
      obtain ⟨z, e3, i4, i5⟩ : ∃ z, a.eval (.tmp 98) = .int .i64 z ∧ -1 ≤ z ∧ z < (nW : Int) := hH.fact 12 _ 98 rfl rfl (hp 12 (by decide))
      exact op_value (by simp [go_sem, ev e2, ev e3]) (hK' _ (by decide) (by decide) (by decide) (by decide) ⟨⟨y, z⟩, ⟨i1, i2, i4, i5⟩, rfl⟩)
    | 14, ho =>
      cases ho
      obtain ⟨lg, hlg, e⟩ : ∃ lg : Leg, LegOk nW lg ∧ a.eval (.tmp 99) = .agg #[.int .i64 lg.word, .int .i64 lg.other] := hH.fact 13 _ 99 rfl rfl (hp 13 (by decide))
      have h17 : done 15 = false := by
        cases hdk : done 15 with
        | false => rfl
        | true => have := hH.closed 15 _ rfl hdk 14 (by decide); rw [hd] at this; cases this
      have hb19 := hW.box (h19 (by decide))
      have hnew : v4.ownBlock ≠ some w.heap.size := fun e => by have := ((hW.own h17).lt _ e).2; omega
      have h1 : Fact21 d B base n nW c2 A2 v4 xs 14 (.slice (some ⟨w.heap.size, 0, none⟩) 1 1) (w.alloc (.cells (encLeg lg).toArray 70)) := ⟨lg, hlg, _, rfl, Blk.new _ _ _, hnew, hb19.lt⟩
      have hg' := only_of_aft (Aft.alloc w (.cells (encLeg lg).toArray 70)) none
      have := hK _ _ h1 ⟨(hW.same (i := 14) (by decide) (by decide) (by decide) (by decide)).deck.aft (Aft.alloc _ _), only_aft hW.grown (Aft.alloc _ _), Nat.le_trans hW.size hg'.size, hW.kept hg' (fun k e => by cases e), fun _ => hb19.alloc _, fun _ => own_aft (hW.own h17) (Aft.alloc _ _), fun h => by rw [show Go.upd done 14 17 = done 17 from rfl, h19 (by decide)] at h; cases h⟩ fun j _ u hu => Fact21.kept hg' (fun k e => by cases e) hu
      unfold Oper.wp
      simpa [go_sem, ev e, encLeg] using this
    | 15, ho =>
      cases ho
      obtain ⟨lg, hlg, b, e, hb, hne, hBb'⟩ : ∃ lg : Leg, LegOk nW lg ∧ ∃ b, a.eval (.tmp 100) = .slice (some ⟨b, 0, none⟩) 1 1 ∧ Blk w b 70 (encLeg lg).toArray ∧ v4.ownBlock ≠ some b ∧ B < b := hH.fact 14 _ 100 rfl rfl (hp 14 (by decide))
      have e2 : a.eval (.tmp 87) = v4 := hH.fact 1 _ 87 rfl rfl (hp 1 (by decide))
      have hb19 := hW.box (h19 (by decide))
      have ho1 := hW.own hd
      have hfar : ∀ k, v4.ownBlock = some k → base ≤ k := fun k e => (ho1.lt k e).1
      refine op_app ty25 _ _ rfl hW.size e2 ho1 e hb rfl (fun u hu => by simp [encLeg] at hu; rcases hu with rfl | rfl <;> rfl) (by omega) (by decide) fun v' w' h1 h2 h3 => ?_
      refine hK _ _ ⟨lg, hlg, h1⟩ ⟨(hW.deck).grown h2 (fun k e => by have := hfar k e; omega), only_grown hW.grown h2 (fun k e => by have := hfar k e; omega), Nat.le_trans hW.size h2.size, hW.kept h2 (fun k e => .inr (.inr e)), fun _ => hb19.grown h2 (fun e => by have := hfar B e.symm; omega), fun h => (by (have h' : Go.upd done 15 15 = true := rfl); rw [h'] at h; cases h), fun h => by rw [show Go.upd done 15 17 = done 17 from rfl, h19 (by decide)] at h; cases h⟩ fun j hj u hu => ?_
      have : j ≠ 15 := fun e => by rw [e, hd] at hj; cases hj
      by_cases h16 : j < 14
      · exact Fact21.low h16 hu
      · by_cases e16 : j = 14
        · subst e16
          obtain ⟨lg', h1', b', h2', h3', h4', h5'⟩ := hu
          exact ⟨lg', h1', b', h2', h3'.grown h2 (Ne.symm h4'), h4', h5'⟩
        · by_cases e18 : j = 16
          · subst e18; exact hu
          · unfold Fact21 at hu ⊢; split at hu <;> first | exact hu | omega
    | 16, ho =>
      cases ho
      have e : a.eval (.tmp 5) = .pointer (some ⟨B, 0, none⟩) := (hold 5 (by decide)).trans s5
      exact op_value (by simp [go_sem, ev e]) (hK' _ (by decide) (by decide) (by decide) (by decide) rfl)
    | 17, ho =>
      cases ho
      obtain ⟨lg, hlg, h1⟩ : ∃ lg : Leg, LegOk nW lg ∧ w.ownsRow base 70 2 (a.eval (.tmp 101)) (n + 1) (xs ++ encLeg lg) := hH.fact 15 _ 101 rfl rfl (hp 15 (by decide))
      have e : a.eval (.tmp 102) = .pointer (some ⟨B, 4, none⟩) := hH.fact 16 _ 102 rfl rfl (hp 16 (by decide))
      have hb19 := hW.box hd
      obtain ⟨v', e2⟩ : ∃ v', a.eval (.tmp 101) = v' := ⟨_, rfl⟩
      rw [e2] at h1
      obtain ⟨sA, sn, sc, rfl⟩ := own_slice' h1
      have hf := hb19.frozen 4
      have hc : w.cell? ⟨B, 4, none⟩ = some v4 := hb19.cell 4
      have hlt := hb19.lt
      have hg' : w.grownBy (w.setCell ⟨B, 4, none⟩ (.slice sA sn sc)) (some B) := only_setCell (only_refl w (some B)) (p := ⟨B, 4, none⟩) (.inl rfl) (.slice sA sn sc)
      have := hK undef (w.setCell ⟨B, 4, none⟩ (.slice sA sn sc)) trivial ⟨(hW.same (i := 16) (by decide) (by decide) (by decide) (by decide)).deck.grown hg' (fun k e => by cases e; exact hdB), only_grown hW.grown hg' (fun k e => by cases e; exact hE), Nat.le_trans hW.size hg'.size, hW.kept hg' (fun k e => by cases e; exact .inr (.inl rfl)), fun h => (by (have h' : Go.upd done 17 17 = true := rfl); rw [h'] at h; cases h), fun h => ?_, fun _ => ⟨.slice sA sn sc, lg, hlg, hb19.store 4 _, ?_⟩⟩ fun j _ u hu => Fact21.kept hg' (fun k e => by cases e; exact ⟨hBb, .inr rfl, hdB⟩) hu
      unfold Oper.wp
      simpa [go_sem, ev e, ev e2, hf, hc, hlt] using this
      · rw [show Go.upd done 17 15 = done 15 from rfl, hp 15 (by decide)] at h; cases h
      · refine h1.kept hg' ?_
        cases hb : (Value.slice sA sn sc).ownBlock with
        | none => exact .inl rfl
        | some g => exact .inr fun e => by cases e; have := (h1.lt _ hb).1; omega
    | _ + 18, ho => cases ho
  case fin =>
    intro done a w hall hH
    have hdone : ∀ i, i < 18 → done i = true := fun i hi => hall i (by exact hi)
    obtain ⟨v', lg, hlg, h1, h2⟩ := hH.wd.fin (hdone 17 (by decide))
    refine HEX.out a w lg v' (hH.size.trans hz) hH.defers (fun s h => hH.old s fun k ok hk hs => ?_) ?_ hH.wd.grown hH.wd.size hH.wd.keep h1 hlg h2
    · match k, hk with
      | 0, hk => cases hk; cases hs; exact absurd h (by decide)
      | 1, hk => cases hk; cases hs; exact absurd h (by decide)
      | 2, hk => cases hk; cases hs; exact absurd h (by decide)
      | 3, hk => cases hk; cases hs; exact absurd h (by decide)
      | 4, hk => cases hk; cases hs; exact absurd h (by decide)
      | 5, hk => cases hk; cases hs; exact absurd h (by decide)
      | 6, hk => cases hk; cases hs; exact absurd h (by decide)
      | 7, hk => cases hk; cases hs; exact absurd h (by decide)
      | 8, hk => cases hk; cases hs; exact absurd h (by decide)
      | 9, hk => cases hk; cases hs; exact absurd h (by decide)
      | 10, hk => cases hk; cases hs; exact absurd h (by decide)
      | 11, hk => cases hk; cases hs; exact absurd h (by decide)
      | 12, hk => cases hk; cases hs; exact absurd h (by decide)
      | 13, hk => cases hk; cases hs; exact absurd h (by decide)
      | 14, hk => cases hk; cases hs; exact absurd h (by decide)
      | 15, hk => cases hk; cases hs; exact absurd h (by decide)
      | 16, hk => cases hk; cases hs; exact absurd h (by decide)
      | 17, hk => cases hk; cases hs
      | _ + 18, hk => cases hk
    · have := hH.wd.deck
      rw [hdone 6 (by decide), hdone 12 (by decide)] at this
      exact this
end Go.Proofs
end

section
/- Walks: a made treaty: its drawn regions, the frame written out. -/
namespace Go.Proofs
open Go.RowKit

set_option maxRecDepth 100000 in
set_option maxHeartbeats 2000000 in
theorem region5_lit (w0 : World) (d : Nat) (A : Option Addr) (l : List Int) (c m : Nat) (wE : World) (B base n : Nat) (P F : Int) (v1 z2 z3 z4 : Value) (xs : List Value) (q1 q2 q3 q4 q7 q8 q9 q10 q11 q12 q13 q14 q15 q16 q17 q18 q19 q20 q21 q22 q23 q24 q25 q26 q27 q28 q29 q30 q31 q32 q33 q34 q35 q36 q37 q38 q39 q40 q41 q42 q43 q44 q45 q46 q47 q48 q49 q50 q51 q52 q53 q54 q55 q56 q57 q58 q59 q60 q61 q62 q63 q64 q65 q66 q67 q68 q69 q70 q71 q72 q73 q74 q75 q76 q77 q78 q79 q80 q81 q82 q83 q84 q85 q86 q87 q88 q89 q90 q91 q92 q93 q94 q95 q96 q97 q98 q99 q100 q101 q102 q103 q104 : Value) (Q0 : Exit → Act → World → Prop) (W8 : World)
    (hF : 0 ≤ F) (hF2 : F < P) (hP : 2 ≤ P) (hP8 : P ≤ 8)
    (hD : DeckAt w0 d A l c m W8) (hm : m ≤ 900000) (hg : wE.grownBy W8 (some d)) (hbx : Blk W8 B 27 #[.int .i64 P, v1, z2, z3, z4]) (hown : W8.ownsRow base 65 3 v1 n xs) (hn : n ≤ 100) (hBb : B < base) (hdB : d < B) (hE : wE.heap.size ≤ B) (hsz : base ≤ W8.heap.size)
    (hexit : ∀ (u19 u20 u21 u22 u23 u24 u25 u26 u27 u28 u29 u30 u31 u32 u33 u34 u35 u36 u37 : Value) W' wy v', DeckAt w0 d A l c (m + 2) W' → wE.grownBy W' (some d) → base ≤ W'.heap.size → Blk W' B 27 #[.int .i64 P, v', z2, z3, z4] → WayOk P wy → W'.ownsRow base 65 3 v' (n + 1) (xs ++ encWay wy) → Q0 .normal ⟨(List.toArray (.pointer (some ⟨d, 0, none⟩) :: q1 :: q2 :: q3 :: q4 :: .pointer (some ⟨B, 0, none⟩) :: .int .i64 F :: q7 :: q8 :: q9 :: q10 :: q11 :: q12 :: q13 :: q14 :: q15 :: q16 :: q17 :: q18 :: u19 :: u20 :: u21 :: u22 :: u23 :: u24 :: u25 :: u26 :: u27 :: u28 :: u29 :: u30 :: u31 :: u32 :: u33 :: u34 :: u35 :: u36 :: u37 :: q38 :: q39 :: q40 :: q41 :: q42 :: q43 :: q44 :: q45 :: q46 :: q47 :: q48 :: q49 :: q50 :: q51 :: q52 :: q53 :: q54 :: q55 :: q56 :: q57 :: q58 :: q59 :: q60 :: q61 :: q62 :: q63 :: q64 :: q65 :: q66 :: q67 :: q68 :: q69 :: q70 :: q71 :: q72 :: q73 :: q74 :: q75 :: q76 :: q77 :: q78 :: q79 :: q80 :: q81 :: q82 :: q83 :: q84 :: q85 :: q86 :: q87 :: q88 :: q89 :: q90 :: q91 :: q92 :: q93 :: q94 :: q95 :: q96 :: q97 :: q98 :: q99 :: q100 :: q101 :: q102 :: q103 :: q104 :: [])), []⟩ W') :
    Code.wp Tryz.prog (Code.region 5 (opsMade 5).toArray true) Q0 ⟨(List.toArray (.pointer (some ⟨d, 0, none⟩) :: q1 :: q2 :: q3 :: q4 :: .pointer (some ⟨B, 0, none⟩) :: .int .i64 F :: q7 :: q8 :: q9 :: q10 :: q11 :: q12 :: q13 :: q14 :: q15 :: q16 :: q17 :: q18 :: q19 :: q20 :: q21 :: q22 :: q23 :: q24 :: q25 :: q26 :: q27 :: q28 :: q29 :: q30 :: q31 :: q32 :: q33 :: q34 :: q35 :: q36 :: q37 :: q38 :: q39 :: q40 :: q41 :: q42 :: q43 :: q44 :: q45 :: q46 :: q47 :: q48 :: q49 :: q50 :: q51 :: q52 :: q53 :: q54 :: q55 :: q56 :: q57 :: q58 :: q59 :: q60 :: q61 :: q62 :: q63 :: q64 :: q65 :: q66 :: q67 :: q68 :: q69 :: q70 :: q71 :: q72 :: q73 :: q74 :: q75 :: q76 :: q77 :: q78 :: q79 :: q80 :: q81 :: q82 :: q83 :: q84 :: q85 :: q86 :: q87 :: q88 :: q89 :: q90 :: q91 :: q92 :: q93 :: q94 :: q95 :: q96 :: q97 :: q98 :: q99 :: q100 :: q101 :: q102 :: q103 :: q104 :: [])), []⟩ W8 := by
  refine region5_made w0 d A l c m wE B base n P F v1 z2 z3 z4 xs _ Q0 W8 rfl rfl rfl rfl hF hF2 hP hP8 hD hm hg hbx hown hn hBb hdB hE hsz ?_
  intro a W' wy v' hz hd hs h1 h2 h3 h4 h5 h6
  have e := frame_act 105 a _ hz hd (fun j => decide (19 ≤ j ∧ j ≤ 37)) (fun s hp => by
    have hp' := of_decide_eq_false hp
    exact hs s (by omega))
  have e2 : a = ⟨(List.toArray (.pointer (some ⟨d, 0, none⟩) :: q1 :: q2 :: q3 :: q4 :: .pointer (some ⟨B, 0, none⟩) :: .int .i64 F :: q7 :: q8 :: q9 :: q10 :: q11 :: q12 :: q13 :: q14 :: q15 :: q16 :: q17 :: q18 :: a.eval (.tmp 19) :: a.eval (.tmp 20) :: a.eval (.tmp 21) :: a.eval (.tmp 22) :: a.eval (.tmp 23) :: a.eval (.tmp 24) :: a.eval (.tmp 25) :: a.eval (.tmp 26) :: a.eval (.tmp 27) :: a.eval (.tmp 28) :: a.eval (.tmp 29) :: a.eval (.tmp 30) :: a.eval (.tmp 31) :: a.eval (.tmp 32) :: a.eval (.tmp 33) :: a.eval (.tmp 34) :: a.eval (.tmp 35) :: a.eval (.tmp 36) :: a.eval (.tmp 37) :: q38 :: q39 :: q40 :: q41 :: q42 :: q43 :: q44 :: q45 :: q46 :: q47 :: q48 :: q49 :: q50 :: q51 :: q52 :: q53 :: q54 :: q55 :: q56 :: q57 :: q58 :: q59 :: q60 :: q61 :: q62 :: q63 :: q64 :: q65 :: q66 :: q67 :: q68 :: q69 :: q70 :: q71 :: q72 :: q73 :: q74 :: q75 :: q76 :: q77 :: q78 :: q79 :: q80 :: q81 :: q82 :: q83 :: q84 :: q85 :: q86 :: q87 :: q88 :: q89 :: q90 :: q91 :: q92 :: q93 :: q94 :: q95 :: q96 :: q97 :: q98 :: q99 :: q100 :: q101 :: q102 :: q103 :: q104 :: [])), []⟩ := e
  have h := hexit (a.eval (.tmp 19)) (a.eval (.tmp 20)) (a.eval (.tmp 21)) (a.eval (.tmp 22)) (a.eval (.tmp 23)) (a.eval (.tmp 24)) (a.eval (.tmp 25)) (a.eval (.tmp 26)) (a.eval (.tmp 27)) (a.eval (.tmp 28)) (a.eval (.tmp 29)) (a.eval (.tmp 30)) (a.eval (.tmp 31)) (a.eval (.tmp 32)) (a.eval (.tmp 33)) (a.eval (.tmp 34)) (a.eval (.tmp 35)) (a.eval (.tmp 36)) (a.eval (.tmp 37)) W' wy v' h1 h2 h3 h4 h5 h6
  rw [← e2] at h
  exact h

set_option maxRecDepth 100000 in
set_option maxHeartbeats 2000000 in
theorem region12_lit (w0 : World) (d : Nat) (A : Option Addr) (l : List Int) (c m : Nat) (wE : World) (B base p : Nat) (vS : Value) (S : Nat → Prop) (ms : List Mean) (xs : List Value) (z1 z2 z3 z4 : Value) (q1 q2 q3 q4 q6 q8 q9 q10 q11 q12 q13 q14 q15 q16 q17 q18 q19 q20 q21 q22 q23 q24 q25 q26 q27 q28 q29 q30 q31 q32 q33 q34 q35 q36 q37 q38 q39 q40 q41 q42 q43 q44 q45 q46 q47 q48 q49 q50 q51 q52 q53 q54 q55 q56 q57 q58 q59 q60 q61 q62 q63 q64 q65 q66 q67 q68 q69 q70 q71 q72 q73 q74 q75 q76 q77 q78 q79 q80 q81 q82 q83 q84 q85 q86 q87 q88 q89 q90 q91 q92 q93 q94 q95 q96 q97 q98 q99 q100 q101 q102 q103 q104 : Value) (Q0 : Exit → Act → World → Prop) (W8 : World)
    (hp8 : p ≤ 8)
    (hD : DeckAt w0 d A l c m W8) (hm : m ≤ 800000) (hg : wE.grownBy W8 (some d)) (hbx : Blk W8 B 27 #[.int .i64 p, z1, z2, z3, z4]) (hown : OwnK MeanR 67 2 base vS S ms xs W8) (hn : ms.length ≤ 100) (hBb : B < base) (hdB : d < B) (hE : wE.heap.size ≤ base) (hsz : base ≤ W8.heap.size)
    (hexit : ∀ (u7 u47 u48 u49 u50 u51 u52 u53 u54 u55 u56 : Value) W' , DeckAt w0 d A l c (m + 4 + p) W' → wE.grownBy W' (some d) → (W8.heap.size ≤ W'.heap.size ∧ ∀ k, k < W8.heap.size → k ≠ d → vS.ownBlock ≠ some k → W'.heap[k]? = W8.heap[k]?) → More12 base p ms u7 W' → Q0 .normal ⟨(List.toArray (.pointer (some ⟨d, 0, none⟩) :: q1 :: q2 :: q3 :: q4 :: .pointer (some ⟨B, 0, none⟩) :: q6 :: u7 :: q8 :: q9 :: q10 :: q11 :: q12 :: q13 :: q14 :: q15 :: q16 :: q17 :: q18 :: q19 :: q20 :: q21 :: q22 :: q23 :: q24 :: q25 :: q26 :: q27 :: q28 :: q29 :: q30 :: q31 :: q32 :: q33 :: q34 :: q35 :: q36 :: q37 :: q38 :: q39 :: q40 :: q41 :: q42 :: q43 :: q44 :: q45 :: q46 :: u47 :: u48 :: u49 :: u50 :: u51 :: u52 :: u53 :: u54 :: u55 :: u56 :: q57 :: q58 :: q59 :: q60 :: q61 :: q62 :: q63 :: q64 :: q65 :: q66 :: q67 :: q68 :: q69 :: q70 :: q71 :: q72 :: q73 :: q74 :: q75 :: q76 :: q77 :: q78 :: q79 :: q80 :: q81 :: q82 :: q83 :: q84 :: q85 :: q86 :: q87 :: q88 :: q89 :: q90 :: q91 :: q92 :: q93 :: q94 :: q95 :: q96 :: q97 :: q98 :: q99 :: q100 :: q101 :: q102 :: q103 :: q104 :: [])), []⟩ W') :
    Code.wp Tryz.prog (Code.region 12 (opsMade 12).toArray true) Q0 ⟨(List.toArray (.pointer (some ⟨d, 0, none⟩) :: q1 :: q2 :: q3 :: q4 :: .pointer (some ⟨B, 0, none⟩) :: q6 :: vS :: q8 :: q9 :: q10 :: q11 :: q12 :: q13 :: q14 :: q15 :: q16 :: q17 :: q18 :: q19 :: q20 :: q21 :: q22 :: q23 :: q24 :: q25 :: q26 :: q27 :: q28 :: q29 :: q30 :: q31 :: q32 :: q33 :: q34 :: q35 :: q36 :: q37 :: q38 :: q39 :: q40 :: q41 :: q42 :: q43 :: q44 :: q45 :: q46 :: q47 :: q48 :: q49 :: q50 :: q51 :: q52 :: q53 :: q54 :: q55 :: q56 :: q57 :: q58 :: q59 :: q60 :: q61 :: q62 :: q63 :: q64 :: q65 :: q66 :: q67 :: q68 :: q69 :: q70 :: q71 :: q72 :: q73 :: q74 :: q75 :: q76 :: q77 :: q78 :: q79 :: q80 :: q81 :: q82 :: q83 :: q84 :: q85 :: q86 :: q87 :: q88 :: q89 :: q90 :: q91 :: q92 :: q93 :: q94 :: q95 :: q96 :: q97 :: q98 :: q99 :: q100 :: q101 :: q102 :: q103 :: q104 :: [])), []⟩ W8 := by
  refine region12_made w0 d A l c m wE B base p vS S ms xs z1 z2 z3 z4 _ Q0 W8 rfl rfl rfl rfl hp8 hD hm hg hbx hown hn hBb hdB hE hsz ?_
  intro a W' hz hd hs h1 h2 h3 h4
  have e := frame_act 105 a _ hz hd (fun j => decide (j = 7 ∨ (47 ≤ j ∧ j ≤ 56))) (fun s hp => by
    have hp' := of_decide_eq_false hp
    exact hs s (by omega) (by omega))
  have e2 : a = ⟨(List.toArray (.pointer (some ⟨d, 0, none⟩) :: q1 :: q2 :: q3 :: q4 :: .pointer (some ⟨B, 0, none⟩) :: q6 :: a.eval (.tmp 7) :: q8 :: q9 :: q10 :: q11 :: q12 :: q13 :: q14 :: q15 :: q16 :: q17 :: q18 :: q19 :: q20 :: q21 :: q22 :: q23 :: q24 :: q25 :: q26 :: q27 :: q28 :: q29 :: q30 :: q31 :: q32 :: q33 :: q34 :: q35 :: q36 :: q37 :: q38 :: q39 :: q40 :: q41 :: q42 :: q43 :: q44 :: q45 :: q46 :: a.eval (.tmp 47) :: a.eval (.tmp 48) :: a.eval (.tmp 49) :: a.eval (.tmp 50) :: a.eval (.tmp 51) :: a.eval (.tmp 52) :: a.eval (.tmp 53) :: a.eval (.tmp 54) :: a.eval (.tmp 55) :: a.eval (.tmp 56) :: q57 :: q58 :: q59 :: q60 :: q61 :: q62 :: q63 :: q64 :: q65 :: q66 :: q67 :: q68 :: q69 :: q70 :: q71 :: q72 :: q73 :: q74 :: q75 :: q76 :: q77 :: q78 :: q79 :: q80 :: q81 :: q82 :: q83 :: q84 :: q85 :: q86 :: q87 :: q88 :: q89 :: q90 :: q91 :: q92 :: q93 :: q94 :: q95 :: q96 :: q97 :: q98 :: q99 :: q100 :: q101 :: q102 :: q103 :: q104 :: [])), []⟩ := e
  have h := hexit (a.eval (.tmp 7)) (a.eval (.tmp 47)) (a.eval (.tmp 48)) (a.eval (.tmp 49)) (a.eval (.tmp 50)) (a.eval (.tmp 51)) (a.eval (.tmp 52)) (a.eval (.tmp 53)) (a.eval (.tmp 54)) (a.eval (.tmp 55)) (a.eval (.tmp 56)) W' h1 h2 h3 h4
  rw [← e2] at h
  exact h

set_option maxRecDepth 100000 in
set_option maxHeartbeats 2000000 in
theorem region21_lit (w0 : World) (d : Nat) (A : Option Addr) (l : List Int) (c m : Nat) (wE : World) (B base n : Nat) (P : Int) (z1 z3 v4 : Value) (A2 : Option Addr) (nW c2 : Nat) (xs : List Value) (q1 q2 q3 q4 q6 q7 q8 q9 q10 q11 q12 q13 q14 q15 q16 q17 q18 q19 q20 q21 q22 q23 q24 q25 q26 q27 q28 q29 q30 q31 q32 q33 q34 q35 q36 q37 q38 q39 q40 q41 q42 q43 q44 q45 q46 q47 q48 q49 q50 q51 q52 q53 q54 q55 q56 q57 q58 q59 q60 q61 q62 q63 q64 q65 q66 q67 q68 q69 q70 q71 q72 q73 q74 q75 q76 q77 q78 q79 q80 q81 q82 q83 q84 q85 q86 q87 q88 q89 q90 q91 q92 q93 q94 q95 q96 q97 q98 q99 q100 q101 q102 q103 q104 : Value) (Q0 : Exit → Act → World → Prop) (W8 : World)
    (hW1 : 1 ≤ nW) (hW3 : nW ≤ 3)
    (hD : DeckAt w0 d A l c m W8) (hm : m ≤ 900000) (hg : wE.grownBy W8 (some d)) (hbx : Blk W8 B 27 #[.int .i64 P, z1, .slice A2 nW c2, z3, v4]) (hown : W8.ownsRow base 70 2 v4 n xs) (hn : n ≤ 100) (hBb : B < base) (hdB : d < B) (hE : wE.heap.size ≤ B) (hsz : base ≤ W8.heap.size)
    (hexit : ∀ (u86 u87 u88 u89 u90 u91 u92 u93 u94 u95 u96 u97 u98 u99 u100 u101 u102 : Value) W' lg v', DeckAt w0 d A l c (m + 2) W' → wE.grownBy W' (some d) → base ≤ W'.heap.size → (W8.heap.size ≤ W'.heap.size ∧ ∀ k, k < W8.heap.size → k ≠ d → k ≠ B → v4.ownBlock ≠ some k → W'.heap[k]? = W8.heap[k]?) → Blk W' B 27 #[.int .i64 P, z1, .slice A2 nW c2, z3, v'] → LegOk nW lg → W'.ownsRow base 70 2 v' (n + 1) (xs ++ encLeg lg) → Q0 .normal ⟨(List.toArray (.pointer (some ⟨d, 0, none⟩) :: q1 :: q2 :: q3 :: q4 :: .pointer (some ⟨B, 0, none⟩) :: q6 :: q7 :: q8 :: q9 :: q10 :: q11 :: q12 :: q13 :: q14 :: q15 :: q16 :: q17 :: q18 :: q19 :: q20 :: q21 :: q22 :: q23 :: q24 :: q25 :: q26 :: q27 :: q28 :: q29 :: q30 :: q31 :: q32 :: q33 :: q34 :: q35 :: q36 :: q37 :: q38 :: q39 :: q40 :: q41 :: q42 :: q43 :: q44 :: q45 :: q46 :: q47 :: q48 :: q49 :: q50 :: q51 :: q52 :: q53 :: q54 :: q55 :: q56 :: q57 :: q58 :: q59 :: q60 :: q61 :: q62 :: q63 :: q64 :: q65 :: q66 :: q67 :: q68 :: q69 :: q70 :: q71 :: q72 :: q73 :: q74 :: q75 :: q76 :: q77 :: q78 :: q79 :: q80 :: q81 :: q82 :: q83 :: q84 :: q85 :: u86 :: u87 :: u88 :: u89 :: u90 :: u91 :: u92 :: u93 :: u94 :: u95 :: u96 :: u97 :: u98 :: u99 :: u100 :: u101 :: u102 :: q103 :: q104 :: [])), []⟩ W') :
    Code.wp Tryz.prog (Code.region 21 (opsMade 21).toArray true) Q0 ⟨(List.toArray (.pointer (some ⟨d, 0, none⟩) :: q1 :: q2 :: q3 :: q4 :: .pointer (some ⟨B, 0, none⟩) :: q6 :: q7 :: q8 :: q9 :: q10 :: q11 :: q12 :: q13 :: q14 :: q15 :: q16 :: q17 :: q18 :: q19 :: q20 :: q21 :: q22 :: q23 :: q24 :: q25 :: q26 :: q27 :: q28 :: q29 :: q30 :: q31 :: q32 :: q33 :: q34 :: q35 :: q36 :: q37 :: q38 :: q39 :: q40 :: q41 :: q42 :: q43 :: q44 :: q45 :: q46 :: q47 :: q48 :: q49 :: q50 :: q51 :: q52 :: q53 :: q54 :: q55 :: q56 :: q57 :: q58 :: q59 :: q60 :: q61 :: q62 :: q63 :: q64 :: q65 :: q66 :: q67 :: q68 :: q69 :: q70 :: q71 :: q72 :: q73 :: q74 :: q75 :: q76 :: q77 :: q78 :: q79 :: q80 :: q81 :: q82 :: q83 :: q84 :: q85 :: q86 :: q87 :: q88 :: q89 :: q90 :: q91 :: q92 :: q93 :: q94 :: q95 :: q96 :: q97 :: q98 :: q99 :: q100 :: q101 :: q102 :: q103 :: q104 :: [])), []⟩ W8 := by
  refine region21_made w0 d A l c m wE B base n P z1 z3 v4 A2 nW c2 xs _ Q0 W8 rfl rfl rfl hW1 hW3 hD hm hg hbx hown hn hBb hdB hE hsz ?_
  intro a W' lg v' hz hd hs h1 h2 h3 h4 h5 h6 h7
  have e := frame_act 105 a _ hz hd (fun j => decide (86 ≤ j ∧ j ≤ 102)) (fun s hp => by
    have hp' := of_decide_eq_false hp
    exact hs s (by omega))
  have e2 : a = ⟨(List.toArray (.pointer (some ⟨d, 0, none⟩) :: q1 :: q2 :: q3 :: q4 :: .pointer (some ⟨B, 0, none⟩) :: q6 :: q7 :: q8 :: q9 :: q10 :: q11 :: q12 :: q13 :: q14 :: q15 :: q16 :: q17 :: q18 :: q19 :: q20 :: q21 :: q22 :: q23 :: q24 :: q25 :: q26 :: q27 :: q28 :: q29 :: q30 :: q31 :: q32 :: q33 :: q34 :: q35 :: q36 :: q37 :: q38 :: q39 :: q40 :: q41 :: q42 :: q43 :: q44 :: q45 :: q46 :: q47 :: q48 :: q49 :: q50 :: q51 :: q52 :: q53 :: q54 :: q55 :: q56 :: q57 :: q58 :: q59 :: q60 :: q61 :: q62 :: q63 :: q64 :: q65 :: q66 :: q67 :: q68 :: q69 :: q70 :: q71 :: q72 :: q73 :: q74 :: q75 :: q76 :: q77 :: q78 :: q79 :: q80 :: q81 :: q82 :: q83 :: q84 :: q85 :: a.eval (.tmp 86) :: a.eval (.tmp 87) :: a.eval (.tmp 88) :: a.eval (.tmp 89) :: a.eval (.tmp 90) :: a.eval (.tmp 91) :: a.eval (.tmp 92) :: a.eval (.tmp 93) :: a.eval (.tmp 94) :: a.eval (.tmp 95) :: a.eval (.tmp 96) :: a.eval (.tmp 97) :: a.eval (.tmp 98) :: a.eval (.tmp 99) :: a.eval (.tmp 100) :: a.eval (.tmp 101) :: a.eval (.tmp 102) :: q103 :: q104 :: [])), []⟩ := e
  have h := hexit (a.eval (.tmp 86)) (a.eval (.tmp 87)) (a.eval (.tmp 88)) (a.eval (.tmp 89)) (a.eval (.tmp 90)) (a.eval (.tmp 91)) (a.eval (.tmp 92)) (a.eval (.tmp 93)) (a.eval (.tmp 94)) (a.eval (.tmp 95)) (a.eval (.tmp 96)) (a.eval (.tmp 97)) (a.eval (.tmp 98)) (a.eval (.tmp 99)) (a.eval (.tmp 100)) (a.eval (.tmp 101)) (a.eval (.tmp 102)) W' lg v' h1 h2 h3 h4 h5 h6 h7
  rw [← e2] at h
  exact h
end Go.Proofs
end

section
/- Words for memory: flat records of the call's own, and what stands with their block. -/
namespace Go.Proofs
open Go.RowKit

theorem flat_sup {α : Type} {enc : α → List Value} {sz : Nat} {R : World → α → List Value → Prop} (hR : ∀ w x, R w x (enc x)) (hR2 : ∀ w w' x vs, R w x vs → R w' x vs) (hs : ∀ x, (enc x).length = sz) (hz : 0 < sz) {W : World} {base : Nat} {e : TypeId} {v : Value} {l : List α}
    (h : W.ownsRow base e sz v l.length (l.flatMap enc)) (hl : l.length * sz ≤ 17592186043904) : ∃ A c, v = .slice A l.length c ∧ Sup W (fun k => v.ownBlock = some k) (fun W' => RowsP W' A sz R l) := by
  obtain ⟨A, c, rfl, _, hi⟩ := own_rows hR hs hz h hl
  have := RowsP.sup hi (fun _ => False) (fun _ h => h.elim) (fun x _ vs hv => ⟨fun _ h => h.elim, fun _ _ _ => hR2 _ _ _ _ hv⟩)
  exact ⟨A, c, rfl, this.wide (fun k hk => hk.elim (fun h => h.elim) (fun ⟨_, o, e⟩ => by subst e; rfl)) (fun k e => (h.lt k e).2)⟩
theorem ways_sup {W : World} {base : Nat} {v : Value} {l : List Way} (h : W.ownsRow base 65 3 v l.length (l.flatMap encWay)) (hl : l.length ≤ 1000) : ∃ A c, v = .slice A l.length c ∧ Sup W (fun k => v.ownBlock = some k) (fun W' => RowsP W' A 3 WayR l) :=
  flat_sup (R := WayR) (fun _ _ => rfl) (fun _ _ _ _ h => h) (fun _ => rfl) (by decide) h (by omega)
theorem legs_sup {W : World} {base : Nat} {v : Value} {l : List Leg} (h : W.ownsRow base 70 2 v l.length (l.flatMap encLeg)) (hl : l.length ≤ 1000) : ∃ A c, v = .slice A l.length c ∧ Sup W (fun k => v.ownBlock = some k) (fun W' => RowsP W' A 2 LegR l) :=
  flat_sup (R := LegR) (fun _ _ => rfl) (fun _ _ _ _ h => h) (fun _ => rfl) (by decide) h (by omega)
theorem Sup.keep {W0 W : World} {S : Nat → Prop} {P : World → Prop} (h : Sup W0 S P) (hk : ∀ k, S k → W.heap[k]? = W0.heap[k]?) (hs : W0.heap.size ≤ W.heap.size) : Sup W S P :=
  ⟨fun k hS => Nat.lt_of_lt_of_le (h.1 k hS) hs, fun W' h1 h2 => h.2 W' (fun k hS => (h1 k hS).trans (hk k hS)) (Nat.le_trans hs h2)⟩
/-- The same, when the legs alone came later. -/
theorem trepF_keep {W0 W : World} {d base : Nat} {p : Int} {v1 v2 v3 v4 : Value} {S : Nat → Prop} {xs : List Value} {ws : List Way} {ls : List (List Mean)} {ns : List Int} {lg : List Leg} (hd : d < base)
    (h1 : W0.ownsRow base 65 3 v1 ws.length (ws.flatMap encWay)) (h2 : OwnK WordR 68 1 base v2 S ls xs W0) (h3 : W0.ownsRow base 3 1 v3 ns.length (ns.map (Value.int .i64))) (h4 : W.ownsRow W0.heap.size 70 2 v4 lg.length (lg.flatMap encLeg))
    (hk : ∀ k, base ≤ k → k < W0.heap.size → W.heap[k]? = W0.heap[k]?) (hs : W0.heap.size ≤ W.heap.size) (hb : base ≤ W0.heap.size)
    (l1 : ws.length ≤ 1000) (l2 : ls.length ≤ 1000) (l3 : ns.length ≤ 1000) (l4 : lg.length ≤ 1000) :
    ∃ a1 a2 a3 a4 c1 c2 c3 c4, v1 = .slice a1 ws.length c1 ∧ v2 = .slice a2 ls.length c2 ∧ v3 = .slice a3 ns.length c3 ∧ v4 = .slice a4 lg.length c4 ∧ TRepF d W ⟨p, ws, ls, ns, lg⟩ a1 a2 a3 a4 := by
  obtain ⟨a1, c1, e1, s1⟩ := ways_sup h1 l1
  obtain ⟨a2, c2, e2, _, s2⟩ := h2.rowsP (by omega)
  obtain ⟨a3, c3, e3, s3⟩ := own_sup h3 (by omega)
  obtain ⟨a4, c4, e4, s4⟩ := legs_sup h4 l4
  have hb2 : ∀ k, (S k ∨ v2.ownBlock = some k) → base ≤ k := fun k e => e.elim (fun e => (h2.far k e).1) (fun e => (h2.own.lt k e).1)
  have s1 := s1.keep (fun k e => hk k (h1.lt k e).1 (h1.lt k e).2) hs
  have s2 := s2.keep (fun k e => hk k (hb2 k e) (s2.1 k e)) hs
  have s3 := s3.keep (fun k e => hk k (h3.lt k e).1 (h3.lt k e).2) hs
  refine ⟨a1, a2, a3, a4, c1, c2, c3, c4, e1, e2, e3, e4, fun W' hg => ?_⟩
  refine ⟨s1.firm (fun e => ?_) W' hg, s2.firm (fun e => ?_) W' hg, s3.firm (fun e => ?_) W' hg, s4.firm (fun e => ?_) W' hg⟩
  · have := (h1.lt d e).1; omega
  · have := hb2 d e; omega
  · have := (h3.lt d e).1; omega
  · have := (h4.lt d e).1; omega
/-- A record of five cells that is written over. -/
theorem blk_five {w : World} {g : Nat} {t : TypeId} {y0 y1 y2 y3 y4 : Value} (h : Blk w g t #[y0, y1, y2, y3, y4]) (v0 v1 v2 v3 v4 : Value) :
    Blk (((((w.setCell ⟨g, 0, none⟩ v0).setCell ⟨g, 1, none⟩ v1).setCell ⟨g, 2, none⟩ v2).setCell ⟨g, 3, none⟩ v3).setCell ⟨g, 4, none⟩ v4) g t #[v0, v1, v2, v3, v4] ∧
    w.grownBy (((((w.setCell ⟨g, 0, none⟩ v0).setCell ⟨g, 1, none⟩ v1).setCell ⟨g, 2, none⟩ v2).setCell ⟨g, 3, none⟩ v3).setCell ⟨g, 4, none⟩ v4) (some g) := by
  have h0 : Blk (w.setCell ⟨g, 0, none⟩ v0) g t #[v0, y1, y2, y3, y4] := h.store 0 v0
  have g0 : w.grownBy (w.setCell ⟨g, 0, none⟩ v0) (some g) := only_setCell (only_refl w (some g)) (p := ⟨g, 0, none⟩) (.inl rfl) v0
  generalize w.setCell ⟨g, 0, none⟩ v0 = W0 at *
  have h1 : Blk (W0.setCell ⟨g, 1, none⟩ v1) g t #[v0, v1, y2, y3, y4] := h0.store 1 v1
  have g1 := only_setCell g0 (p := ⟨g, 1, none⟩) (.inl rfl) v1
  generalize W0.setCell ⟨g, 1, none⟩ v1 = W1 at *
  have h2 : Blk (W1.setCell ⟨g, 2, none⟩ v2) g t #[v0, v1, v2, y3, y4] := h1.store 2 v2
  have g2 := only_setCell g1 (p := ⟨g, 2, none⟩) (.inl rfl) v2
  generalize W1.setCell ⟨g, 2, none⟩ v2 = W2 at *
  have h3 : Blk (W2.setCell ⟨g, 3, none⟩ v3) g t #[v0, v1, v2, v3, y4] := h2.store 3 v3
  have g3 := only_setCell g2 (p := ⟨g, 3, none⟩) (.inl rfl) v3
  generalize W2.setCell ⟨g, 3, none⟩ v3 = W3 at *
  exact ⟨h3.store 4 v4, only_setCell g3 (p := ⟨g, 4, none⟩) (.inl rfl) v4⟩
end Go.Proofs
end
