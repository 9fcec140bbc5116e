/- Own texts, merged: Few Rea Yen Ydr Mgg. -/
import Derived.Test.YtfliejmidnnggaaY07
import Derived.Test.YtfliejmidnnggaaY08
import Derived.Shelf.Slices.Cells
section
/- Walks: the maker of the iterator; Fewest. -/
namespace Go.Proofs
open Go.RowKit
attribute [local go_sem] Oper.semAt_some

theorem readings_any (T : Treaty) (a1 a2 a3 a4 : Option Addr) (c1 c2 c3 c4 : Nat) (w : World) : Calls Try.prog 73 #[.agg #[.int .i64 T.places, .slice a1 T.ways.length c1, .slice a2 T.words.length c2, .slice a3 T.starts.length c3, .slice a4 T.legs.length c4]] w fun e w' => e = .returned (.func (.func 109) #[] #[.pointer (some ⟨w.heap.size, 0, none⟩)]) ∧ w' = w.alloc (.cells #[.int .i64 T.places, .slice a1 T.ways.length c1, .slice a2 T.words.length c2, .slice a3 T.starts.length c3, .slice a4 T.legs.length c4] 27) := by
  go_enter Try.func73, Try.ntmps73
  go_wp2_with fail
  go_ret
  exact ⟨rfl, rfl⟩

theorem GivesR.put {T : Treaty} {k : Nat} {W0 W : World} {v : Value} (h : GivesR T k W0 W v) {r : Nat} (hr : r < W0.heap.size) (o : Obj) : GivesR T k (W0.putObj r o) (W.putObj r o) v := by
  unfold GivesR at h ⊢
  have hs : (W0.putObj r o).heap.size = W0.heap.size := by simp [World.putObj]
  rw [hs]
  refine h.kept (grownBy_putObj' W r o) ?_
  cases hb : v.ownBlock with
  | none => exact .inl rfl
  | some g => exact .inr fun e => by cases e; have := own_ge h _ hb; omega

/-- What a reading costs: how few legs must yield. -/
noncomputable def costL (T : Treaty) (R : List Int) : Int := flo T (leadsF T R) T.legs.length (lastAt T (leadsF T R))
noncomputable def fewStep (T : Treaty) (x : List Int × Int) (R : List Int) : List Int × Int := if costL T R < x.2 then (R, costL T R) else x
/-- The best of the first readings, and what it costs. -/
noncomputable def fewK (T : Treaty) (k : Nat) : List Int × Int := ((readingsL T).take k).foldl (fewStep T) ([], 11)
theorem fewK_zero (T : Treaty) : fewK T 0 = ([], 11) := rfl
theorem fewK_succ (T : Treaty) {k : Nat} (h : k < prodN (lensOf T)) : fewK T (k + 1) = fewStep T (fewK T k) (dig (lensOf T) k) := by
  have h' : k < (readingsL T).length := by rw [readingsL_len]; exact h
  unfold fewK
  rw [List.take_succ_eq_append_getElem h', List.foldl_append, readingsL_get]
  rfl

/-- What Fewest answers. -/
def FewestR (w : World) (T : Treaty) (e : Ending) (w' : World) : Prop :=
  Aft w w' ∧ ((checkE T ≠ 0 ∧ e = .returned (.tuple #[.slice none 0 0, .int .i64 0, .int .i64 (checkE T)])) ∨
    (checkE T = 0 ∧ ∃ v, e = .returned (.tuple #[v, .int .i64 (fewK T (prodN (lensOf T))).2, .int .i64 0]) ∧ w'.ownsRow w.heap.size 3 1 v (fewK T (prodN (lensOf T))).1.length ((fewK T (prodN (lensOf T))).1.map (Value.int .i64))))

/-- Between two rounds of Fewest. -/
structure FewI (w : World) (T : Treaty) (a1 a2 a3 a4 : Option Addr) (c1 c2 c3 c4 : Nat) (S k : Nat) (W : World) : Prop where
  aft : Aft w W
  box : Blk W w.heap.size 27 #[.int .i64 T.places, .slice a1 T.ways.length c1, .slice a2 T.words.length c2, .slice a3 T.starts.length c3, .slice a4 T.legs.length c4]
  box2 : Blk W (S + 2) 27 #[.int .i64 T.places, .slice a1 T.ways.length c1, .slice a2 T.words.length c2, .slice a3 T.starts.length c3, .slice a4 T.legs.length c4]
  many : Blk W (S + 1) 3 #[.int .i64 (fewK T k).2]
  best : ∃ v, Blk W S 24 #[v] ∧ W.ownsRow (S + 6) 3 1 v (fewK T k).1.length ((fewK T k).1.map (Value.int .i64))
theorem FewI.three {w : World} {T : Treaty} {a1 a2 a3 a4 : Option Addr} {c1 c2 c3 c4 : Nat} {S : Nat} (hS : w.heap.size < S) : Three (S + 3) (fun k W => FewI w T a1 a2 a3 a4 c1 c2 c3 c4 S k W) := by
  rintro k W W' r ⟨h1, h2, h3, h4, v, h5, h6⟩ hg hr1 hr2
  refine ⟨h1.grown hg (fun k e => by cases e; omega), h2.grown hg (fun e => by cases e; omega), h3.grown hg (fun e => by cases e; omega), h4.grown hg (fun e => by cases e; omega), v, h5.grown hg (fun e => by cases e; omega), h6.kept hg ?_⟩
  cases hb : v.ownBlock with
  | none => exact .inl rfl
  | some g => exact .inr fun e => by cases e; have := own_ge h6 _ hb; omega
theorem box_cells {W : World} {g : Nat} {T : Treaty} {a1 a2 a3 a4 : Option Addr} {c1 c2 c3 c4 : Nat} (h : Blk W g 27 #[.int .i64 T.places, .slice a1 T.ways.length c1, .slice a2 T.words.length c2, .slice a3 T.starts.length c3, .slice a4 T.legs.length c4]) :
    W.cell? ⟨g, 0, none⟩ = some (.int .i64 T.places) ∧ W.cell? ⟨g, 1, none⟩ = some (.slice a1 T.ways.length c1) ∧ W.cell? ⟨g, 2, none⟩ = some (.slice a2 T.words.length c2) ∧ W.cell? ⟨g, 3, none⟩ = some (.slice a3 T.starts.length c3) ∧ W.cell? ⟨g, 4, none⟩ = some (.slice a4 T.legs.length c4) :=
  ⟨h.cell 0, h.cell 1, h.cell 2, h.cell 3, h.cell 4⟩

set_option maxRecDepth 100000 in
set_option maxHeartbeats 2000000 in
theorem fewest_any (w : World) (T : Treaty) (a1 a2 a3 a4 : Option Addr) (c1 c2 c3 c4 : Nat) (hT : TRep w T a1 a2 a3 a4) : Calls Try.prog 38 #[.agg #[.int .i64 T.places, .slice a1 T.ways.length c1, .slice a2 T.words.length c2, .slice a3 T.starts.length c3, .slice a4 T.legs.length c4]] w (FewestR w T) := by
  by_cases hc : checkE T = 0
  · have ok := checkE_ok hc
    have HC := Lib.hid hc
    have HT := Lib.hid hT
    clear hc hT
    have HCK : Hid (∀ W, Aft w W → Calls Try.prog 13 #[.agg #[.int .i64 T.places, .slice a1 T.ways.length c1, .slice a2 T.words.length c2, .slice a3 T.starts.length c3, .slice a4 T.legs.length c4]] W fun e w' => e = .returned (.int .i64 (checkE T)) ∧ Aft W w') := Lib.hid fun W ha => check_any T a1 a2 a3 a4 c1 c2 c3 c4 W (HT.out.aft ha)
    rw [HC.out] at HCK
    refine (callsIn_wide (n := 5)).1 ?_
    refine callsIn_of_wp_marks Try.func38 rfl trivial ?_ rfl
    simp only [Try.ntmps38, List.size_toArray, List.length_cons, List.length_nil, Nat.reduceAdd, Nat.reduceSub, Array.replicate_succ, Array.replicate_zero, List.push_toArray, List.append_toArray, List.nil_append, List.cons_append]
    refine wpIn_wide.2 ?_
    go_upto_block 0 with (first
      | (go_at_call 13; refine (HCK.out _ (Aft.alloc _ _)).mono ?_; rintro e w1 ⟨rfl, ha1⟩; have hb1 := (Blk.new w 27 _).aft ha1; have hlt1 := hb1.lt; obtain ⟨k0, k1, k2, k3, k4⟩ := box_cells hb1)
      | (go_at_call 73; refine (readings_any T a1 a2 a3 a4 c1 c2 c3 c4 _).mono ?_; rintro e w4 ⟨rfl, rfl⟩))
    have hA4 : Aft w (((w1.alloc (.cells #[.slice none 0 0] 24)).alloc (.cells #[.int .i64 11] 3)).alloc (.cells #[.int .i64 T.places, .slice a1 T.ways.length c1, .slice a2 T.words.length c2, .slice a3 T.starts.length c3, .slice a4 T.legs.length c4] 27)) := ((((Aft.alloc w _).trans ha1).then_alloc _).then_alloc _).then_alloc _
    have hb4 := ((hb1.alloc (.cells #[.slice none 0 0] 24)).alloc (.cells #[.int .i64 11] 3)).alloc (.cells #[.int .i64 T.places, .slice a1 T.ways.length c1, .slice a2 T.words.length c2, .slice a3 T.starts.length c3, .slice a4 T.legs.length c4] 27)
    have hc4 := ((Blk.new w1 24 #[.slice none 0 0]).alloc (.cells #[.int .i64 11] 3)).alloc (.cells #[.int .i64 T.places, .slice a1 T.ways.length c1, .slice a2 T.words.length c2, .slice a3 T.starts.length c3, .slice a4 T.legs.length c4] 27)
    have hd4 := (Blk.new (w1.alloc (.cells #[.slice none 0 0] 24)) 3 #[.int .i64 11]).alloc (.cells #[.int .i64 T.places, .slice a1 T.ways.length c1, .slice a2 T.words.length c2, .slice a3 T.starts.length c3, .slice a4 T.legs.length c4] 27)
    have he4 := Blk.new ((w1.alloc (.cells #[.slice none 0 0] 24)).alloc (.cells #[.int .i64 11] 3)) 27 #[.int .i64 T.places, .slice a1 T.ways.length c1, .slice a2 T.words.length c2, .slice a3 T.starts.length c3, .slice a4 T.legs.length c4]
    have hz4 : (((w1.alloc (.cells #[.slice none 0 0] 24)).alloc (.cells #[.int .i64 11] 3)).alloc (.cells #[.int .i64 T.places, .slice a1 T.ways.length c1, .slice a2 T.words.length c2, .slice a3 T.starts.length c3, .slice a4 T.legs.length c4] 27)).heap.size = w1.heap.size + 3 := by simp
    simp only [World.size_alloc] at hd4 he4
    clear k0 k1 k2 k3 k4 hb1 ha1
    generalize (((w1.alloc (.cells #[.slice none 0 0] 24)).alloc (.cells #[.int .i64 11] 3)).alloc (.cells #[.int .i64 T.places, .slice a1 T.ways.length c1, .slice a2 T.words.length c2, .slice a3 T.starts.length c3, .slice a4 T.legs.length c4] 27)) = w4 at *
    generalize w1.heap.size = S at *
    have HI0 : Hid (FewI w T a1 a2 a3 a4 c1 c2 c3 c4 S 0 w4) := Lib.hid ⟨hA4, hb4, he4, hd4, _, hc4, World.ownsRow_nil _ _ 3 1⟩
    clear hA4 hb4 hc4 hd4 he4
    refine wp_block ?_
    refine (wpIn_wide (n := 5)).1 ?_
    refine wpIn_range3 (gf := 109) (lb := #[.pointer (some ⟨S + 1 + 1, 0, none⟩)]) rfl (fun args w => by simp [go_sem]) (iter109 _ (S + 1 + 1) _ T a2 c2 ok) (fun k W0 W v r o h hr => h.put hr o)
      (fun k W => FewI w T a1 a2 a3 a4 c1 c2 c3 c4 S k W) (fun _ _ => False) (by rw [hz4]; exact FewI.three hlt1) (fun _ _ _ _ _ h _ _ _ => h) (fun k W h => ⟨(box_cells h.box2).2.2.1, (HT.out.aft h.aft).words⟩) HI0.out
      (fun v => { tmps := #[.agg #[.int .i64 T.places, .slice a1 T.ways.length c1, .slice a2 T.words.length c2, .slice a3 T.starts.length c3, .slice a4 T.legs.length c4], .pointer (some ⟨w.heap.size, 0, none⟩), .slice none 0 0, .int .i64 0, .int .i64 0, .int .i64 0, .pointer (some ⟨S, 0, none⟩), .pointer (some ⟨S + 1, 0, none⟩), v, undef, undef, undef, .agg #[.int .i64 T.places, .slice a1 T.ways.length c1, .slice a2 T.words.length c2, .slice a3 T.starts.length c3, .slice a4 T.legs.length c4], .int .i64 0, .int .i64 0, .bool false, undef, .agg #[.int .i64 T.places, .slice a1 T.ways.length c1, .slice a2 T.words.length c2, .slice a3 T.starts.length c3, .slice a4 T.legs.length c4], .func (.func 109) #[] #[.pointer (some ⟨S + 1 + 1, 0, none⟩)], v, undef, undef, undef, undef, undef, undef, undef, undef, undef, undef, undef, undef, undef, undef, undef, undef, undef, undef, undef, undef, undef, undef, undef], defers := [] }) ?assign ?body ?done ?stop
    case assign =>
      intro l v W K hK
      gi_wp2_with fail
      exact hK
    case body =>
      intro l k v W0 W hk hI ha hB hv
      have hdl : (dig (lensOf T) k).length ≤ 6 := by rw [dig_len]; simp only [lensOf, List.length_map]; exact ok.nwords
      obtain ⟨AR, cR, rfl, _, hir⟩ := own_ints hv (by omega)
      have hTW := HT.out.aft (hI.aft.trans ha)
      have hro := readOk_iff.2 (dig_ok _ _ ok.lens hk)
      have HOP := Lib.hid (opened_any W T a1 a2 a3 a4 c1 c2 c3 c4 (dig (lensOf T) k) AR cR hTW hir ok hro)
      have HFS := Lib.hid (fewK_succ T hk)
      have HII := Lib.hid hI
      have HV : Hid (W.ownsRow W0.heap.size 3 1 (.slice AR (dig (lensOf T) k).length cR) (dig (lensOf T) k).length ((dig (lensOf T) k).map (Value.int .i64))) := Lib.hid hv
      have HAA := Lib.hid ha
      have hbW := hI.box.aft ha
      obtain ⟨k0, k1, k2, k3, k4⟩ := box_cells hbW
      have hltW := hbW.lt
      have hmW : W.cell? ⟨S + 1, 0, none⟩ = some (.int .i64 (fewK T k).2) := (hI.many.aft ha).cell 0
      have hmlt := (hI.many.aft ha).lt
      have hbB := hI.box
      have HBW := Lib.hid hbW
      have OK := Lib.hid ok
      clear hTW hro hI hv ha hir hbW ok hbB
      generalize dig (lensOf T) k = R at *
      have HFL := Lib.hid (fun (w5 : World) (D : Nat) (ha5 : Aft W w5) (hd : Desk w5 D T a1 a2 a3 a4 c1 c2 c3 c4 (leadsF T R)) => floors_any D T a1 a2 a3 a4 c1 c2 c3 c4 (leadsF T R) w5 hd (HT.out.starts.aft ((HII.out.aft.trans HAA.out).trans ha5)) OK.out.p1 OK.out.p2 OK.out.nlegs)
      gi_wp2_with (first
        | ((with_reducible refine And.intro ?_ ?_); (exact trivial); gi_at_call 74; refine (CallsIn.inRound l (callsIn_wide.2 HOP.out)).mono ?_; rintro e w5 ⟨D, cs, rfl, hD, ha5, hbD, hgD⟩; have hd5 := hgD.desk hbD; have HD5 := Lib.hid hd5; have HA5 := Lib.hid ha5; clear hbD hgD hd5 ha5 HOP)
        | ((with_reducible refine And.intro ?_ ?_); (exact trivial); gi_at_call 78; refine (CallsIn.inRound l (callsIn_wide.2 (HFL.out w5 D HA5.out HD5.out))).mono ?_; rintro e w6 ⟨L, cs2, g, rfl, hbL, hgL, hgf, hL, ha6⟩; have HBL := Lib.hid hbL; have HGL := Lib.hid hgL; have HGF := Lib.hid hgf; have HA6 := Lib.hid ha6; have HD6 := Lib.hid (HD5.out.aft ha6); clear hbL hgL hgf ha6 HFL HD5))
      have HAW := Lib.hid (HA5.out.trans HA6.out)
      have hb6 := HBW.out.aft HAW.out
      have hlt6 := hb6.lt
      have hL6 := HBL.out.lt
      have hS6 := Nat.lt_of_lt_of_le hmlt HAW.out.size
      obtain ⟨k0', k1', k2', k3', k4'⟩ := box_cells hb6
      have hm6 : w6.cell? ⟨S + 1, 0, none⟩ = some (.int .i64 (fewK T k).2) := cell_aftX HAW.out hmlt hmW
      have hnl := OK.out.nlegs
      have hp1 := OK.out.p1
      have hp2 := OK.out.p2
      obtain ⟨p, hpp⟩ := Int.eq_ofNat_of_zero_le (show 0 ≤ T.places by omega)
      have hb0 : argmin (g T.legs.length) T.places.toNat = lastAt T (leadsF T R) := argmin_congr (fun j hj => HGF.out _ j (Nat.le_refl _) hj) (fun _ => HGF.out _ 0 (Nat.le_refl _) (by omega)) _ (Nat.le_refl _)
      have hblt : lastAt T (leadsF T R) < T.places.toNat := by unfold lastAt; exact argmin_lt _ _ _ (by omega) (by omega)
      have hcost : w6.cell? ⟨L, T.legs.length * 12 + lastAt T (leadsF T R), none⟩ = some (.int .i64 (costL T R)) := by
        have := (HBL.out.cell (T.legs.length * 12 + lastAt T (leadsF T R))).trans (HGL.out.at_ T.legs.length (lastAt T (leadsF T R)) (by omega) (by omega))
        rw [this, HGF.out _ _ (Nat.le_refl _) hblt]; rfl
      have HEN : Hid (∀ X, Aft w6 X → Calls Try.prog 79 #[.pointer (some ⟨D, 0, none⟩), .pointer (some ⟨L, 0, none⟩)] X fun e w' => e = .returned (.int .i64 (lastAt T (leadsF T R) : Nat)) ∧ Aft X w') := Lib.hid fun X hX => by
        have := end_any D L T a1 a2 a3 a4 c1 c2 c3 c4 (leadsF T R) cs2 g X (HD6.out.aft hX) (HBL.out.aft hX) HGL.out hp1 hp2 hnl
        rwa [hb0] at this
      have hal : lastAt T (leadsF T R) < 12 := by omega
      clear k0 k1 k2 k3 k4 hmW hb6 hb0 hblt hpp
      have HCO := Lib.hid (show costL T R = costL T R from rfl)
      generalize lastAt T (leadsF T R) = la at *
      generalize hcs : costL T R = co at hcost
      have HCS := Lib.hid hcs
      clear hcs HCO
      have hmx : Try.prog.follows .mixedOrders = true := by kernel_rfl
      refine wpIn_region_vals hmx (by kernel_rfl) 43 rfl (by kernel_rfl) [.pointer (some ⟨L, 0, none⟩), .pointer (some ⟨w.heap.size, 4, none⟩), .slice a4 T.legs.length c4, .int .i64 T.legs.length, .pointer (some ⟨D, 0, none⟩), .pointer (some ⟨L, 0, none⟩), .int .i64 la, .pointer (some ⟨L, 0, none⟩), .pointer (some ⟨L, T.legs.length * 12, none⟩), .pointer (some ⟨L, T.legs.length * 12 + la, none⟩), .int .i64 co, .int .i64 co] rfl (fun X => Aft w6 X) (Aft.drew _) ?step ?fin
      case step =>
        intro i o v ho hv a X hk hX K hK
        match i, ho, hv with
        | 0, ho, hv =>
          cases ho; cases hv
          have e : a.eval (.tmp 10) = .pointer (some ⟨L, 0, none⟩) := (hk.same 10 (by decide)).trans rfl
          exact op_val (by simp [go_sem, ev' e]) (hK _ hX)
        | 1, ho, hv =>
          cases ho; cases hv
          have e : a.eval (.tmp 1) = .pointer (some ⟨w.heap.size, 0, none⟩) := (hk.same 1 (by decide)).trans rfl
          exact op_val (by simp [go_sem, ev' e]) (hK _ hX)
        | 2, ho, hv =>
          cases ho; cases hv
          have e : a.eval (.tmp 26) = .pointer (some ⟨w.heap.size, 4, none⟩) := hk.at_ 1 _ 26 _ rfl (by decide) _ rfl rfl rfl
          have hc := cell_aftX hX hlt6 k4'
          exact op_val (by simp [go_sem, ev' e, hc]) (hK _ hX)
        | 3, ho, hv =>
          cases ho; cases hv
          have e : a.eval (.tmp 27) = .slice a4 T.legs.length c4 := hk.at_ 2 _ 27 _ rfl (by decide) _ rfl rfl rfl
          exact op_val (by simp [go_sem, ev' e]) (hK _ hX)
        | 4, ho, hv =>
          cases ho; cases hv
          have e : a.eval (.tmp 9) = .pointer (some ⟨D, 0, none⟩) := (hk.same 9 (by decide)).trans rfl
          exact op_val (by simp [go_sem, ev' e]) (hK _ hX)
        | 5, ho, hv =>
          cases ho; cases hv
          have e : a.eval (.tmp 10) = .pointer (some ⟨L, 0, none⟩) := (hk.same 10 (by decide)).trans rfl
          exact op_val (by simp [go_sem, ev' e]) (hK _ hX)
        | 6, ho, hv =>
          cases ho; cases hv
          have e : a.eval (.tmp 29) = .pointer (some ⟨D, 0, none⟩) := hk.at_ 4 _ 29 _ rfl (by decide) _ rfl rfl rfl
          have e2 : a.eval (.tmp 30) = .pointer (some ⟨L, 0, none⟩) := hk.at_ 5 _ 30 _ rfl (by decide) _ rfl rfl rfl
          refine op_call2 Try.func79 (by kernel_rfl) (by kernel_rfl) _ _ rfl e e2 (HEN.out X hX) ?_
          rintro e w' ⟨rfl, ha7⟩
          exact ⟨_, rfl, hK _ (hX.trans ha7)⟩
        | 7, ho, hv =>
          cases ho; cases hv
          have e : a.eval (.tmp 25) = .pointer (some ⟨L, 0, none⟩) := hk.at_ 0 _ 25 _ rfl (by decide) _ rfl rfl rfl
          exact op_val (by simp [go_sem, ev' e]) (hK _ hX)
        | 8, ho, hv =>
          cases ho; cases hv
          have e : a.eval (.tmp 32) = .pointer (some ⟨L, 0, none⟩) := hk.at_ 7 _ 32 _ rfl (by decide) _ rfl rfl rfl
          have e2 : a.eval (.tmp 28) = .int .i64 T.legs.length := hk.at_ 3 _ 28 _ rfl (by decide) _ rfl rfl rfl
          have i1 : (0 : Int) ≤ (T.legs.length : Int) ∧ (T.legs.length : Int) < 11 := by omega
          exact op_val (by simp [go_sem, ev' e, ev' e2, i1]) (hK _ hX)
        | 9, ho, hv =>
          cases ho; cases hv
          have e : a.eval (.tmp 33) = .pointer (some ⟨L, T.legs.length * 12, none⟩) := hk.at_ 8 _ 33 _ rfl (by decide) _ rfl rfl rfl
          have e2 : a.eval (.tmp 31) = .int .i64 la := hk.at_ 6 _ 31 _ rfl (by decide) _ rfl rfl rfl
          have i1 : (0 : Int) ≤ (la : Int) ∧ (la : Int) < 12 := by omega
          exact op_val (by simp [go_sem, ev' e, ev' e2, i1]) (hK _ hX)
        | 10, ho, hv =>
          cases ho; cases hv
          have e : a.eval (.tmp 34) = .pointer (some ⟨L, T.legs.length * 12 + la, none⟩) := hk.at_ 9 _ 34 _ rfl (by decide) _ rfl rfl rfl
          have hc := cell_aftX hX hL6 hcost
          exact op_val (by simp [go_sem, ev' e, hc]) (hK _ hX)
        | 11, ho, hv =>
          cases ho; cases hv
          have e : a.eval (.tmp 35) = .int .i64 co := hk.at_ 10 _ 35 _ rfl (by decide) _ rfl rfl rfl
          exact op_val (by simp [go_sem, ev' e]) (hK _ hX)
        | _ + 12, ho, _ => cases ho
      case fin =>
        intro X hX
        simp only [List.zip_cons_cons, List.zip_nil_right, putAll, Act.put, List.setIfInBounds_toArray, List.set_cons_succ, List.set_cons_zero]
        have hA7 := HAA.out.trans (HAW.out.trans hX)
        have hmB := HII.out.many.aft hA7
        obtain ⟨bv, hbv1, hbv2⟩ := HII.out.best
        have hsB := hbv1.aft hA7
        have c7 : X.cell? ⟨S + 1, 0, none⟩ = some (.int .i64 (fewK T k).2) := hmB.cell 0
        have c8 : X.cell? ⟨S, 0, none⟩ = some bv := hsB.cell 0
        have f7 := hmB.frozen 0
        have f8 := hsB.frozen 0
        have hl7 := hmB.lt
        have HX := Lib.hid hX
        have HMB := Lib.hid hmB
        have HSB := Lib.hid hsB
        have HBV := Lib.hid hbv2
        have HA7 := Lib.hid hA7
        clear hX hmB hsB hbv1 hbv2 hA7 hm6 k0' k1' k2' k3' k4' hcost
        by_cases hcm : co < (fewK T k).2
        · have HFK : Hid (fewK T (k + 1) = (R, co)) := Lib.hid (by rw [HFS.out]; unfold fewStep; rw [HCS.out, if_pos hcm])
          gi_wp2_with fail
          rw [hz4] at hB ⊢
          have hWW := HAW.out.trans HX.out
          have hsz := HAA.out.size
          refine ⟨((Kept3.of_aft hWW (by omega)).setCell (.inl (by show S < S + 3; omega)) _).setCell (.inl (by show S + 1 < S + 3; omega)) _, ?_⟩
          refine ⟨((HII.out.aft.trans HA7.out).then_setCell (p := ⟨S, 0, none⟩) (by show _ ≤ S; omega) _).then_setCell (p := ⟨S + 1, 0, none⟩) (by show _ ≤ S + 1; omega) _, ((HII.out.box.aft HA7.out).far (by show w.heap.size ≠ S; omega) _).far (by show w.heap.size ≠ S + 1; omega) _,
            ((HII.out.box2.aft HA7.out).far (by show S + 2 ≠ S; omega) _).far (by show S + 2 ≠ S + 1; omega) _, ?_, .slice AR R.length cR, (HSB.out.store 0 _).far (by show S ≠ S + 1; omega) _, ?_⟩
          · rw [HFK.out]
            exact (HMB.out.far (by show S + 1 ≠ S; omega) _).store 0 _
          · rw [HFK.out]
            exact own_kept (own_kept (World.ownsRow.mono (own_aft HV.out hWW) (by omega)) (grownBy_setCell' X S _) (by omega)) (grownBy_setCell' _ (S + 1) _) (by omega)
        · have HFK : Hid (fewK T (k + 1) = fewK T k) := Lib.hid (by rw [HFS.out]; unfold fewStep; rw [HCS.out, if_neg hcm])
          gi_wp2_with fail
          rw [hz4] at hB
          have hWW := HAW.out.trans HX.out
          have hsz := HAA.out.size
          refine ⟨Kept3.of_aft hWW (by omega), ?_⟩
          refine ⟨HII.out.aft.trans HA7.out, HII.out.box.aft HA7.out, HII.out.box2.aft HA7.out, by rw [HFK.out]; exact HMB.out, bv, HSB.out, by rw [HFK.out]; exact own_aft HBV.out HA7.out⟩
    case done =>
      intro D W hD hI hK
      obtain ⟨v, hb1, hb2⟩ := hI.best
      have c1 : W.cell? ⟨S, 0, none⟩ = some v := hb1.cell 0
      have c2 : W.cell? ⟨S + 1, 0, none⟩ = some (.int .i64 (fewK T (prodN (lensOf T))).2) := hI.many.cell 0
      have HA := Lib.hid hI.aft
      have HB2 := Lib.hid hb2
      have HKD := Lib.hid hK
      have hlt2 := hI.many.lt
      have hlt3 := hb1.lt
      have hDz : D = S + 3 := by omega
      clear hI hb1 hb2 hK hD
      obtain ⟨m2, hm2⟩ : ∃ m2, m2 = (fewK T (prodN (lensOf T))).2 := ⟨_, rfl⟩
      rw [← hm2] at c2
      have HM2 := Lib.hid hm2
      clear hm2
      go_wp2_with fail
      go_quiet (fail)
      go_wp2_with fail
      refine ⟨by simp, .inl ⟨_, _, rfl, run_takeDeferred (w := W.drewN nq) HKD.out, ?_⟩⟩
      refine ⟨.tuple #[v, .int .i64 m2, .int .i64 0], by simp [results, go_sem], ?_⟩
      rw [HM2.out]
      exact ⟨(HA.out.then_drewN _).grown (grownBy_putObj' _ _ _) (fun k e => by cases e; omega), .inr ⟨HC.out, v, rfl, World.ownsRow.mono (own_kept (own_aft HB2.out (Aft.drewN _ _)) (grownBy_putObj' _ D _) (by omega)) (by omega)⟩⟩
    case stop =>
      intro D c W _ h _
      exact h.elim
  · have HC := Lib.hid hc
    have hne : (checkE T != 0) = true := by simpa using hc
    have HCK : Hid (∀ W, Aft w W → Calls Try.prog 13 #[.agg #[.int .i64 T.places, .slice a1 T.ways.length c1, .slice a2 T.words.length c2, .slice a3 T.starts.length c3, .slice a4 T.legs.length c4]] W fun e w' => e = .returned (.int .i64 (checkE T)) ∧ Aft W w') := Lib.hid fun W ha => check_any T a1 a2 a3 a4 c1 c2 c3 c4 W (hT.aft ha)
    clear hc hT
    generalize hE : checkE T = E at *
    have HE := Lib.hid hE
    clear hE
    go_enter Try.func38, Try.ntmps38
    go_wp2_with (go_at_call 13; refine (HCK.out _ (Aft.alloc _ _)).mono ?_; rintro e w1 ⟨rfl, ha1⟩)
    refine bodyPost_ret (v := .tuple #[.slice none 0 0, .int .i64 0, .int .i64 E]) (by simp [results, Try.results38, go_sem]) rfl ?_
    exact ⟨(Aft.alloc _ _).trans ha1, .inl ⟨by rw [HE.out]; exact HC.out, by rw [HE.out]⟩⟩
end Go.Proofs
end

section
/- Walks: Readings. -/
namespace Go.Proofs
open Go.RowKit
attribute [local go_sem] Oper.semAt_some

/-- The readings in which some line agrees, of the first ones. -/
noncomputable def readK (T : Treaty) (k : Nat) : List (List Int) := ((readingsL T).take k).filter fun R => opens T (leadsF T R)
theorem readK_succ (T : Treaty) {k : Nat} (h : k < prodN (lensOf T)) : readK T (k + 1) = readK T k ++ if opens T (leadsF T (dig (lensOf T) k)) then [dig (lensOf T) k] else [] := by
  have h' : k < (readingsL T).length := by rw [readingsL_len]; exact h
  unfold readK
  rw [List.take_succ_eq_append_getElem h', List.filter_append, readingsL_get]
  simp [List.filter_cons]
theorem readK_len (T : Treaty) (k : Nat) : (readK T k).length ≤ k := Nat.le_trans (List.length_filter_le _ _) (by simp; omega)

/-- What Readings answers. -/
def ReadingsR (w : World) (T : Treaty) (e : Ending) (w' : World) : Prop :=
  Aft w w' ∧ ((checkE T ≠ 0 ∧ e = .returned (.tuple #[.slice none 0 0, .int .i64 (checkE T)])) ∨
    (checkE T = 0 ∧ ∃ v, e = .returned (.tuple #[v, .int .i64 0]) ∧ OwnLists w' w.heap.size v (readK T (prodN (lensOf T)))))

theorem own_slice {W : World} {base : Nat} {e : TypeId} {size : Nat} {v : Value} {k : Nat} {xs : List Value} (h : W.ownsRow base e size v k xs) : ∃ A n c, v = .slice A n c := by
  rcases h.2 with ⟨rfl, _⟩ | ⟨g, cap, _, rfl, _⟩
  · exact ⟨_, _, _, rfl⟩
  · exact ⟨_, _, _, rfl⟩
theorem OwnLs.kept3 {W W' : World} {base : Nat} {v : Value} {vs : List Value} {ls : List (List Int)} (h : OwnLs W base v vs ls) {r : Nat} (hg : W.grownBy W' (some r)) (hr : r < base) : OwnLs W' base v vs ls :=
  ⟨own_kept h.own hg hr, fun i hi hi' => own_kept (h.rows i hi hi') hg hr, h.apart⟩

/-- Between two rounds of Readings. -/
structure ReadI (w : World) (T : Treaty) (a1 a2 a3 a4 : Option Addr) (c1 c2 c3 c4 : Nat) (S k : Nat) (W : World) : Prop where
  aft : Aft w W
  box : Blk W w.heap.size 27 #[.int .i64 T.places, .slice a1 T.ways.length c1, .slice a2 T.words.length c2, .slice a3 T.starts.length c3, .slice a4 T.legs.length c4]
  box2 : Blk W (S + 1) 27 #[.int .i64 T.places, .slice a1 T.ways.length c1, .slice a2 T.words.length c2, .slice a3 T.starts.length c3, .slice a4 T.legs.length c4]
  out : ∃ v vs, Blk W S 41 #[v] ∧ OwnLs W (S + 5) v vs (readK T k)
theorem ReadI.three {w : World} {T : Treaty} {a1 a2 a3 a4 : Option Addr} {c1 c2 c3 c4 : Nat} {S : Nat} (hS : w.heap.size < S) : Three (S + 2) (fun k W => ReadI w T a1 a2 a3 a4 c1 c2 c3 c4 S k W) := by
  rintro k W W' r ⟨h1, h2, h3, v, vs, h5, h6⟩ hg hr1 hr2
  exact ⟨h1.grown hg (fun k e => by cases e; omega), h2.grown hg (fun e => by cases e; omega), h3.grown hg (fun e => by cases e; omega), v, vs, h5.grown hg (fun e => by cases e; omega), h6.kept3 hg (by omega)⟩

set_option maxRecDepth 100000 in
set_option maxHeartbeats 2000000 in
theorem readingsX_any (w : World) (T : Treaty) (a1 a2 a3 a4 : Option Addr) (c1 c2 c3 c4 : Nat) (hT : TRep w T a1 a2 a3 a4) : Calls Try.prog 43 #[.agg #[.int .i64 T.places, .slice a1 T.ways.length c1, .slice a2 T.words.length c2, .slice a3 T.starts.length c3, .slice a4 T.legs.length c4]] w (ReadingsR w T) := by
  by_cases hc : checkE T = 0
  · have ok := checkE_ok hc
    have HC := Lib.hid hc
    have HT := Lib.hid hT
    clear hc hT
    have HCK : Hid (∀ W, Aft w W → Calls Try.prog 13 #[.agg #[.int .i64 T.places, .slice a1 T.ways.length c1, .slice a2 T.words.length c2, .slice a3 T.starts.length c3, .slice a4 T.legs.length c4]] W fun e w' => e = .returned (.int .i64 (checkE T)) ∧ Aft W w') := Lib.hid fun W ha => check_any T a1 a2 a3 a4 c1 c2 c3 c4 W (HT.out.aft ha)
    rw [HC.out] at HCK
    refine (callsIn_wide (n := 5)).1 ?_
    refine callsIn_of_wp_marks Try.func43 rfl trivial ?_ rfl
    simp only [Try.ntmps43, List.size_toArray, List.length_cons, List.length_nil, Nat.reduceAdd, Nat.reduceSub, Array.replicate_succ, Array.replicate_zero, List.push_toArray, List.append_toArray, List.nil_append, List.cons_append]
    refine wpIn_wide.2 ?_
    go_upto_block 0 with (first
      | (go_at_call 13; refine (HCK.out _ (Aft.alloc _ _)).mono ?_; rintro e w1 ⟨rfl, ha1⟩; have hb1 := (Blk.new w 27 _).aft ha1; have hlt1 := hb1.lt; obtain ⟨k0, k1, k2, k3, k4⟩ := box_cells hb1)
      | (go_at_call 73; refine (readings_any T a1 a2 a3 a4 c1 c2 c3 c4 _).mono ?_; rintro e w4 ⟨rfl, rfl⟩))
    have hA4 : Aft w ((w1.alloc (.cells #[.slice none 0 0] 41)).alloc (.cells #[.int .i64 T.places, .slice a1 T.ways.length c1, .slice a2 T.words.length c2, .slice a3 T.starts.length c3, .slice a4 T.legs.length c4] 27)) := (((Aft.alloc w _).trans ha1).then_alloc _).then_alloc _
    have hb4 := (hb1.alloc (.cells #[.slice none 0 0] 41)).alloc (.cells #[.int .i64 T.places, .slice a1 T.ways.length c1, .slice a2 T.words.length c2, .slice a3 T.starts.length c3, .slice a4 T.legs.length c4] 27)
    have hc4 := (Blk.new w1 41 #[.slice none 0 0]).alloc (.cells #[.int .i64 T.places, .slice a1 T.ways.length c1, .slice a2 T.words.length c2, .slice a3 T.starts.length c3, .slice a4 T.legs.length c4] 27)
    have he4 := Blk.new (w1.alloc (.cells #[.slice none 0 0] 41)) 27 #[.int .i64 T.places, .slice a1 T.ways.length c1, .slice a2 T.words.length c2, .slice a3 T.starts.length c3, .slice a4 T.legs.length c4]
    have hz4 : ((w1.alloc (.cells #[.slice none 0 0] 41)).alloc (.cells #[.int .i64 T.places, .slice a1 T.ways.length c1, .slice a2 T.words.length c2, .slice a3 T.starts.length c3, .slice a4 T.legs.length c4] 27)).heap.size = w1.heap.size + 2 := by simp
    simp only [World.size_alloc] at he4
    clear k0 k1 k2 k3 k4 hb1 ha1
    generalize ((w1.alloc (.cells #[.slice none 0 0] 41)).alloc (.cells #[.int .i64 T.places, .slice a1 T.ways.length c1, .slice a2 T.words.length c2, .slice a3 T.starts.length c3, .slice a4 T.legs.length c4] 27)) = w4 at *
    generalize w1.heap.size = S at *
    have HI0 : Hid (ReadI w T a1 a2 a3 a4 c1 c2 c3 c4 S 0 w4) := Lib.hid ⟨hA4, hb4, he4, _, [], hc4, OwnLs.nil⟩
    clear hA4 hb4 hc4 he4
    refine wp_block ?_
    refine (wpIn_wide (n := 5)).1 ?_
    refine wpIn_range3 (gf := 109) (lb := #[.pointer (some ⟨S + 1, 0, none⟩)]) rfl (fun args w => by simp [go_sem]) (iter109 _ (S + 1) _ T a2 c2 ok) (fun k W0 W v r o h hr => h.put hr o)
      (fun k W => ReadI w T a1 a2 a3 a4 c1 c2 c3 c4 S k W) (fun _ _ => False) (by rw [hz4]; exact ReadI.three hlt1) (fun _ _ _ _ _ h _ _ _ => h) (fun k W h => ⟨(box_cells h.box2).2.2.1, (HT.out.aft h.aft).words⟩) HI0.out
      (fun v => { tmps := #[.agg #[.int .i64 T.places, .slice a1 T.ways.length c1, .slice a2 T.words.length c2, .slice a3 T.starts.length c3, .slice a4 T.legs.length c4], .pointer (some ⟨w.heap.size, 0, none⟩), .slice none 0 0, .int .i64 0, .int .i64 0, .pointer (some ⟨S, 0, none⟩), v, undef, .agg #[.int .i64 T.places, .slice a1 T.ways.length c1, .slice a2 T.words.length c2, .slice a3 T.starts.length c3, .slice a4 T.legs.length c4], .int .i64 0, .int .i64 0, .bool false, undef, .agg #[.int .i64 T.places, .slice a1 T.ways.length c1, .slice a2 T.words.length c2, .slice a3 T.starts.length c3, .slice a4 T.legs.length c4], .func (.func 109) #[] #[.pointer (some ⟨S + 1, 0, none⟩)], v, undef, undef, undef, undef, undef, undef, undef, undef, undef, undef, undef, undef, undef], defers := [] }) ?assign ?body ?done ?stop
    case assign =>
      intro l v W K hK
      gi_wp2_with fail
      exact hK
    case body =>
      intro l k v W0 W hk hI ha hB hv
      have hdl : (dig (lensOf T) k).length ≤ 6 := by rw [dig_len]; simp only [lensOf, List.length_map]; exact ok.nwords
      obtain ⟨AR, cR, rfl, _, hir⟩ := own_ints hv (by omega)
      have hTW := HT.out.aft (hI.aft.trans ha)
      have hro := readOk_iff.2 (dig_ok _ _ ok.lens hk)
      have HOP := Lib.hid (opened_any W T a1 a2 a3 a4 c1 c2 c3 c4 (dig (lensOf T) k) AR cR hTW hir ok hro)
      have HFS := Lib.hid (readK_succ T hk)
      have hmany := (readings_many ok).1
      rw [readingsL_len] at hmany
      have HRL := Lib.hid (Nat.le_trans (readK_len T k) (Nat.le_of_lt hk))
      have HMY := Lib.hid hmany
      have HII := Lib.hid hI
      have HV : Hid (W.ownsRow W0.heap.size 3 1 (.slice AR (dig (lensOf T) k).length cR) (dig (lensOf T) k).length ((dig (lensOf T) k).map (Value.int .i64))) := Lib.hid hv
      have HAA := Lib.hid ha
      have hbW := hI.box.aft ha
      obtain ⟨k0, k1, k2, k3, k4⟩ := box_cells hbW
      have hltW := hbW.lt
      have HBW := Lib.hid hbW
      have OK := Lib.hid ok
      have HAH := Lib.hid (fun (w5 : World) (D : Nat) (hd : Desk w5 D T a1 a2 a3 a4 c1 c2 c3 c4 (leadsF T (dig (lensOf T) k))) => ahead_any D T a1 a2 a3 a4 c1 c2 c3 c4 (leadsF T (dig (lensOf T) k)) w5 hd OK.out.p1 OK.out.p2 OK.out.nlegs)
      clear hTW hro hI hv ha hir hbW ok hmany
      generalize dig (lensOf T) k = R at *
      have HS3 := Lib.hid (fun (X : World) (hX : Aft W X) => HT.out.starts.aft ((HII.out.aft.trans HAA.out).trans hX))
      have HOX := Lib.hid (fun (w6 : World) (B' : Nat) (cs2 : Array Value) (g : Nat → Nat → Bool) (hX : Aft W w6) (hb : Blk w6 B' 147 cs2) (hg : BGrid cs2 g) (hgf : ∀ (i j : Nat), i ≤ T.legs.length → j < T.places.toNat → g i j = ahd T (leadsF T R) (T.legs.length - i) i j) =>
        opens_any 97 (.inr rfl) T (leadsF T R) a3 c3 B' w6.heap.size cs2 g (w6.alloc (.cells #[.func (.func 115) #[] #[.pointer (some ⟨B', 0, none⟩)]] 145)) (HS3.out _ (hX.then_alloc _)) (hb.alloc _) hg (by simp) (by simp) OK.out.starts OK.out.p2 (fun j hj => by have := hgf 0 j (Nat.zero_le _) hj; simpa using this))
      obtain ⟨ov, ovs, hob, hol⟩ := HII.out.out
      have HOB := Lib.hid hob
      have HOL := Lib.hid hol
      have hbase : S + 5 ≤ W0.heap.size := by omega
      clear hob hol
      refine wpIn_block ?_
      refine wpIn_seq_k fun K1 H1 => ?_
      refine wpIn_region_of_list (by kernel_rfl) ?_
      go_wp2_with (first
        | (go_at_call 74; refine HOP.out.mono ?_; rintro e w5 ⟨D, cs, rfl, hD, ha5, hbD, hgD⟩; have hd5 := hgD.desk hbD; have HD5 := Lib.hid hd5; have HA5 := Lib.hid ha5; clear hbD hgD hd5 ha5 HOP)
        | (go_at_call 93; refine (HAH.out w5 D HD5.out).mono ?_; rintro e w6 ⟨B', cs2, g, rfl, hbL, hgL, hgf, hL, ha6⟩; have HBL := Lib.hid hbL; have HGL := Lib.hid hgL; have HGF := Lib.hid hgf; have HA6 := Lib.hid (HA5.out.trans ha6); have hb6 := HBW.out.aft HA6.out; have hlt6 := hb6.lt; obtain ⟨m0, m1, m2, m3, m4⟩ := box_cells hb6; clear hbL hgL hgf ha6 HAH hb6))
      change K1 _ _
      refine H1 _ _ ?_
      clear H1
      refine wpIn_seq_k fun K2 H2 => ?_
      refine wpIn_region_of_list (by kernel_rfl) ?_
      go_wp2_with (go_at_call 94; refine (HOX.out w6 B' cs2 g HA6.out HBL.out HGL.out HGF.out).mono ?_; rintro e w7 ⟨rfl, ha7⟩; have HA7 := Lib.hid ((HA6.out.trans (Aft.alloc _ _)).trans ha7); have HO7 := Lib.hid ((HOB.out.aft HAA.out).aft HA7.out); have s7 : w7.cell? ⟨S, 0, none⟩ = some ov := HO7.out.cell 0; have ls7 := HO7.out.lt; clear ha7)
      change K2 _ _
      refine H2 _ _ ?_
      clear H2
      cases hop : opens T (leadsF T R)
      · refine wpIn_cond_false (by simp [Act.eval]) ?_
        refine wpIn_skip ?_
        change Kept3 w4.heap.size W w7 ∧ ReadI w T a1 a2 a3 a4 c1 c2 c3 c4 S (k + 1) w7
        rw [hz4]
        refine ⟨Kept3.of_aft HA7.out (by have := HAA.out.size; omega), HII.out.aft.trans (HAA.out.trans HA7.out), HII.out.box.aft (HAA.out.trans HA7.out), HII.out.box2.aft (HAA.out.trans HA7.out), ov, ovs, HO7.out, ?_⟩
        rw [HFS.out, hop]
        simpa using HOL.out.aft (HAA.out.trans HA7.out)
      · have HP := Lib.hid hop
        refine wpIn_cond_true (by simp [Act.eval]) ?_
        clear hop
        refine wpIn_region_of_list (by kernel_rfl) ?_
        go_wp2_with (at_builtin; refine wpList_app_list rfl _ _ rfl HOL.out hbase rfl rfl (new_one w7 (.slice AR R.length cR) 24) rfl ((HAA.out.trans HA7.out).then_alloc _) (own_aft HV.out (HA7.out.then_alloc _)) (by have := HRL.out; have := HMY.out; omega) ?_; intro v' vs' w9 hol9 hg9; obtain ⟨A9, n9, c9, rfl⟩ := own_slice hol9.own; have hgs : some S ≠ ov.ownBlock := (fun e => by have := own_ge HOL.out.own _ e.symm; omega); have hb9 := (HO7.out.alloc (.cells #[.slice AR R.length cR] 24)).grown hg9 hgs; have f9 := hb9.frozen 0; have t9 : w9.cell? ⟨S, 0, none⟩ = some ov := hb9.cell 0; have HB9 := Lib.hid hb9; have HOL9 := Lib.hid hol9; have HG9 := Lib.hid hg9; have l9 := hb9.lt; clear hb9 hol9 hg9)
        change Kept3 w4.heap.size W (w9.setCell ⟨S, 0, none⟩ (.slice A9 n9 c9)) ∧ ReadI w T a1 a2 a3 a4 c1 c2 c3 c4 S (k + 1) (w9.setCell ⟨S, 0, none⟩ (.slice A9 n9 c9))
        have hov : ∀ g, ov.ownBlock = some g → S + 5 ≤ g := own_ge HOL.out.own
        have hAA7 := HAA.out.trans HA7.out
        have hsz := HAA.out.size
        have hsz7 := HA7.out.size
        rw [hz4]
        refine ⟨((Kept3.of_aft (HA7.out.then_alloc (.cells #[.slice AR R.length cR] 24)) (by omega)).trans (Kept3.of_grown HG9.out (by simp; omega) (fun g hg => .inr (by have := hov g hg; omega)))).setCell (.inl (by show S < S + 2; omega)) _, ?_⟩
        have hne : some w.heap.size ≠ ov.ownBlock := fun e => by have := hov _ e.symm; omega
        have hne2 : some (S + 1) ≠ ov.ownBlock := fun e => by have := hov _ e.symm; omega
        refine ⟨(((HII.out.aft.trans hAA7).then_alloc (.cells #[.slice AR R.length cR] 24)).grown HG9.out (fun g hg => by have := hov g hg; omega)).then_setCell (p := ⟨S, 0, none⟩) (by show w.heap.size ≤ S; omega) _,
          (((HII.out.box.aft hAA7).alloc _).grown HG9.out hne).far (by show w.heap.size ≠ S; omega) _, (((HII.out.box2.aft hAA7).alloc _).grown HG9.out hne2).far (by show S + 1 ≠ S; omega) _, _, vs', HB9.out.store 0 _, ?_⟩
        rw [HFS.out, HP.out]
        exact HOL9.out.kept3 (grownBy_setCell' w9 S _) (by omega)
    case done =>
      intro D W hD hI hK
      obtain ⟨v, vs, hb1, hb2⟩ := hI.out
      have c1 : W.cell? ⟨S, 0, none⟩ = some v := hb1.cell 0
      have HA := Lib.hid hI.aft
      have HB2 := Lib.hid hb2
      have HKD := Lib.hid hK
      have hlt3 := hb1.lt
      have hDz : D = S + 2 := by omega
      clear hI hb1 hb2 hK hD
      go_wp2_with fail
      refine ⟨by simp, .inl ⟨_, _, rfl, run_takeDeferred (w := W) HKD.out, ?_⟩⟩
      refine ⟨.tuple #[v, .int .i64 0], by simp [results, go_sem], ?_⟩
      exact ⟨HA.out.grown (grownBy_putObj' _ _ _) (fun k e => by cases e; omega), .inr ⟨HC.out, v, rfl, vs, (HB2.out.kept3 (grownBy_putObj' _ D _) (by omega)).mono (by omega)⟩⟩
    case stop =>
      intro D c W _ h _
      exact h.elim
  · have HC := Lib.hid hc
    have hne : (checkE T != 0) = true := by simpa using hc
    have HCK : Hid (∀ W, Aft w W → Calls Try.prog 13 #[.agg #[.int .i64 T.places, .slice a1 T.ways.length c1, .slice a2 T.words.length c2, .slice a3 T.starts.length c3, .slice a4 T.legs.length c4]] W fun e w' => e = .returned (.int .i64 (checkE T)) ∧ Aft W w') := Lib.hid fun W ha => check_any T a1 a2 a3 a4 c1 c2 c3 c4 W (hT.aft ha)
    clear hc hT
    generalize hE : checkE T = E at *
    have HE := Lib.hid hE
    clear hE
    go_enter Try.func43, Try.ntmps43
    go_wp2_with (go_at_call 13; refine (HCK.out _ (Aft.alloc _ _)).mono ?_; rintro e w1 ⟨rfl, ha1⟩)
    refine bodyPost_ret (v := .tuple #[.slice none 0 0, .int .i64 E]) (by simp [results, Try.results43, go_sem]) rfl ?_
    exact ⟨(Aft.alloc _ _).trans ha1, .inl ⟨by rw [HE.out]; exact HC.out, by rw [HE.out]⟩⟩
end Go.Proofs
end

section
/- Plain: legs that are enough are as many as must yield; those that are told are enough. -/
namespace Go.Proofs
open Go.RowKit

/-- how many of k legs, from one on, are among some -/
def cntS (S : List Int) : Nat → Nat → Nat
  | _, 0 => 0
  | lo, k + 1 => (if hasB S lo then 1 else 0) + cntS S (lo + 1) k
theorem cntS_one (x : Int) (k : Nat) : ∀ lo, cntS [x] lo k ≤ 1 ∧ (x < lo → cntS [x] lo k = 0) := by
  induction k with
  | zero => intro lo; exact ⟨Nat.zero_le _, fun _ => rfl⟩
  | succ k ih =>
    intro lo
    obtain ⟨h1, h2⟩ := ih (lo + 1)
    unfold cntS
    by_cases e : hasB [x] lo = true
    · have hx : x = lo := by rw [hasB_iff, List.mem_singleton] at e; exact e.symm
      rw [if_pos e, h2 (by omega)]
      exact ⟨Nat.le_refl _, fun h => by omega⟩
    · rw [if_neg e]
      exact ⟨by omega, fun h => by rw [h2 (by omega)]⟩
theorem cntS_cons (x : Int) (S : List Int) (k : Nat) : ∀ lo, cntS (x :: S) lo k ≤ cntS [x] lo k + cntS S lo k := by
  induction k with
  | zero => intro lo; exact Nat.zero_le _
  | succ k ih =>
    intro lo
    have := ih (lo + 1)
    unfold cntS
    by_cases e : hasB (x :: S) lo = true
    · rw [if_pos e]
      rw [hasB_iff, List.mem_cons] at e
      rcases e with e | e
      · rw [if_pos (show hasB [x] lo = true by rw [hasB_iff]; simp [e])]; omega
      · rw [if_pos (show hasB S lo = true from hasB_iff.2 e)]; omega
    · rw [if_neg e]; omega
theorem cntS_le (S : List Int) (lo k : Nat) : cntS S lo k ≤ S.length := by
  induction S with
  | nil =>
    have : ∀ k lo, cntS [] lo k = 0 := by
      intro k
      induction k with
      | zero => intro lo; rfl
      | succ k ih => intro lo; unfold cntS; rw [ih]; simp [hasB]
    rw [this]; exact Nat.zero_le _
  | cons x S ih =>
    have h1 := cntS_cons x S k lo
    have h2 := (cntS_one x k lo).1
    rw [List.length_cons]; omega

theorem ahd_flo {T : Treaty} {f : Nat → Nat → Nat → Bool} {S : List Int} (k : Nat) : ∀ leg a, a < T.places.toNat → ahd T (setS f S T.places.toNat) k leg a = true → ∃ b, b < T.places.toNat ∧ flo T f (leg + k) b ≤ flo T f leg a + cntS S leg k := by
  induction k with
  | zero => intro leg a ha _; exact ⟨a, ha, by unfold cntS; simp⟩
  | succ k ih =>
    intro leg a ha h
    unfold ahd at h
    rw [List.any_eq_true] at h
    obtain ⟨b, hb, h⟩ := h
    rw [Bool.and_eq_true] at h
    have hb' := List.mem_range.1 hb
    obtain ⟨b2, h1, h2⟩ := ih (leg + 1) b hb' h.2
    have h3 := flo_le_at T f leg b ha
    have h4 : brk f leg a b ≤ (if hasB S leg then 1 else 0 : Nat) := by
      unfold brk
      split
      · split <;> decide
      · rename_i hn
        have h5 := h.1
        unfold setS at h5
        rw [Bool.or_eq_true, Bool.and_eq_true, Bool.and_eq_true] at h5
        rcases h5 with h5 | h5
        · exact absurd h5 hn
        · rw [if_pos h5.1.1]; decide
    refine ⟨b2, h1, ?_⟩
    rw [show leg + (k + 1) = leg + 1 + k by omega]
    unfold cntS
    omega
theorem costL_min {T : Treaty} (f : Nat → Nat → Nat → Bool) {b : Nat} (hb : b < T.places.toNat) : flo T f T.legs.length (lastAt T f) ≤ flo T f T.legs.length b := argmin_min _ _ _ hb
/-- Legs without which a line agrees are no fewer than must yield. -/
theorem opens_min {T : Treaty} (ok : TOk T) {f : Nat → Nat → Nat → Bool} {S : List Int} (h : opens T (setS f S T.places.toNat) = true) : flo T f T.legs.length (lastAt T f) ≤ S.length := by
  unfold opens at h
  rw [List.any_eq_true] at h
  obtain ⟨s, hs, h⟩ := h
  have h0 := ok.starts s hs
  obtain ⟨b, hb, h1⟩ := ahd_flo T.legs.length 0 s.toNat (by omega) h
  rw [Nat.zero_add] at h1
  have h2 := costL_min f hb
  have h3 : flo T f 0 s.toNat = 0 := by
    unfold flo
    rw [if_pos]
    rw [hasB_iff, Int.toNat_of_nonneg h0.1]; exact hs
  have h4 := cntS_le S 0 T.legs.length
  omega

theorem yl_opens {T : Treaty} (ok : TOk T) {f : Nat → Nat → Nat → Bool} {S : List Int} (leg : Nat) : leg ≤ 10 → ∀ b k, b < T.places.toNat → flo T f leg b ≤ 10 → (∀ x ∈ yl T f leg b, x ∈ S) → ahd T (setS f S T.places.toNat) k leg b = true →
    ∃ s ∈ T.starts, ahd T (setS f S T.places.toNat) (leg + k) 0 s.toNat = true := by
  induction leg with
  | zero =>
    intro _ b k hb hf _ h
    unfold flo at hf
    split at hf
    · rename_i hs
      exact ⟨b, hasB_iff.1 hs, by rw [Nat.zero_add]; simpa using h⟩
    · omega
  | succ leg ih =>
    intro hl b k hb hf hS h
    obtain ⟨h1, h2, _⟩ := pre_spec ok.start f (leg := leg) b (by omega)
    have hbr := brk_bd f leg (pre T f leg b) b
    have h3 : setS f S T.places.toNat leg (pre T f leg b) b = true := by
      unfold setS
      rw [Bool.or_eq_true, Bool.and_eq_true, Bool.and_eq_true]
      by_cases e : f leg (pre T f leg b) b = true
      · exact .inl e
      · refine .inr ⟨⟨?_, decide_eq_true h1⟩, decide_eq_true hb⟩
        refine hasB_iff.2 (hS _ ?_)
        unfold yl
        rw [if_neg e]; simp
    have h4 := ih (by omega) (pre T f leg b) (k + 1) h1 (by omega) (fun x hx => hS x (by unfold yl; exact List.mem_append_right _ hx)) (by
      unfold ahd
      rw [List.any_eq_true]
      exact ⟨b, List.mem_range.2 hb, by rw [h3, h]; rfl⟩)
    rw [show leg + 1 + k = leg + (k + 1) by omega]
    exact h4
theorem costL_bd {T : Treaty} (ok : TOk T) (f : Nat → Nat → Nat → Bool) : 0 ≤ flo T f T.legs.length (lastAt T f) ∧ flo T f T.legs.length (lastAt T f) ≤ T.legs.length := by
  obtain ⟨a, h1, h2⟩ := flo_small ok.start f T.legs.length
  have h3 := costL_min f h1
  exact ⟨(flo_bd T f _ _).1, by omega⟩
theorem lastAt_lt {T : Treaty} (ok : TOk T) (f : Nat → Nat → Nat → Bool) : lastAt T f < T.places.toNat := argmin_lt _ _ _ (by have := ok.p1; omega) (Nat.le_refl _)
/-- Those that are told are enough. -/
theorem yieldL_opens {T : Treaty} (ok : TOk T) (f : Nat → Nat → Nat → Bool) {S : List Int} (hS : ∀ x ∈ yieldL T f, x ∈ S) : opens T (setS f S T.places.toNat) = true := by
  have hl := ok.nlegs
  have hb := costL_bd ok f
  obtain ⟨s, hs, h⟩ := yl_opens ok (f := f) (S := S) T.legs.length hl (lastAt T f) 0 (lastAt_lt ok f) (by omega) (fun x hx => hS x (by unfold yieldL; rw [List.mem_reverse]; exact hx)) (by unfold ahd; rfl)
  unfold opens
  rw [List.any_eq_true]
  exact ⟨s, hs, h⟩
theorem yieldL_len {T : Treaty} (ok : TOk T) (f : Nat → Nat → Nat → Bool) : ((yieldL T f).length : Int) = flo T f T.legs.length (lastAt T f) := by
  have hl := ok.nlegs
  have hb := costL_bd ok f
  unfold yieldL
  rw [List.length_reverse]
  exact yl_len ok.start f _ _ hl (by omega)
theorem yl_mem {T : Treaty} {f : Nat → Nat → Nat → Bool} (leg : Nat) : ∀ b, ∀ x ∈ yl T f leg b, 0 ≤ x ∧ x < leg := by
  induction leg with
  | zero => intro b x hx; unfold yl at hx; simp at hx
  | succ leg ih =>
    intro b x hx
    unfold yl at hx
    rcases List.mem_append.1 hx with h | h
    · split at h
      · simp at h
      · rw [List.mem_singleton] at h; subst h; omega
    · have := ih _ x h; omega
theorem yl_rise {T : Treaty} {f : Nat → Nat → Nat → Bool} (leg : Nat) : ∀ b, (yl T f leg b).Pairwise (fun x y => y < x) := by
  induction leg with
  | zero => intro b; unfold yl; exact List.Pairwise.nil
  | succ leg ih =>
    intro b
    unfold yl
    rw [List.pairwise_append]
    refine ⟨by split <;> simp, ih _, fun x hx y hy => ?_⟩
    have := (yl_mem leg _ y hy).2
    split at hx
    · simp at hx
    · rw [List.mem_singleton] at hx; omega
theorem yieldL_mem {T : Treaty} {f : Nat → Nat → Nat → Bool} {x : Int} (h : x ∈ yieldL T f) : 0 ≤ x ∧ x < T.legs.length := yl_mem _ _ x (by unfold yieldL at h; rwa [List.mem_reverse] at h)
theorem yieldL_rise {T : Treaty} {f : Nat → Nat → Nat → Bool} : (yieldL T f).Pairwise (fun x y => x < y) := by
  unfold yieldL
  rw [List.pairwise_reverse]
  exact yl_rise _ _


/-- the best of the first readings -/
theorem fewK_best {T : Treaty} (ok : TOk T) (k : Nat) : k ≤ prodN (lensOf T) → 1 ≤ k → (∃ R ∈ readingsL T, fewK T k = (R, costL T R)) ∧ ∀ R ∈ (readingsL T).take k, (fewK T k).2 ≤ costL T R := by
  induction k with
  | zero => intro _ h; omega
  | succ k ih =>
    intro hk _
    have hlt : k < (readingsL T).length := by rw [readingsL_len]; omega
    have hmem : dig (lensOf T) k ∈ readingsL T := by rw [← readingsL_get T hlt]; exact List.getElem_mem _
    have htk : (readingsL T).take (k + 1) = (readingsL T).take k ++ [dig (lensOf T) k] := by rw [List.take_succ_eq_append_getElem hlt, readingsL_get]
    rw [fewK_succ T (by omega)]
    unfold fewStep
    have hbd := costL_bd ok (leadsF T (dig (lensOf T) k))
    have hl := ok.nlegs
    by_cases h0 : k = 0
    · subst h0
      rw [fewK_zero]
      have hc : costL T (dig (lensOf T) 0) < 11 := by unfold costL; omega
      rw [if_pos hc]
      refine ⟨⟨_, hmem, rfl⟩, fun R hR => ?_⟩
      rw [htk] at hR
      simp at hR
      subst hR
      exact Int.le_refl _
    · obtain ⟨⟨R0, h1, h2⟩, h3⟩ := ih (by omega) (by omega)
      split
      · rename_i hlt2
        refine ⟨⟨_, hmem, rfl⟩, fun R hR => ?_⟩
        rw [htk] at hR
        rcases List.mem_append.1 hR with h | h
        · have := h3 R h; simp only; omega
        · rw [List.mem_singleton] at h; subst h; exact Int.le_refl _
      · rename_i hge
        refine ⟨⟨R0, h1, h2⟩, fun R hR => ?_⟩
        rw [htk] at hR
        rcases List.mem_append.1 hR with h | h
        · exact h3 R h
        · rw [List.mem_singleton] at h; subst h; omega
theorem few_spec {T : Treaty} (ok : TOk T) : ∃ R, ReadOk T R ∧ fewK T (prodN (lensOf T)) = (R, ((yieldL T (leadsF T R)).length : Int)) ∧ ∀ R', ReadOk T R' → ((yieldL T (leadsF T R)).length : Int) ≤ (yieldL T (leadsF T R')).length := by
  have hp := (readings_many ok).2
  rw [readingsL_len] at hp
  obtain ⟨⟨R, h1, h2⟩, h3⟩ := fewK_best ok (prodN (lensOf T)) (Nat.le_refl _) hp
  have e : (readingsL T).take (prodN (lensOf T)) = readingsL T := by rw [← readingsL_len]; exact List.take_length
  rw [e] at h3
  have hc : ∀ R, costL T R = ((yieldL T (leadsF T R)).length : Int) := fun R => (yieldL_len ok (leadsF T R)).symm
  refine ⟨R, (mem_readings ok).1 h1, by rw [h2, hc], fun R' h' => ?_⟩
  have := h3 R' ((mem_readings ok).2 h')
  rw [h2, hc] at this
  rw [← hc R']
  exact this
theorem risesB_pair {l : List Int} (h : l.Pairwise (fun x y => x < y)) : risesB l = true := risesB_true l fun k hk => List.pairwise_iff_getElem.1 h k (k + 1) (by omega) hk (by omega)
theorem enoughE_zero {T : Treaty} {R S : List Int} (hr : readE T R = 0) (h1 : ∀ x ∈ S, 0 ≤ x ∧ x < T.legs.length) (h2 : risesB S = true) : enoughE T R S = 0 := by
  unfold enoughE
  rw [if_pos hr, if_pos, if_pos h2]
  rw [List.all_eq_true]
  intro x hx
  exact fromB_iff.2 (by have := h1 x hx; omega)
theorem enough_yield {T : Treaty} {R : List Int} (hr : readE T R = 0) : enoughE T R (yieldL T (leadsF T R)) = 0 ∧ enoughB T R (yieldL T (leadsF T R)) = true := by
  have ok := checkE_ok (readE_zero.1 hr).1
  have e := enoughE_zero hr (fun x hx => yieldL_mem hx) (risesB_pair (yieldL_rise (T := T) (f := leadsF T R)))
  refine ⟨e, ?_⟩
  unfold enoughB
  rw [e, yieldL_opens ok (leadsF T R) (fun x hx => hx)]
  rfl
end Go.Proofs
end

section
/- Walks: TreatyYielded: its drawn regions. -/
namespace Go.Proofs
open Go.RowKit

set_option maxRecDepth 100000 in
theorem op_call1 {o : Oper} {a : Act} {w : World} {K : Act → World → Prop} {Q : Exit → Act → World → Prop} {f : Nat} {fn : Func} (hf : Try.prog.funcs[f]? = some fn) (hn : (fn.name == "runtime.NumGoroutine") = false) (hb : fn.body.isNone = false)
    (x : Operand) {t1 : TypeId} (ho : o.op = .call { callee := .value (.func f), args := #[x], argTypes := #[t1] })
    {vx : Value} (hx : a.eval x = vx) {R : Ending → World → Prop} (hc : Calls Try.prog f #[vx] w R)
    (h : ∀ e w', R e w' → ∃ v, e = .returned v ∧ K (a.put o.dst v) w') : Oper.wp Try.prog o a w K Q := by
  unfold Oper.wp
  have hrun : (execOp a.eval o).run Try.prog w = .ok (.enter f #[vx]) w := by
    unfold execOp
    simp only [ho, resolve, invoke, Sem.run_bind, List.map_toArray, List.map_cons, List.map_nil, hx]
    exact run_enters hf hn hb _ w
  rw [hrun]
  refine hc.mono ?_
  rintro e w' hr
  obtain ⟨v, rfl, hK⟩ := h e w' hr
  exact hK

section
variable {W8 : World} {T : Treaty} {a1 a2 a3 a4 : Option Addr} {c1 c2 c3 c4 : Nat} {R : List Int} {AR : Option Addr} {cR : Nat} {Y : List Int} {AY : Option Addr} {cY i' : Nat} {done : Nat → Bool} {w w' : World}
theorem tc_cells' {X : World} {D : Nat} (h : Blk X D 27 #[.int .i64 T.places, .slice a1 T.ways.length c1, .slice a2 T.words.length c2, .slice a3 T.starts.length c3, .slice a4 T.legs.length c4]) : X.cell? ⟨D, 0, none⟩ = some (.int .i64 T.places) ∧ X.cell? ⟨D, 1, none⟩ = some (.slice a1 T.ways.length c1) ∧ X.cell? ⟨D, 2, none⟩ = some (.slice a2 T.words.length c2) ∧ X.cell? ⟨D, 3, none⟩ = some (.slice a3 T.starts.length c3) ∧ X.cell? ⟨D, 4, none⟩ = some (.slice a4 T.legs.length c4) :=
  ⟨h.cell 0, h.cell 1, h.cell 2, h.cell 3, h.cell 4⟩
end



section
variable {d : Nat} {T : Treaty} {a1 a2 a3 a4 : Option Addr} {c1 c2 c3 c4 : Nat} {R : List Int} {AR : Option Addr} {cR ny : Nat} {done done' : Nat → Bool} {w w' : World}
end


end Go.Proofs
end

section
/- Words for memory: flat records of the call's own, and what stands with their block. -/
namespace Go.Proofs
open Go.RowKit

theorem flat_sup {α : Type} {enc : α → List Value} {sz : Nat} {R : World → α → List Value → Prop} (hR : ∀ w x, R w x (enc x)) (hR2 : ∀ w w' x vs, R w x vs → R w' x vs) (hs : ∀ x, (enc x).length = sz) (hz : 0 < sz) {W : World} {base : Nat} {e : TypeId} {v : Value} {l : List α}
    (h : W.ownsRow base e sz v l.length (l.flatMap enc)) (hl : l.length * sz ≤ 17592186043904) : ∃ A c, v = .slice A l.length c ∧ Sup W (fun k => v.ownBlock = some k) (fun W' => RowsP W' A sz R l) := by
  obtain ⟨A, c, rfl, _, hi⟩ := own_rows hR hs hz h hl
  have := RowsP.sup hi (fun _ => False) (fun _ h => h.elim) (fun x _ vs hv => ⟨fun _ h => h.elim, fun _ _ _ => hR2 _ _ _ _ hv⟩)
  exact ⟨A, c, rfl, this.wide (fun k hk => hk.elim (fun h => h.elim) (fun ⟨_, o, e⟩ => by subst e; rfl)) (fun k e => (h.lt k e).2)⟩
theorem ways_sup {W : World} {base : Nat} {v : Value} {l : List Way} (h : W.ownsRow base 86 3 v l.length (l.flatMap encWay)) (hl : l.length ≤ 1000) : ∃ A c, v = .slice A l.length c ∧ Sup W (fun k => v.ownBlock = some k) (fun W' => RowsP W' A 3 WayR l) :=
  flat_sup (R := WayR) (fun _ _ => rfl) (fun _ _ _ _ h => h) (fun _ => rfl) (by decide) h (by omega)
theorem legs_sup {W : World} {base : Nat} {v : Value} {l : List Leg} (h : W.ownsRow base 83 2 v l.length (l.flatMap encLeg)) (hl : l.length ≤ 1000) : ∃ A c, v = .slice A l.length c ∧ Sup W (fun k => v.ownBlock = some k) (fun W' => RowsP W' A 2 LegR l) :=
  flat_sup (R := LegR) (fun _ _ => rfl) (fun _ _ _ _ h => h) (fun _ => rfl) (by decide) h (by omega)
/-- A record of five cells that is written over. -/
theorem blk_five {w : World} {g : Nat} {t : TypeId} {y0 y1 y2 y3 y4 : Value} (h : Blk w g t #[y0, y1, y2, y3, y4]) (v0 v1 v2 v3 v4 : Value) :
    Blk (((((w.setCell ⟨g, 0, none⟩ v0).setCell ⟨g, 1, none⟩ v1).setCell ⟨g, 2, none⟩ v2).setCell ⟨g, 3, none⟩ v3).setCell ⟨g, 4, none⟩ v4) g t #[v0, v1, v2, v3, v4] ∧
    w.grownBy (((((w.setCell ⟨g, 0, none⟩ v0).setCell ⟨g, 1, none⟩ v1).setCell ⟨g, 2, none⟩ v2).setCell ⟨g, 3, none⟩ v3).setCell ⟨g, 4, none⟩ v4) (some g) := by
  have h0 : Blk (w.setCell ⟨g, 0, none⟩ v0) g t #[v0, y1, y2, y3, y4] := h.store 0 v0
  have g0 : w.grownBy (w.setCell ⟨g, 0, none⟩ v0) (some g) := only_setCell (only_refl w (some g)) (p := ⟨g, 0, none⟩) (.inl rfl) v0
  generalize w.setCell ⟨g, 0, none⟩ v0 = W0 at *
  have h1 : Blk (W0.setCell ⟨g, 1, none⟩ v1) g t #[v0, v1, y2, y3, y4] := h0.store 1 v1
  have g1 := only_setCell g0 (p := ⟨g, 1, none⟩) (.inl rfl) v1
  generalize W0.setCell ⟨g, 1, none⟩ v1 = W1 at *
  have h2 : Blk (W1.setCell ⟨g, 2, none⟩ v2) g t #[v0, v1, v2, y3, y4] := h1.store 2 v2
  have g2 := only_setCell g1 (p := ⟨g, 2, none⟩) (.inl rfl) v2
  generalize W1.setCell ⟨g, 2, none⟩ v2 = W2 at *
  have h3 : Blk (W2.setCell ⟨g, 3, none⟩ v3) g t #[v0, v1, v2, v3, y4] := h2.store 3 v3
  have g3 := only_setCell g2 (p := ⟨g, 3, none⟩) (.inl rfl) v3
  generalize W2.setCell ⟨g, 3, none⟩ v3 = W3 at *
  exact ⟨h3.store 4 v4, only_setCell g3 (p := ⟨g, 4, none⟩) (.inl rfl) v4⟩
end Go.Proofs
end
