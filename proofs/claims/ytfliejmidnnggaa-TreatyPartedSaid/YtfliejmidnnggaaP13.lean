/- Merged by program out of the texts Few WkU WkV Rea. -/
import Derived.Test.YtfliejmidnnggaaP12
section
/- Walks: the maker of the iterator; Fewest. -/
namespace Go.Proofs
open Go.RowKit
attribute [local go_sem] Oper.semAt_some

theorem readings_any (T : Treaty) (a1 a2 a3 a4 : Option Addr) (c1 c2 c3 c4 : Nat) (w : World) : Calls Try.prog 73 #[.agg #[.int .i64 T.places, .slice a1 T.ways.length c1, .slice a2 T.words.length c2, .slice a3 T.starts.length c3, .slice a4 T.legs.length c4]] w fun e w' => e = .returned (.func (.func 109) #[] #[.pointer (some ⟨w.heap.size, 0, none⟩)]) ∧ w' = w.alloc (.cells #[.int .i64 T.places, .slice a1 T.ways.length c1, .slice a2 T.words.length c2, .slice a3 T.starts.length c3, .slice a4 T.legs.length c4] 27) := by
  go_enter Try.func73, Try.ntmps73
  go_wp2_with fail
  go_ret
  exact ⟨rfl, rfl⟩

theorem GivesR.put {T : Treaty} {k : Nat} {W0 W : World} {v : Value} (h : GivesR T k W0 W v) {r : Nat} (hr : r < W0.heap.size) (o : Obj) : GivesR T k (W0.putObj r o) (W.putObj r o) v := by
  unfold GivesR at h ⊢
  have hs : (W0.putObj r o).heap.size = W0.heap.size := by simp [World.putObj]
  rw [hs]
  refine h.kept (grownBy_putObj' W r o) ?_
  cases hb : v.ownBlock with
  | none => exact .inl rfl
  | some g => exact .inr fun e => by cases e; have := own_ge h _ hb; omega

/-- What a reading costs: how few legs must yield. -/
noncomputable def costL (T : Treaty) (R : List Int) : Int := flo T (leadsF T R) T.legs.length (lastAt T (leadsF T R))
noncomputable def fewStep (T : Treaty) (x : List Int × Int) (R : List Int) : List Int × Int := if costL T R < x.2 then (R, costL T R) else x
/-- The best of the first readings, and what it costs. -/
noncomputable def fewK (T : Treaty) (k : Nat) : List Int × Int := ((readingsL T).take k).foldl (fewStep T) ([], 11)
theorem fewK_zero (T : Treaty) : fewK T 0 = ([], 11) := rfl
theorem fewK_succ (T : Treaty) {k : Nat} (h : k < prodN (lensOf T)) : fewK T (k + 1) = fewStep T (fewK T k) (dig (lensOf T) k) := by
  have h' : k < (readingsL T).length := by rw [readingsL_len]; exact h
  unfold fewK
  rw [List.take_succ_eq_append_getElem h', List.foldl_append, readingsL_get]
  rfl

/-- What Fewest answers. -/
def FewestR (w : World) (T : Treaty) (e : Ending) (w' : World) : Prop :=
  Aft w w' ∧ ((checkE T ≠ 0 ∧ e = .returned (.tuple #[.slice none 0 0, .int .i64 0, .int .i64 (checkE T)])) ∨
    (checkE T = 0 ∧ ∃ v, e = .returned (.tuple #[v, .int .i64 (fewK T (prodN (lensOf T))).2, .int .i64 0]) ∧ w'.ownsRow w.heap.size 3 1 v (fewK T (prodN (lensOf T))).1.length ((fewK T (prodN (lensOf T))).1.map (Value.int .i64))))

/-- Between two rounds of Fewest. -/
structure FewI (w : World) (T : Treaty) (a1 a2 a3 a4 : Option Addr) (c1 c2 c3 c4 : Nat) (S k : Nat) (W : World) : Prop where
  aft : Aft w W
  box : Blk W w.heap.size 27 #[.int .i64 T.places, .slice a1 T.ways.length c1, .slice a2 T.words.length c2, .slice a3 T.starts.length c3, .slice a4 T.legs.length c4]
  box2 : Blk W (S + 2) 27 #[.int .i64 T.places, .slice a1 T.ways.length c1, .slice a2 T.words.length c2, .slice a3 T.starts.length c3, .slice a4 T.legs.length c4]
  many : Blk W (S + 1) 3 #[.int .i64 (fewK T k).2]
  best : ∃ v, Blk W S 24 #[v] ∧ W.ownsRow (S + 6) 3 1 v (fewK T k).1.length ((fewK T k).1.map (Value.int .i64))
theorem FewI.three {w : World} {T : Treaty} {a1 a2 a3 a4 : Option Addr} {c1 c2 c3 c4 : Nat} {S : Nat} (hS : w.heap.size < S) : Three (S + 3) (fun k W => FewI w T a1 a2 a3 a4 c1 c2 c3 c4 S k W) := by
  rintro k W W' r ⟨h1, h2, h3, h4, v, h5, h6⟩ hg hr1 hr2
  refine ⟨h1.grown hg (fun k e => by cases e; omega), h2.grown hg (fun e => by cases e; omega), h3.grown hg (fun e => by cases e; omega), h4.grown hg (fun e => by cases e; omega), v, h5.grown hg (fun e => by cases e; omega), h6.kept hg ?_⟩
  cases hb : v.ownBlock with
  | none => exact .inl rfl
  | some g => exact .inr fun e => by cases e; have := own_ge h6 _ hb; omega
theorem box_cells {W : World} {g : Nat} {T : Treaty} {a1 a2 a3 a4 : Option Addr} {c1 c2 c3 c4 : Nat} (h : Blk W g 27 #[.int .i64 T.places, .slice a1 T.ways.length c1, .slice a2 T.words.length c2, .slice a3 T.starts.length c3, .slice a4 T.legs.length c4]) :
    W.cell? ⟨g, 0, none⟩ = some (.int .i64 T.places) ∧ W.cell? ⟨g, 1, none⟩ = some (.slice a1 T.ways.length c1) ∧ W.cell? ⟨g, 2, none⟩ = some (.slice a2 T.words.length c2) ∧ W.cell? ⟨g, 3, none⟩ = some (.slice a3 T.starts.length c3) ∧ W.cell? ⟨g, 4, none⟩ = some (.slice a4 T.legs.length c4) :=
  ⟨h.cell 0, h.cell 1, h.cell 2, h.cell 3, h.cell 4⟩

set_option maxRecDepth 100000 in
set_option maxHeartbeats 2000000 in
theorem fewest_any (w : World) (T : Treaty) (a1 a2 a3 a4 : Option Addr) (c1 c2 c3 c4 : Nat) (hT : TRep w T a1 a2 a3 a4) : Calls Try.prog 38 #[.agg #[.int .i64 T.places, .slice a1 T.ways.length c1, .slice a2 T.words.length c2, .slice a3 T.starts.length c3, .slice a4 T.legs.length c4]] w (FewestR w T) := by
  by_cases hc : checkE T = 0
  · have ok := checkE_ok hc
    have HC := Lib.hid hc
    have HT := Lib.hid hT
    clear hc hT
    have HCK : Hid (∀ W, Aft w W → Calls Try.prog 13 #[.agg #[.int .i64 T.places, .slice a1 T.ways.length c1, .slice a2 T.words.length c2, .slice a3 T.starts.length c3, .slice a4 T.legs.length c4]] W fun e w' => e = .returned (.int .i64 (checkE T)) ∧ Aft W w') := Lib.hid fun W ha => check_any T a1 a2 a3 a4 c1 c2 c3 c4 W (HT.out.aft ha)
    rw [HC.out] at HCK
    refine (callsIn_wide (n := 5)).1 ?_
    refine callsIn_of_wp_marks Try.func38 rfl trivial ?_ rfl
    simp only [Try.ntmps38, List.size_toArray, List.length_cons, List.length_nil, Nat.reduceAdd, Nat.reduceSub, Array.replicate_succ, Array.replicate_zero, List.push_toArray, List.append_toArray, List.nil_append, List.cons_append]
    refine wpIn_wide.2 ?_
    go_upto_block 0 with (first
      | (go_at_call 13; refine (HCK.out _ (Aft.alloc _ _)).mono ?_; rintro e w1 ⟨rfl, ha1⟩; have hb1 := (Blk.new w 27 _).aft ha1; have hlt1 := hb1.lt; obtain ⟨k0, k1, k2, k3, k4⟩ := box_cells hb1)
      | (go_at_call 73; refine (readings_any T a1 a2 a3 a4 c1 c2 c3 c4 _).mono ?_; rintro e w4 ⟨rfl, rfl⟩))
    have hA4 : Aft w (((w1.alloc (.cells #[.slice none 0 0] 24)).alloc (.cells #[.int .i64 11] 3)).alloc (.cells #[.int .i64 T.places, .slice a1 T.ways.length c1, .slice a2 T.words.length c2, .slice a3 T.starts.length c3, .slice a4 T.legs.length c4] 27)) := ((((Aft.alloc w _).trans ha1).then_alloc _).then_alloc _).then_alloc _
    have hb4 := ((hb1.alloc (.cells #[.slice none 0 0] 24)).alloc (.cells #[.int .i64 11] 3)).alloc (.cells #[.int .i64 T.places, .slice a1 T.ways.length c1, .slice a2 T.words.length c2, .slice a3 T.starts.length c3, .slice a4 T.legs.length c4] 27)
    have hc4 := ((Blk.new w1 24 #[.slice none 0 0]).alloc (.cells #[.int .i64 11] 3)).alloc (.cells #[.int .i64 T.places, .slice a1 T.ways.length c1, .slice a2 T.words.length c2, .slice a3 T.starts.length c3, .slice a4 T.legs.length c4] 27)
    have hd4 := (Blk.new (w1.alloc (.cells #[.slice none 0 0] 24)) 3 #[.int .i64 11]).alloc (.cells #[.int .i64 T.places, .slice a1 T.ways.length c1, .slice a2 T.words.length c2, .slice a3 T.starts.length c3, .slice a4 T.legs.length c4] 27)
    have he4 := Blk.new ((w1.alloc (.cells #[.slice none 0 0] 24)).alloc (.cells #[.int .i64 11] 3)) 27 #[.int .i64 T.places, .slice a1 T.ways.length c1, .slice a2 T.words.length c2, .slice a3 T.starts.length c3, .slice a4 T.legs.length c4]
    have hz4 : (((w1.alloc (.cells #[.slice none 0 0] 24)).alloc (.cells #[.int .i64 11] 3)).alloc (.cells #[.int .i64 T.places, .slice a1 T.ways.length c1, .slice a2 T.words.length c2, .slice a3 T.starts.length c3, .slice a4 T.legs.length c4] 27)).heap.size = w1.heap.size + 3 := by simp
    simp only [World.size_alloc] at hd4 he4
    clear k0 k1 k2 k3 k4 hb1 ha1
    generalize (((w1.alloc (.cells #[.slice none 0 0] 24)).alloc (.cells #[.int .i64 11] 3)).alloc (.cells #[.int .i64 T.places, .slice a1 T.ways.length c1, .slice a2 T.words.length c2, .slice a3 T.starts.length c3, .slice a4 T.legs.length c4] 27)) = w4 at *
    generalize w1.heap.size = S at *
    have HI0 : Hid (FewI w T a1 a2 a3 a4 c1 c2 c3 c4 S 0 w4) := Lib.hid ⟨hA4, hb4, he4, hd4, _, hc4, World.ownsRow_nil _ _ 3 1⟩
    clear hA4 hb4 hc4 hd4 he4
    refine wp_block ?_
    refine (wpIn_wide (n := 5)).1 ?_
    refine wpIn_range3 (gf := 109) (lb := #[.pointer (some ⟨S + 1 + 1, 0, none⟩)]) rfl (fun args w => by simp [go_sem]) (iter109 _ (S + 1 + 1) _ T a2 c2 ok) (fun k W0 W v r o h hr => h.put hr o)
      (fun k W => FewI w T a1 a2 a3 a4 c1 c2 c3 c4 S k W) (fun _ _ => False) (by rw [hz4]; exact FewI.three hlt1) (fun _ _ _ _ _ h _ _ _ => h) (fun k W h => ⟨(box_cells h.box2).2.2.1, (HT.out.aft h.aft).words⟩) HI0.out
      (fun v => { tmps := #[.agg #[.int .i64 T.places, .slice a1 T.ways.length c1, .slice a2 T.words.length c2, .slice a3 T.starts.length c3, .slice a4 T.legs.length c4], .pointer (some ⟨w.heap.size, 0, none⟩), .slice none 0 0, .int .i64 0, .int .i64 0, .int .i64 0, .pointer (some ⟨S, 0, none⟩), .pointer (some ⟨S + 1, 0, none⟩), v, undef, undef, undef, .agg #[.int .i64 T.places, .slice a1 T.ways.length c1, .slice a2 T.words.length c2, .slice a3 T.starts.length c3, .slice a4 T.legs.length c4], .int .i64 0, .int .i64 0, .bool false, undef, .agg #[.int .i64 T.places, .slice a1 T.ways.length c1, .slice a2 T.words.length c2, .slice a3 T.starts.length c3, .slice a4 T.legs.length c4], .func (.func 109) #[] #[.pointer (some ⟨S + 1 + 1, 0, none⟩)], v, undef, undef, undef, undef, undef, undef, undef, undef, undef, undef, undef, undef, undef, undef, undef, undef, undef, undef, undef, undef, undef, undef, undef], defers := [] }) ?assign ?body ?done ?stop
    case assign =>
      intro l v W K hK
      gi_wp2_with fail
      exact hK
    case body =>
      intro l k v W0 W hk hI ha hB hv
      have hdl : (dig (lensOf T) k).length ≤ 6 := by rw [dig_len]; simp only [lensOf, List.length_map]; exact ok.nwords
      obtain ⟨AR, cR, rfl, _, hir⟩ := own_ints hv (by omega)
      have hTW := HT.out.aft (hI.aft.trans ha)
      have hro := readOk_iff.2 (dig_ok _ _ ok.lens hk)
      have HOP := Lib.hid (opened_any W T a1 a2 a3 a4 c1 c2 c3 c4 (dig (lensOf T) k) AR cR hTW hir ok hro)
      have HFS := Lib.hid (fewK_succ T hk)
      have HII := Lib.hid hI
      have HV : Hid (W.ownsRow W0.heap.size 3 1 (.slice AR (dig (lensOf T) k).length cR) (dig (lensOf T) k).length ((dig (lensOf T) k).map (Value.int .i64))) := Lib.hid hv
      have HAA := Lib.hid ha
      have hbW := hI.box.aft ha
      obtain ⟨k0, k1, k2, k3, k4⟩ := box_cells hbW
      have hltW := hbW.lt
      have hmW : W.cell? ⟨S + 1, 0, none⟩ = some (.int .i64 (fewK T k).2) := (hI.many.aft ha).cell 0
      have hmlt := (hI.many.aft ha).lt
      have hbB := hI.box
      have HBW := Lib.hid hbW
      have OK := Lib.hid ok
      clear hTW hro hI hv ha hir hbW ok hbB
      generalize dig (lensOf T) k = R at *
      have HFL := Lib.hid (fun (w5 : World) (D : Nat) (ha5 : Aft W w5) (hd : Desk w5 D T a1 a2 a3 a4 c1 c2 c3 c4 (leadsF T R)) => floors_any D T a1 a2 a3 a4 c1 c2 c3 c4 (leadsF T R) w5 hd (HT.out.starts.aft ((HII.out.aft.trans HAA.out).trans ha5)) OK.out.p1 OK.out.p2 OK.out.nlegs)
      gi_wp2_with (first
        | ((with_reducible refine And.intro ?_ ?_); (exact trivial); gi_at_call 74; refine (CallsIn.inRound l (callsIn_wide.2 HOP.out)).mono ?_; rintro e w5 ⟨D, cs, rfl, hD, ha5, hbD, hgD⟩; have hd5 := hgD.desk hbD; have HD5 := Lib.hid hd5; have HA5 := Lib.hid ha5; clear hbD hgD hd5 ha5 HOP)
        | ((with_reducible refine And.intro ?_ ?_); (exact trivial); gi_at_call 78; refine (CallsIn.inRound l (callsIn_wide.2 (HFL.out w5 D HA5.out HD5.out))).mono ?_; rintro e w6 ⟨L, cs2, g, rfl, hbL, hgL, hgf, hL, ha6⟩; have HBL := Lib.hid hbL; have HGL := Lib.hid hgL; have HGF := Lib.hid hgf; have HA6 := Lib.hid ha6; have HD6 := Lib.hid (HD5.out.aft ha6); clear hbL hgL hgf ha6 HFL HD5))
      have HAW := Lib.hid (HA5.out.trans HA6.out)
      have hb6 := HBW.out.aft HAW.out
      have hlt6 := hb6.lt
      have hL6 := HBL.out.lt
      have hS6 := Nat.lt_of_lt_of_le hmlt HAW.out.size
      obtain ⟨k0', k1', k2', k3', k4'⟩ := box_cells hb6
      have hm6 : w6.cell? ⟨S + 1, 0, none⟩ = some (.int .i64 (fewK T k).2) := cell_aftX HAW.out hmlt hmW
      have hnl := OK.out.nlegs
      have hp1 := OK.out.p1
      have hp2 := OK.out.p2
      obtain ⟨p, hpp⟩ := Int.eq_ofNat_of_zero_le (show 0 ≤ T.places by omega)
      have hb0 : argmin (g T.legs.length) T.places.toNat = lastAt T (leadsF T R) := argmin_congr (fun j hj => HGF.out _ j (Nat.le_refl _) hj) (fun _ => HGF.out _ 0 (Nat.le_refl _) (by omega)) _ (Nat.le_refl _)
      have hblt : lastAt T (leadsF T R) < T.places.toNat := by unfold lastAt; exact argmin_lt _ _ _ (by omega) (by omega)
      have hcost : w6.cell? ⟨L, T.legs.length * 12 + lastAt T (leadsF T R), none⟩ = some (.int .i64 (costL T R)) := by
        have := (HBL.out.cell (T.legs.length * 12 + lastAt T (leadsF T R))).trans (HGL.out.at_ T.legs.length (lastAt T (leadsF T R)) (by omega) (by omega))
        rw [this, HGF.out _ _ (Nat.le_refl _) hblt]; rfl
      have HEN : Hid (∀ X, Aft w6 X → Calls Try.prog 79 #[.pointer (some ⟨D, 0, none⟩), .pointer (some ⟨L, 0, none⟩)] X fun e w' => e = .returned (.int .i64 (lastAt T (leadsF T R) : Nat)) ∧ Aft X w') := Lib.hid fun X hX => by
        have := end_any D L T a1 a2 a3 a4 c1 c2 c3 c4 (leadsF T R) cs2 g X (HD6.out.aft hX) (HBL.out.aft hX) HGL.out hp1 hp2 hnl
        rwa [hb0] at this
      have hal : lastAt T (leadsF T R) < 12 := by omega
      clear k0 k1 k2 k3 k4 hmW hb6 hb0 hblt hpp
      have HCO := Lib.hid (show costL T R = costL T R from rfl)
      generalize lastAt T (leadsF T R) = la at *
      generalize hcs : costL T R = co at hcost
      have HCS := Lib.hid hcs
      clear hcs HCO
      have hmx : Try.prog.follows .mixedOrders = true := by kernel_rfl
      refine wpIn_region_vals hmx (by kernel_rfl) 43 rfl (by kernel_rfl) [.pointer (some ⟨L, 0, none⟩), .pointer (some ⟨w.heap.size, 4, none⟩), .slice a4 T.legs.length c4, .int .i64 T.legs.length, .pointer (some ⟨D, 0, none⟩), .pointer (some ⟨L, 0, none⟩), .int .i64 la, .pointer (some ⟨L, 0, none⟩), .pointer (some ⟨L, T.legs.length * 12, none⟩), .pointer (some ⟨L, T.legs.length * 12 + la, none⟩), .int .i64 co, .int .i64 co] rfl (fun X => Aft w6 X) (Aft.drew _) ?step ?fin
      case step =>
        intro i o v ho hv a X hk hX K hK
        match i, ho, hv with
        | 0, ho, hv =>
          cases ho; cases hv
          have e : a.eval (.tmp 10) = .pointer (some ⟨L, 0, none⟩) := (hk.same 10 (by decide)).trans rfl
          exact op_val (by simp [go_sem, ev' e]) (hK _ hX)
        | 1, ho, hv =>
          cases ho; cases hv
          have e : a.eval (.tmp 1) = .pointer (some ⟨w.heap.size, 0, none⟩) := (hk.same 1 (by decide)).trans rfl
          exact op_val (by simp [go_sem, ev' e]) (hK _ hX)
        | 2, ho, hv =>
          cases ho; cases hv
          have e : a.eval (.tmp 26) = .pointer (some ⟨w.heap.size, 4, none⟩) := hk.at_ 1 _ 26 _ rfl (by decide) _ rfl rfl rfl
          have hc := cell_aftX hX hlt6 k4'
          exact op_val (by simp [go_sem, ev' e, hc]) (hK _ hX)
        | 3, ho, hv =>
          cases ho; cases hv
          have e : a.eval (.tmp 27) = .slice a4 T.legs.length c4 := hk.at_ 2 _ 27 _ rfl (by decide) _ rfl rfl rfl
          exact op_val (by simp [go_sem, ev' e]) (hK _ hX)
        | 4, ho, hv =>
          cases ho; cases hv
          have e : a.eval (.tmp 9) = .pointer (some ⟨D, 0, none⟩) := (hk.same 9 (by decide)).trans rfl
          exact op_val (by simp [go_sem, ev' e]) (hK _ hX)
        | 5, ho, hv =>
          cases ho; cases hv
          have e : a.eval (.tmp 10) = .pointer (some ⟨L, 0, none⟩) := (hk.same 10 (by decide)).trans rfl
          exact op_val (by simp [go_sem, ev' e]) (hK _ hX)
        | 6, ho, hv =>
          cases ho; cases hv
          have e : a.eval (.tmp 29) = .pointer (some ⟨D, 0, none⟩) := hk.at_ 4 _ 29 _ rfl (by decide) _ rfl rfl rfl
          have e2 : a.eval (.tmp 30) = .pointer (some ⟨L, 0, none⟩) := hk.at_ 5 _ 30 _ rfl (by decide) _ rfl rfl rfl
          refine op_call2 Try.func79 (by kernel_rfl) (by kernel_rfl) _ _ rfl e e2 (HEN.out X hX) ?_
          rintro e w' ⟨rfl, ha7⟩
          exact ⟨_, rfl, hK _ (hX.trans ha7)⟩
        | 7, ho, hv =>
          cases ho; cases hv
          have e : a.eval (.tmp 25) = .pointer (some ⟨L, 0, none⟩) := hk.at_ 0 _ 25 _ rfl (by decide) _ rfl rfl rfl
          exact op_val (by simp [go_sem, ev' e]) (hK _ hX)
        | 8, ho, hv =>
          cases ho; cases hv
          have e : a.eval (.tmp 32) = .pointer (some ⟨L, 0, none⟩) := hk.at_ 7 _ 32 _ rfl (by decide) _ rfl rfl rfl
          have e2 : a.eval (.tmp 28) = .int .i64 T.legs.length := hk.at_ 3 _ 28 _ rfl (by decide) _ rfl rfl rfl
          have i1 : (0 : Int) ≤ (T.legs.length : Int) ∧ (T.legs.length : Int) < 11 := by omega
          exact op_val (by simp [go_sem, ev' e, ev' e2, i1]) (hK _ hX)
        | 9, ho, hv =>
          cases ho; cases hv
          have e : a.eval (.tmp 33) = .pointer (some ⟨L, T.legs.length * 12, none⟩) := hk.at_ 8 _ 33 _ rfl (by decide) _ rfl rfl rfl
          have e2 : a.eval (.tmp 31) = .int .i64 la := hk.at_ 6 _ 31 _ rfl (by decide) _ rfl rfl rfl
          have i1 : (0 : Int) ≤ (la : Int) ∧ (la : Int) < 12 := by omega
          exact op_val (by simp [go_sem, ev' e, ev' e2, i1]) (hK _ hX)
        | 10, ho, hv =>
          cases ho; cases hv
          have e : a.eval (.tmp 34) = .pointer (some ⟨L, T.legs.length * 12 + la, none⟩) := hk.at_ 9 _ 34 _ rfl (by decide) _ rfl rfl rfl
          have hc := cell_aftX hX hL6 hcost
          exact op_val (by simp [go_sem, ev' e, hc]) (hK _ hX)
        | 11, ho, hv =>
          cases ho; cases hv
          have e : a.eval (.tmp 35) = .int .i64 co := hk.at_ 10 _ 35 _ rfl (by decide) _ rfl rfl rfl
          exact op_val (by simp [go_sem, ev' e]) (hK _ hX)
        | _ + 12, ho, _ => cases ho
      case fin =>
        intro X hX
        simp only [List.zip_cons_cons, List.zip_nil_right, putAll, Act.put, List.setIfInBounds_toArray, List.set_cons_succ, List.set_cons_zero]
        have hA7 := HAA.out.trans (HAW.out.trans hX)
        have hmB := HII.out.many.aft hA7
        obtain ⟨bv, hbv1, hbv2⟩ := HII.out.best
        have hsB := hbv1.aft hA7
        have c7 : X.cell? ⟨S + 1, 0, none⟩ = some (.int .i64 (fewK T k).2) := hmB.cell 0
        have c8 : X.cell? ⟨S, 0, none⟩ = some bv := hsB.cell 0
        have f7 := hmB.frozen 0
        have f8 := hsB.frozen 0
        have hl7 := hmB.lt
        have HX := Lib.hid hX
        have HMB := Lib.hid hmB
        have HSB := Lib.hid hsB
        have HBV := Lib.hid hbv2
        have HA7 := Lib.hid hA7
        clear hX hmB hsB hbv1 hbv2 hA7 hm6 k0' k1' k2' k3' k4' hcost
        by_cases hcm : co < (fewK T k).2
        · have HFK : Hid (fewK T (k + 1) = (R, co)) := Lib.hid (by rw [HFS.out]; unfold fewStep; rw [HCS.out, if_pos hcm])
          gi_wp2_with fail
          rw [hz4] at hB ⊢
          have hWW := HAW.out.trans HX.out
          have hsz := HAA.out.size
          refine ⟨((Kept3.of_aft hWW (by omega)).setCell (.inl (by show S < S + 3; omega)) _).setCell (.inl (by show S + 1 < S + 3; omega)) _, ?_⟩
          refine ⟨((HII.out.aft.trans HA7.out).then_setCell (p := ⟨S, 0, none⟩) (by show _ ≤ S; omega) _).then_setCell (p := ⟨S + 1, 0, none⟩) (by show _ ≤ S + 1; omega) _, ((HII.out.box.aft HA7.out).far (by show w.heap.size ≠ S; omega) _).far (by show w.heap.size ≠ S + 1; omega) _,
            ((HII.out.box2.aft HA7.out).far (by show S + 2 ≠ S; omega) _).far (by show S + 2 ≠ S + 1; omega) _, ?_, .slice AR R.length cR, (HSB.out.store 0 _).far (by show S ≠ S + 1; omega) _, ?_⟩
          · rw [HFK.out]
            exact (HMB.out.far (by show S + 1 ≠ S; omega) _).store 0 _
          · rw [HFK.out]
            exact own_kept (own_kept (World.ownsRow.mono (own_aft HV.out hWW) (by omega)) (grownBy_setCell' X S _) (by omega)) (grownBy_setCell' _ (S + 1) _) (by omega)
        · have HFK : Hid (fewK T (k + 1) = fewK T k) := Lib.hid (by rw [HFS.out]; unfold fewStep; rw [HCS.out, if_neg hcm])
          gi_wp2_with fail
          rw [hz4] at hB
          have hWW := HAW.out.trans HX.out
          have hsz := HAA.out.size
          refine ⟨Kept3.of_aft hWW (by omega), ?_⟩
          refine ⟨HII.out.aft.trans HA7.out, HII.out.box.aft HA7.out, HII.out.box2.aft HA7.out, by rw [HFK.out]; exact HMB.out, bv, HSB.out, by rw [HFK.out]; exact own_aft HBV.out HA7.out⟩
    case done =>
      intro D W hD hI hK
      obtain ⟨v, hb1, hb2⟩ := hI.best
      have c1 : W.cell? ⟨S, 0, none⟩ = some v := hb1.cell 0
      have c2 : W.cell? ⟨S + 1, 0, none⟩ = some (.int .i64 (fewK T (prodN (lensOf T))).2) := hI.many.cell 0
      have HA := Lib.hid hI.aft
      have HB2 := Lib.hid hb2
      have HKD := Lib.hid hK
      have hlt2 := hI.many.lt
      have hlt3 := hb1.lt
      have hDz : D = S + 3 := by omega
      clear hI hb1 hb2 hK hD
      obtain ⟨m2, hm2⟩ : ∃ m2, m2 = (fewK T (prodN (lensOf T))).2 := ⟨_, rfl⟩
      rw [← hm2] at c2
      have HM2 := Lib.hid hm2
      clear hm2
      go_wp2_with fail
      go_quiet (fail)
      go_wp2_with fail
      refine ⟨by simp, .inl ⟨_, _, rfl, run_takeDeferred (w := W.drewN nq) HKD.out, ?_⟩⟩
      refine ⟨.tuple #[v, .int .i64 m2, .int .i64 0], by simp [results, go_sem], ?_⟩
      rw [HM2.out]
      exact ⟨(HA.out.then_drewN _).grown (grownBy_putObj' _ _ _) (fun k e => by cases e; omega), .inr ⟨HC.out, v, rfl, World.ownsRow.mono (own_kept (own_aft HB2.out (Aft.drewN _ _)) (grownBy_putObj' _ D _) (by omega)) (by omega)⟩⟩
    case stop =>
      intro D c W _ h _
      exact h.elim
  · have HC := Lib.hid hc
    have hne : (checkE T != 0) = true := by simpa using hc
    have HCK : Hid (∀ W, Aft w W → Calls Try.prog 13 #[.agg #[.int .i64 T.places, .slice a1 T.ways.length c1, .slice a2 T.words.length c2, .slice a3 T.starts.length c3, .slice a4 T.legs.length c4]] W fun e w' => e = .returned (.int .i64 (checkE T)) ∧ Aft W w') := Lib.hid fun W ha => check_any T a1 a2 a3 a4 c1 c2 c3 c4 W (hT.aft ha)
    clear hc hT
    generalize hE : checkE T = E at *
    have HE := Lib.hid hE
    clear hE
    go_enter Try.func38, Try.ntmps38
    go_wp2_with (go_at_call 13; refine (HCK.out _ (Aft.alloc _ _)).mono ?_; rintro e w1 ⟨rfl, ha1⟩)
    refine bodyPost_ret (v := .tuple #[.slice none 0 0, .int .i64 0, .int .i64 E]) (by simp [results, Try.results38, go_sem]) rfl ?_
    exact ⟨(Aft.alloc _ _).trans ha1, .inl ⟨by rw [HE.out]; exact HC.out, by rw [HE.out]⟩⟩
end Go.Proofs
end

section
/- Walks: whether a line can begin; Enough. -/
namespace Go.Proofs
open Go.RowKit

theorem containsFunc_int {α : Type} (R : World → α → List Value → Prop) (K : FuncId) (cap : List Value) (p : α → Bool) (A : Option Addr) (l : List α) (c : Nat) (w : World) (hA : RowsP w A 1 R l)
    (hK : ∀ args w, (callFunc K args).run Try.prog w = .ok (.enter K args) w)
    (hp : ∀ x ∈ l, ∀ v0, R w x [v0] → Asks Try.prog K cap w v0 (p x)) :
    Calls Try.prog 94 #[.slice A l.length c, .func (.func K) #[] cap.toArray] w fun e w' => e = .returned (.bool (l.any p)) ∧ Aft w w' := by
  have HC := Lib.hid (indexFunc_int R K cap p A l c w hA hK hp)
  go_enter Try.func94, Try.ntmps94
  go_wp2_with (go_at_call 103; refine HC.out.mono ?_; rintro e w' ⟨hr, ha⟩; obtain ⟨n, rfl, hn⟩ := hr.sign; clear hr; have HN := Lib.hid hn; clear hn)
  go_ret
  exact ⟨ret_bool (by have := HN.out; cases h : l.any p <;> simp_all), ha⟩

theorem runs_95 (args : Array Value) (w : World) : (callFunc 95 args).run Try.prog w = .ok (.enter 95 args) w := by simp [go_sem]
theorem runs_97 (args : Array Value) (w : World) : (callFunc 97 args).run Try.prog w = .ok (.enter 97 args) w := by simp [go_sem]

/-- A rule that lies in a box, asked for the start. -/
theorem rule95_any (B rb : Nat) (cs : Array Value) (g : Nat → Nat → Bool) (a : Int) (w : World) (hb : Blk w B 147 cs) (hg : BGrid cs g) (hr : w.cell? ⟨rb, 0, none⟩ = some (.func (.func 115) #[] #[.pointer (some ⟨B, 0, none⟩)])) (ha : 0 ≤ a) (ha' : a < 12) :
    Calls Try.prog 95 #[.int .i64 a, .pointer (some ⟨rb, 0, none⟩)] w fun e w' => e = .returned (.bool (g 0 a.toNat)) ∧ w = w' := by
  have HA := Lib.hid (ahead1_any B cs g 0 a w hb hg (by decide) (by decide) ha ha')
  go_enter Try.func95, Try.ntmps95
  go_wp2_with (go_at_call 115; refine HA.out.mono ?_; rintro e w' ⟨rfl, rfl⟩)
  go_ret
  exact ⟨rfl, rfl⟩
theorem rule97_any (B rb : Nat) (cs : Array Value) (g : Nat → Nat → Bool) (a : Int) (w : World) (hb : Blk w B 147 cs) (hg : BGrid cs g) (hr : w.cell? ⟨rb, 0, none⟩ = some (.func (.func 115) #[] #[.pointer (some ⟨B, 0, none⟩)])) (ha : 0 ≤ a) (ha' : a < 12) :
    Calls Try.prog 97 #[.int .i64 a, .pointer (some ⟨rb, 0, none⟩)] w fun e w' => e = .returned (.bool (g 0 a.toNat)) ∧ w = w' := by
  have HA := Lib.hid (ahead1_any B cs g 0 a w hb hg (by decide) (by decide) ha ha')
  go_enter Try.func97, Try.ntmps97
  go_wp2_with (go_at_call 115; refine HA.out.mono ?_; rintro e w' ⟨rfl, rfl⟩)
  go_ret
  exact ⟨rfl, rfl⟩

/-- whether a line can begin anywhere -/
def opens (T : Treaty) (f : Nat → Nat → Nat → Bool) : Bool := T.starts.any fun s => ahd T f T.legs.length 0 s.toNat

theorem opens_any (K : Nat) (hK : K = 95 ∨ K = 97) (T : Treaty) (f : Nat → Nat → Nat → Bool) (a3 : Option Addr) (c3 : Nat) (B rb : Nat) (cs : Array Value) (g : Nat → Nat → Bool) (w : World) (hs : Ints w a3 T.starts) (hb : Blk w B 147 cs) (hg : BGrid cs g) (hrl : rb < w.heap.size) (hr : w.cell? ⟨rb, 0, none⟩ = some (.func (.func 115) #[] #[.pointer (some ⟨B, 0, none⟩)]))
    (hst : ∀ s ∈ T.starts, 0 ≤ s ∧ s < T.places) (hp : T.places ≤ 12) (hgf : ∀ j, j < T.places.toNat → g 0 j = ahd T f T.legs.length 0 j) :
    Calls Try.prog 94 #[.slice a3 T.starts.length c3, .func (.func K) #[] #[.pointer (some ⟨rb, 0, none⟩)]] w fun e w' => e = .returned (.bool (opens T f)) ∧ Aft w w' := by
  have key : ∀ x ∈ T.starts, ∀ v0, IntR w x [v0] → Asks Try.prog K [.pointer (some ⟨rb, 0, none⟩)] w v0 (ahd T f T.legs.length 0 x.toNat) := by
    intro x hx v0 hv u
    cases hv
    have := hst x hx
    rw [← hgf x.toNat (by omega)]
    have hr' : (w.lat u).cell? ⟨rb, 0, none⟩ = some (.func (.func 115) #[] #[.pointer (some ⟨B, 0, none⟩)]) := (World.lat_cell _ _ _ _ hrl).trans hr
    rcases hK with rfl | rfl
    · exact (rule95_any B rb cs g x (w.lat u) (hb.lat u) hg hr' (by omega) (by omega)).mono fun _ _ ⟨h1, h2⟩ => ⟨h1, h2 ▸ Aft.refl _⟩
    · exact (rule97_any B rb cs g x (w.lat u) (hb.lat u) hg hr' (by omega) (by omega)).mono fun _ _ ⟨h1, h2⟩ => ⟨h1, h2 ▸ Aft.refl _⟩
  rcases hK with rfl | rfl
  · exact containsFunc_int IntR 95 [.pointer (some ⟨rb, 0, none⟩)] _ a3 T.starts c3 w hs runs_95 key
  · exact containsFunc_int IntR 97 [.pointer (some ⟨rb, 0, none⟩)] _ a3 T.starts c3 w hs runs_97 key
end Go.Proofs
end

section
/- Walks: Enough. -/
namespace Go.Proofs
open Go.RowKit

def enoughE (T : Treaty) (R S : List Int) : Int := if readE T R = 0 then (if S.all fun x => fromB x 0 (T.legs.length - 1) then (if risesB S then 0 else 5) else 2) else readE T R
noncomputable def enoughB (T : Treaty) (R S : List Int) : Bool := decide (enoughE T R S = 0) && opens T (setS (leadsF T R) S T.places.toNat)

/-- A desk on which legs yield, while they are laid. -/
structure Ed (w : World) (T : Treaty) (a1 a2 a3 a4 : Option Addr) (c1 c2 c3 c4 : Nat) (D : Nat) (f : Nat → Nat → Nat → Bool) (S : List Int) (p leg a b : Nat) (W : World) : Prop where
  aft : Aft w W
  box : Blk W w.heap.size 27 #[.int .i64 T.places, .slice a1 T.ways.length c1, .slice a2 T.words.length c2, .slice a3 T.starts.length c3, .slice a4 T.legs.length c4]
  desk : ∃ cs g, Blk W D 142 cs ∧ DGrid T a1 a2 a3 a4 c1 c2 c3 c4 cs g ∧ EInv f S p leg a b g
section
variable {w : World} {T : Treaty} {a1 a2 a3 a4 : Option Addr} {c1 c2 c3 c4 : Nat} {D : Nat} {f : Nat → Nat → Nat → Bool} {S : List Int} {p leg a b : Nat} {W : World}
theorem Ed.at0 (h : Ed w T a1 a2 a3 a4 c1 c2 c3 c4 D f S p leg a b W) : W.cell? ⟨w.heap.size, 0, none⟩ = some (.int .i64 T.places) := h.box.cell 0
theorem Ed.store (h : Ed w T a1 a2 a3 a4 c1 c2 c3 c4 D f S p leg a b W) (hD : w.heap.size < D) (hl : leg < 10) (ha : a < p) (hb : b < p) (hp : p ≤ 12) : Ed w T a1 a2 a3 a4 c1 c2 c3 c4 D f S p leg a (b + 1) (W.setCell ⟨D, 5 + leg * 144 + a * 12 + b, none⟩ (.bool true)) := by
  obtain ⟨cs, g, h1, h2, h3⟩ := h.desk
  exact ⟨h.aft.then_setCell (by simp; omega) _, h.box.far (by simp; omega) _, _, _, h1.store _ _, h2.set hl (by omega) (by omega) true, h3.step ha hb⟩
theorem Ed.row (h : Ed w T a1 a2 a3 a4 c1 c2 c3 c4 D f S p leg a p W) : Ed w T a1 a2 a3 a4 c1 c2 c3 c4 D f S p leg (a + 1) 0 W := by
  obtain ⟨cs, g, h1, h2, h3⟩ := h.desk
  exact ⟨h.aft, h.box, cs, g, h1, h2, h3.row⟩
theorem Ed.any (h : Ed w T a1 a2 a3 a4 c1 c2 c3 c4 D f S p leg 0 0 W) (leg' : Nat) : Ed w T a1 a2 a3 a4 c1 c2 c3 c4 D f S p leg' 0 0 W := by
  obtain ⟨cs, g, h1, h2, h3⟩ := h.desk
  exact ⟨h.aft, h.box, cs, g, h1, h2, h3.any leg'⟩
theorem Ed.done (h : Ed w T a1 a2 a3 a4 c1 c2 c3 c4 D f S p leg p 0 W) : Ed w T a1 a2 a3 a4 c1 c2 c3 c4 D f (S ++ [(leg : Int)]) p leg 0 0 W := by
  obtain ⟨cs, g, h1, h2, h3⟩ := h.desk
  exact ⟨h.aft, h.box, cs, g, h1, h2, h3.done⟩
theorem Ed.cell (h : Ed w T a1 a2 a3 a4 c1 c2 c3 c4 D f S p leg a b W) (hl : leg < 10) (ha : a < 12) (hb : b < 12) : ∃ x, W.cell? ⟨D, 5 + leg * 144 + a * 12 + b, none⟩ = some (.bool x) := by
  obtain ⟨cs, g, h1, h2, h3⟩ := h.desk
  exact ⟨_, (h2.desk h1).lead leg a b hl ha hb⟩
theorem Ed.frozen (h : Ed w T a1 a2 a3 a4 c1 c2 c3 c4 D f S p leg a b W) (i : Nat) : W.frozen? ⟨D, i, none⟩ = false := by
  obtain ⟨cs, g, h1, h2, h3⟩ := h.desk
  exact h1.frozen i
theorem Ed.full (h : Ed w T a1 a2 a3 a4 c1 c2 c3 c4 D f S p leg 0 0 W) : ∃ cs, Blk W D 142 cs ∧ DGrid T a1 a2 a3 a4 c1 c2 c3 c4 cs (setS f S p) := by
  obtain ⟨cs, g, h1, h2, h3⟩ := h.desk
  exact ⟨cs, h1, h2.congr fun i a b hi ha hb => h3.set hi ha hb⟩
end

theorem aft_cell {W W' : World} (h : Aft W W') {b i : Nat} (hb : b < W.heap.size) : W'.cell? ⟨b, i, none⟩ = W.cell? ⟨b, i, none⟩ := by obtain ⟨u, rfl⟩ := h; exact World.lat_cell _ _ _ _ hb

/-- What Enough answers. -/
def EnoughR (w : World) (T : Treaty) (R S : List Int) (e : Ending) (w' : World) : Prop := Aft w w' ∧ e = .returned (.tuple #[.bool (enoughB T R S), .int .i64 (enoughE T R S)])

set_option maxRecDepth 100000 in
set_option maxHeartbeats 2000000 in
theorem enough_any (w : World) (T : Treaty) (a1 a2 a3 a4 : Option Addr) (c1 c2 c3 c4 : Nat) (R : List Int) (AR : Option Addr) (cR : Nat) (S : List Int) (AS : Option Addr) (cS : Nat) (hT : TRep w T a1 a2 a3 a4) (hR : Ints w AR R) (hS : Ints w AS S) :
    Calls Try.prog 37 #[.agg #[.int .i64 T.places, .slice a1 T.ways.length c1, .slice a2 T.words.length c2, .slice a3 T.starts.length c3, .slice a4 T.legs.length c4], .slice AR R.length cR, .slice AS S.length cS] w (EnoughR w T R S) := by
  have hsl := hS.len
  by_cases hre : readE T R = 0
  · have HC := Lib.hid (read_good (c1 := c1) (c2 := c2) (c3 := c3) (c4 := c4) (cR := cR) hT hR hre)
    have ok := checkE_ok (readE_zero.1 hre).1
    have hl := ok.nlegs
    obtain ⟨p, hpp⟩ := Int.eq_ofNat_of_zero_le (show 0 ≤ T.places by have := ok.p1; omega)
    have hp12 : p ≤ 12 := by have := ok.p2; omega
    have hp1 : 1 ≤ p := by have := ok.p1; omega
    have HPP := Lib.hid hpp
    clear hpp
    have HRE := Lib.hid hre
    have HOK := Lib.hid ok
    clear hre ok
    have HEB := Lib.hid (fun (W : World) (h : Aft w W) (B : Nat) (hB : B < W.heap.size) (hc : W.cell? ⟨B, 0, none⟩ = some (.int .i64 (T.legs.length : Int))) => each_below AS S cS B (T.legs.length : Int) W (hS.aft h) hB hc (by omega) (by omega))
    have HRI := Lib.hid (fun (W : World) (h : Aft w W) => rises_any AS S cS W (hS.aft h))
    cases hall : S.all fun x => fromB x 0 ((T.legs.length : Int) - 1)
    · have HALL := Lib.hid hall
      clear hall
      go_enter Try.func37, Try.ntmps37
      go_wp2_with (first
        | (go_at_call 63; refine HC.out.mono ?_; rintro e w1 ⟨D, cs, rfl, hrd⟩; have HRD := Lib.hid hrd; have k4 := hrd.at4; clear hrd)
        | (go_at_call 51; refine (below_any _ _).mono ?_; rintro e w' ⟨rfl, rfl⟩)
        | (go_at_call 54; refine (HEB.out _ ((HRD.out.aft.then_alloc _)) w1.heap.size (by simp) (by simp)).mono ?_; rintro e w2 ⟨rfl, ha⟩; rw [HALL.out]))
      go_ret2
      have hE : enoughE T R S = 2 := by unfold enoughE; rw [if_pos HRE.out, HALL.out]; rfl
      exact ⟨(HRD.out.aft.then_alloc _).trans ha, by unfold enoughB; rw [hE]; rfl⟩
    · have HALL := Lib.hid hall
      clear hall
      cases hri : risesB S
      · have HRS := Lib.hid hri
        clear hri
        go_enter Try.func37, Try.ntmps37
        go_wp2_with (first
          | (go_at_call 63; refine HC.out.mono ?_; rintro e w1 ⟨D, cs, rfl, hrd⟩; have HRD := Lib.hid hrd; have k4 := hrd.at4; clear hrd)
          | (go_at_call 51; refine (below_any _ _).mono ?_; rintro e w' ⟨rfl, rfl⟩)
          | (go_at_call 54; refine (HEB.out _ ((HRD.out.aft.then_alloc _)) w1.heap.size (by simp) (by simp)).mono ?_; rintro e w2 ⟨rfl, ha⟩; rw [HALL.out])
          | (go_at_call 59; refine (HRI.out _ ((HRD.out.aft.then_alloc _).trans ha)).mono ?_; rintro e w3 ⟨rfl, ha3⟩; rw [HRS.out]))
        go_ret2
        have hE : enoughE T R S = 5 := by unfold enoughE; rw [if_pos HRE.out, HALL.out, HRS.out]; rfl
        exact ⟨((HRD.out.aft.then_alloc _).trans ha).trans ha3, by unfold enoughB; rw [hE]; rfl⟩
      · have HRS := Lib.hid hri
        clear hri
        have HS0 := Lib.hid (show ∀ x ∈ S, 0 ≤ x ∧ x < 10 from fun x hx => by have := List.all_eq_true.1 HALL.out x hx; have := fromB_iff.1 this; omega)
        go_enter Try.func37, Try.ntmps37
        go_wp2_with (first
          | (go_at_call 63; refine HC.out.mono ?_; rintro e w1 ⟨D, cs, rfl, hrd⟩; have HRD := Lib.hid hrd; have k4 := hrd.at4; clear hrd)
          | (go_at_call 51; refine (below_any _ _).mono ?_; rintro e w' ⟨rfl, rfl⟩)
          | (go_at_call 54; refine (HEB.out _ ((HRD.out.aft.then_alloc _)) w1.heap.size (by simp) (by simp)).mono ?_; rintro e w2 ⟨rfl, ha⟩; rw [HALL.out])
          | (go_at_call 59; refine (HRI.out _ ((HRD.out.aft.then_alloc _).trans ha)).mono ?_; rintro e w3 ⟨rfl, ha3⟩; rw [HRS.out]))
        have hrd3 := HRD.out.later (((Aft.alloc _ _).trans ha).trans ha3)
        have hgt := hrd3.gt
        have hed : Ed w T a1 a2 a3 a4 c1 c2 c3 c4 D (leadsF T R) [] p 0 0 0 w3 := ⟨hrd3.aft, hrd3.box, cs, _, hrd3.blk, hrd3.grid, EInv.init⟩
        have hE : enoughE T R S = 0 := by unfold enoughE; rw [if_pos HRE.out, HALL.out, HRS.out]; rfl
        have HE := Lib.hid hE
        clear hrd3 HRD ha ha3 HC HEB HRI k4 hE
        go_loopw [39] (fun i wr => ∃ k : Nat, i = .int .i64 k ∧ k ≤ S.length ∧ Ed w T a1 a2 a3 a4 c1 c2 c3 c4 D (leadsF T R) (S.take k) p 0 0 0 wr) (fun i _ => S.length - (intOf i).toNat)
        case atStart => exact ⟨0, rfl, by omega, hed⟩
        case round =>
          clear hed
          obtain ⟨k, rfl, hk, hed⟩ := hrel
          have HED := Lib.hid hed
          clear hed
          by_cases hkl : k < S.length
          · obtain ⟨bs, os, rfl, hbs, hcs⟩ := (hS.aft HED.out.aft).at hkl
            have cS' := hcs k hkl
            obtain ⟨l1, l2⟩ := HS0.out _ (List.getElem_mem hkl)
            obtain ⟨x, hx⟩ := Int.eq_ofNat_of_zero_le l1
            rw [hx] at cS'
            have hx10 : x < 10 := by omega
            have HX := Lib.hid (show S.take (k + 1) = S.take k ++ [(x : Int)] by rw [List.take_succ_eq_append_getElem hkl, hx])
            have k0 : wr.cell? ⟨w.heap.size, 0, none⟩ = some (.int .i64 p) := by have := HED.out.at0; rwa [HPP.out] at this
            have HED2 := Lib.hid (HED.out.any x)
            clear hcs l1 l2 hx HED
            obtain ⟨wo, hwo⟩ : ∃ wo : World, wo = wr := ⟨_, rfl⟩
            subst hwo
            go_wp2_with fail
            clear cS'
            go_loopw [45] (fun i wr => ∃ a : Nat, i = .int .i64 a ∧ a ≤ p ∧ Ed w T a1 a2 a3 a4 c1 c2 c3 c4 D (leadsF T R) (S.take k) p x a 0 wr) (fun i _ => p - (intOf i).toNat)
            case atStart => exact ⟨0, rfl, by omega, HED2.out⟩
            case round =>
              clear HED2 k0
              obtain ⟨a, rfl, hap, hed⟩ := hrel
              have HED := Lib.hid hed
              clear hed
              by_cases hal : a < p
              · have k0 : wr.cell? ⟨w.heap.size, 0, none⟩ = some (.int .i64 p) := by have := HED.out.at0; rwa [HPP.out] at this
                obtain ⟨wo2, hwo⟩ : ∃ wo2 : World, wo2 = wr := ⟨_, rfl⟩
                subst hwo
                go_wp2_with fail
                go_loopw [50] (fun i wr => ∃ b : Nat, i = .int .i64 b ∧ b ≤ p ∧ Ed w T a1 a2 a3 a4 c1 c2 c3 c4 D (leadsF T R) (S.take k) p x a b wr) (fun i _ => p - (intOf i).toNat)
                case atStart => exact ⟨0, rfl, by omega, HED.out⟩
                case round =>
                  clear HED k0
                  obtain ⟨b, rfl, hbp, hed⟩ := hrel
                  have HED := Lib.hid hed
                  clear hed
                  by_cases hbl : b < p
                  · obtain ⟨o, hcell⟩ := HED.out.cell (leg := x) (a := a) (b := b) hx10 (by omega) (by omega)
                    have hfz := HED.out.frozen (5 + x * 144 + a * 12 + b)
                    have i1 : (0 : Int) ≤ (x : Int) ∧ (x : Int) < 10 := by omega
                    have i2 : (0 : Int) ≤ (a : Int) ∧ (a : Int) < 12 := by omega
                    have i3 : (0 : Int) ≤ (b : Int) ∧ (b : Int) < 12 := by omega
                    go_wp2_with fail
                    refine ⟨⟨b + 1, by go_num, by omega, HED.out.store hgt hx10 hal hbl hp12⟩, by simp [intOf]; omega⟩
                  · obtain rfl : b = p := by omega
                    go_wp2_with fail
                    refine ⟨⟨a + 1, by go_num, by omega, HED.out.row⟩, by simp [intOf]; omega⟩
              · obtain rfl : a = p := by omega
                go_wp2_with fail
                refine ⟨⟨k + 1, by go_num, by omega, ?_⟩, by simp [intOf]; omega⟩
                rw [HX.out]
                exact HED.out.done.any 0
          · obtain rfl : k = S.length := by omega
            have hfull := HED.out
            rw [List.take_of_length_le (Nat.le_refl _)] at hfull
            obtain ⟨cs5, hb5, hg5⟩ := hfull.full
            have HAH := Lib.hid (ahead_any D T a1 a2 a3 a4 c1 c2 c3 c4 (setS (leadsF T R) S p) wr (hg5.desk hb5) HOK.out.p1 HOK.out.p2 HOK.out.nlegs)
            have k3 : wr.cell? ⟨w.heap.size, 3, none⟩ = some (.slice a3 T.starts.length c3) := HED.out.box.cell 3
            have hbl := HED.out.box.lt
            clear hfull hb5 hg5
            go_wp2_with fail
            refine HAH.out.mono ?_
            rintro e w5 ⟨B, cs6, g, rfl, hb6, hg6, hgf, hB, ha6⟩
            have HB6 := Lib.hid hb6
            have HG6 := Lib.hid hg6
            have HGF := Lib.hid hgf
            have k35 := (aft_cell ha6 hbl).trans k3
            have hbl5 := Nat.lt_of_lt_of_le hbl ha6.size
            clear hb6 hg6 hgf k3 hbl
            have HOP := Lib.hid (fun (W : World) (h : Aft w5 W) (rb : Nat) (hrl : rb < W.heap.size) (hr : W.cell? ⟨rb, 0, none⟩ = some (.func (.func 115) #[] #[.pointer (some ⟨B, 0, none⟩)])) =>
              opens_any 95 (.inl rfl) T (setS (leadsF T R) S p) a3 c3 B rb cs6 g W (hT.starts.aft ((HED.out.aft.trans ha6).trans h)) (HB6.out.aft h) HG6.out hrl hr HOK.out.starts HOK.out.p2 (fun j hj => HGF.out 0 j (by omega) hj))
            go_wp2_with (go_at_call 94; refine (HOP.out _ (Aft.alloc _ _) w5.heap.size (by simp) (by simp)).mono ?_; rintro e w6 ⟨rfl, ha7⟩)
            go_ret2
            refine ⟨((HED.out.aft.trans ha6).then_alloc _).trans ha7, ?_⟩
            unfold enoughB
            rw [HE.out, HPP.out]
            rfl
  · have hb : (readE T R != 0) = true := by simpa using hre
    have HC := Lib.hid (read_bad (c1 := c1) (c2 := c2) (c3 := c3) (c4 := c4) (cR := cR) hT hR hre)
    have HRE := Lib.hid hre
    clear hre
    go_enter Try.func37, Try.ntmps37
    go_wp2_with (go_at_call 63; refine HC.out.mono ?_; rintro e w' ⟨rfl, ha⟩)
    go_ret2
    have hE : enoughE T R S = readE T R := if_neg HRE.out
    exact ⟨ha, by unfold enoughB; rw [hE, decide_eq_false HRE.out]; rfl⟩
end Go.Proofs
end

section
/- Walks: Readings. -/
namespace Go.Proofs
open Go.RowKit
attribute [local go_sem] Oper.semAt_some

/-- The readings in which some line agrees, of the first ones. -/
noncomputable def readK (T : Treaty) (k : Nat) : List (List Int) := ((readingsL T).take k).filter fun R => opens T (leadsF T R)
theorem readK_succ (T : Treaty) {k : Nat} (h : k < prodN (lensOf T)) : readK T (k + 1) = readK T k ++ if opens T (leadsF T (dig (lensOf T) k)) then [dig (lensOf T) k] else [] := by
  have h' : k < (readingsL T).length := by rw [readingsL_len]; exact h
  unfold readK
  rw [List.take_succ_eq_append_getElem h', List.filter_append, readingsL_get]
  simp [List.filter_cons]
theorem readK_len (T : Treaty) (k : Nat) : (readK T k).length ≤ k := Nat.le_trans (List.length_filter_le _ _) (by simp; omega)

/-- What Readings answers. -/
def ReadingsR (w : World) (T : Treaty) (e : Ending) (w' : World) : Prop :=
  Aft w w' ∧ ((checkE T ≠ 0 ∧ e = .returned (.tuple #[.slice none 0 0, .int .i64 (checkE T)])) ∨
    (checkE T = 0 ∧ ∃ v, e = .returned (.tuple #[v, .int .i64 0]) ∧ OwnLists w' w.heap.size v (readK T (prodN (lensOf T)))))

theorem own_slice {W : World} {base : Nat} {e : TypeId} {size : Nat} {v : Value} {k : Nat} {xs : List Value} (h : W.ownsRow base e size v k xs) : ∃ A n c, v = .slice A n c := by
  rcases h.2 with ⟨rfl, _⟩ | ⟨g, cap, _, rfl, _⟩
  · exact ⟨_, _, _, rfl⟩
  · exact ⟨_, _, _, rfl⟩
theorem OwnLs.kept3 {W W' : World} {base : Nat} {v : Value} {vs : List Value} {ls : List (List Int)} (h : OwnLs W base v vs ls) {r : Nat} (hg : W.grownBy W' (some r)) (hr : r < base) : OwnLs W' base v vs ls :=
  ⟨own_kept h.own hg hr, fun i hi hi' => own_kept (h.rows i hi hi') hg hr, h.apart⟩

/-- Between two rounds of Readings. -/
structure ReadI (w : World) (T : Treaty) (a1 a2 a3 a4 : Option Addr) (c1 c2 c3 c4 : Nat) (S k : Nat) (W : World) : Prop where
  aft : Aft w W
  box : Blk W w.heap.size 27 #[.int .i64 T.places, .slice a1 T.ways.length c1, .slice a2 T.words.length c2, .slice a3 T.starts.length c3, .slice a4 T.legs.length c4]
  box2 : Blk W (S + 1) 27 #[.int .i64 T.places, .slice a1 T.ways.length c1, .slice a2 T.words.length c2, .slice a3 T.starts.length c3, .slice a4 T.legs.length c4]
  out : ∃ v vs, Blk W S 41 #[v] ∧ OwnLs W (S + 5) v vs (readK T k)
theorem ReadI.three {w : World} {T : Treaty} {a1 a2 a3 a4 : Option Addr} {c1 c2 c3 c4 : Nat} {S : Nat} (hS : w.heap.size < S) : Three (S + 2) (fun k W => ReadI w T a1 a2 a3 a4 c1 c2 c3 c4 S k W) := by
  rintro k W W' r ⟨h1, h2, h3, v, vs, h5, h6⟩ hg hr1 hr2
  exact ⟨h1.grown hg (fun k e => by cases e; omega), h2.grown hg (fun e => by cases e; omega), h3.grown hg (fun e => by cases e; omega), v, vs, h5.grown hg (fun e => by cases e; omega), h6.kept3 hg (by omega)⟩

set_option maxRecDepth 100000 in
set_option maxHeartbeats 2000000 in
theorem readingsX_any (w : World) (T : Treaty) (a1 a2 a3 a4 : Option Addr) (c1 c2 c3 c4 : Nat) (hT : TRep w T a1 a2 a3 a4) : Calls Try.prog 43 #[.agg #[.int .i64 T.places, .slice a1 T.ways.length c1, .slice a2 T.words.length c2, .slice a3 T.starts.length c3, .slice a4 T.legs.length c4]] w (ReadingsR w T) := by
  by_cases hc : checkE T = 0
  · have ok := checkE_ok hc
    have HC := Lib.hid hc
    have HT := Lib.hid hT
    clear hc hT
    have HCK : Hid (∀ W, Aft w W → Calls Try.prog 13 #[.agg #[.int .i64 T.places, .slice a1 T.ways.length c1, .slice a2 T.words.length c2, .slice a3 T.starts.length c3, .slice a4 T.legs.length c4]] W fun e w' => e = .returned (.int .i64 (checkE T)) ∧ Aft W w') := Lib.hid fun W ha => check_any T a1 a2 a3 a4 c1 c2 c3 c4 W (HT.out.aft ha)
    rw [HC.out] at HCK
    refine (callsIn_wide (n := 5)).1 ?_
    refine callsIn_of_wp_marks Try.func43 rfl trivial ?_ rfl
    simp only [Try.ntmps43, List.size_toArray, List.length_cons, List.length_nil, Nat.reduceAdd, Nat.reduceSub, Array.replicate_succ, Array.replicate_zero, List.push_toArray, List.append_toArray, List.nil_append, List.cons_append]
    refine wpIn_wide.2 ?_
    go_upto_block 0 with (first
      | (go_at_call 13; refine (HCK.out _ (Aft.alloc _ _)).mono ?_; rintro e w1 ⟨rfl, ha1⟩; have hb1 := (Blk.new w 27 _).aft ha1; have hlt1 := hb1.lt; obtain ⟨k0, k1, k2, k3, k4⟩ := box_cells hb1)
      | (go_at_call 73; refine (readings_any T a1 a2 a3 a4 c1 c2 c3 c4 _).mono ?_; rintro e w4 ⟨rfl, rfl⟩))
    have hA4 : Aft w ((w1.alloc (.cells #[.slice none 0 0] 41)).alloc (.cells #[.int .i64 T.places, .slice a1 T.ways.length c1, .slice a2 T.words.length c2, .slice a3 T.starts.length c3, .slice a4 T.legs.length c4] 27)) := (((Aft.alloc w _).trans ha1).then_alloc _).then_alloc _
    have hb4 := (hb1.alloc (.cells #[.slice none 0 0] 41)).alloc (.cells #[.int .i64 T.places, .slice a1 T.ways.length c1, .slice a2 T.words.length c2, .slice a3 T.starts.length c3, .slice a4 T.legs.length c4] 27)
    have hc4 := (Blk.new w1 41 #[.slice none 0 0]).alloc (.cells #[.int .i64 T.places, .slice a1 T.ways.length c1, .slice a2 T.words.length c2, .slice a3 T.starts.length c3, .slice a4 T.legs.length c4] 27)
    have he4 := Blk.new (w1.alloc (.cells #[.slice none 0 0] 41)) 27 #[.int .i64 T.places, .slice a1 T.ways.length c1, .slice a2 T.words.length c2, .slice a3 T.starts.length c3, .slice a4 T.legs.length c4]
    have hz4 : ((w1.alloc (.cells #[.slice none 0 0] 41)).alloc (.cells #[.int .i64 T.places, .slice a1 T.ways.length c1, .slice a2 T.words.length c2, .slice a3 T.starts.length c3, .slice a4 T.legs.length c4] 27)).heap.size = w1.heap.size + 2 := by simp
    simp only [World.size_alloc] at he4
    clear k0 k1 k2 k3 k4 hb1 ha1
    generalize ((w1.alloc (.cells #[.slice none 0 0] 41)).alloc (.cells #[.int .i64 T.places, .slice a1 T.ways.length c1, .slice a2 T.words.length c2, .slice a3 T.starts.length c3, .slice a4 T.legs.length c4] 27)) = w4 at *
    generalize w1.heap.size = S at *
    have HI0 : Hid (ReadI w T a1 a2 a3 a4 c1 c2 c3 c4 S 0 w4) := Lib.hid ⟨hA4, hb4, he4, _, [], hc4, OwnLs.nil⟩
    clear hA4 hb4 hc4 he4
    refine wp_block ?_
    refine (wpIn_wide (n := 5)).1 ?_
    refine wpIn_range3 (gf := 109) (lb := #[.pointer (some ⟨S + 1, 0, none⟩)]) rfl (fun args w => by simp [go_sem]) (iter109 _ (S + 1) _ T a2 c2 ok) (fun k W0 W v r o h hr => h.put hr o)
      (fun k W => ReadI w T a1 a2 a3 a4 c1 c2 c3 c4 S k W) (fun _ _ => False) (by rw [hz4]; exact ReadI.three hlt1) (fun _ _ _ _ _ h _ _ _ => h) (fun k W h => ⟨(box_cells h.box2).2.2.1, (HT.out.aft h.aft).words⟩) HI0.out
      (fun v => { tmps := #[.agg #[.int .i64 T.places, .slice a1 T.ways.length c1, .slice a2 T.words.length c2, .slice a3 T.starts.length c3, .slice a4 T.legs.length c4], .pointer (some ⟨w.heap.size, 0, none⟩), .slice none 0 0, .int .i64 0, .int .i64 0, .pointer (some ⟨S, 0, none⟩), v, undef, .agg #[.int .i64 T.places, .slice a1 T.ways.length c1, .slice a2 T.words.length c2, .slice a3 T.starts.length c3, .slice a4 T.legs.length c4], .int .i64 0, .int .i64 0, .bool false, undef, .agg #[.int .i64 T.places, .slice a1 T.ways.length c1, .slice a2 T.words.length c2, .slice a3 T.starts.length c3, .slice a4 T.legs.length c4], .func (.func 109) #[] #[.pointer (some ⟨S + 1, 0, none⟩)], v, undef, undef, undef, undef, undef, undef, undef, undef, undef, undef, undef, undef, undef], defers := [] }) ?assign ?body ?done ?stop
    case assign =>
      intro l v W K hK
      gi_wp2_with fail
      exact hK
    case body =>
      intro l k v W0 W hk hI ha hB hv
      have hdl : (dig (lensOf T) k).length ≤ 6 := by rw [dig_len]; simp only [lensOf, List.length_map]; exact ok.nwords
      obtain ⟨AR, cR, rfl, _, hir⟩ := own_ints hv (by omega)
      have hTW := HT.out.aft (hI.aft.trans ha)
      have hro := readOk_iff.2 (dig_ok _ _ ok.lens hk)
      have HOP := Lib.hid (opened_any W T a1 a2 a3 a4 c1 c2 c3 c4 (dig (lensOf T) k) AR cR hTW hir ok hro)
      have HFS := Lib.hid (readK_succ T hk)
      have hmany := (readings_many ok).1
      rw [readingsL_len] at hmany
      have HRL := Lib.hid (Nat.le_trans (readK_len T k) (Nat.le_of_lt hk))
      have HMY := Lib.hid hmany
      have HII := Lib.hid hI
      have HV : Hid (W.ownsRow W0.heap.size 3 1 (.slice AR (dig (lensOf T) k).length cR) (dig (lensOf T) k).length ((dig (lensOf T) k).map (Value.int .i64))) := Lib.hid hv
      have HAA := Lib.hid ha
      have hbW := hI.box.aft ha
      obtain ⟨k0, k1, k2, k3, k4⟩ := box_cells hbW
      have hltW := hbW.lt
      have HBW := Lib.hid hbW
      have OK := Lib.hid ok
      have HAH := Lib.hid (fun (w5 : World) (D : Nat) (hd : Desk w5 D T a1 a2 a3 a4 c1 c2 c3 c4 (leadsF T (dig (lensOf T) k))) => ahead_any D T a1 a2 a3 a4 c1 c2 c3 c4 (leadsF T (dig (lensOf T) k)) w5 hd OK.out.p1 OK.out.p2 OK.out.nlegs)
      clear hTW hro hI hv ha hir hbW ok hmany
      generalize dig (lensOf T) k = R at *
      have HS3 := Lib.hid (fun (X : World) (hX : Aft W X) => HT.out.starts.aft ((HII.out.aft.trans HAA.out).trans hX))
      have HOX := Lib.hid (fun (w6 : World) (B' : Nat) (cs2 : Array Value) (g : Nat → Nat → Bool) (hX : Aft W w6) (hb : Blk w6 B' 147 cs2) (hg : BGrid cs2 g) (hgf : ∀ (i j : Nat), i ≤ T.legs.length → j < T.places.toNat → g i j = ahd T (leadsF T R) (T.legs.length - i) i j) =>
        opens_any 97 (.inr rfl) T (leadsF T R) a3 c3 B' w6.heap.size cs2 g (w6.alloc (.cells #[.func (.func 115) #[] #[.pointer (some ⟨B', 0, none⟩)]] 145)) (HS3.out _ (hX.then_alloc _)) (hb.alloc _) hg (by simp) (by simp) OK.out.starts OK.out.p2 (fun j hj => by have := hgf 0 j (Nat.zero_le _) hj; simpa using this))
      obtain ⟨ov, ovs, hob, hol⟩ := HII.out.out
      have HOB := Lib.hid hob
      have HOL := Lib.hid hol
      have hbase : S + 5 ≤ W0.heap.size := by omega
      clear hob hol
      refine wpIn_block ?_
      refine wpIn_seq_k fun K1 H1 => ?_
      refine wpIn_region_of_list (by kernel_rfl) ?_
      go_wp2_with (first
        | (go_at_call 74; refine HOP.out.mono ?_; rintro e w5 ⟨D, cs, rfl, hD, ha5, hbD, hgD⟩; have hd5 := hgD.desk hbD; have HD5 := Lib.hid hd5; have HA5 := Lib.hid ha5; clear hbD hgD hd5 ha5 HOP)
        | (go_at_call 93; refine (HAH.out w5 D HD5.out).mono ?_; rintro e w6 ⟨B', cs2, g, rfl, hbL, hgL, hgf, hL, ha6⟩; have HBL := Lib.hid hbL; have HGL := Lib.hid hgL; have HGF := Lib.hid hgf; have HA6 := Lib.hid (HA5.out.trans ha6); have hb6 := HBW.out.aft HA6.out; have hlt6 := hb6.lt; obtain ⟨m0, m1, m2, m3, m4⟩ := box_cells hb6; clear hbL hgL hgf ha6 HAH hb6))
      change K1 _ _
      refine H1 _ _ ?_
      clear H1
      refine wpIn_seq_k fun K2 H2 => ?_
      refine wpIn_region_of_list (by kernel_rfl) ?_
      go_wp2_with (go_at_call 94; refine (HOX.out w6 B' cs2 g HA6.out HBL.out HGL.out HGF.out).mono ?_; rintro e w7 ⟨rfl, ha7⟩; have HA7 := Lib.hid ((HA6.out.trans (Aft.alloc _ _)).trans ha7); have HO7 := Lib.hid ((HOB.out.aft HAA.out).aft HA7.out); have s7 : w7.cell? ⟨S, 0, none⟩ = some ov := HO7.out.cell 0; have ls7 := HO7.out.lt; clear ha7)
      change K2 _ _
      refine H2 _ _ ?_
      clear H2
      cases hop : opens T (leadsF T R)
      · refine wpIn_cond_false (by simp [Act.eval]) ?_
        refine wpIn_skip ?_
        change Kept3 w4.heap.size W w7 ∧ ReadI w T a1 a2 a3 a4 c1 c2 c3 c4 S (k + 1) w7
        rw [hz4]
        refine ⟨Kept3.of_aft HA7.out (by have := HAA.out.size; omega), HII.out.aft.trans (HAA.out.trans HA7.out), HII.out.box.aft (HAA.out.trans HA7.out), HII.out.box2.aft (HAA.out.trans HA7.out), ov, ovs, HO7.out, ?_⟩
        rw [HFS.out, hop]
        simpa using HOL.out.aft (HAA.out.trans HA7.out)
      · have HP := Lib.hid hop
        refine wpIn_cond_true (by simp [Act.eval]) ?_
        clear hop
        refine wpIn_region_of_list (by kernel_rfl) ?_
        go_wp2_with (at_builtin; refine wpList_app_list rfl _ _ rfl HOL.out hbase rfl rfl (new_one w7 (.slice AR R.length cR) 24) rfl ((HAA.out.trans HA7.out).then_alloc _) (own_aft HV.out (HA7.out.then_alloc _)) (by have := HRL.out; have := HMY.out; omega) ?_; intro v' vs' w9 hol9 hg9; obtain ⟨A9, n9, c9, rfl⟩ := own_slice hol9.own; have hgs : some S ≠ ov.ownBlock := (fun e => by have := own_ge HOL.out.own _ e.symm; omega); have hb9 := (HO7.out.alloc (.cells #[.slice AR R.length cR] 24)).grown hg9 hgs; have f9 := hb9.frozen 0; have t9 : w9.cell? ⟨S, 0, none⟩ = some ov := hb9.cell 0; have HB9 := Lib.hid hb9; have HOL9 := Lib.hid hol9; have HG9 := Lib.hid hg9; have l9 := hb9.lt; clear hb9 hol9 hg9)
        change Kept3 w4.heap.size W (w9.setCell ⟨S, 0, none⟩ (.slice A9 n9 c9)) ∧ ReadI w T a1 a2 a3 a4 c1 c2 c3 c4 S (k + 1) (w9.setCell ⟨S, 0, none⟩ (.slice A9 n9 c9))
        have hov : ∀ g, ov.ownBlock = some g → S + 5 ≤ g := own_ge HOL.out.own
        have hAA7 := HAA.out.trans HA7.out
        have hsz := HAA.out.size
        have hsz7 := HA7.out.size
        rw [hz4]
        refine ⟨((Kept3.of_aft (HA7.out.then_alloc (.cells #[.slice AR R.length cR] 24)) (by omega)).trans (Kept3.of_grown HG9.out (by simp; omega) (fun g hg => .inr (by have := hov g hg; omega)))).setCell (.inl (by show S < S + 2; omega)) _, ?_⟩
        have hne : some w.heap.size ≠ ov.ownBlock := fun e => by have := hov _ e.symm; omega
        have hne2 : some (S + 1) ≠ ov.ownBlock := fun e => by have := hov _ e.symm; omega
        refine ⟨(((HII.out.aft.trans hAA7).then_alloc (.cells #[.slice AR R.length cR] 24)).grown HG9.out (fun g hg => by have := hov g hg; omega)).then_setCell (p := ⟨S, 0, none⟩) (by show w.heap.size ≤ S; omega) _,
          (((HII.out.box.aft hAA7).alloc _).grown HG9.out hne).far (by show w.heap.size ≠ S; omega) _, (((HII.out.box2.aft hAA7).alloc _).grown HG9.out hne2).far (by show S + 1 ≠ S; omega) _, _, vs', HB9.out.store 0 _, ?_⟩
        rw [HFS.out, HP.out]
        exact HOL9.out.kept3 (grownBy_setCell' w9 S _) (by omega)
    case done =>
      intro D W hD hI hK
      obtain ⟨v, vs, hb1, hb2⟩ := hI.out
      have c1 : W.cell? ⟨S, 0, none⟩ = some v := hb1.cell 0
      have HA := Lib.hid hI.aft
      have HB2 := Lib.hid hb2
      have HKD := Lib.hid hK
      have hlt3 := hb1.lt
      have hDz : D = S + 2 := by omega
      clear hI hb1 hb2 hK hD
      go_wp2_with fail
      refine ⟨by simp, .inl ⟨_, _, rfl, run_takeDeferred (w := W) HKD.out, ?_⟩⟩
      refine ⟨.tuple #[v, .int .i64 0], by simp [results, go_sem], ?_⟩
      exact ⟨HA.out.grown (grownBy_putObj' _ _ _) (fun k e => by cases e; omega), .inr ⟨HC.out, v, rfl, vs, (HB2.out.kept3 (grownBy_putObj' _ D _) (by omega)).mono (by omega)⟩⟩
    case stop =>
      intro D c W _ h _
      exact h.elim
  · have HC := Lib.hid hc
    have hne : (checkE T != 0) = true := by simpa using hc
    have HCK : Hid (∀ W, Aft w W → Calls Try.prog 13 #[.agg #[.int .i64 T.places, .slice a1 T.ways.length c1, .slice a2 T.words.length c2, .slice a3 T.starts.length c3, .slice a4 T.legs.length c4]] W fun e w' => e = .returned (.int .i64 (checkE T)) ∧ Aft W w') := Lib.hid fun W ha => check_any T a1 a2 a3 a4 c1 c2 c3 c4 W (hT.aft ha)
    clear hc hT
    generalize hE : checkE T = E at *
    have HE := Lib.hid hE
    clear hE
    go_enter Try.func43, Try.ntmps43
    go_wp2_with (go_at_call 13; refine (HCK.out _ (Aft.alloc _ _)).mono ?_; rintro e w1 ⟨rfl, ha1⟩)
    refine bodyPost_ret (v := .tuple #[.slice none 0 0, .int .i64 E]) (by simp [results, Try.results43, go_sem]) rfl ?_
    exact ⟨(Aft.alloc _ _).trans ha1, .inl ⟨by rw [HE.out]; exact HC.out, by rw [HE.out]⟩⟩
end Go.Proofs
end
