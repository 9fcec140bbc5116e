/- Merged by program out of the texts Ctw Rgi. -/
import Derived.Test.YtfliejmidnnggaaZ03
import Derived.BigGuard
section
/- Walks: CloneTreaty. -/
namespace Go.Proofs
open Go.RowKit

/-- What CloneTreaty answers: the same treaty in blocks of its own. -/
def CloneR (w : World) (T : Treaty) (e : Ending) (w' : World) : Prop :=
  ∃ (a1 a2 a3 a4 : Option Addr) (c1 c2 c3 c4 : Nat), ∃ S : Nat → Prop, e = .returned (.agg #[.int .i64 T.places, .slice a1 T.ways.length c1, .slice a2 T.words.length c2, .slice a3 T.starts.length c3, .slice a4 T.legs.length c4]) ∧ (T.legs.length ≤ c4 ∧ (a4 = none ∧ c4 = 0 ∨ ∃ g, a4 = some ⟨g, 0, none⟩)) ∧ Aft w w' ∧ Sup w' S (fun W => TRep W T a1 a2 a3 a4) ∧ N27 w' S ∧ ∀ k, S k → w.heap.size ≤ k

theorem own_apart {W : World} {b b' sz sz' n n' : Nat} {e e' : TypeId} {v v' : Value} {xs xs' : List Value} (h : W.ownsRow b e sz v n xs) (h' : W.ownsRow b' e' sz' v' n' xs') (he : e ≠ e') : ∀ k, v'.ownBlock = some k → v.ownBlock ≠ some k := fun k h1 h2 => by
  obtain ⟨c1, q1⟩ := own_block h h2
  obtain ⟨c2, q2⟩ := own_block h' h1
  rw [q1] at q2
  cases q2
  exact he rfl
/-- Between two words. -/
def MC1 (X : World) (b : Nat) (T : Treaty) (v1 v3 v4 : Value) (k : Nat) (W : World) : Prop :=
  ∃ (v2 : Value) (S : Nat → Prop) (xs : List Value), Aft X W ∧ Blk W b 27 #[.int .i64 T.places, v1, v2, v3, v4] ∧ W.ownsRow X.heap.size 86 3 v1 T.ways.length (T.ways.flatMap encWay) ∧ W.ownsRow X.heap.size 3 1 v3 T.starts.length (T.starts.map (Value.int .i64)) ∧ W.ownsRow X.heap.size 83 2 v4 T.legs.length (T.legs.flatMap encLeg) ∧
    OwnK WordR 78 1 X.heap.size v2 S (T.words.take k) xs W ∧ N27 W S
/-- Between two meanings. -/
def MC2 (y : World) (l : List Mean) (k : Nat) (vS : Value) (W : World) : Prop :=
  ∃ (S : Nat → Prop) (xs : List Value), Aft y W ∧ OwnK MeanR 80 2 y.heap.size vS S (l.take k) xs W ∧ N27 W S

set_option maxRecDepth 100000 in
set_option maxHeartbeats 4000000 in
theorem cloneTreaty_any (w : World) (T : Treaty) (a1 a2 a3 a4 : Option Addr) (c1 c2 c3 c4 : Nat) (hT : TRep w T a1 a2 a3 a4) (hl1 : T.ways.length ≤ 1000) (hl2 : T.words.length ≤ 100) (hl3 : T.starts.length ≤ 1000) (hl4 : T.legs.length ≤ 1000) (hwl : ∀ l ∈ T.words, l.length ≤ 100) :
    Calls Try.prog 10 #[.agg #[.int .i64 T.places, .slice a1 T.ways.length c1, .slice a2 T.words.length c2, .slice a3 T.starts.length c3, .slice a4 T.legs.length c4]] w (CloneR w T) := by
  have HT0 := Lib.hid hT
  have HWL := Lib.hid hwl
  clear hT hwl
  go_enter Try.func10, Try.ntmps10
  go_upto_region 1 with fail
  have ha0 : Aft w ((w.alloc (.cells #[.int .i64 T.places, .slice a1 T.ways.length c1, .slice a2 T.words.length c2, .slice a3 T.starts.length c3, .slice a4 T.legs.length c4] 27)).alloc (.cells #[.int .i64 0, .slice none 0 0, .slice none 0 0, .slice none 0 0, .slice none 0 0] 27)) := (Aft.alloc _ _).then_alloc _
  have hB1 : Blk ((w.alloc (.cells #[.int .i64 T.places, .slice a1 T.ways.length c1, .slice a2 T.words.length c2, .slice a3 T.starts.length c3, .slice a4 T.legs.length c4] 27)).alloc (.cells #[.int .i64 0, .slice none 0 0, .slice none 0 0, .slice none 0 0, .slice none 0 0] 27)) w.heap.size 27 #[.int .i64 T.places, .slice a1 T.ways.length c1, .slice a2 T.words.length c2, .slice a3 T.starts.length c3, .slice a4 T.legs.length c4] := (Blk.new _ _ _).alloc _
  have hC := Blk.new (w.alloc (.cells #[.int .i64 T.places, .slice a1 T.ways.length c1, .slice a2 T.words.length c2, .slice a3 T.starts.length c3, .slice a4 T.legs.length c4] 27)) 27 #[.int .i64 0, .slice none 0 0, .slice none 0 0, .slice none 0 0, .slice none 0 0]
  rw [World.size_alloc] at hC
  generalize ((w.alloc (.cells #[.int .i64 T.places, .slice a1 T.ways.length c1, .slice a2 T.words.length c2, .slice a3 T.starts.length c3, .slice a4 T.legs.length c4] 27)).alloc (.cells #[.int .i64 0, .slice none 0 0, .slice none 0 0, .slice none 0 0, .slice none 0 0] 27)) = X at *
  have HA0 := Lib.hid ha0
  have HB1 := Lib.hid hB1
  have HC := Lib.hid hC
  clear ha0 hB1 hC
  refine region1_ctlit T a1 a2 a3 a4 c1 c2 c3 c4 w.heap.size X (HT0.out.aft HA0.out) HB1.out hl1 hl4 _ _ _ _ _ _ _ _ _ _ _ _ _ _ _ _ _ _ _ _ _ _ _ _ _ _ _ _ _ _ _ _ _ _ _ _ _ _ _ _ _ _ _ _ _ _ _ _ _ _ _ _ _ ?_
  intro u3 u9 u10 u11 u12 u13 u14 u15 u16 u17 u18 u19 u20 W0 b e3 hbX hgood haX
  subst e3
  obtain ⟨v1, v3, v4, hb, o1, o3, o4⟩ := hgood
  have HM1 : Hid (MC1 X b T v1 v3 v4 0 W0) := Lib.hid ⟨.slice none 0 0, _, [], haX, hb, o1, o3, o4, OwnK.nil _ _ _ _, fun _ h => h.elim⟩
  have HBX := Lib.hid hbX
  have k2 : W0.cell? ⟨w.heap.size, 2, none⟩ = some (.slice a2 T.words.length c2) := (HB1.out.aft haX).cell 2
  clear hb o1 o3 o4 haX hbX
  (repeat (first | go_big_skip | go_big_want | go_big_move | go_big_op | go_step | go_upon | go_back))
  go_loopw [24] (fun i wr => ∃ k : Nat, i = .int .i64 k ∧ k ≤ T.words.length ∧ MC1 X b T v1 v3 v4 k wr) (fun i _ => T.words.length - (intOf i).toNat)
  case atStart => exact ⟨0, rfl, by omega, HM1.out⟩
  case round =>
    obtain ⟨k, rfl, hk, hM⟩ := hrel
    obtain ⟨v2, S, xs, haX, hb, o1, o3, o4, o2, n2⟩ := hM
    have HAX := Lib.hid haX
    have HBB := Lib.hid hb
    have HO1 := Lib.hid o1
    have HO3 := Lib.hid o3
    have HO4 := Lib.hid o4
    have HO2 := Lib.hid o2
    have HN2 := Lib.hid n2
    clear haX hb o1 o3 o4 o2 n2 HM1 k2
    by_cases hkn : k < T.words.length
    · have hdec : decide ((k : Int) < (T.words.length : Int)) = true := by simp; omega
      obtain ⟨bw, ow, ew, hbw, hcw⟩ := (HT0.out.aft (HA0.out.trans HAX.out)).words.at hkn
      obtain ⟨vs, hv1, ⟨Am, cm, rfl, hms⟩, hv3⟩ := hcw k hkn
      have cM : wr.cell? ⟨bw, ow + k, none⟩ = some (.slice Am T.words[k].length cm) := by have := hv3 0 (by simp); simpa using this
      have hml := HWL.out _ (List.getElem_mem hkn)
      have HTK : Hid (T.words.take (k + 1) = T.words.take k ++ [T.words[k]]) := Lib.hid (List.take_succ_eq_append_getElem hkn)
      have HMS := Lib.hid hms
      have i1 : (0 : Int) ≤ (k : Int) ∧ (k : Int) < (T.words.length : Int) := by omega
      have i1n : k < T.words.length := hkn
      clear hv1 hv3 hcw hms
      generalize T.words[k] = l at *
      subst ew
      (repeat (first | go_big_skip | go_big_want | go_big_move | go_big_op | go_step | go_upon | go_back))
      generalize wr = y at *
      have HM2 : Hid (MC2 y l 0 (.slice none 0 0) y) := Lib.hid ⟨_, [], Aft.refl _, OwnK.nil _ _ _ _, fun _ h => h.elim⟩
      clear cM
      go_loopw [6, 30] (fun v i wq => ∃ k3 : Nat, i = .int .i64 k3 ∧ k3 ≤ l.length ∧ MC2 y l k3 v wq) (fun _ i _ => l.length - (intOf i).toNat)
      case atStart => exact ⟨0, rfl, by omega, HM2.out⟩
      case round =>
        obtain ⟨k3, rfl, hk3, S3, xs3, haY, o3', n3⟩ := hrel
        have HAY := Lib.hid haY
        have HK3 := Lib.hid o3'
        have HN3 := Lib.hid n3
        clear haY o3' n3 HM2
        by_cases hkn3 : k3 < l.length
        · have hdec3 : decide ((k3 : Int) < (l.length : Int)) = true := by simp; omega
          obtain ⟨bm, om, em, hbm, hcm⟩ := (HMS.out.aft MeanR.mono HAY.out).at hkn3
          obtain ⟨vs, hv4, ⟨Ak, ck, Ae, ce, rfl, hik, hie⟩, hv6⟩ := hcm k3 hkn3
          obtain ⟨vs', hv4', ⟨Ak', ck', Ae', ce', evs, hik', hie'⟩, hv6'⟩ : ∃ vs : List Value, vs.length = 2 ∧ MeanR y l[k3] vs ∧ ∀ j, (hj : j < vs.length) → wr.cell? ⟨bm, om + k3 * 2 + j, none⟩ = some vs[j] := by
            obtain ⟨bm', om', em', hbm', hcm'⟩ := HMS.out.at hkn3
            rw [em] at em'
            cases em'
            obtain ⟨vs, h1, h2, h3⟩ := hcm' k3 hkn3
            exact ⟨vs, h1, h2, fun j hj => by obtain ⟨u, rfl⟩ := HAY.out; exact (World.lat_cell _ _ _ _ hbm').trans (h3 j hj)⟩
          have cK : wr.cell? ⟨bm, om + k3 * 2, none⟩ = some (.slice Ak' l[k3].kinds.length ck') := by subst evs; exact hv6' 0 (by simp)
          have cE : wr.cell? ⟨bm, om + k3 * 2 + 1, none⟩ = some (.slice Ae' l[k3].ends.length ce') := by subst evs; exact hv6' 1 (by simp)
          have HTK3 : Hid (l.take (k3 + 1) = l.take k3 ++ [l[k3]]) := Lib.hid (List.take_succ_eq_append_getElem hkn3)
          have HK1 := Lib.hid hik'
          have HE1 := Lib.hid hie'
          have j1 : (0 : Int) ≤ (k3 : Int) ∧ (k3 : Int) < (l.length : Int) := by omega
          clear hv4 hv6 hcm hik hie hv4' evs hik' hie' hv6'
          generalize l[k3] = mm at *
          subst em
          go_upto_region 9 with fail
          refine region9_ctlit y wr.heap.size y.heap.size Ak' Ae' ck' ce' u6 S3 (l.take k3) xs3 mm (wr.alloc (.cells #[.slice Ak' mm.kinds.length ck', .slice Ae' mm.ends.length ce'] 80)) (HAY.out.then_alloc _) (Blk.new _ _ _) (fun e => by have := (HK3.out.own.lt _ e).2; omega) HK1.out HE1.out (HK3.out.aft (Aft.alloc _ _)) (HN3.out.keep fun k hk => aft_keep (Aft.alloc _ _) (HK3.out.lt k hk)) (by rw [List.length_take]; omega) (Nat.le_refl _) (HAY.out.then_alloc _).size _ _ _ _ _ _ _ _ _ _ _ _ _ _ _ _ _ _ _ _ _ _ _ _ _ _ _ _ _ _ _ _ _ _ _ _ _ _ _ _ _ _ _ _ _ _ _ _ _ _ _ _ ?_
          intro u6 u34 u35 u36 u37 u38 u39 u40 u41 u42 u43 W' h1 h2 h3
          obtain ⟨S4, xs4, hk4, hn4⟩ := h1
          rw [← HTK3.out] at hk4
          have HM' : Hid (MC2 y l (k3 + 1) u6 W') := Lib.hid ⟨S4, xs4, h2, hk4, hn4⟩
          clear h2 h3 hk4 hn4 cK cE
          (repeat (first | go_big_skip | go_big_want | go_big_move | go_big_op | go_step | go_upon | go_back))
          exact ⟨⟨k3 + 1, by go_num, by omega, HM'.out⟩, by simp [intOf]; omega⟩
        · have hdec3 : decide ((k3 : Int) < (l.length : Int)) = false := by simp; omega
          have HKL : Hid (OwnK MeanR 80 2 y.heap.size u6 S3 l xs3 wr) := Lib.hid (by have := HK3.out; rw [List.take_of_length_le (by omega)] at this; exact this)
          obtain ⟨sA, sn, sc, rfl⟩ := own_slice' HKL.out.own
          have hBW := HBB.out.aft HAY.out
          have HAXw := Lib.hid (HAX.out.trans HAY.out)
          have HO1w := Lib.hid (own_aft HO1.out HAY.out)
          have HO3w := Lib.hid (own_aft HO3.out HAY.out)
          have HO4w := Lib.hid (own_aft HO4.out HAY.out)
          have HO2w := Lib.hid (HO2.out.aft HAY.out)
          have HN2w := Lib.hid (HN2.out.keep fun k hk => aft_keep HAY.out (HO2.out.lt k hk))
          have c2' : wr.cell? ⟨b, 2, none⟩ = some v2 := hBW.cell 2
          have f2 := hBW.frozen 2
          have hlt := hBW.lt
          have HBW := Lib.hid hBW
          have htl : (T.words.take k).length = k := by rw [List.length_take]; omega
          clear hBW HK3
          go_upto_region 12 with (at_builtin; go_loud (refine wpList_app1 ty23 rfl _ _ rfl (HAXw.out.then_alloc _).size rfl (HO2w.out.aft (Aft.alloc _ _)).own rfl (Blk.new _ _ _) rfl (fun u hu => by rw [List.mem_singleton] at hu; subst hu; rfl) (by omega) (by decide) ?_; intro v' w6 hown6 hg6 hat6; obtain ⟨tA, tn, tc, rfl⟩ := own_slice' hown6; have HO6 := Lib.hid hown6; have HG6 : Hid ((wr.alloc (.cells #[.slice sA sn sc] 78)).grownBy w6 v2.ownBlock) := Lib.hid hg6; have HA6 : Hid ((Value.slice tA tn tc).ownBlock = v2.ownBlock ∨ (Value.slice tA tn tc).ownBlock = some (wr.alloc (.cells #[.slice sA sn sc] 78)).heap.size) := Lib.hid hat6; have HBA : Hid (Blk (wr.alloc (.cells #[.slice sA sn sc] 78)) b 27 #[.int .i64 T.places, v1, v2, v3, v4]) := Lib.hid (HBW.out.alloc _); have HOA : Hid ((wr.alloc (.cells #[.slice sA sn sc] 78)).ownsRow X.heap.size 78 1 v2 (T.words.take k).length xs) := Lib.hid (HO2w.out.aft (Aft.alloc _ _)).own; have HB6 := Lib.hid (HBA.out.grown HG6.out (fun e => own_ne27 HOA.out (by decide) HBA.out e.symm)); have f26 := HB6.out.frozen 2; have hlt6 := HB6.out.lt; have c26 : w6.cell? ⟨b, 2, none⟩ = some v2 := HB6.out.cell 2; clear hown6 hg6 hat6))
          have ha := Aft.alloc wr (.cells #[.slice sA sn sc] 78)
          have hgs := setc' w6 b 2 (.slice tA tn tc)
          have hv2 : ∀ q, v2.ownBlock = some q → X.heap.size ≤ q ∧ q < y.heap.size := fun q e => HO2.out.own.lt q e
          have hfar : ∀ q, (S3 q ∨ (Value.slice sA sn sc).ownBlock = some q) → y.heap.size ≤ q := fun q hq => hq.elim (fun h => (HKL.out.far q h).1) (fun e => (HKL.out.own.lt q e).1)
          have hword := (HKL.out.aft ha).word (by omega)
          have hpush := (HO2w.out.aft ha).push hword rfl (fun q hq => ⟨Nat.le_trans HAX.out.size (hfar q hq), fun e => by have := (hv2 q e).2; have := hfar q hq; omega⟩) HO6.out HG6.out HA6.out
          have hn6 : N27 w6 (fun q => S q ∨ (S3 q ∨ (Value.slice sA sn sc).ownBlock = some q)) := fun q hq => by
            have hlt6 : q < (wr.alloc (.cells #[.slice sA sn sc] 78)).heap.size := hq.elim (fun h => (HO2w.out.aft ha).lt q h) (fun h => hword.1 q h)
            have hne : some q ≠ v2.ownBlock := fun e => hq.elim (fun h => (HO2w.out.far q h).2 e.symm) (fun h => by have := (hv2 q e.symm).2; have := hfar q h; omega)
            rw [HG6.out.block q hlt6 hne]
            exact hq.elim (fun h => (HN2w.out.keep fun q h => aft_keep ha (HO2w.out.lt q h)) q h) (fun h => h.elim (fun h => (HN3.out.keep fun q h => aft_keep ha (HKL.out.lt q h)) q h) (fun e => own_n27 (own_aft HKL.out.own ha) (by decide) q e))
          have hnb := hn6.not HB6.out
          have hps := hpush.kept3 hgs (fun q e => by cases e; exact ⟨own_ne27 HO6.out (by decide) HB6.out, hnb⟩)
          have hns := hn6.kept3 hpush.lt hgs (fun q e => by cases e; exact hnb)
          have hk1 : ∀ {e sz n : Nat} {v : Value} {zs : List Value}, wr.ownsRow X.heap.size e sz v n zs → e ≠ 27 → e ≠ 78 → (w6.setCell ⟨b, 2, none⟩ (.slice tA tn tc)).ownsRow X.heap.size e sz v n zs := fun h h27 h78 => by
            have h1 := own_aft h ha
            have h2 := own_kept3 h1 HG6.out (own_apart h1 HOA.out h78)
            exact own_kept3 h2 hgs (fun q e => by cases e; exact own_ne27 h2 h27 HB6.out)
          have hAX : Aft X (w6.setCell ⟨b, 2, none⟩ (.slice tA tn tc)) := ((HAXw.out.trans ha).grown HG6.out (fun q e => (hv2 q e).1)).grown hgs (fun q e => by cases e; exact HBX.out)
          have hm1 : MC1 X b T v1 v3 v4 (k + 1) (w6.setCell ⟨b, 2, none⟩ (.slice tA tn tc)) := ⟨.slice tA tn tc, _, _, hAX, HB6.out.store 2 _, hk1 HO1w.out (by decide) (by decide), hk1 HO3w.out (by decide) (by decide), hk1 HO4w.out (by decide) (by decide), by rw [HTK.out]; exact hps, hns⟩
          have HM' := Lib.hid hm1
          clear ha hgs hv2 hfar hword hpush hn6 hnb hps hns hk1 hAX hm1 f2 f26 c2' c26 hlt hlt6
          (repeat (first | go_big_skip | go_big_want | go_big_move | go_big_op | go_step | go_upon | go_back))
          exact ⟨⟨k + 1, by go_num, by omega, HM'.out⟩, by simp [intOf]; omega⟩
    · have hdec : decide ((k : Int) < (T.words.length : Int)) = false := by simp; omega
      have hkT : T.words.take k = T.words := List.take_of_length_le (by omega)
      have HOK : Hid (OwnK WordR 78 1 X.heap.size v2 S T.words xs wr) := Lib.hid (by have := HO2.out; rw [hkT] at this; exact this)
      obtain ⟨A1, C1, rfl, s1⟩ := ways_sup HO1.out hl1
      obtain ⟨A2, C2, rfl, _, s2⟩ := HOK.out.rowsP (by omega)
      obtain ⟨A3, C3, rfl, s3⟩ := own_sup HO3.out (by omega)
      obtain ⟨A4, C4, rfl, hc4, _⟩ := own_rows (R := LegR) (fun _ _ => rfl) (fun _ => rfl) (by decide) HO4.out (by omega)
      obtain ⟨A4', C4', e4, s4⟩ := legs_sup HO4.out hl4
      cases e4
      have hc4f : A4 = none ∧ C4 = 0 ∨ ∃ g, A4 = some ⟨g, 0, none⟩ := by
        rcases HO4.out.2 with ⟨h, _⟩ | ⟨g, _, _, h, _⟩
        · injection h with h1 _ h3
          exact .inl ⟨h1, h3⟩
        · injection h with h1
          exact .inr ⟨g, h1⟩
      have HCF := Lib.hid hc4f
      clear hc4f
      have hb := HBB.out
      have HS := Lib.hid (((s1.and s2).and s3).and s4)
      have k0 : wr.cell? ⟨b, 0, none⟩ = some (.int .i64 T.places) := hb.cell 0
      have k1 : wr.cell? ⟨b, 1, none⟩ = some (.slice A1 T.ways.length C1) := hb.cell 1
      have k2' : wr.cell? ⟨b, 2, none⟩ = some (.slice A2 T.words.length C2) := hb.cell 2
      have k3' : wr.cell? ⟨b, 3, none⟩ = some (.slice A3 T.starts.length C3) := hb.cell 3
      have k4' : wr.cell? ⟨b, 4, none⟩ = some (.slice A4 T.legs.length C4) := hb.cell 4
      have hC := HC.out.aft HAX.out
      have hlc := hC.lt
      have hfc : ∀ i, wr.frozen? ⟨w.heap.size + 1, i, none⟩ = false := fun i => hC.frozen i
      have j0 : wr.cell? ⟨w.heap.size + 1, 0, none⟩ = some (.int .i64 0) := hC.cell 0
      have j1 : wr.cell? ⟨w.heap.size + 1, 1, none⟩ = some (.slice none 0 0) := hC.cell 1
      have j2 : wr.cell? ⟨w.heap.size + 1, 2, none⟩ = some (.slice none 0 0) := hC.cell 2
      have j3 : wr.cell? ⟨w.heap.size + 1, 3, none⟩ = some (.slice none 0 0) := hC.cell 3
      have j4 : wr.cell? ⟨w.heap.size + 1, 4, none⟩ = some (.slice none 0 0) := hC.cell 4
      clear s1 s2 s3 s4 hkT hb
      (repeat (first | go_big_skip | go_big_want | go_big_move | go_big_op | go_step | go_upon | go_back))
      obtain ⟨hCz, hgC⟩ := blk_five hC (.int .i64 T.places) (.slice A1 T.ways.length C1) (.slice A2 T.words.length C2) (.slice A3 T.starts.length C3) (.slice A4 T.legs.length C4)
      generalize (((((wr.setCell ⟨w.heap.size + 1, 0, none⟩ (.int .i64 T.places)).setCell ⟨w.heap.size + 1, 1, none⟩ (.slice A1 T.ways.length C1)).setCell ⟨w.heap.size + 1, 2, none⟩ (.slice A2 T.words.length C2)).setCell ⟨w.heap.size + 1, 3, none⟩ (.slice A3 T.starts.length C3)).setCell ⟨w.heap.size + 1, 4, none⟩ (.slice A4 T.legs.length C4)) = W' at *
      clear j0 j1 j2 j3 j4 k0 k1 k2' k3' k4' hfc
      have z0 : W'.cell? ⟨w.heap.size + 1, 0, none⟩ = some (.int .i64 T.places) := hCz.cell 0
      have z1 : W'.cell? ⟨w.heap.size + 1, 1, none⟩ = some (.slice A1 T.ways.length C1) := hCz.cell 1
      have z2 : W'.cell? ⟨w.heap.size + 1, 2, none⟩ = some (.slice A2 T.words.length C2) := hCz.cell 2
      have z3 : W'.cell? ⟨w.heap.size + 1, 3, none⟩ = some (.slice A3 T.starts.length C3) := hCz.cell 3
      have z4 : W'.cell? ⟨w.heap.size + 1, 4, none⟩ = some (.slice A4 T.legs.length C4) := hCz.cell 4
      refine bodyPost_ret (v := .agg #[.int .i64 T.places, .slice A1 T.ways.length C1, .slice A2 T.words.length C2, .slice A3 T.starts.length C3, .slice A4 T.legs.length C4]) (by simp [results, Try.results10, go_sem, z0, z1, z2, z3, z4]) rfl ?_
      have hn : N27 wr (fun k => (((Value.slice A1 T.ways.length C1).ownBlock = some k ∨ (S k ∨ (Value.slice A2 T.words.length C2).ownBlock = some k)) ∨ (Value.slice A3 T.starts.length C3).ownBlock = some k) ∨ (Value.slice A4 T.legs.length C4).ownBlock = some k) := fun k hk => by
        rcases hk with ((h | h | h) | h) | h
        · exact own_n27 HO1.out (by decide) k h
        · exact HN2.out k h
        · exact own_n27 HOK.out.own (by decide) k h
        · exact own_n27 HO3.out (by decide) k h
        · exact own_n27 HO4.out (by decide) k h
      have hfar : ∀ k, ((((Value.slice A1 T.ways.length C1).ownBlock = some k ∨ (S k ∨ (Value.slice A2 T.words.length C2).ownBlock = some k)) ∨ (Value.slice A3 T.starts.length C3).ownBlock = some k) ∨ (Value.slice A4 T.legs.length C4).ownBlock = some k) → X.heap.size ≤ k := fun k hk => by
        rcases hk with ((h | h | h) | h) | h
        · exact (HO1.out.lt k h).1
        · exact (HOK.out.far k h).1
        · exact (HOK.out.own.lt k h).1
        · exact (HO3.out.lt k h).1
        · exact (HO4.out.lt k h).1
      have hnC := hn.not hC
      have hsz := HA0.out.size
      refine ⟨A1, A2, A3, A4, C1, C2, C3, C4, _, rfl, ⟨hc4, HCF.out⟩, (HA0.out.trans HAX.out).grown hgC (fun k e => by cases e; omega), (HS.out.grown hgC (fun k e => by cases e; exact hnC)).mono fun W h => ⟨h.1.1.1, h.1.1.2, h.1.2, h.2⟩, hn.kept3 HS.out.1 hgC (fun k e => by cases e; exact hnC), fun k hk => Nat.le_trans hsz (hfar k hk)⟩
end Go.Proofs
end

section
/- A region that draws its order, by facts that may say which operations are done. -/
namespace Go

/-- The state in which some of the operations are done. -/
structure HeldF (ops : Array Oper) (Fact : (Nat → Bool) → Nat → Value → World → Prop) (Wd : (Nat → Bool) → Act → World → Prop) (a0 : Act) (done : Nat → Bool) (a : Act) (w : World) : Prop where
  wd : Wd done a w
  size : a.tmps.size = a0.tmps.size
  defers : a.defers = a0.defers
  closed : ∀ i o, ops[i]? = some o → done i = true → ∀ j ∈ Region.preds o, done j = true
  old : ∀ s, (∀ i o, ops[i]? = some o → o.dst = some s → done i = false) → a.eval (.tmp s) = a0.eval (.tmp s)
  fact : ∀ (i : Nat) (o : Oper) (s : Nat), ops[i]? = some o → o.dst = some s → done i = true → Fact done i (a.eval (.tmp s)) w

section
variable {P : Program} {ops : Array Oper} {Q : Exit → Act → World → Prop} {Fact : (Nat → Bool) → Nat → Value → World → Prop} {Wd : (Nat → Bool) → Act → World → Prop} {a0 : Act}

theorem HeldF.put {done : Nat → Bool} {a : Act} {w w' : World} {i : Nat} {o : Oper} {v : Value} (h : HeldF ops Fact Wd a0 done a w) (ho : ops[i]? = some o) (hd : done i = false) (hp : ∀ j ∈ Region.preds o, done j = true)
    (hdst : ∀ (i j : Nat) (oi oj : Oper) (s : Nat), ops[i]? = some oi → ops[j]? = some oj → oi.dst = some s → oj.dst = some s → i = j) (hin : ∀ (i : Nat) (o : Oper) (s : Nat), ops[i]? = some o → o.dst = some s → s < a0.tmps.size)
    (hf : Fact (upd done i) i v w') (hw : Wd (upd done i) (a.put o.dst v) w') (hk : ∀ (j : Nat) (oj : Oper) (s : Nat), ops[j]? = some oj → oj.dst = some s → done j = true → Fact done j (a.eval (.tmp s)) w → Fact (upd done i) j (a.eval (.tmp s)) w') : HeldF ops Fact Wd a0 (upd done i) (a.put o.dst v) w' := by
  refine ⟨hw, ?_, ?_, fun k ok hk' hdk j hj => ?_, fun s hs => ?_, fun k ok s hk' hs hdk => ?_⟩
  · rw [← h.size]; unfold Act.put; split <;> simp
  · rw [← h.defers]; unfold Act.put; split <;> rfl
  · unfold upd at hdk ⊢
    by_cases e : j = i
    · rw [if_pos e]
    · rw [if_neg e]
      by_cases e2 : k = i
      · subst e2
        rw [ho] at hk'; cases hk'
        exact hp j hj
      · rw [if_neg e2] at hdk
        exact h.closed k ok hk' hdk j hj
  · have hne : ∀ d, o.dst = some d → (Operand.tmp s) ≠ .tmp d := fun d hd' e => by
      cases e
      have := hs i o ho hd'
      simp [upd] at this
    rw [Act.eval_put hne]
    refine h.old s fun k ok hk' hs' => ?_
    have := hs k ok hk' hs'
    unfold upd at this
    split at this
    · cases this
    · exact this
  · by_cases e : k = i
    · subst e
      rw [ho] at hk'; cases hk'
      rw [hs, Act.eval_put_same _ _ _ (by rw [h.size]; exact hin k o s ho hs)]
      exact hf
    · unfold upd at hdk
      rw [if_neg e] at hdk
      have hne : ∀ d, o.dst = some d → (Operand.tmp s) ≠ .tmp d := fun d hd' e2 => by
        cases e2
        exact e (hdst k i ok o s hk' ho hs hd')
      rw [Act.eval_put hne]
      exact hk k ok s hk' hs hdk (h.fact k ok s hk' hs hdk)

theorem wpAny_factsF (hg : ∀ (i : Nat) (o : Oper), ops[i]? = some o → o.guard = none) (hdst : ∀ (i j : Nat) (oi oj : Oper) (s : Nat), ops[i]? = some oi → ops[j]? = some oj → oi.dst = some s → oj.dst = some s → i = j) (hin : ∀ (i : Nat) (o : Oper) (s : Nat), ops[i]? = some o → o.dst = some s → s < a0.tmps.size)
    (hlt : ∀ (i : Nat) (o : Oper), ops[i]? = some o → ∀ j ∈ Region.preds o, j < i)
    (step : ∀ (i : Nat) (o : Oper), ops[i]? = some o → ∀ (done : Nat → Bool) (a : Act) (w : World), HeldF ops Fact Wd a0 done a w → done i = false → (∀ j ∈ Region.preds o, done j = true) → ∀ K : Act → World → Prop,
      (∀ (v : Value) (w' : World), Fact (upd done i) i v w' → Wd (upd done i) (a.put o.dst v) w' → (∀ (j : Nat) (oj : Oper) (s : Nat), ops[j]? = some oj → oj.dst = some s → done j = true → Fact done j (a.eval (.tmp s)) w → Fact (upd done i) j (a.eval (.tmp s)) w') → K (a.put o.dst v) w') → Oper.wp P o a w K Q)
    (fin : ∀ (done : Nat → Bool) (a : Act) (w : World), (∀ i, i < ops.size → done i = true) → HeldF ops Fact Wd a0 done a w → Q .normal a w) :
    ∀ (fuel : Nat) (listed : Array Bool) (a : Act) (w : World), listed.size = ops.size → HeldF ops Fact Wd a0 (dn listed) a w → (unl ops (dn listed)).length ≤ fuel → wpAny P .any ops Q fuel listed a w
  | 0, listed, a, w, hs, h, hf => by
    have hd : ∀ i, i < ops.size → dn listed i = true := fun i hi => by
      cases hd : dn listed i with
      | true => rfl
      | false =>
        have : i ∈ unl ops (dn listed) := List.mem_filter.2 ⟨List.mem_range.2 hi, by simp [hd]⟩
        have hz : unl ops (dn listed) = [] := List.eq_nil_of_length_eq_zero (by omega)
        rw [hz] at this
        cases this
    refine ⟨?_, fin _ a w hd h⟩
    cases hr : Region.ready .any ops listed with
    | nil => rfl
    | cons i r =>
      obtain ⟨o, ho, h1, _⟩ := mem_ready' rfl hs (show i ∈ Region.ready .any ops listed by rw [hr]; simp)
      rw [hd i (Array.getElem?_eq_some_iff.1 ho).1] at h1
      cases h1
  | fuel + 1, listed, a, w, hs, h, hf => by
    refine ⟨fun hr => fin _ a w (all_done hs hlt hr) h, fun i hi => ?_⟩
    obtain ⟨o, ho, h1, h2⟩ := mem_ready' rfl hs hi
    have hio := (Array.getElem?_eq_some_iff.1 ho).1
    unfold wpOp
    simp only [ho]
    have hw : Region.wanted o (yielded ops a.tmps) = true := by simp [Region.wanted, hg i o ho]
    rw [if_pos hw]
    refine .inl (step i o ho _ a w h h1 h2 _ fun v w' hf' hw' hk => ?_)
    refine wpAny_factsF hg hdst hin hlt step fin fuel _ _ _ (by simpa using hs) ?_ ?_
    · rw [dn_set (by omega)]
      exact h.put ho h1 h2 hdst hin hf' hw' hk
    · rw [dn_set (by omega)]
      have := unl_lt (ops := ops) hio h1
      omega

theorem HeldF.same {done : Nat → Bool} {a : Act} {w : World} (h : HeldF ops Fact Wd a0 done a w) {s : Nat} (hs : s ∉ ops.toList.filterMap (·.dst)) : a.eval (.tmp s) = a0.eval (.tmp s) :=
  h.old s fun k ok hk he => absurd (List.mem_filterMap.2 ⟨ok, by rw [← Array.getElem?_toList] at hk; exact List.mem_of_getElem? hk, he⟩) hs
/-- The slot of an operation that is not done. -/
theorem HeldF.slot {done : Nat → Bool} {a : Act} {w : World} (h : HeldF ops Fact Wd a0 done a w) (hdst : ∀ (i j : Nat) (oi oj : Oper) (s : Nat), ops[i]? = some oi → ops[j]? = some oj → oi.dst = some s → oj.dst = some s → i = j) {i : Nat} {o : Oper} {s : Nat} (ho : ops[i]? = some o) (hs : o.dst = some s) (hd : done i = false) : a.eval (.tmp s) = a0.eval (.tmp s) :=
  h.old s fun k ok hk he => by
    have := hdst k i ok o s hk ho he hs
    subst this
    exact hd

/-- **A region that draws its order, by facts.** -/
theorem wp_region_factsF {id : Nat} {xs : List Oper} {w : World} (hm : P.follows .mixedOrders = true) (n : Nat) (hn : a0.tmps.size = n) (hB : factsB xs n = true)
    (Fact : (Nat → Bool) → Nat → Value → World → Prop) (Wd : (Nat → Bool) → Act → World → Prop) (h0 : Wd (fun _ => false) a0 w.drew)
    (step : ∀ (i : Nat) (o : Oper), xs[i]? = some o → ∀ (done : Nat → Bool) (a : Act) (w : World), HeldF xs.toArray Fact Wd a0 done a w → done i = false → (∀ j ∈ Region.preds o, done j = true) → ∀ K : Act → World → Prop,
      (∀ (v : Value) (w' : World), Fact (upd done i) i v w' → Wd (upd done i) (a.put o.dst v) w' → (∀ (j : Nat) (oj : Oper) (s : Nat), xs[j]? = some oj → oj.dst = some s → done j = true → Fact done j (a.eval (.tmp s)) w → Fact (upd done i) j (a.eval (.tmp s)) w') → K (a.put o.dst v) w') → Oper.wp P o a w K Q)
    (fin : ∀ (done : Nat → Bool) (a : Act) (w : World), (∀ i, i < xs.length → done i = true) → HeldF xs.toArray Fact Wd a0 done a w → Q .normal a w) : (Code.region id xs.toArray true).wp P Q a0 w := by
  unfold factsB at hB
  rw [Bool.and_eq_true, Bool.and_eq_true, Bool.and_eq_true] at hB
  obtain ⟨⟨⟨h1, h2⟩, h3⟩, h4⟩ := hB
  refine wp_region_any hm ?_
  have e0 : dn (Array.replicate xs.toArray.size false) = fun _ => false := by
    funext i
    unfold dn
    rw [Array.getD_eq_getD_getElem?, Array.getElem?_replicate]
    split <;> rfl
  refine wpAny_factsF (Fact := Fact) (Wd := Wd) (a0 := a0) (fun i o ho => ?_) (fun i j oi oj s hi hj => nodup_dst (of_decide_eq_true h2) i j oi oj s (by simpa using hi) (by simpa using hj)) (fun i o s ho hs => ?_) (fun i o ho j hj => ?_)
    (fun i o ho done a w h hd hp K hK => step i o (by simpa using ho) done a w h hd hp K (fun v w' h1 h2 h3 => hK v w' h1 h2 (fun j oj s hj => h3 j oj s (by simpa using hj)))) (fun done a w hd => fin done a w (by simpa using hd)) _ _ _ _ (by simp) ?_ ?_
  · have := List.all_eq_true.1 h1 o (List.mem_of_getElem? (by simpa using ho))
    simpa using this
  · have := List.all_eq_true.1 h3 o (List.mem_of_getElem? (by simpa using ho))
    rw [hs] at this
    rw [hn]
    simpa using this
  · have ho' : xs[i]? = some o := by simpa using ho
    have := List.all_eq_true.1 h4 i (List.mem_range.2 (List.getElem?_eq_some_iff.1 ho').1)
    rw [ho'] at this
    have := List.all_eq_true.1 this j hj
    simpa using this
  · rw [e0]
    exact ⟨h0, rfl, rfl, (fun i o _ h => by cases h), (fun s _ => rfl), (fun i o s _ _ h => by cases h)⟩
  · have : (unl xs.toArray (dn (Array.replicate xs.toArray.size false))).length ≤ (List.range xs.toArray.size).length := List.length_filter_le _ _
    simpa using this
end
end Go
end
