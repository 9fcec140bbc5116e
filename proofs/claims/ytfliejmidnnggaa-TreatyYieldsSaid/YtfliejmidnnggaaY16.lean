/- Own texts, merged: Ttw Ctw Qre Sho. -/
import Derived.Test.YtfliejmidnnggaaY15
import Derived.BigGuard
import Derived.Deep.CutRange
section
/- Walks: the law's Treaty. -/
namespace Go.Proofs
open Go.RowKit

/-- What the law's Treaty answers: the same treaty of the reference's types. -/
def RefR (w : World) (T : Treaty) (e : Ending) (w' : World) : Prop :=
  ∃ (a1 a2 a3 a4 : Option Addr) (c1 c2 c3 c4 : Nat), e = .returned (.agg #[.int .i64 T.places, .slice a1 T.ways.length c1, .slice a2 T.words.length c2, .slice a3 T.starts.length c3, .slice a4 T.legs.length c4]) ∧ Aft w w' ∧ TRep w' T a1 a2 a3 a4

set_option maxRecDepth 100000 in
set_option maxHeartbeats 4000000 in
theorem treatyRef_any (w : World) (T : Treaty) (a1 a2 a3 a4 : Option Addr) (c1 c2 c3 c4 : Nat) (hT : TRep w T a1 a2 a3 a4) (hl1 : T.ways.length ≤ 1000) (hl2 : T.words.length ≤ 100) (hl4 : T.legs.length ≤ 1000) (hl3 : T.starts.length ≤ 1000) (hwl : ∀ l ∈ T.words, l.length ≤ 100) :
    Calls Try.prog 12 #[.agg #[.int .i64 T.places, .slice a1 T.ways.length c1, .slice a2 T.words.length c2, .slice a3 T.starts.length c3, .slice a4 T.legs.length c4]] w (RefR w T) := by
  have HT0 := Lib.hid hT
  have HWL := Lib.hid hwl
  clear hT hwl
  go_enter Try.func12, Try.ntmps12
  go_upto_region 1 with fail
  have ha0 : Aft w ((w.alloc (.cells #[.int .i64 T.places, .slice a1 T.ways.length c1, .slice a2 T.words.length c2, .slice a3 T.starts.length c3, .slice a4 T.legs.length c4] 27)).alloc (.cells #[.int .i64 0, .slice none 0 0, .slice none 0 0, .slice none 0 0, .slice none 0 0] 36)) := (Aft.alloc _ _).then_alloc _
  have hB1 : Blk ((w.alloc (.cells #[.int .i64 T.places, .slice a1 T.ways.length c1, .slice a2 T.words.length c2, .slice a3 T.starts.length c3, .slice a4 T.legs.length c4] 27)).alloc (.cells #[.int .i64 0, .slice none 0 0, .slice none 0 0, .slice none 0 0, .slice none 0 0] 36)) w.heap.size 27 #[.int .i64 T.places, .slice a1 T.ways.length c1, .slice a2 T.words.length c2, .slice a3 T.starts.length c3, .slice a4 T.legs.length c4] := (Blk.new _ _ _).alloc _
  have hC := Blk.new (w.alloc (.cells #[.int .i64 T.places, .slice a1 T.ways.length c1, .slice a2 T.words.length c2, .slice a3 T.starts.length c3, .slice a4 T.legs.length c4] 27)) 36 #[.int .i64 0, .slice none 0 0, .slice none 0 0, .slice none 0 0, .slice none 0 0]
  rw [World.size_alloc] at hC
  generalize ((w.alloc (.cells #[.int .i64 T.places, .slice a1 T.ways.length c1, .slice a2 T.words.length c2, .slice a3 T.starts.length c3, .slice a4 T.legs.length c4] 27)).alloc (.cells #[.int .i64 0, .slice none 0 0, .slice none 0 0, .slice none 0 0, .slice none 0 0] 36)) = X at *
  have HA0 := Lib.hid ha0
  have HB1 := Lib.hid hB1
  have HC := Lib.hid hC
  clear ha0 hB1 hC
  refine region1_trlit T a1 a2 a3 a4 c1 c2 c3 c4 w.heap.size X (HT0.out.aft HA0.out) HB1.out _ _ _ _ _ _ _ _ _ _ _ _ _ _ _ _ _ _ _ _ _ _ _ _ _ _ _ _ _ _ _ _ _ _ _ _ _ _ _ _ _ _ _ _ _ _ _ _ _ _ _ _ _ _ _ _ _ _ _ _ _ _ _ _ _ _ _ _ _ _ _ _ _ _ _ _ _ _ _ ?_
  intro u3 u13 u14 u15 u16 u17 u18 W0 b e3 hbX hgood haX
  subst e3
  obtain ⟨v3, hb, o3⟩ := hgood
  have hcl := HC.out.lt
  have HBB : Hid (b ≠ w.heap.size ∧ b ≠ w.heap.size + 1 ∧ w.heap.size ≤ b) := Lib.hid ⟨by omega, by omega, by omega⟩
  have HX0 := Lib.hid (HA0.out.trans haX)
  have HB10 := Lib.hid (HB1.out.aft haX)
  have HC0 := Lib.hid (HC.out.aft haX)
  have HO3 := Lib.hid (World.ownsRow.kept o3 (World.grownBy.refl _ none) (by cases v3.ownBlock <;> simp))
  have HM1 : Hid (MF W0 b 88 3 encWay (fun v => #[.int .i64 T.places, v, .slice none 0 0, v3, .slice none 0 0]) (T.ways.take 0) W0) := Lib.hid (MF.nil hb)
  have HN3 : Hid (v3.ownBlock ≠ some b) := Lib.hid (own_ne36 o3 (by decide) hb)
  have k1 : W0.cell? ⟨w.heap.size, 1, none⟩ = some (.slice a1 T.ways.length c1) := HB10.out.cell 1
  clear hb o3 haX hbX hcl HA0 HB1 HC
  (repeat (first | go_big_skip | go_big_want | go_big_move | go_big_op | go_step | go_upon | go_back))
  go_loopw [22] (fun i wr => ∃ k : Nat, i = .int .i64 k ∧ k ≤ T.ways.length ∧ MF W0 b 88 3 encWay (fun v => #[.int .i64 T.places, v, .slice none 0 0, v3, .slice none 0 0]) (T.ways.take k) wr) (fun i _ => T.ways.length - (intOf i).toNat)
  case atStart => exact ⟨0, rfl, by omega, HM1.out⟩
  case round =>
    obtain ⟨k, rfl, hk, v1, hg, hb, o1⟩ := hrel
    have HG := Lib.hid hg
    have HB : Hid (Blk wr b 36 #[.int .i64 T.places, v1, .slice none 0 0, v3, .slice none 0 0]) := Lib.hid hb
    have HO1 := Lib.hid o1
    clear hg hb o1 HM1 k1
    have HAw : Hid (Aft w wr) := Lib.hid (HX0.out.grown HG.out (fun q e => by cases e; exact HBB.out.2.2))
    by_cases hkn : k < T.ways.length
    · have hdec : decide ((k : Int) < (T.ways.length : Int)) = true := by simp; omega
      obtain ⟨b1, o1, e1, x0, x1, x2⟩ := way_cells (HT0.out.aft HAw.out).ways hkn
      have HTK : Hid (T.ways.take (k + 1) = T.ways.take k ++ [T.ways[k]]) := Lib.hid (List.take_succ_eq_append_getElem hkn)
      have htl : (T.ways.take k).length = k := by rw [List.length_take]; omega
      have i1 : (0 : Int) ≤ (k : Int) ∧ (k : Int) < (T.ways.length : Int) := by omega
      generalize T.ways[k] = wy at *
      subst e1
      have HBA : Hid (Blk (wr.alloc (.cells #[.int .i64 wy.a, .int .i64 wy.b, .int .i64 wy.kind] 86)) b 36 #[.int .i64 T.places, v1, .slice none 0 0, v3, .slice none 0 0]) := Lib.hid (HB.out.alloc _)
      have HGA : Hid (W0.grownBy (wr.alloc (.cells #[.int .i64 wy.a, .int .i64 wy.b, .int .i64 wy.kind] 86)) (some b)) := Lib.hid (only_aft HG.out (Aft.alloc _ _))
      have HOA : Hid ((wr.alloc (.cells #[.int .i64 wy.a, .int .i64 wy.b, .int .i64 wy.kind] 86)).ownsRow W0.heap.size 88 3 v1 (T.ways.take k).length ((T.ways.take k).flatMap encWay)) := Lib.hid (own_aft HO1.out (Aft.alloc _ _))
      have HR := Lib.hid (Blk.new wr 86 #[.int .i64 wy.a, .int .i64 wy.b, .int .i64 wy.kind])
      go_upto_region 5 with fail
      generalize (wr.alloc (.cells #[.int .i64 wy.a, .int .i64 wy.b, .int .i64 wy.kind] 86)) = y at *
      clear x0 x1 x2
      obtain ⟨sA, sn, sc, rfl⟩ := own_slice' HOA.out
      have r0 : y.cell? ⟨wr.heap.size, 0, none⟩ = some (.int .i64 wy.a) := HR.out.cell 0
      have r1 : y.cell? ⟨wr.heap.size, 1, none⟩ = some (.int .i64 wy.b) := HR.out.cell 1
      have r2 : y.cell? ⟨wr.heap.size, 2, none⟩ = some (.int .i64 wy.kind) := HR.out.cell 2
      have f1 : y.cell? ⟨b, 1, none⟩ = some (.slice sA sn sc) := HBA.out.cell 1
      have f2 := HBA.out.frozen 1
      have f3 := HBA.out.lt
      have HGY : Hid (W0.grownBy (y.alloc (.cells #[.int .i64 wy.a, .int .i64 wy.b, .int .i64 wy.kind] 88)) (some b)) := Lib.hid (only_aft HGA.out (Aft.alloc _ _))
      have HOY : Hid ((y.alloc (.cells #[.int .i64 wy.a, .int .i64 wy.b, .int .i64 wy.kind] 88)).ownsRow W0.heap.size 88 3 (.slice sA sn sc) (T.ways.take k).length ((T.ways.take k).flatMap encWay)) := Lib.hid (own_aft HOA.out (Aft.alloc _ _))
      have HBY : Hid (Blk (y.alloc (.cells #[.int .i64 wy.a, .int .i64 wy.b, .int .i64 wy.kind] 88)) b 36 #[.int .i64 T.places, .slice sA sn sc, .slice none 0 0, v3, .slice none 0 0]) := Lib.hid (HBA.out.alloc _)
      go_upto_region 6 with (at_builtin; go_loud (refine wpList_app1 ty32 rfl _ _ rfl HGY.out.size rfl HOY.out rfl (Blk.new _ _ _) rfl (one_way wy) (by omega) (by decide) ?_; intro v' w6 hown6 hg6 hat6; obtain ⟨tA, tn, tc, rfl⟩ := own_slice' hown6; have HM' : Hid (MF W0 b 88 3 encWay (fun v => #[.int .i64 T.places, v, .slice none 0 0, v3, .slice none 0 0]) (T.ways.take k ++ [wy]) (w6.setCell ⟨b, 1, none⟩ (.slice tA tn tc))) := Lib.hid (MF.put (i := 1) HGY.out HBY.out HOY.out (by decide) hg6 hown6 rfl); have HB6 := Lib.hid (HBY.out.grown hg6 (fun e => own_ne36 HOY.out (by decide) HBY.out e.symm)); have f26 := HB6.out.frozen 1; have hlt6 := HB6.out.lt; have c26 : w6.cell? ⟨b, 1, none⟩ = some (.slice sA sn sc) := HB6.out.cell 1; clear hown6 hg6 hat6))
      rw [← HTK.out] at HM'
      clear f1 f2 f3 r0 r1 r2 f26 hlt6 c26
      (repeat (first | go_big_skip | go_big_want | go_big_move | go_big_op | go_step | go_upon | go_back))
      exact ⟨⟨k + 1, by go_num, by omega, HM'.out⟩, by simp [intOf]; omega⟩
    · have hdec : decide ((k : Int) < (T.ways.length : Int)) = false := by simp; omega
      have hkT : T.ways.take k = T.ways := List.take_of_length_le (by omega)
      rw [hkT] at HO1
      have HO3' : Hid (wr.ownsRow X.heap.size 3 1 v3 T.starts.length (T.starts.map (Value.int .i64))) := Lib.hid (own_kept3 HO3.out HG.out (fun q e => by cases e; exact HN3.out))
      have HB1' : Hid (Blk wr w.heap.size 27 #[.int .i64 T.places, .slice a1 T.ways.length c1, .slice a2 T.words.length c2, .slice a3 T.starts.length c3, .slice a4 T.legs.length c4]) := Lib.hid (HB10.out.grown HG.out (fun e => by cases e; exact HBB.out.1 rfl))
      have HC' : Hid (Blk wr (w.heap.size + 1) 36 #[.int .i64 0, .slice none 0 0, .slice none 0 0, .slice none 0 0, .slice none 0 0]) := Lib.hid (HC0.out.grown HG.out (fun e => by cases e; exact HBB.out.2.1 rfl))
      have k2 : wr.cell? ⟨w.heap.size, 2, none⟩ = some (.slice a2 T.words.length c2) := HB1'.out.cell 2
      clear hkT HX0 HB10 HC0 HO3
      (repeat (first | go_big_skip | go_big_want | go_big_move | go_big_op | go_step | go_upon | go_back))
      generalize wr = Y at *
      have HM1 : Hid (MWt Y b (.int .i64 T.places) v1 v3 (.slice none 0 0) (T.words.take 0) Y) := Lib.hid ⟨_, _, [], World.grownBy.refl _ _, HB.out, OwnK.nil _ _ _ _, fun _ h => h.elim⟩
      go_loopw [36] (fun i wr => ∃ k : Nat, i = .int .i64 k ∧ k ≤ T.words.length ∧ MWt Y b (.int .i64 T.places) v1 v3 (.slice none 0 0) (T.words.take k) wr) (fun i _ => T.words.length - (intOf i).toNat)
      case atStart => exact ⟨0, rfl, by omega, HM1.out⟩
      case round =>
        obtain ⟨k, rfl, hk, v2, S, xs, hg, hb, o2, n2⟩ := hrel
        have HGw := Lib.hid hg
        have HBw := Lib.hid hb
        have HO2 := Lib.hid o2
        have HN2 := Lib.hid n2
        clear hg hb o2 n2 HM1 k2
        have HAv : Hid (Aft w wr) := Lib.hid (HAw.out.grown HGw.out (fun q e => by cases e; exact HBB.out.2.2))
        by_cases hkn : k < T.words.length
        · have hdec : decide ((k : Int) < (T.words.length : Int)) = true := by simp; omega
          obtain ⟨bw, ow, ew, hbw, hcw⟩ := (HT0.out.aft HAv.out).words.at hkn
          obtain ⟨vs, hv1, ⟨Am, cm, rfl, hms⟩, hv3⟩ := hcw k hkn
          have cM : wr.cell? ⟨bw, ow + k, none⟩ = some (.slice Am T.words[k].length cm) := by have := hv3 0 (by simp); simpa using this
          have hml := HWL.out _ (List.getElem_mem hkn)
          have HTK : Hid (T.words.take (k + 1) = T.words.take k ++ [T.words[k]]) := Lib.hid (List.take_succ_eq_append_getElem hkn)
          have HMS := Lib.hid hms
          have i1 : (0 : Int) ≤ (k : Int) ∧ (k : Int) < (T.words.length : Int) := by omega
          have htl : (T.words.take k).length = k := by rw [List.length_take]; omega
          clear hv1 hv3 hcw hms
          generalize T.words[k] = l at *
          subst ew
          (repeat (first | go_big_skip | go_big_want | go_big_move | go_big_op | go_step | go_upon | go_back))
          generalize wr = y at *
          have HM2 : Hid (MMt y l 0 (.slice none 0 0) y) := Lib.hid ⟨_, [], Aft.refl _, OwnK.nil _ _ _ _, fun _ h => h.elim⟩
          clear cM
          go_loopw [8, 42] (fun v i wq => ∃ k3 : Nat, i = .int .i64 k3 ∧ k3 ≤ l.length ∧ MMt y l k3 v wq) (fun _ i _ => l.length - (intOf i).toNat)
          case atStart => exact ⟨0, rfl, by omega, HM2.out⟩
          case round =>
            obtain ⟨k3, rfl, hk3, S3, xs3, haY, o3', n3⟩ := hrel
            have HAY := Lib.hid haY
            have HK3 := Lib.hid o3'
            have HN3' := Lib.hid n3
            clear haY o3' n3 HM2
            by_cases hkn3 : k3 < l.length
            · have hdec3 : decide ((k3 : Int) < (l.length : Int)) = true := by simp; omega
              obtain ⟨bm, om, em, hbm, hcm⟩ := (HMS.out.aft MeanR.mono HAY.out).at hkn3
              obtain ⟨vs, hv4, ⟨Ak, ck, Ae, ce, rfl, hik, hie⟩, hv6⟩ := hcm k3 hkn3
              obtain ⟨vs', hv4', ⟨Ak', ck', Ae', ce', evs, hik', hie'⟩, hv6'⟩ : ∃ vs : List Value, vs.length = 2 ∧ MeanR y l[k3] vs ∧ ∀ j, (hj : j < vs.length) → wr.cell? ⟨bm, om + k3 * 2 + j, none⟩ = some vs[j] := by
                obtain ⟨bm', om', em', hbm', hcm'⟩ := HMS.out.at hkn3
                rw [em] at em'
                cases em'
                obtain ⟨vs, h1, h2, h3⟩ := hcm' k3 hkn3
                exact ⟨vs, h1, h2, fun j hj => by obtain ⟨u, rfl⟩ := HAY.out; exact (World.lat_cell _ _ _ _ hbm').trans (h3 j hj)⟩
              have cK : wr.cell? ⟨bm, om + k3 * 2, none⟩ = some (.slice Ak' l[k3].kinds.length ck') := by subst evs; exact hv6' 0 (by simp)
              have cE : wr.cell? ⟨bm, om + k3 * 2 + 1, none⟩ = some (.slice Ae' l[k3].ends.length ce') := by subst evs; exact hv6' 1 (by simp)
              have HTK3 : Hid (l.take (k3 + 1) = l.take k3 ++ [l[k3]]) := Lib.hid (List.take_succ_eq_append_getElem hkn3)
              have HK1 := Lib.hid hik'
              have HE1 := Lib.hid hie'
              have j1 : (0 : Int) ≤ (k3 : Int) ∧ (k3 : Int) < (l.length : Int) := by omega
              clear hv4 hv6 hcm hik hie hv4' evs hik' hie' hv6'
              generalize l[k3] = mm at *
              subst em
              go_upto_region 14 with fail
              refine region14_trlit y wr.heap.size y.heap.size Ak' Ae' ck' ce' u8 S3 (l.take k3) xs3 mm (wr.alloc (.cells #[.slice Ak' mm.kinds.length ck', .slice Ae' mm.ends.length ce'] 80)) (HAY.out.then_alloc _) (Blk.new _ _ _) (fun e => by have := (HK3.out.own.lt _ e).2; omega) HK1.out HE1.out (HK3.out.aft (Aft.alloc _ _)) (HN3'.out.keep fun k hk => aft_keep (Aft.alloc _ _) (HK3.out.lt k hk)) (by rw [List.length_take]; omega) (Nat.le_refl _) (HAY.out.then_alloc _).size _ _ _ _ _ _ _ _ _ _ _ _ _ _ _ _ _ _ _ _ _ _ _ _ _ _ _ _ _ _ _ _ _ _ _ _ _ _ _ _ _ _ _ _ _ _ _ _ _ _ _ _ _ _ _ _ _ _ _ _ _ _ _ _ _ _ _ _ _ _ _ _ _ _ _ _ _ _ ?_
              intro u8 u46 u47 u48 u49 u50 u51 u52 u53 u54 u55 W' h1 h2 h3
              obtain ⟨S4, xs4, hk4, hn4⟩ := h1
              rw [← HTK3.out] at hk4
              have HM' : Hid (MMt y l (k3 + 1) u8 W') := Lib.hid ⟨S4, xs4, h2, hk4, hn4⟩
              clear h2 h3 hk4 hn4 cK cE
              (repeat (first | go_big_skip | go_big_want | go_big_move | go_big_op | go_step | go_upon | go_back))
              exact ⟨⟨k3 + 1, by go_num, by omega, HM'.out⟩, by simp [intOf]; omega⟩
            · have hdec3 : decide ((k3 : Int) < (l.length : Int)) = false := by simp; omega
              have HKL : Hid (OwnK MeanR 90 2 y.heap.size u8 S3 l xs3 wr) := Lib.hid (by have := HK3.out; rw [List.take_of_length_le (by omega)] at this; exact this)
              obtain ⟨sA, sn, sc, rfl⟩ := own_slice' HKL.out.own
              obtain ⟨qA, qn, qc, rfl⟩ := own_slice' HO2.out.own
              have hv2 : ∀ q, (Value.slice qA qn qc).ownBlock = some q → q < y.heap.size := fun q e => (HO2.out.own.lt q e).2
              have HV2 := Lib.hid hv2
              have HBW : Hid (Blk (wr.alloc (.cells #[.slice sA sn sc] 89)) b 36 #[.int .i64 T.places, v1, .slice qA qn qc, v3, .slice none 0 0]) := Lib.hid ((HBw.out.aft HAY.out).alloc _)
              have HGW : Hid (Y.grownBy (wr.alloc (.cells #[.slice sA sn sc] 89)) (some b)) := Lib.hid (only_aft (only_aft HGw.out HAY.out) (Aft.alloc _ _))
              have HO2w : Hid (OwnK WordR 89 1 Y.heap.size (.slice qA qn qc) S (T.words.take k) xs (wr.alloc (.cells #[.slice sA sn sc] 89))) := Lib.hid (HO2.out.aft (HAY.out.then_alloc _))
              have HN2w : Hid (N36 (wr.alloc (.cells #[.slice sA sn sc] 89)) S) := Lib.hid (HN2.out.keep fun k hk => aft_keep (HAY.out.then_alloc _) (HO2.out.lt k hk))
              have HKW : Hid (OwnK MeanR 90 2 y.heap.size (.slice sA sn sc) S3 l xs3 (wr.alloc (.cells #[.slice sA sn sc] 89))) := Lib.hid (HKL.out.aft (Aft.alloc _ _))
              have HN3w : Hid (N36 (wr.alloc (.cells #[.slice sA sn sc] 89)) S3) := Lib.hid (HN3'.out.keep fun k hk => aft_keep (Aft.alloc _ _) (HKL.out.lt k hk))
              have c2' : wr.cell? ⟨b, 2, none⟩ = some (.slice qA qn qc) := (HBw.out.aft HAY.out).cell 2
              have f2 := (HBw.out.aft HAY.out).frozen 2
              have hlt := (HBw.out.aft HAY.out).lt
              have HYy : Hid (Y.heap.size ≤ y.heap.size) := Lib.hid HGw.out.size
              clear HK3 HN3' hv2
              go_upto_region 17 with (at_builtin; go_loud (refine wpList_app1 ty33 rfl _ _ rfl HGW.out.size rfl HO2w.out.own rfl (Blk.new _ _ _) rfl (fun u hu => by rw [List.mem_singleton] at hu; subst hu; rfl) (by omega) (by decide) ?_; intro v' w6 hown6 hg6 hat6; obtain ⟨tA, tn, tc, rfl⟩ := own_slice' hown6; have HM' : Hid (MWt Y b (.int .i64 T.places) v1 v3 (.slice none 0 0) (T.words.take k ++ [l]) (w6.setCell ⟨b, 2, none⟩ (.slice tA tn tc))) := Lib.hid (words_put HGW.out HBW.out HO2w.out HN2w.out HV2.out HKW.out HN3w.out HYy.out (by omega) hown6 hg6 hat6); have HB6 := Lib.hid (HBW.out.grown hg6 (fun e => own_ne36 HO2w.out.own (by decide) HBW.out e.symm)); have f26 := HB6.out.frozen 2; have hlt6 := HB6.out.lt; have c26 : w6.cell? ⟨b, 2, none⟩ = some (.slice qA qn qc) := HB6.out.cell 2; clear hown6 hg6 hat6))
              rw [← HTK.out] at HM'
              clear f2 f26 c2' c26 hlt hlt6
              (repeat (first | go_big_skip | go_big_want | go_big_move | go_big_op | go_step | go_upon | go_back))
              exact ⟨⟨k + 1, by go_num, by omega, HM'.out⟩, by simp [intOf]; omega⟩
        · have hdec : decide ((k : Int) < (T.words.length : Int)) = false := by simp; omega
          have hkT : T.words.take k = T.words := List.take_of_length_le (by omega)
          rw [hkT] at HO2
          have HO1z : Hid (wr.ownsRow W0.heap.size 88 3 v1 T.ways.length (T.ways.flatMap encWay)) := Lib.hid (own_kept3 HO1.out HGw.out (fun q e => by cases e; exact own_ne36 HO1.out (by decide) HB.out))
          have HO3z : Hid (wr.ownsRow X.heap.size 3 1 v3 T.starts.length (T.starts.map (Value.int .i64))) := Lib.hid (own_kept3 HO3'.out HGw.out (fun q e => by cases e; exact own_ne36 HO3'.out (by decide) HB.out))
          have HB1z : Hid (Blk wr w.heap.size 27 #[.int .i64 T.places, .slice a1 T.ways.length c1, .slice a2 T.words.length c2, .slice a3 T.starts.length c3, .slice a4 T.legs.length c4]) := Lib.hid (HB1'.out.grown HGw.out (fun e => by cases e; exact HBB.out.1 rfl))
          have HCz : Hid (Blk wr (w.heap.size + 1) 36 #[.int .i64 0, .slice none 0 0, .slice none 0 0, .slice none 0 0, .slice none 0 0]) := Lib.hid (HC'.out.grown HGw.out (fun e => by cases e; exact HBB.out.2.1 rfl))
          have k4 : wr.cell? ⟨w.heap.size, 4, none⟩ = some (.slice a4 T.legs.length c4) := HB1z.out.cell 4
          clear hkT HO1 HO3' HB1' HC' HGw HG HAw HB
          (repeat (first | go_big_skip | go_big_want | go_big_move | go_big_op | go_step | go_upon | go_back))
          generalize wr = Z at *
          have HM1 : Hid (MF Z b 91 2 encLeg (fun v => #[.int .i64 T.places, v1, v2, v3, v]) (T.legs.take 0) Z) := Lib.hid (MF.nil HBw.out)
          go_loopw [67] (fun i wr => ∃ k : Nat, i = .int .i64 k ∧ k ≤ T.legs.length ∧ MF Z b 91 2 encLeg (fun v => #[.int .i64 T.places, v1, v2, v3, v]) (T.legs.take k) wr) (fun i _ => T.legs.length - (intOf i).toNat)
          case atStart => exact ⟨0, rfl, by omega, HM1.out⟩
          case round =>
            obtain ⟨k, rfl, hk, v4, hg, hb, o4⟩ := hrel
            have HG := Lib.hid hg
            have HB : Hid (Blk wr b 36 #[.int .i64 T.places, v1, v2, v3, v4]) := Lib.hid hb
            have HO4 := Lib.hid o4
            clear hg hb o4 HM1 k4
            have HAw : Hid (Aft w wr) := Lib.hid (HAv.out.grown HG.out (fun q e => by cases e; exact HBB.out.2.2))
            by_cases hkn : k < T.legs.length
            · have hdec : decide ((k : Int) < (T.legs.length : Int)) = true := by simp; omega
              obtain ⟨b4, o4, e4, -, x0, x1⟩ := leg_cells (HT0.out.aft HAw.out).legs hkn
              have HTK : Hid (T.legs.take (k + 1) = T.legs.take k ++ [T.legs[k]]) := Lib.hid (List.take_succ_eq_append_getElem hkn)
              have htl : (T.legs.take k).length = k := by rw [List.length_take]; omega
              have i1 : (0 : Int) ≤ (k : Int) ∧ (k : Int) < (T.legs.length : Int) := by omega
              generalize T.legs[k] = lg at *
              subst e4
              have HBA : Hid (Blk (wr.alloc (.cells #[.int .i64 lg.word, .int .i64 lg.other] 83)) b 36 #[.int .i64 T.places, v1, v2, v3, v4]) := Lib.hid (HB.out.alloc _)
              have HGA : Hid (Z.grownBy (wr.alloc (.cells #[.int .i64 lg.word, .int .i64 lg.other] 83)) (some b)) := Lib.hid (only_aft HG.out (Aft.alloc _ _))
              have HOA : Hid ((wr.alloc (.cells #[.int .i64 lg.word, .int .i64 lg.other] 83)).ownsRow Z.heap.size 91 2 v4 (T.legs.take k).length ((T.legs.take k).flatMap encLeg)) := Lib.hid (own_aft HO4.out (Aft.alloc _ _))
              have HR := Lib.hid (Blk.new wr 83 #[.int .i64 lg.word, .int .i64 lg.other])
              go_upto_region 21 with fail
              generalize (wr.alloc (.cells #[.int .i64 lg.word, .int .i64 lg.other] 83)) = y at *
              clear x0 x1
              obtain ⟨sA, sn, sc, rfl⟩ := own_slice' HOA.out
              have r0 : y.cell? ⟨wr.heap.size, 0, none⟩ = some (.int .i64 lg.word) := HR.out.cell 0
              have r1 : y.cell? ⟨wr.heap.size, 1, none⟩ = some (.int .i64 lg.other) := HR.out.cell 1
              have f1 : y.cell? ⟨b, 4, none⟩ = some (.slice sA sn sc) := HBA.out.cell 4
              have f2 := HBA.out.frozen 4
              have f3 := HBA.out.lt
              have HGY : Hid (Z.grownBy (y.alloc (.cells #[.int .i64 lg.word, .int .i64 lg.other] 91)) (some b)) := Lib.hid (only_aft HGA.out (Aft.alloc _ _))
              have HOY : Hid ((y.alloc (.cells #[.int .i64 lg.word, .int .i64 lg.other] 91)).ownsRow Z.heap.size 91 2 (.slice sA sn sc) (T.legs.take k).length ((T.legs.take k).flatMap encLeg)) := Lib.hid (own_aft HOA.out (Aft.alloc _ _))
              have HBY : Hid (Blk (y.alloc (.cells #[.int .i64 lg.word, .int .i64 lg.other] 91)) b 36 #[.int .i64 T.places, v1, v2, v3, .slice sA sn sc]) := Lib.hid (HBA.out.alloc _)
              go_upto_region 22 with (at_builtin; go_loud (refine wpList_app1 ty34 rfl _ _ rfl HGY.out.size rfl HOY.out rfl (Blk.new _ _ _) rfl (one_leg lg) (by omega) (by decide) ?_; intro v' w6 hown6 hg6 hat6; obtain ⟨tA, tn, tc, rfl⟩ := own_slice' hown6; have HM' : Hid (MF Z b 91 2 encLeg (fun v => #[.int .i64 T.places, v1, v2, v3, v]) (T.legs.take k ++ [lg]) (w6.setCell ⟨b, 4, none⟩ (.slice tA tn tc))) := Lib.hid (MF.put (i := 4) HGY.out HBY.out HOY.out (by decide) hg6 hown6 rfl); have HB6 := Lib.hid (HBY.out.grown hg6 (fun e => own_ne36 HOY.out (by decide) HBY.out e.symm)); have f26 := HB6.out.frozen 4; have hlt6 := HB6.out.lt; have c26 : w6.cell? ⟨b, 4, none⟩ = some (.slice sA sn sc) := HB6.out.cell 4; clear hown6 hg6 hat6))
              rw [← HTK.out] at HM'
              clear f1 f2 f3 r0 r1 f26 hlt6 c26
              (repeat (first | go_big_skip | go_big_want | go_big_move | go_big_op | go_step | go_upon | go_back))
              exact ⟨⟨k + 1, by go_num, by omega, HM'.out⟩, by simp [intOf]; omega⟩
            · have hdec : decide ((k : Int) < (T.legs.length : Int)) = false := by simp; omega
              have hkT : T.legs.take k = T.legs := List.take_of_length_le (by omega)
              rw [hkT] at HO4
              have n1 := own_ne36 HO1z.out (by decide) HBw.out
              have n3 := own_ne36 HO3z.out (by decide) HBw.out
              have n2 : ¬ S b := HN2.out.not HBw.out
              have n2' := own_ne36 HO2.out.own (by decide) HBw.out
              have o1 := own_kept3 HO1z.out HG.out (fun q e => by cases e; exact n1)
              have o3 := own_kept3 HO3z.out HG.out (fun q e => by cases e; exact n3)
              have o2 := HO2.out.kept3 HG.out (fun q e => by cases e; exact ⟨n2', n2⟩)
              have hC := HCz.out.grown HG.out (fun e => by cases e; exact HBB.out.2.1 rfl)
              have nC : ∀ {e sz n : Nat} {v : Value} {xs : List Value} {bb : Nat}, wr.ownsRow bb e sz v n xs → e ≠ 36 → v.ownBlock ≠ some (w.heap.size + 1) := fun h he => own_ne36 h he hC
              have nS : ¬ S (w.heap.size + 1) := HN2.out.not HCz.out
              obtain ⟨A1, C1, rfl, s1⟩ := flat_sup (R := WayR) (fun _ _ => rfl) (fun _ _ _ _ h => h) (fun _ => rfl) (by decide) o1 (by omega)
              obtain ⟨A2, C2, rfl, _, s2⟩ := o2.rowsP (by omega)
              obtain ⟨A3, C3, rfl, s3⟩ := own_sup o3 (by omega)
              obtain ⟨A4, C4, rfl, s4⟩ := flat_sup (R := LegR) (fun _ _ => rfl) (fun _ _ _ _ h => h) (fun _ => rfl) (by decide) HO4.out (by omega)
              have hnC : ¬ ((((Value.slice A1 T.ways.length C1).ownBlock = some (w.heap.size + 1) ∨ (S (w.heap.size + 1) ∨ (Value.slice A2 T.words.length C2).ownBlock = some (w.heap.size + 1))) ∨ (Value.slice A3 T.starts.length C3).ownBlock = some (w.heap.size + 1)) ∨ (Value.slice A4 T.legs.length C4).ownBlock = some (w.heap.size + 1)) := fun hk => by
                rcases hk with ((h | h | h) | h) | h
                · exact nC o1 (by decide) h
                · exact nS h
                · exact nC o2.own (by decide) h
                · exact nC o3 (by decide) h
                · exact nC HO4.out (by decide) h
              have HNC := Lib.hid hnC
              have HS := Lib.hid (((s1.and s2).and s3).and s4)
              have hb := HB.out
              have k0 : wr.cell? ⟨b, 0, none⟩ = some (.int .i64 T.places) := hb.cell 0
              have k1 : wr.cell? ⟨b, 1, none⟩ = some (.slice A1 T.ways.length C1) := hb.cell 1
              have k2' : wr.cell? ⟨b, 2, none⟩ = some (.slice A2 T.words.length C2) := hb.cell 2
              have k3' : wr.cell? ⟨b, 3, none⟩ = some (.slice A3 T.starts.length C3) := hb.cell 3
              have k4' : wr.cell? ⟨b, 4, none⟩ = some (.slice A4 T.legs.length C4) := hb.cell 4
              have hlc := hC.lt
              have hfc : ∀ i, wr.frozen? ⟨w.heap.size + 1, i, none⟩ = false := fun i => hC.frozen i
              have j0 : wr.cell? ⟨w.heap.size + 1, 0, none⟩ = some (.int .i64 0) := hC.cell 0
              have j1 : wr.cell? ⟨w.heap.size + 1, 1, none⟩ = some (.slice none 0 0) := hC.cell 1
              have j2 : wr.cell? ⟨w.heap.size + 1, 2, none⟩ = some (.slice none 0 0) := hC.cell 2
              have j3 : wr.cell? ⟨w.heap.size + 1, 3, none⟩ = some (.slice none 0 0) := hC.cell 3
              have j4 : wr.cell? ⟨w.heap.size + 1, 4, none⟩ = some (.slice none 0 0) := hC.cell 4
              clear s1 s2 s3 s4 hkT hb nC o1 o3 o2 hnC
              (repeat (first | go_big_skip | go_big_want | go_big_move | go_big_op | go_step | go_upon | go_back))
              obtain ⟨hCz, hgC⟩ := blk_five36 hC (.int .i64 T.places) (.slice A1 T.ways.length C1) (.slice A2 T.words.length C2) (.slice A3 T.starts.length C3) (.slice A4 T.legs.length C4)
              generalize (((((wr.setCell ⟨w.heap.size + 1, 0, none⟩ (.int .i64 T.places)).setCell ⟨w.heap.size + 1, 1, none⟩ (.slice A1 T.ways.length C1)).setCell ⟨w.heap.size + 1, 2, none⟩ (.slice A2 T.words.length C2)).setCell ⟨w.heap.size + 1, 3, none⟩ (.slice A3 T.starts.length C3)).setCell ⟨w.heap.size + 1, 4, none⟩ (.slice A4 T.legs.length C4)) = W' at *
              clear j0 j1 j2 j3 j4 k0 k1 k2' k3' k4' hfc
              have z0 : W'.cell? ⟨w.heap.size + 1, 0, none⟩ = some (.int .i64 T.places) := hCz.cell 0
              have z1 : W'.cell? ⟨w.heap.size + 1, 1, none⟩ = some (.slice A1 T.ways.length C1) := hCz.cell 1
              have z2 : W'.cell? ⟨w.heap.size + 1, 2, none⟩ = some (.slice A2 T.words.length C2) := hCz.cell 2
              have z3 : W'.cell? ⟨w.heap.size + 1, 3, none⟩ = some (.slice A3 T.starts.length C3) := hCz.cell 3
              have z4 : W'.cell? ⟨w.heap.size + 1, 4, none⟩ = some (.slice A4 T.legs.length C4) := hCz.cell 4
              refine bodyPost_ret (v := .agg #[.int .i64 T.places, .slice A1 T.ways.length C1, .slice A2 T.words.length C2, .slice A3 T.starts.length C3, .slice A4 T.legs.length C4]) (by simp [results, Try.results12, go_sem, z0, z1, z2, z3, z4]) rfl ?_
              exact ⟨A1, A2, A3, A4, C1, C2, C3, C4, rfl, HAw.out.grown hgC (fun k e => by cases e; omega), ((HS.out.grown hgC (fun k e => by cases e; exact HNC.out)).mono fun W h => (⟨h.1.1.1, h.1.1.2, h.1.2, h.2⟩ : TRep W T A1 A2 A3 A4)).self⟩

end Go.Proofs
end

section
/- Walks: CloneTreaty. -/
namespace Go.Proofs
open Go.RowKit

/-- What CloneTreaty answers: the same treaty in blocks of its own. -/
def CloneR (w : World) (T : Treaty) (e : Ending) (w' : World) : Prop :=
  ∃ (a1 a2 a3 a4 : Option Addr) (c1 c2 c3 c4 : Nat), ∃ S : Nat → Prop, e = .returned (.agg #[.int .i64 T.places, .slice a1 T.ways.length c1, .slice a2 T.words.length c2, .slice a3 T.starts.length c3, .slice a4 T.legs.length c4]) ∧ (T.legs.length ≤ c4 ∧ (a4 = none ∧ c4 = 0 ∨ ∃ g, a4 = some ⟨g, 0, none⟩)) ∧ Aft w w' ∧ Sup w' S (fun W => TRep W T a1 a2 a3 a4) ∧ N27 w' S ∧ ∀ k, S k → w.heap.size ≤ k

theorem own_apart {W : World} {b b' sz sz' n n' : Nat} {e e' : TypeId} {v v' : Value} {xs xs' : List Value} (h : W.ownsRow b e sz v n xs) (h' : W.ownsRow b' e' sz' v' n' xs') (he : e ≠ e') : ∀ k, v'.ownBlock = some k → v.ownBlock ≠ some k := fun k h1 h2 => by
  obtain ⟨c1, q1⟩ := own_block h h2
  obtain ⟨c2, q2⟩ := own_block h' h1
  rw [q1] at q2
  cases q2
  exact he rfl
/-- Between two words. -/
def MC1 (X : World) (b : Nat) (T : Treaty) (v1 v3 v4 : Value) (k : Nat) (W : World) : Prop :=
  ∃ (v2 : Value) (S : Nat → Prop) (xs : List Value), Aft X W ∧ Blk W b 27 #[.int .i64 T.places, v1, v2, v3, v4] ∧ W.ownsRow X.heap.size 86 3 v1 T.ways.length (T.ways.flatMap encWay) ∧ W.ownsRow X.heap.size 3 1 v3 T.starts.length (T.starts.map (Value.int .i64)) ∧ W.ownsRow X.heap.size 83 2 v4 T.legs.length (T.legs.flatMap encLeg) ∧
    OwnK WordR 78 1 X.heap.size v2 S (T.words.take k) xs W ∧ N27 W S
/-- Between two meanings. -/
def MC2 (y : World) (l : List Mean) (k : Nat) (vS : Value) (W : World) : Prop :=
  ∃ (S : Nat → Prop) (xs : List Value), Aft y W ∧ OwnK MeanR 80 2 y.heap.size vS S (l.take k) xs W ∧ N27 W S

set_option maxRecDepth 100000 in
set_option maxHeartbeats 4000000 in
theorem cloneTreaty_any (w : World) (T : Treaty) (a1 a2 a3 a4 : Option Addr) (c1 c2 c3 c4 : Nat) (hT : TRep w T a1 a2 a3 a4) (hl1 : T.ways.length ≤ 1000) (hl2 : T.words.length ≤ 100) (hl3 : T.starts.length ≤ 1000) (hl4 : T.legs.length ≤ 1000) (hwl : ∀ l ∈ T.words, l.length ≤ 100) :
    Calls Try.prog 10 #[.agg #[.int .i64 T.places, .slice a1 T.ways.length c1, .slice a2 T.words.length c2, .slice a3 T.starts.length c3, .slice a4 T.legs.length c4]] w (CloneR w T) := by
  have HT0 := Lib.hid hT
  have HWL := Lib.hid hwl
  clear hT hwl
  go_enter Try.func10, Try.ntmps10
  go_upto_region 1 with fail
  have ha0 : Aft w ((w.alloc (.cells #[.int .i64 T.places, .slice a1 T.ways.length c1, .slice a2 T.words.length c2, .slice a3 T.starts.length c3, .slice a4 T.legs.length c4] 27)).alloc (.cells #[.int .i64 0, .slice none 0 0, .slice none 0 0, .slice none 0 0, .slice none 0 0] 27)) := (Aft.alloc _ _).then_alloc _
  have hB1 : Blk ((w.alloc (.cells #[.int .i64 T.places, .slice a1 T.ways.length c1, .slice a2 T.words.length c2, .slice a3 T.starts.length c3, .slice a4 T.legs.length c4] 27)).alloc (.cells #[.int .i64 0, .slice none 0 0, .slice none 0 0, .slice none 0 0, .slice none 0 0] 27)) w.heap.size 27 #[.int .i64 T.places, .slice a1 T.ways.length c1, .slice a2 T.words.length c2, .slice a3 T.starts.length c3, .slice a4 T.legs.length c4] := (Blk.new _ _ _).alloc _
  have hC := Blk.new (w.alloc (.cells #[.int .i64 T.places, .slice a1 T.ways.length c1, .slice a2 T.words.length c2, .slice a3 T.starts.length c3, .slice a4 T.legs.length c4] 27)) 27 #[.int .i64 0, .slice none 0 0, .slice none 0 0, .slice none 0 0, .slice none 0 0]
  rw [World.size_alloc] at hC
  generalize ((w.alloc (.cells #[.int .i64 T.places, .slice a1 T.ways.length c1, .slice a2 T.words.length c2, .slice a3 T.starts.length c3, .slice a4 T.legs.length c4] 27)).alloc (.cells #[.int .i64 0, .slice none 0 0, .slice none 0 0, .slice none 0 0, .slice none 0 0] 27)) = X at *
  have HA0 := Lib.hid ha0
  have HB1 := Lib.hid hB1
  have HC := Lib.hid hC
  clear ha0 hB1 hC
  refine region1_ctlit T a1 a2 a3 a4 c1 c2 c3 c4 w.heap.size X (HT0.out.aft HA0.out) HB1.out hl1 hl4 _ _ _ _ _ _ _ _ _ _ _ _ _ _ _ _ _ _ _ _ _ _ _ _ _ _ _ _ _ _ _ _ _ _ _ _ _ _ _ _ _ _ _ _ _ _ _ _ _ _ _ _ _ ?_
  intro u3 u9 u10 u11 u12 u13 u14 u15 u16 u17 u18 u19 u20 W0 b e3 hbX hgood haX
  subst e3
  obtain ⟨v1, v3, v4, hb, o1, o3, o4⟩ := hgood
  have HM1 : Hid (MC1 X b T v1 v3 v4 0 W0) := Lib.hid ⟨.slice none 0 0, _, [], haX, hb, o1, o3, o4, OwnK.nil _ _ _ _, fun _ h => h.elim⟩
  have HBX := Lib.hid hbX
  have k2 : W0.cell? ⟨w.heap.size, 2, none⟩ = some (.slice a2 T.words.length c2) := (HB1.out.aft haX).cell 2
  clear hb o1 o3 o4 haX hbX
  (repeat (first | go_big_skip | go_big_want | go_big_move | go_big_op | go_step | go_upon | go_back))
  go_loopw [24] (fun i wr => ∃ k : Nat, i = .int .i64 k ∧ k ≤ T.words.length ∧ MC1 X b T v1 v3 v4 k wr) (fun i _ => T.words.length - (intOf i).toNat)
  case atStart => exact ⟨0, rfl, by omega, HM1.out⟩
  case round =>
    obtain ⟨k, rfl, hk, hM⟩ := hrel
    obtain ⟨v2, S, xs, haX, hb, o1, o3, o4, o2, n2⟩ := hM
    have HAX := Lib.hid haX
    have HBB := Lib.hid hb
    have HO1 := Lib.hid o1
    have HO3 := Lib.hid o3
    have HO4 := Lib.hid o4
    have HO2 := Lib.hid o2
    have HN2 := Lib.hid n2
    clear haX hb o1 o3 o4 o2 n2 HM1 k2
    by_cases hkn : k < T.words.length
    · have hdec : decide ((k : Int) < (T.words.length : Int)) = true := by simp; omega
      obtain ⟨bw, ow, ew, hbw, hcw⟩ := (HT0.out.aft (HA0.out.trans HAX.out)).words.at hkn
      obtain ⟨vs, hv1, ⟨Am, cm, rfl, hms⟩, hv3⟩ := hcw k hkn
      have cM : wr.cell? ⟨bw, ow + k, none⟩ = some (.slice Am T.words[k].length cm) := by have := hv3 0 (by simp); simpa using this
      have hml := HWL.out _ (List.getElem_mem hkn)
      have HTK : Hid (T.words.take (k + 1) = T.words.take k ++ [T.words[k]]) := Lib.hid (List.take_succ_eq_append_getElem hkn)
      have HMS := Lib.hid hms
      have i1 : (0 : Int) ≤ (k : Int) ∧ (k : Int) < (T.words.length : Int) := by omega
      have i1n : k < T.words.length := hkn
      clear hv1 hv3 hcw hms
      generalize T.words[k] = l at *
      subst ew
      (repeat (first | go_big_skip | go_big_want | go_big_move | go_big_op | go_step | go_upon | go_back))
      generalize wr = y at *
      have HM2 : Hid (MC2 y l 0 (.slice none 0 0) y) := Lib.hid ⟨_, [], Aft.refl _, OwnK.nil _ _ _ _, fun _ h => h.elim⟩
      clear cM
      go_loopw [6, 30] (fun v i wq => ∃ k3 : Nat, i = .int .i64 k3 ∧ k3 ≤ l.length ∧ MC2 y l k3 v wq) (fun _ i _ => l.length - (intOf i).toNat)
      case atStart => exact ⟨0, rfl, by omega, HM2.out⟩
      case round =>
        obtain ⟨k3, rfl, hk3, S3, xs3, haY, o3', n3⟩ := hrel
        have HAY := Lib.hid haY
        have HK3 := Lib.hid o3'
        have HN3 := Lib.hid n3
        clear haY o3' n3 HM2
        by_cases hkn3 : k3 < l.length
        · have hdec3 : decide ((k3 : Int) < (l.length : Int)) = true := by simp; omega
          obtain ⟨bm, om, em, hbm, hcm⟩ := (HMS.out.aft MeanR.mono HAY.out).at hkn3
          obtain ⟨vs, hv4, ⟨Ak, ck, Ae, ce, rfl, hik, hie⟩, hv6⟩ := hcm k3 hkn3
          obtain ⟨vs', hv4', ⟨Ak', ck', Ae', ce', evs, hik', hie'⟩, hv6'⟩ : ∃ vs : List Value, vs.length = 2 ∧ MeanR y l[k3] vs ∧ ∀ j, (hj : j < vs.length) → wr.cell? ⟨bm, om + k3 * 2 + j, none⟩ = some vs[j] := by
            obtain ⟨bm', om', em', hbm', hcm'⟩ := HMS.out.at hkn3
            rw [em] at em'
            cases em'
            obtain ⟨vs, h1, h2, h3⟩ := hcm' k3 hkn3
            exact ⟨vs, h1, h2, fun j hj => by obtain ⟨u, rfl⟩ := HAY.out; exact (World.lat_cell _ _ _ _ hbm').trans (h3 j hj)⟩
          have cK : wr.cell? ⟨bm, om + k3 * 2, none⟩ = some (.slice Ak' l[k3].kinds.length ck') := by subst evs; exact hv6' 0 (by simp)
          have cE : wr.cell? ⟨bm, om + k3 * 2 + 1, none⟩ = some (.slice Ae' l[k3].ends.length ce') := by subst evs; exact hv6' 1 (by simp)
          have HTK3 : Hid (l.take (k3 + 1) = l.take k3 ++ [l[k3]]) := Lib.hid (List.take_succ_eq_append_getElem hkn3)
          have HK1 := Lib.hid hik'
          have HE1 := Lib.hid hie'
          have j1 : (0 : Int) ≤ (k3 : Int) ∧ (k3 : Int) < (l.length : Int) := by omega
          clear hv4 hv6 hcm hik hie hv4' evs hik' hie' hv6'
          generalize l[k3] = mm at *
          subst em
          go_upto_region 9 with fail
          refine region9_ctlit y wr.heap.size y.heap.size Ak' Ae' ck' ce' u6 S3 (l.take k3) xs3 mm (wr.alloc (.cells #[.slice Ak' mm.kinds.length ck', .slice Ae' mm.ends.length ce'] 80)) (HAY.out.then_alloc _) (Blk.new _ _ _) (fun e => by have := (HK3.out.own.lt _ e).2; omega) HK1.out HE1.out (HK3.out.aft (Aft.alloc _ _)) (HN3.out.keep fun k hk => aft_keep (Aft.alloc _ _) (HK3.out.lt k hk)) (by rw [List.length_take]; omega) (Nat.le_refl _) (HAY.out.then_alloc _).size _ _ _ _ _ _ _ _ _ _ _ _ _ _ _ _ _ _ _ _ _ _ _ _ _ _ _ _ _ _ _ _ _ _ _ _ _ _ _ _ _ _ _ _ _ _ _ _ _ _ _ _ ?_
          intro u6 u34 u35 u36 u37 u38 u39 u40 u41 u42 u43 W' h1 h2 h3
          obtain ⟨S4, xs4, hk4, hn4⟩ := h1
          rw [← HTK3.out] at hk4
          have HM' : Hid (MC2 y l (k3 + 1) u6 W') := Lib.hid ⟨S4, xs4, h2, hk4, hn4⟩
          clear h2 h3 hk4 hn4 cK cE
          (repeat (first | go_big_skip | go_big_want | go_big_move | go_big_op | go_step | go_upon | go_back))
          exact ⟨⟨k3 + 1, by go_num, by omega, HM'.out⟩, by simp [intOf]; omega⟩
        · have hdec3 : decide ((k3 : Int) < (l.length : Int)) = false := by simp; omega
          have HKL : Hid (OwnK MeanR 80 2 y.heap.size u6 S3 l xs3 wr) := Lib.hid (by have := HK3.out; rw [List.take_of_length_le (by omega)] at this; exact this)
          obtain ⟨sA, sn, sc, rfl⟩ := own_slice' HKL.out.own
          have hBW := HBB.out.aft HAY.out
          have HAXw := Lib.hid (HAX.out.trans HAY.out)
          have HO1w := Lib.hid (own_aft HO1.out HAY.out)
          have HO3w := Lib.hid (own_aft HO3.out HAY.out)
          have HO4w := Lib.hid (own_aft HO4.out HAY.out)
          have HO2w := Lib.hid (HO2.out.aft HAY.out)
          have HN2w := Lib.hid (HN2.out.keep fun k hk => aft_keep HAY.out (HO2.out.lt k hk))
          have c2' : wr.cell? ⟨b, 2, none⟩ = some v2 := hBW.cell 2
          have f2 := hBW.frozen 2
          have hlt := hBW.lt
          have HBW := Lib.hid hBW
          have htl : (T.words.take k).length = k := by rw [List.length_take]; omega
          clear hBW HK3
          go_upto_region 12 with (at_builtin; go_loud (refine wpList_app1 ty23 rfl _ _ rfl (HAXw.out.then_alloc _).size rfl (HO2w.out.aft (Aft.alloc _ _)).own rfl (Blk.new _ _ _) rfl (fun u hu => by rw [List.mem_singleton] at hu; subst hu; rfl) (by omega) (by decide) ?_; intro v' w6 hown6 hg6 hat6; obtain ⟨tA, tn, tc, rfl⟩ := own_slice' hown6; have HO6 := Lib.hid hown6; have HG6 : Hid ((wr.alloc (.cells #[.slice sA sn sc] 78)).grownBy w6 v2.ownBlock) := Lib.hid hg6; have HA6 : Hid ((Value.slice tA tn tc).ownBlock = v2.ownBlock ∨ (Value.slice tA tn tc).ownBlock = some (wr.alloc (.cells #[.slice sA sn sc] 78)).heap.size) := Lib.hid hat6; have HBA : Hid (Blk (wr.alloc (.cells #[.slice sA sn sc] 78)) b 27 #[.int .i64 T.places, v1, v2, v3, v4]) := Lib.hid (HBW.out.alloc _); have HOA : Hid ((wr.alloc (.cells #[.slice sA sn sc] 78)).ownsRow X.heap.size 78 1 v2 (T.words.take k).length xs) := Lib.hid (HO2w.out.aft (Aft.alloc _ _)).own; have HB6 := Lib.hid (HBA.out.grown HG6.out (fun e => own_ne27 HOA.out (by decide) HBA.out e.symm)); have f26 := HB6.out.frozen 2; have hlt6 := HB6.out.lt; have c26 : w6.cell? ⟨b, 2, none⟩ = some v2 := HB6.out.cell 2; clear hown6 hg6 hat6))
          have ha := Aft.alloc wr (.cells #[.slice sA sn sc] 78)
          have hgs := setc' w6 b 2 (.slice tA tn tc)
          have hv2 : ∀ q, v2.ownBlock = some q → X.heap.size ≤ q ∧ q < y.heap.size := fun q e => HO2.out.own.lt q e
          have hfar : ∀ q, (S3 q ∨ (Value.slice sA sn sc).ownBlock = some q) → y.heap.size ≤ q := fun q hq => hq.elim (fun h => (HKL.out.far q h).1) (fun e => (HKL.out.own.lt q e).1)
          have hword := (HKL.out.aft ha).word (by omega)
          have hpush := (HO2w.out.aft ha).push hword rfl (fun q hq => ⟨Nat.le_trans HAX.out.size (hfar q hq), fun e => by have := (hv2 q e).2; have := hfar q hq; omega⟩) HO6.out HG6.out HA6.out
          have hn6 : N27 w6 (fun q => S q ∨ (S3 q ∨ (Value.slice sA sn sc).ownBlock = some q)) := fun q hq => by
            have hlt6 : q < (wr.alloc (.cells #[.slice sA sn sc] 78)).heap.size := hq.elim (fun h => (HO2w.out.aft ha).lt q h) (fun h => hword.1 q h)
            have hne : some q ≠ v2.ownBlock := fun e => hq.elim (fun h => (HO2w.out.far q h).2 e.symm) (fun h => by have := (hv2 q e.symm).2; have := hfar q h; omega)
            rw [HG6.out.block q hlt6 hne]
            exact hq.elim (fun h => (HN2w.out.keep fun q h => aft_keep ha (HO2w.out.lt q h)) q h) (fun h => h.elim (fun h => (HN3.out.keep fun q h => aft_keep ha (HKL.out.lt q h)) q h) (fun e => own_n27 (own_aft HKL.out.own ha) (by decide) q e))
          have hnb := hn6.not HB6.out
          have hps := hpush.kept3 hgs (fun q e => by cases e; exact ⟨own_ne27 HO6.out (by decide) HB6.out, hnb⟩)
          have hns := hn6.kept3 hpush.lt hgs (fun q e => by cases e; exact hnb)
          have hk1 : ∀ {e sz n : Nat} {v : Value} {zs : List Value}, wr.ownsRow X.heap.size e sz v n zs → e ≠ 27 → e ≠ 78 → (w6.setCell ⟨b, 2, none⟩ (.slice tA tn tc)).ownsRow X.heap.size e sz v n zs := fun h h27 h78 => by
            have h1 := own_aft h ha
            have h2 := own_kept3 h1 HG6.out (own_apart h1 HOA.out h78)
            exact own_kept3 h2 hgs (fun q e => by cases e; exact own_ne27 h2 h27 HB6.out)
          have hAX : Aft X (w6.setCell ⟨b, 2, none⟩ (.slice tA tn tc)) := ((HAXw.out.trans ha).grown HG6.out (fun q e => (hv2 q e).1)).grown hgs (fun q e => by cases e; exact HBX.out)
          have hm1 : MC1 X b T v1 v3 v4 (k + 1) (w6.setCell ⟨b, 2, none⟩ (.slice tA tn tc)) := ⟨.slice tA tn tc, _, _, hAX, HB6.out.store 2 _, hk1 HO1w.out (by decide) (by decide), hk1 HO3w.out (by decide) (by decide), hk1 HO4w.out (by decide) (by decide), by rw [HTK.out]; exact hps, hns⟩
          have HM' := Lib.hid hm1
          clear ha hgs hv2 hfar hword hpush hn6 hnb hps hns hk1 hAX hm1 f2 f26 c2' c26 hlt hlt6
          (repeat (first | go_big_skip | go_big_want | go_big_move | go_big_op | go_step | go_upon | go_back))
          exact ⟨⟨k + 1, by go_num, by omega, HM'.out⟩, by simp [intOf]; omega⟩
    · have hdec : decide ((k : Int) < (T.words.length : Int)) = false := by simp; omega
      have hkT : T.words.take k = T.words := List.take_of_length_le (by omega)
      have HOK : Hid (OwnK WordR 78 1 X.heap.size v2 S T.words xs wr) := Lib.hid (by have := HO2.out; rw [hkT] at this; exact this)
      obtain ⟨A1, C1, rfl, s1⟩ := ways_sup HO1.out hl1
      obtain ⟨A2, C2, rfl, _, s2⟩ := HOK.out.rowsP (by omega)
      obtain ⟨A3, C3, rfl, s3⟩ := own_sup HO3.out (by omega)
      obtain ⟨A4, C4, rfl, hc4, _⟩ := own_rows (R := LegR) (fun _ _ => rfl) (fun _ => rfl) (by decide) HO4.out (by omega)
      obtain ⟨A4', C4', e4, s4⟩ := legs_sup HO4.out hl4
      cases e4
      have hc4f : A4 = none ∧ C4 = 0 ∨ ∃ g, A4 = some ⟨g, 0, none⟩ := by
        rcases HO4.out.2 with ⟨h, _⟩ | ⟨g, _, _, h, _⟩
        · injection h with h1 _ h3
          exact .inl ⟨h1, h3⟩
        · injection h with h1
          exact .inr ⟨g, h1⟩
      have HCF := Lib.hid hc4f
      clear hc4f
      have hb := HBB.out
      have HS := Lib.hid (((s1.and s2).and s3).and s4)
      have k0 : wr.cell? ⟨b, 0, none⟩ = some (.int .i64 T.places) := hb.cell 0
      have k1 : wr.cell? ⟨b, 1, none⟩ = some (.slice A1 T.ways.length C1) := hb.cell 1
      have k2' : wr.cell? ⟨b, 2, none⟩ = some (.slice A2 T.words.length C2) := hb.cell 2
      have k3' : wr.cell? ⟨b, 3, none⟩ = some (.slice A3 T.starts.length C3) := hb.cell 3
      have k4' : wr.cell? ⟨b, 4, none⟩ = some (.slice A4 T.legs.length C4) := hb.cell 4
      have hC := HC.out.aft HAX.out
      have hlc := hC.lt
      have hfc : ∀ i, wr.frozen? ⟨w.heap.size + 1, i, none⟩ = false := fun i => hC.frozen i
      have j0 : wr.cell? ⟨w.heap.size + 1, 0, none⟩ = some (.int .i64 0) := hC.cell 0
      have j1 : wr.cell? ⟨w.heap.size + 1, 1, none⟩ = some (.slice none 0 0) := hC.cell 1
      have j2 : wr.cell? ⟨w.heap.size + 1, 2, none⟩ = some (.slice none 0 0) := hC.cell 2
      have j3 : wr.cell? ⟨w.heap.size + 1, 3, none⟩ = some (.slice none 0 0) := hC.cell 3
      have j4 : wr.cell? ⟨w.heap.size + 1, 4, none⟩ = some (.slice none 0 0) := hC.cell 4
      clear s1 s2 s3 s4 hkT hb
      (repeat (first | go_big_skip | go_big_want | go_big_move | go_big_op | go_step | go_upon | go_back))
      obtain ⟨hCz, hgC⟩ := blk_five hC (.int .i64 T.places) (.slice A1 T.ways.length C1) (.slice A2 T.words.length C2) (.slice A3 T.starts.length C3) (.slice A4 T.legs.length C4)
      generalize (((((wr.setCell ⟨w.heap.size + 1, 0, none⟩ (.int .i64 T.places)).setCell ⟨w.heap.size + 1, 1, none⟩ (.slice A1 T.ways.length C1)).setCell ⟨w.heap.size + 1, 2, none⟩ (.slice A2 T.words.length C2)).setCell ⟨w.heap.size + 1, 3, none⟩ (.slice A3 T.starts.length C3)).setCell ⟨w.heap.size + 1, 4, none⟩ (.slice A4 T.legs.length C4)) = W' at *
      clear j0 j1 j2 j3 j4 k0 k1 k2' k3' k4' hfc
      have z0 : W'.cell? ⟨w.heap.size + 1, 0, none⟩ = some (.int .i64 T.places) := hCz.cell 0
      have z1 : W'.cell? ⟨w.heap.size + 1, 1, none⟩ = some (.slice A1 T.ways.length C1) := hCz.cell 1
      have z2 : W'.cell? ⟨w.heap.size + 1, 2, none⟩ = some (.slice A2 T.words.length C2) := hCz.cell 2
      have z3 : W'.cell? ⟨w.heap.size + 1, 3, none⟩ = some (.slice A3 T.starts.length C3) := hCz.cell 3
      have z4 : W'.cell? ⟨w.heap.size + 1, 4, none⟩ = some (.slice A4 T.legs.length C4) := hCz.cell 4
      refine bodyPost_ret (v := .agg #[.int .i64 T.places, .slice A1 T.ways.length C1, .slice A2 T.words.length C2, .slice A3 T.starts.length C3, .slice A4 T.legs.length C4]) (by simp [results, Try.results10, go_sem, z0, z1, z2, z3, z4]) rfl ?_
      have hn : N27 wr (fun k => (((Value.slice A1 T.ways.length C1).ownBlock = some k ∨ (S k ∨ (Value.slice A2 T.words.length C2).ownBlock = some k)) ∨ (Value.slice A3 T.starts.length C3).ownBlock = some k) ∨ (Value.slice A4 T.legs.length C4).ownBlock = some k) := fun k hk => by
        rcases hk with ((h | h | h) | h) | h
        · exact own_n27 HO1.out (by decide) k h
        · exact HN2.out k h
        · exact own_n27 HOK.out.own (by decide) k h
        · exact own_n27 HO3.out (by decide) k h
        · exact own_n27 HO4.out (by decide) k h
      have hfar : ∀ k, ((((Value.slice A1 T.ways.length C1).ownBlock = some k ∨ (S k ∨ (Value.slice A2 T.words.length C2).ownBlock = some k)) ∨ (Value.slice A3 T.starts.length C3).ownBlock = some k) ∨ (Value.slice A4 T.legs.length C4).ownBlock = some k) → X.heap.size ≤ k := fun k hk => by
        rcases hk with ((h | h | h) | h) | h
        · exact (HO1.out.lt k h).1
        · exact (HOK.out.far k h).1
        · exact (HOK.out.own.lt k h).1
        · exact (HO3.out.lt k h).1
        · exact (HO4.out.lt k h).1
      have hnC := hn.not hC
      have hsz := HA0.out.size
      refine ⟨A1, A2, A3, A4, C1, C2, C3, C4, _, rfl, ⟨hc4, HCF.out⟩, (HA0.out.trans HAX.out).grown hgC (fun k e => by cases e; omega), (HS.out.grown hgC (fun k e => by cases e; exact hnC)).mono fun W h => ⟨h.1.1.1, h.1.1.2, h.1.2, h.2⟩, hn.kept3 HS.out.1 hgC (fun k e => by cases e; exact hnC), fun k hk => Nat.le_trans hsz (hfar k hk)⟩
end Go.Proofs
end

section
/- Slices and treaties as they come in, of whatever length: what short may read before it is known that they are small. -/
namespace Go.Proofs
open Go.RowKit

section rows
variable {α : Type}
/-- As RowsP, of whatever length. -/
def RowsQ (w : World) (A : Option Addr) (sz : Nat) (R : World → α → List Value → Prop) (l : List α) : Prop :=
  l = [] ∨ ∃ b o, A = some ⟨b, o, none⟩ ∧ b < w.heap.size ∧
    ∀ i, (h : i < l.length) → ∃ vs : List Value, vs.length = sz ∧ R w l[i] vs ∧ ∀ j, (hj : j < vs.length) → w.cell? ⟨b, o + i * sz + j, none⟩ = some vs[j]
theorem RowsQ.lat {w : World} {A : Option Addr} {sz : Nat} {R : World → α → List Value → Prop} {l : List α} (hR : MonoR R) (h : RowsQ w A sz R l) (u : Later w) : RowsQ (w.lat u) A sz R l := by
  rcases h with h | ⟨b, o, rfl, hb, hc⟩
  · exact .inl h
  · refine .inr ⟨b, o, rfl, Nat.lt_of_lt_of_le hb (w.lat_size u), fun i hi => ?_⟩
    obtain ⟨vs, h1, h2, h3⟩ := hc i hi
    exact ⟨vs, h1, hR _ _ _ _ h2, fun j hj => by rw [World.lat_cell _ _ _ _ hb]; exact h3 j hj⟩
theorem RowsQ.aft {w w' : World} {A : Option Addr} {sz : Nat} {R : World → α → List Value → Prop} {l : List α} (hR : MonoR R) (h : RowsQ w A sz R l) (hl : Aft w w') : RowsQ w' A sz R l := by
  obtain ⟨u, rfl⟩ := hl; exact h.lat hR u
theorem RowsQ.at {w : World} {A : Option Addr} {sz : Nat} {R : World → α → List Value → Prop} {l : List α} (h : RowsQ w A sz R l) {k : Nat} (hk : k < l.length) :
    ∃ b o, A = some ⟨b, o, none⟩ ∧ b < w.heap.size ∧ ∀ i, (h : i < l.length) → ∃ vs : List Value, vs.length = sz ∧ R w l[i] vs ∧ ∀ j, (hj : j < vs.length) → w.cell? ⟨b, o + i * sz + j, none⟩ = some vs[j] := by
  rcases h with rfl | h
  · simp at hk
  · exact h
theorem RowsQ.small {w : World} {A : Option Addr} {sz : Nat} {R R' : World → α → List Value → Prop} {l : List α} (h : RowsQ w A sz R l) (hs : l.length * sz ≤ 17592186043904) (hR : ∀ x ∈ l, ∀ vs, R w x vs → R' w x vs) : RowsP w A sz R' l := by
  refine ⟨hs, ?_⟩
  rcases h with h | ⟨b, o, rfl, hb, hc⟩
  · exact .inl h
  · refine .inr ⟨b, o, rfl, hb, fun i hi => ?_⟩
    obtain ⟨vs, h1, h2, h3⟩ := hc i hi
    exact ⟨vs, h1, hR _ (List.getElem_mem hi) _ h2, h3⟩
end rows
def IntsQ (w : World) (A : Option Addr) (l : List Int) : Prop := RowsQ w A 1 IntR l
theorem IntsQ.aft {w w' : World} {A : Option Addr} {l : List Int} (h : IntsQ w A l) (ha : Aft w w') : IntsQ w' A l := RowsQ.aft IntR.mono h ha
theorem IntsQ.lat {w : World} {A : Option Addr} {l : List Int} (h : IntsQ w A l) (u : Later w) : IntsQ (w.lat u) A l := RowsQ.lat IntR.mono h u
theorem IntsQ.small {w : World} {A : Option Addr} {l : List Int} (h : IntsQ w A l) (hs : l.length ≤ 1000000) : Ints w A l := RowsQ.small h (by omega) fun _ _ _ h => h
def MeanQ : World → Mean → List Value → Prop := fun w m vs => ∃ A c A' c', vs = [.slice A m.kinds.length c, .slice A' m.ends.length c'] ∧ IntsQ w A m.kinds ∧ IntsQ w A' m.ends
theorem MeanQ.mono : MonoR MeanQ := fun _ u _ _ ⟨A, c, A', c', h1, h2, h3⟩ => ⟨A, c, A', c', h1, h2.lat u, h3.lat u⟩
def WordQ : World → List Mean → List Value → Prop := fun w l vs => ∃ A c, vs = [.slice A l.length c] ∧ RowsQ w A 2 MeanQ l
theorem WordQ.mono : MonoR WordQ := fun _ u _ _ ⟨A, c, h1, h2⟩ => ⟨A, c, h1, h2.lat MeanQ.mono u⟩
structure TRepQ (w : World) (T : Treaty) (a1 a2 a3 a4 : Option Addr) : Prop where
  ways : RowsQ w a1 3 WayR T.ways
  words : RowsQ w a2 1 WordQ T.words
  starts : IntsQ w a3 T.starts
  legs : RowsQ w a4 2 LegR T.legs
theorem TRepQ.aft {w w' : World} {T : Treaty} {a1 a2 a3 a4 : Option Addr} (h : TRepQ w T a1 a2 a3 a4) (ha : Aft w w') : TRepQ w' T a1 a2 a3 a4 :=
  ⟨h.ways.aft WayR.mono ha, h.words.aft WordQ.mono ha, h.starts.aft ha, h.legs.aft LegR.mono ha⟩
def ListQ : World → List Int → List Value → Prop := fun w l vs => ∃ A c, vs = [.slice A l.length c] ∧ IntsQ w A l
theorem ListQ.mono : MonoR ListQ := fun _ u _ _ ⟨A, c, h1, h2⟩ => ⟨A, c, h1, h2.lat u⟩
def ListsQ (w : World) (A : Option Addr) (l : List (List Int)) : Prop := RowsQ w A 1 ListQ l
theorem ListsQ.aft {w w' : World} {A : Option Addr} {l : List (List Int)} (h : ListsQ w A l) (ha : Aft w w') : ListsQ w' A l := RowsQ.aft ListQ.mono h ha
theorem ListsQ.at {w : World} {A : Option Addr} {l : List (List Int)} (h : ListsQ w A l) {k : Nat} (hk : k < l.length) :
    ∃ b o, A = some ⟨b, o, none⟩ ∧ b < w.heap.size ∧ ∀ i, (h : i < l.length) → ∃ Ai ci, w.cell? ⟨b, o + i, none⟩ = some (.slice Ai l[i].length ci) ∧ IntsQ w Ai l[i] := by
  obtain ⟨b, o, rfl, hb, hc⟩ := RowsQ.at h hk
  refine ⟨b, o, rfl, hb, fun i hi => ?_⟩
  obtain ⟨vs, h1, ⟨Ai, ci, rfl, h2⟩, h3⟩ := hc i hi
  exact ⟨Ai, ci, by simpa using h3 0 (by simp), h2⟩
end Go.Proofs
end

section
/- Walks: short: what stands behind its guard. -/
namespace Go.Proofs
open Go.RowKit

def ShortOk (T : Treaty) (ls : List (List Int)) : Prop := T.ways.length ≤ 45 ∧ T.words.length ≤ 8 ∧ T.starts.length ≤ 15 ∧ T.legs.length ≤ 13 ∧ (∀ l ∈ T.words, l.length ≤ 6 ∧ ∀ m ∈ l, m.kinds.length ≤ 12 ∧ m.ends.length ≤ 15) ∧ ∀ l ∈ ls, l.length ≤ 20
def ShortR (w : World) (T : Treaty) (ls : List (List Int)) (e : Ending) (w' : World) : Prop := ∃ b, e = .returned (.bool b) ∧ (b = true → ShortOk T ls) ∧ Aft w w'

set_option maxRecDepth 100000 in
set_option maxHeartbeats 4000000 in
theorem short_any (w : World) (T : Treaty) (a1 a2 a3 a4 : Option Addr) (c1 c2 c3 c4 : Nat) (q n : Nat) (ls : List (List Int)) (AL : Option Addr) (cL : Nat) (hT : TRepQ w T a1 a2 a3 a4) (hL : ListsQ w AL ls) (hls : ls.length ≤ 1000) (hq : q ≤ 10) :
    Calls Try.prog 8 #[.agg #[.int .i64 T.places, .slice a1 T.ways.length c1, .slice a2 T.words.length c2, .slice a3 T.starts.length c3, .slice a4 T.legs.length c4], .int .i64 q, .int .i64 n, .slice AL ls.length cL] w (ShortR w T ls) := by
  have ha := Aft.alloc w (.cells #[.int .i64 T.places, .slice a1 T.ways.length c1, .slice a2 T.words.length c2, .slice a3 T.starts.length c3, .slice a4 T.legs.length c4] 27)
  have hb := Blk.new w 27 #[.int .i64 T.places, .slice a1 T.ways.length c1, .slice a2 T.words.length c2, .slice a3 T.starts.length c3, .slice a4 T.legs.length c4]
  have HT := Lib.hid (hT.aft ha)
  have HL := Lib.hid (hL.aft ha)
  have HLN := Lib.hid hls
  clear hls
  obtain ⟨k0, k1, k2, k3, k4⟩ := tc_cells' hb
  have HAF := Lib.hid ha
  have HB := Lib.hid hb
  have hlt := hb.lt
  clear ha hb hT hL
  go_enter Try.func8, Try.ntmps8
  go_upto_region 1 with fail
  generalize w.alloc (.cells #[.int .i64 T.places, .slice a1 T.ways.length c1, .slice a2 T.words.length c2, .slice a3 T.starts.length c3, .slice a4 T.legs.length c4] 27) = X at *
  go_cut [50] from 16 to 50 (fun s50 wx => ∃ bb, s50 = .bool bb ∧ wx = X ∧ (bb = false → T.ways.length ≤ 45 ∧ T.words.length ≤ 8 ∧ T.starts.length ≤ 15 ∧ T.legs.length ≤ 13))
  case first =>
    (repeat (first | go_big_skip | go_big_want | go_big_move | go_big_op | go_step | go_upon | go_back))
    all_goals (try (repeat (first | go_big_skip | go_big_want | go_big_move | go_big_op | go_step | go_upon | go_back)))
    all_goals (try (repeat (first | go_big_skip | go_big_want | go_big_move | go_big_op | go_step | go_upon | go_back)))
    all_goals (try (repeat (first | go_big_skip | go_big_want | go_big_move | go_big_op | go_step | go_upon | go_back)))
    all_goals go_meet
    all_goals
      refine ⟨_, rfl, rfl, fun h => ?_⟩
      first | (cases h; done) | (simp only [Bool.or_eq_false_iff, decide_eq_false_iff_not] at h; omega) | (simp at h; omega)
  obtain ⟨bb, rfl, rfl, hbb⟩ := hcut
  cases bb with
  | true =>
    (repeat (first | go_big_skip | go_big_want | go_big_move | go_big_op | go_step | go_upon | go_back))
    go_ret
    exact ⟨false, rfl, fun h => (by cases h), HAF.out⟩
  | false =>
    have HS := Lib.hid (hbb rfl)
    clear hbb
    generalize wc = X at *
    have hw8 := HS.out.2.1
    clear k0 k1 k3 k4
    (repeat (first | go_big_skip | go_big_want | go_big_move | go_big_op | go_step | go_upon | go_back))
    go_loopw [9, 54] (fun v i wr => ∃ k mv : Nat, i = .int .i64 k ∧ k ≤ T.words.length ∧ v = .int .i64 mv ∧ mv ≤ 6 ^ k ∧ Aft X wr ∧ ∀ l ∈ T.words.take k, l.length ≤ 6 ∧ ∀ m ∈ l, m.kinds.length ≤ 12 ∧ m.ends.length ≤ 15) (fun _ i _ => T.words.length - (intOf i).toNat)
    case atStart => exact ⟨0, 1, rfl, by omega, rfl, by decide, Aft.refl _, by simp⟩
    case round =>
      obtain ⟨k, mv, rfl, hk, rfl, hmv, haw, hall⟩ := hrel
      have HAW := Lib.hid haw
      have HALL := Lib.hid hall
      have HMV := Lib.hid hmv
      clear haw hall hmv k2 hlt
      by_cases hkn : k < T.words.length
      · have hdec : decide ((k : Int) < (T.words.length : Int)) = true := by simp; omega
        obtain ⟨bw, ow, ew, hbw, hcw⟩ := (HT.out.aft HAW.out).words.at hkn
        obtain ⟨vs, hv1, ⟨Am, cm, rfl, hms⟩, hv3⟩ := hcw k hkn
        have cM : wr.cell? ⟨bw, ow + k, none⟩ = some (.slice Am T.words[k].length cm) := by have := hv3 0 (by simp); simpa using this
        have HTK := Lib.hid (List.take_succ_eq_append_getElem hkn)
        have HMS := Lib.hid hms
        have i1 : (0 : Int) ≤ (k : Int) ∧ (k : Int) < (T.words.length : Int) := by omega
        have i1n : k < T.words.length := hkn
        clear hv1 hv3 hcw hms
        generalize T.words[k] = l at *
        subst ew
        by_cases hl6 : 6 < l.length
        · have hd6 : decide ((6 : Int) < (l.length : Int)) = true := decide_eq_true (by omega)
          clear hl6
          (repeat (first | go_big_skip | go_big_want | go_big_move | go_big_op | go_step | go_upon | go_back))
          go_ret
          exact ⟨false, rfl, fun h => (by cases h), HAF.out.trans HAW.out⟩
        · have hd6 : decide ((6 : Int) < (l.length : Int)) = false := decide_eq_false (by omega)
          have hmv2 : mv ≤ 1679616 := Nat.le_trans HMV.out (Nat.le_trans (Nat.pow_le_pow_right (by decide) (show k ≤ 8 by omega)) (Nat.le_of_eq rfl))
          have HL6 := Lib.hid hl6
          obtain ⟨mx, hmx, hmx1, hmx6⟩ : ∃ mx : Nat, max (1 : Int) (l.length : Int) = mx ∧ 1 ≤ mx ∧ mx ≤ 6 := ⟨max 1 l.length, by omega, by omega, by omega⟩
          have hprod : mv * mx ≤ 6 ^ (k + 1) := by rw [Nat.pow_succ]; exact Nat.mul_le_mul HMV.out hmx6
          have hprod2 : mv * mx ≤ 1679616 * 6 := Nat.mul_le_mul hmv2 hmx6
          obtain ⟨pr, hpr⟩ : ∃ pr, mv * mx = pr := ⟨_, rfl⟩
          have hprI : (mv : Int) * (mx : Int) = (pr : Int) := by rw [← hpr]; simp
          rw [hpr] at hprod hprod2
          have HPR := Lib.hid hprod
          clear hl6 hprod hpr hmv2
          (repeat (first | go_big_skip | go_big_want | go_big_move | go_big_op | go_step | go_upon | go_back))
          clear hmx hmx1 hmx6 hprI
          have hl7 : l.length ≤ 6 := by have := HL6.out; omega
          generalize wr = y at *
          go_loopw [68] (fun i wq => ∃ k3 : Nat, i = .int .i64 k3 ∧ k3 ≤ l.length ∧ Aft y wq ∧ ∀ m ∈ l.take k3, m.kinds.length ≤ 12 ∧ m.ends.length ≤ 15) (fun i _ => l.length - (intOf i).toNat)
          case atStart => exact ⟨0, rfl, by omega, Aft.refl _, by simp⟩
          case round =>
            obtain ⟨k3, rfl, hk3, haY, hms3⟩ := hrel
            have HAY := Lib.hid haY
            have HM3 := Lib.hid hms3
            clear haY hms3
            by_cases hkn3 : k3 < l.length
            · have hdec3 : decide ((k3 : Int) < (l.length : Int)) = true := by simp; omega
              obtain ⟨bm, om, em, hbm, hcm⟩ := (HMS.out.aft MeanQ.mono HAY.out).at hkn3
              obtain ⟨vs, hv4, ⟨Ak, ck, Ae, ce, rfl, hik, hie⟩, hv6⟩ := hcm k3 hkn3
              have cK : wr.cell? ⟨bm, om + k3 * 2, none⟩ = some (.slice Ak l[k3].kinds.length ck) := hv6 0 (by simp)
              have cE : wr.cell? ⟨bm, om + k3 * 2 + 1, none⟩ = some (.slice Ae l[k3].ends.length ce) := hv6 1 (by simp)
              have HTK3 : Hid (l.take (k3 + 1) = l.take k3 ++ [l[k3]]) := Lib.hid (List.take_succ_eq_append_getElem hkn3)
              have j1 : (0 : Int) ≤ (k3 : Int) ∧ (k3 : Int) < (l.length : Int) := by omega
              clear hv4 hv6 hcm hik hie
              generalize l[k3] = mm at *
              subst em
              by_cases h12 : 12 < mm.kinds.length
              · have d1 : decide ((12 : Int) < (mm.kinds.length : Int)) = true := decide_eq_true (by omega)
                clear h12
                (repeat (first | go_big_skip | go_big_want | go_big_move | go_big_op | go_step | go_upon | go_back))
                go_ret
                exact ⟨false, rfl, fun h => (by cases h), ((HAF.out.trans HAW.out).trans HAY.out).then_alloc _⟩
              · have d1 : decide ((12 : Int) < (mm.kinds.length : Int)) = false := decide_eq_false (by omega)
                by_cases h15 : 15 < mm.ends.length
                · have d2 : decide ((15 : Int) < (mm.ends.length : Int)) = true := decide_eq_true (by omega)
                  clear h12 h15
                  (repeat (first | go_big_skip | go_big_want | go_big_move | go_big_op | go_step | go_upon | go_back))
                  go_ret
                  exact ⟨false, rfl, fun h => (by cases h), ((HAF.out.trans HAW.out).trans HAY.out).then_alloc _⟩
                · have d2 : decide ((15 : Int) < (mm.ends.length : Int)) = false := decide_eq_false (by omega)
                  have HMM : Hid (mm.kinds.length ≤ 12 ∧ mm.ends.length ≤ 15) := Lib.hid ⟨by omega, by omega⟩
                  clear h12 h15
                  (repeat (first | go_big_skip | go_big_want | go_big_move | go_big_op | go_step | go_upon | go_back))
                  exact ⟨⟨k3 + 1, by go_num, by omega, HAY.out.then_alloc _, fun m hm => by
                    rw [HTK3.out] at hm
                    rcases List.mem_append.1 hm with h | h
                    · exact HM3.out m h
                    · rw [List.mem_singleton] at h; subst h; exact HMM.out⟩, by simp [intOf]; omega⟩
            · obtain rfl : k3 = l.length := by omega
              have hdec3 : decide ((l.length : Int) < (l.length : Int)) = false := by simp
              have HM4 : Hid (∀ m ∈ l, m.kinds.length ≤ 12 ∧ m.ends.length ≤ 15) := Lib.hid (by have := HM3.out; rwa [List.take_length] at this)
              clear HM3
              (repeat (first | go_big_skip | go_big_want | go_big_move | go_big_op | go_step | go_upon | go_back))
              exact ⟨⟨k + 1, pr, by go_num, by omega, rfl, HPR.out, HAW.out.trans HAY.out, fun l' hl' => by
                rw [HTK.out] at hl'
                rcases List.mem_append.1 hl' with h | h
                · exact HALL.out l' h
                · rw [List.mem_singleton] at h; subst h; exact ⟨by have := HL6.out; omega, HM4.out⟩⟩, by simp [intOf]; omega⟩
      · obtain rfl : k = T.words.length := by omega
        have hdec : decide ((T.words.length : Int) < (T.words.length : Int)) = false := by simp
        have HW : Hid (∀ l ∈ T.words, l.length ≤ 6 ∧ ∀ m ∈ l, m.kinds.length ≤ 12 ∧ m.ends.length ≤ 15) := Lib.hid (by have := HALL.out; rwa [List.take_length] at this)
        clear HALL
        have hmvb : mv ≤ 1679616 := Nat.le_trans HMV.out (Nat.le_trans (Nat.pow_le_pow_right (by decide) hw8) (Nat.le_of_eq rfl))
        clear HMV
        (repeat (first | go_big_skip | go_big_want | go_big_move | go_big_op | go_step | go_upon | go_back))
        generalize wr = y at *
        go_loopw [86] (fun i wq => ∃ k : Nat, i = .int .i64 k ∧ k ≤ ls.length ∧ Aft y wq ∧ ∀ l ∈ ls.take k, l.length ≤ 20) (fun i _ => ls.length - (intOf i).toNat)
        case atStart => exact ⟨0, rfl, by omega, Aft.refl _, by simp⟩
        case round =>
          obtain ⟨k5, rfl, hk5, haY, h20⟩ := hrel
          have HAY := Lib.hid haY
          have H20 := Lib.hid h20
          clear haY h20
          by_cases hkn5 : k5 < ls.length
          · have hdec5 : decide ((k5 : Int) < (ls.length : Int)) = true := by simp; omega
            obtain ⟨g5, o5, e5', hg5, hc5⟩ := (HL.out.aft (HAW.out.trans HAY.out)).at hkn5
            obtain ⟨Am, cm, hcell, hms⟩ := hc5 k5 hkn5
            have HTK5 : Hid (ls.take (k5 + 1) = ls.take k5 ++ [ls[k5]]) := Lib.hid (List.take_succ_eq_append_getElem hkn5)
            have j1 : (0 : Int) ≤ (k5 : Int) ∧ (k5 : Int) < (ls.length : Int) := by omega
            have hll5 : ls.length ≤ 17592186043904 := by have := HLN.out; omega
            clear hc5 hms
            generalize ls[k5] = l5 at *
            subst e5'
            by_cases h5 : 20 < l5.length
            · have d1 : decide ((20 : Int) < (l5.length : Int)) = true := decide_eq_true (by omega)
              clear h5
              (repeat (first | go_big_skip | go_big_want | go_big_move | go_big_op | go_step | go_upon | go_back))
              go_ret
              exact ⟨false, rfl, fun h => (by cases h), (HAF.out.trans HAW.out).trans HAY.out⟩
            · have d1 : decide ((20 : Int) < (l5.length : Int)) = false := decide_eq_false (by omega)
              have HM5 : Hid (l5.length ≤ 20) := Lib.hid (by omega)
              clear h5
              (repeat (first | go_big_skip | go_big_want | go_big_move | go_big_op | go_step | go_upon | go_back))
              exact ⟨⟨k5 + 1, by go_num, by omega, HAY.out, fun m hm => by
                rw [HTK5.out] at hm
                rcases List.mem_append.1 hm with h | h
                · exact H20.out m h
                · rw [List.mem_singleton] at h; subst h; exact HM5.out⟩, by simp [intOf]; omega⟩
          · obtain rfl : k5 = ls.length := by omega
            have hdec5 : decide ((ls.length : Int) < (ls.length : Int)) = false := by simp
            have HLS : Hid (∀ l ∈ ls, l.length ≤ 20) := Lib.hid (by have := H20.out; rwa [List.take_length] at this)
            clear H20
            have hfin := HS.out
            cases hd9 : decide (mv ≤ n) with
            | true =>
              (repeat (first | go_big_skip | go_big_want | go_big_move | go_big_op | go_step | go_upon | go_back))
              go_ret
              exact ⟨_, rfl, fun _ => ⟨hfin.1, hfin.2.1, hfin.2.2.1, hfin.2.2.2, HW.out, HLS.out⟩, (HAF.out.trans HAW.out).trans HAY.out⟩
            | false =>
              (repeat (first | go_big_skip | go_big_want | go_big_move | go_big_op | go_step | go_upon | go_back))
              go_ret
              exact ⟨_, rfl, fun _ => ⟨hfin.1, hfin.2.1, hfin.2.2.1, hfin.2.2.2, HW.out, HLS.out⟩, (HAF.out.trans HAW.out).trans HAY.out⟩

/-- What short lets through is small. -/
theorem TRepQ.small {w : World} {T : Treaty} {a1 a2 a3 a4 : Option Addr} {ls : List (List Int)} (h : TRepQ w T a1 a2 a3 a4) (ok : ShortOk T ls) : TRep w T a1 a2 a3 a4 := by
  obtain ⟨o1, o2, o3, o4, o5, -⟩ := ok
  refine ⟨h.ways.small (by omega) fun _ _ _ h => h, h.words.small (by omega) fun l hl vs hv => ?_, h.starts.small (by omega), h.legs.small (by omega) fun _ _ _ h => h⟩
  obtain ⟨A, c, e, hr⟩ := hv
  have h6 := o5 l hl
  refine ⟨A, c, e, hr.small (by omega) fun m hm vs hv => ?_⟩
  obtain ⟨B, d, B', d', e, h1, h2⟩ := hv
  have := h6.2 m hm
  exact ⟨B, d, B', d', e, h1.small (by omega), h2.small (by omega)⟩
end Go.Proofs
end
