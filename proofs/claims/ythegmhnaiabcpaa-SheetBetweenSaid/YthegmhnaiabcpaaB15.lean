/- Own texts, merged: Tc Td0. -/
import Derived.Test.YthegmhnaiabcpaaB14
set_option linter.unusedSimpArgs false
set_option linter.unusedVariables false
set_option linter.unnecessarySimpa false
section
/- Walks: Tied. -/
namespace Go.Proofs
open Go.RowKit
attribute [local go_sem] Oper.semAt_some


set_option maxRecDepth 100000 in
set_option maxHeartbeats 4000000 in
theorem tied_good (S : SetL) (A : Option Addr) (c : Nat) (w : World) (hA : Quads w A S.J) (he : setE S = 0) :
    Calls Try.prog 35 #[.agg #[.int .i64 S.n, .slice A S.J.length c]] w (TiedR S w) := by
  obtain ⟨s, hs⟩ : ∃ s, w.heap.size = s := ⟨_, rfl⟩
  have F0 := (Fr.start w).alloc rfl 25 #[.int .i64 S.n, .slice A S.J.length c]
  simp only [List.nil_append] at F0
  rw [hs] at F0
  have HF0 := Lib.hid F0
  have HO := Lib.hid (opened_good S A c _ (hA.aft F0.aft) he)
  have hS := setE_ok he
  have hn1 := hS.n1
  have hn2 := hS.n2
  have HS := Lib.hid hS
  obtain ⟨n, hn⟩ : ∃ n, S.n.toNat = n := ⟨_, rfl⟩
  have hnn : S.n = (n : Int) := by omega
  have hn12 : n ≤ 12 := by omega
  have hn0 : 0 < n := by omega
  have HNN := Lib.hid hnn
  have HN := Lib.hid hn
  clear hA he F0 hS hn hnn
  go_enter Try.func35, Try.ntmps35
  go_upto_region 2 with (go_at_call 43; refine HO.out.mono ?_; rintro e w2 ⟨d, rfl, hw2⟩)
  have HF2 := Lib.hid (HF0.out.later hw2.aft)
  have HW2 := Lib.hid hw2
  clear hw2
  try rw [hs]
  generalize w.alloc (.cells #[.int .i64 S.n, .slice A S.J.length c] 25) = W1 at *
  clear HO HF0
  have y1 : w2.cell? ⟨s, 0, none⟩ = some (.int .i64 (n : Int)) := by rw [← HNN.out]; exact (HF2.out.nth 0 rfl).cell 0
  have y2 := (HF2.out.nth 0 rfl).lt
  go_upto_block 0 with fail
  clear y1 y2
  refine wp_block ?_
  go_loopw [6, 22] (fun v i wr => ∃ k : Nat, i = .int .i64 (k : Nat) ∧ k ≤ n ∧ wr.ownsRow w2.heap.size 3 1 v k ((List.range k).map fun i => Value.int .i64 ((i : Nat) : Int)) ∧ Aft w2 wr) (fun _ i _ => n - (intOf i).toNat)
  case atStart => exact ⟨0, rfl, by omega, World.ownsRow_nil _ _ 3 1, Aft.refl _⟩
  case round =>
    obtain ⟨k, rfl, hk, ho, ha⟩ := hrel
    have HO := Lib.hid ho
    have HA := Lib.hid ha
    clear ho ha
    by_cases hkn : k < n
    · have t1 : decide (k < n) = true := by simpa using hkn
      have hax := HA.out.trans (Aft.alloc wr (.cells #[.int .i64 (k : Nat)] 3))
      have hox := own_aft HO.out (Aft.alloc wr (.cells #[.int .i64 (k : Nat)] 3))
      go_wp2_with (at_builtin; refine wpList_app ty24 rfl _ _ rfl hax rfl hox rfl rfl (by intro h; cases h) (by intro ad h; cases h; exact src_new wr #[.int .i64 (k : Nat)] 3) (by intro u hu; simp at hu; subst hu; rfl) (by omega) (by decide) ?_; intro v' w7 ho7 hg7 ha7)
      refine ⟨⟨k + 1, rfl, hkn, ?_, ha7⟩, ?_⟩
      · rw [List.range_succ, List.map_append]
        exact ho7
      · show n - (((k : Int) + 1).toNat) < n - ((k : Int).toNat)
        omega
    · have t1 : decide (k < n) = false := by simpa using hkn
      have ek : n = k := by omega
      subst ek
      obtain ⟨g, cg, hv, hg, hfi⟩ := own_fi HO.out hn0
      subst hv
      have HFI := Lib.hid hfi
      have HWK := Lib.hid (HW2.out.later HA.out)
      have hgw : w.heap.size ≤ g := Nat.le_trans HF2.out.aft.size hg
      have HAW := Lib.hid HF2.out.aft
      clear hfi HO HF2
      go_upto_block 2 with fail
      refine wp_block ?_
      go_loopw [8] (fun ch wr => ∃ (bb : Bool) (f : Nat → Nat), ch = .bool bb ∧ Aft w2 wr ∧ FI wr g n f ∧ (∀ a, a < n → ∃ l s, Sheet.Wk (Sheet.legs (joOf false S.J)) a (f a) l s) ∧ (∀ a, a < n → f a ≤ a) ∧ (bb = false → Sheet.TiedIs (Sheet.legs (joOf false S.J)) n f)) (fun ch wr => 2 * sumC wr g n + chN ch)
      case atStart => exact ⟨true, _, rfl, HA.out, HFI.out, fun a _ => ⟨0, 0, .nil a⟩, fun a _ => Nat.le_refl _, fun h => (by cases h)⟩
      case round =>
        obtain ⟨bb, f0, rfl, hA2, hF2, hw0, hl0, ht0⟩ := hrel
        have HA2 := Lib.hid hA2
        have HF2 := Lib.hid hF2
        have HF0 := Lib.hid (show _ ∧ _ from ⟨hw0, hl0⟩)
        have HT0 := Lib.hid ht0
        clear HFI HWK hA2 hF2 hw0 hl0 ht0
        cases bb
        · have HT := Lib.hid (HT0.out rfl)
          go_wp2_with fail
          exact bodyPost_ret (v := .tuple #[.slice (some ⟨g, 0, none⟩) n cg, .int .i64 0]) (by simp [results, Try.results35, go_sem]) rfl ⟨g, cg, f0, by rw [HN.out], hgw, by rw [HN.out]; exact HF2.out, by rw [HN.out]; exact HT.out, HAW.out.trans HA2.out⟩
        · have HWK := Lib.hid (HW2.out.later HA2.out)
          have k1 := HWK.out.k1
          have k2 := HWK.out.lt
          go_upto_block 4 with fail
          clear k1 k2
          refine wp_block ?_
          go_loopw [8, 37] (fun ch i wr => ∃ (k : Nat) (bb : Bool) (f : Nat → Nat), i = .int .i64 (k : Nat) ∧ k ≤ S.J.length ∧ ch = .bool bb ∧ Aft w2 wr ∧ FI wr g n f ∧ Sheet.TdP (Sheet.legs (joOf false S.J)) n (endsOf S.J) f0 f k bb) (fun _ i _ => S.J.length - (intOf i).toNat)
          case atStart => exact ⟨0, false, f0, rfl, by omega, rfl, HA2.out, HF2.out, .start HF0.out.1 HF0.out.2⟩
          case round =>
            obtain ⟨k, bb, f, rfl, hk, rfl, hA3, hF3, hT3⟩ := hrel
            have HA3 := Lib.hid hA3
            have HF3 := Lib.hid hF3
            have HT3 := Lib.hid hT3
            clear hA3 hF3 hT3
            have hfew := HS.out.few
            by_cases hkl : k < S.J.length
            · have t1 : decide (k < S.J.length) = true := by simpa using hkl
              obtain ⟨b9, o9, hbo, hb9, hc9⟩ := (HW2.out.js.aft HA3.out).at hkl
              obtain ⟨x0, x1, x2, x3⟩ := hc9 k hkl
              have hends := HS.out.ends _ (List.getElem_mem hkl)
              have HJL := Lib.hid (joint_legs hkl)
              have HEN : Hid ((endsOf S.J)[k]? = some (S.J[k].a.toNat, S.J[k].b.toNat)) := Lib.hid (by unfold endsOf; rw [List.getElem?_map, List.getElem?_eq_getElem hkl]; rfl)
              obtain ⟨⟨ja, jb, jx, jy⟩, hj⟩ : ∃ j, S.J[k] = j := ⟨_, rfl⟩
              rw [hj] at x0 x1 x2 x3 hends HJL HEN
              dsimp only at x0 x1 x2 x3 hends
              clear hc9 hj
              obtain ⟨an, rfl⟩ : ∃ an : Nat, ja = an := ⟨ja.toNat, by omega⟩
              obtain ⟨bn, rfl⟩ : ∃ bn : Nat, jb = bn := ⟨jb.toNat, by omega⟩
              dsimp only [Int.toNat_natCast] at HJL HEN
              have hnq := HNN.out
              have han : an < n := by omega
              have hbn : bn < n := by omega
              have hne : an ≠ bn := fun e => hends.2.2 (by rw [e])
              clear hends hnq
              obtain ⟨zj, hzj⟩ : ∃ zj, wr.heap.size = zj := ⟨_, rfl⟩
              obtain ⟨W5, hW5⟩ : ∃ W5, wr.alloc (.cells #[.int .i64 (an : Nat), .int .i64 (bn : Nat), .int .i64 jx, .int .i64 jy] 35) = W5 := ⟨_, rfl⟩
              have ha5 := hW5 ▸ Aft.alloc wr (.cells #[.int .i64 (an : Nat), .int .i64 (bn : Nat), .int .i64 jx, .int .i64 jy] 35)
              have HB5 : Hid (Blk W5 zj 35 #[.int .i64 (an : Nat), .int .i64 (bn : Nat), .int .i64 jx, .int .i64 jy]) := Lib.hid (by rw [← hW5, ← hzj]; exact Blk.new wr 35 _)
              have hgz : g ≠ zj := by have := HF3.out.lt; omega
              have HA5 := Lib.hid (HA3.out.trans ha5)
              have HF5 := Lib.hid (HF3.out.aft ha5)
              have HT5 := HT3
              go_upto_region 16 with fail
              try rw [hW5]
              try rw [hzj]
              clear hW5 hzj x0 x1 x2 x3 ha5 HF3 HA3 HT3 hb9
              have c1 := HF5.out.cell han
              have c2 := HF5.out.cell hbn
              have c3 := HF5.out.lt
              have c4 : W5.cell? ⟨zj, 0, none⟩ = some (.int .i64 (an : Nat)) := HB5.out.cell 0
              have c5 : W5.cell? ⟨zj, 1, none⟩ = some (.int .i64 (bn : Nat)) := HB5.out.cell 1
              have c6 := HB5.out.lt
              have ia : (0 : Int) ≤ (an : Int) ∧ (an : Int) < (n : Int) := by omega
              have ib : (0 : Int) ≤ (bn : Int) ∧ (bn : Int) < (n : Int) := by omega
              go_quiet (fail)
              have hlo : (if f bn < f an then ((f bn : Nat) : Int) else ((f an : Nat) : Int)) = ((min (f an) (f bn) : Nat) : Int) := by split <;> omega
              rw [hlo]
              clear hlo
              obtain ⟨W6, hW6⟩ : ∃ W6, W5.drewN nq = W6 := ⟨_, rfl⟩
              have ha6 : Aft W5 W6 := hW6 ▸ Aft.drewN W5 nq
              have HA6 := Lib.hid (HA5.out.trans ha6)
              have HF6 := Lib.hid (HF5.out.aft ha6)
              have HB6 := Lib.hid (HB5.out.aft ha6)
              rw [hW6]
              clear hW6 ha6 HA5 HF5 HB5 c1 c2 c3 c4 c5 c6
              by_cases hfe : f an = f bn
              · have HT6 := Lib.hid (HT5.out.keep HEN.out hfe)
                obtain ⟨fa, hfa⟩ : ∃ fa, f an = fa := ⟨_, rfl⟩
                have hmn : min (f an) (f bn) = fa := by omega
                have c1 : W6.cell? ⟨g, an, none⟩ = some (.int .i64 (fa : Nat)) := by rw [← hfa]; exact HF6.out.cell han
                have c2 : W6.cell? ⟨g, bn, none⟩ = some (.int .i64 (fa : Nat)) := by rw [← hfa, hfe]; exact HF6.out.cell hbn
                have c3 := HF6.out.lt
                have c4 : W6.cell? ⟨zj, 0, none⟩ = some (.int .i64 (an : Nat)) := HB6.out.cell 0
                have c5 : W6.cell? ⟨zj, 1, none⟩ = some (.int .i64 (bn : Nat)) := HB6.out.cell 1
                have c6 := HB6.out.lt
                have t9 : ((fa : Int) != (fa : Int)) = false := by simp
                rw [hmn]
                clear hmn hfe hfa
                go_wp2_with fail
                exact ⟨⟨k + 1, bb, f, by go_num, hkl, rfl, HA6.out, HF6.out, HT6.out⟩, by simp [intOf]; omega⟩
              · have HTJ := Lib.hid (HT5.out.join han hbn HJL.out.1 HJL.out.2 hfe)
                obtain ⟨fa, hfa⟩ : ∃ fa, f an = fa := ⟨_, rfl⟩
                obtain ⟨fb, hfb⟩ : ∃ fb, f bn = fb := ⟨_, rfl⟩
                have c1 : W6.cell? ⟨g, an, none⟩ = some (.int .i64 (fa : Nat)) := by rw [← hfa]; exact HF6.out.cell han
                have c2 : W6.cell? ⟨g, bn, none⟩ = some (.int .i64 (fb : Nat)) := by rw [← hfb]; exact HF6.out.cell hbn
                have c3 := HF6.out.lt
                have c4 : W6.cell? ⟨zj, 0, none⟩ = some (.int .i64 (an : Nat)) := HB6.out.cell 0
                have c5 : W6.cell? ⟨zj, 1, none⟩ = some (.int .i64 (bn : Nat)) := HB6.out.cell 1
                have c6 := HB6.out.lt
                by_cases hlt : fa < fb
                · have hmn : min (f an) (f bn) = fa := by omega
                  rw [hmn] at HTJ
                  clear hfe hfa hfb
                  have ta : ((fa : Int) != (fa : Int)) = false := by simp; try omega
                  have tb : ((fb : Int) != (fa : Int)) = true := by simp; try omega
                  rw [hmn]
                  clear hmn
                  go_upto_region 18 with fail
                  clear c1 c2 c3 c4 c5 c6 ta tb
                  have HI1 : Hid (Aft w2 W6.drew ∧ FI W6.drew g n f ∧ Blk W6.drew zj 35 #[.int .i64 (an : Nat), .int .i64 (bn : Nat), .int .i64 jx, .int .i64 jy]) := Lib.hid ⟨HA6.out.trans (Aft.drew _), HF6.out.aft (Aft.drew _), HB6.out.aft (Aft.drew _)⟩
                  clear HA6 HF6 HB6
                  refine wp_region_valsT (by kernel_rfl) 10 80 rfl (by kernel_rfl) (by kernel_rfl) (by kernel_rfl) [.slice (some ⟨g, 0, none⟩) n cg, .pointer (some ⟨zj, 0, none⟩), .int .i64 (an : Nat), .slice (some ⟨g, 0, none⟩) n cg, .pointer (some ⟨zj, 1, none⟩), .int .i64 (bn : Nat), .int .i64 (fa : Nat), .int .i64 (fa : Nat), .pointer (some ⟨g, an, none⟩), undef] rfl (fun done W => Aft w2 W ∧ FI W g n (if done 9 = true then (fun i => if i = an then fa else f i) else f) ∧ Blk W zj 35 #[.int .i64 (an : Nat), .int .i64 (bn : Nat), .int .i64 jx, .int .i64 jy]) (HI1.out) ?st1 ?fi1
                  case st1 =>
                    intro i o v ho hv
                    match i, ho, hv with
                    | 0, ho, hv =>
                      cases ho; cases hv
                      refine .inl ⟨rfl, fun done a W hd hp hk hw K hK => ?_⟩
                      have e6 := hk.same 6 (by decide)
                      exact op_val (by simp [go_sem, ev' e6]) (hK _ (by rw [upd_ne' (by decide)]; exact hw))
                    | 1, ho, hv =>
                      cases ho; cases hv
                      refine .inl ⟨rfl, fun done a W hd hp hk hw K hK => ?_⟩
                      have e10 := hk.same 10 (by decide)
                      exact op_val (by simp [go_sem, ev' e10]) (hK _ (by rw [upd_ne' (by decide)]; exact hw))
                    | 2, ho, hv =>
                      cases ho; cases hv
                      refine .inl ⟨rfl, fun done a W hd hp hk hw K hK => ?_⟩
                      have e69 := hk.at_ 1 _ 69 _ rfl (by decide) _ rfl rfl rfl
                      exact op_val (by simp [go_sem, ev' e69, hw.2.2.cell 0]) (hK _ (by rw [upd_ne' (by decide)]; exact hw))
                    | 3, ho, hv =>
                      cases ho; cases hv
                      refine .inl ⟨rfl, fun done a W hd hp hk hw K hK => ?_⟩
                      have e6 := hk.same 6 (by decide)
                      exact op_val (by simp [go_sem, ev' e6]) (hK _ (by rw [upd_ne' (by decide)]; exact hw))
                    | 4, ho, hv =>
                      cases ho; cases hv
                      refine .inl ⟨rfl, fun done a W hd hp hk hw K hK => ?_⟩
                      have e10 := hk.same 10 (by decide)
                      exact op_val (by simp [go_sem, ev' e10]) (hK _ (by rw [upd_ne' (by decide)]; exact hw))
                    | 5, ho, hv =>
                      cases ho; cases hv
                      refine .inl ⟨rfl, fun done a W hd hp hk hw K hK => ?_⟩
                      have e72 := hk.at_ 4 _ 72 _ rfl (by decide) _ rfl rfl rfl
                      exact op_val (by simp [go_sem, ev' e72, hw.2.2.cell 1]) (hK _ (by rw [upd_ne' (by decide)]; exact hw))
                    | 6, ho, hv =>
                      cases ho; cases hv
                      refine .inl ⟨rfl, fun done a W hd hp hk hw K hK => ?_⟩
                      have e11 := hk.same 11 (by decide)
                      exact op_val (by simp [go_sem, ev' e11]) (hK _ (by rw [upd_ne' (by decide)]; exact hw))
                    | 7, ho, hv =>
                      cases ho; cases hv
                      refine .inl ⟨rfl, fun done a W hd hp hk hw K hK => ?_⟩
                      have e11 := hk.same 11 (by decide)
                      exact op_val (by simp [go_sem, ev' e11]) (hK _ (by rw [upd_ne' (by decide)]; exact hw))
                    | 8, ho, hv =>
                      cases ho; cases hv
                      refine .inl ⟨rfl, fun done a W hd hp hk hw K hK => ?_⟩
                      have e68 := hk.at_ 0 _ 68 _ rfl (by decide) _ rfl rfl rfl
                      have e70 := hk.at_ 2 _ 70 _ rfl (by decide) _ rfl rfl rfl
                      exact op_val (by simp [go_sem, ev' e68, ev' e70, ia]) (hK _ (by rw [upd_ne' (by decide)]; exact hw))
                    | 9, ho, hv =>
                      cases ho; cases hv
                      refine .inl ⟨rfl, fun done a W hd hp hk hw K hK => ?_⟩
                      have e74 := hk.at_ 6 _ 74 _ rfl (by decide) _ rfl rfl rfl
                      have e76 := hk.at_ 8 _ 76 _ rfl (by decide) _ rfl rfl rfl
                      have h12 : done 9 = false := hd
                      rw [h12, if_neg (by decide)] at hw
                      have c0 := hw.2.1.cell han
                      have c1 := hw.2.1.frozen an
                      have c2 := hw.2.1.lt
                      refine op_skipW (w' := W.setCell ⟨g, an, none⟩ (.int .i64 (fa : Nat))) (by simp [go_sem, ev' e76, ev' e74, c0, c1, c2]) (hK _ ⟨hw.1.then_setCell (p := ⟨g, an, none⟩) hg _, ?_, hw.2.2.far (p := ⟨g, an, none⟩) hgz.symm _⟩)
                      rw [show Go.upd done 9 9 = true from rfl, if_pos rfl]
                      exact hw.2.1.set fa
                    | _ + 10, _, hv => cases hv
                  intro done W hd hw
                  simp only [List.drop_succ_cons, List.drop_zero, List.zip_cons_cons, List.zip_nil_right, putAll]
                  simp only [Act.put, List.setIfInBounds_toArray, List.set]
                  rw [hd 9 (by decide), if_pos rfl] at hw
                  have HFI := Lib.hid hw.2.1
                  have HAI := Lib.hid hw.1
                  have c0 : W.cell? ⟨g, bn, none⟩ = some (.int .i64 (f bn : Nat)) := by have := hw.2.1.cell hbn; rw [if_neg hne.symm] at this; exact this
                  have c1 := hw.2.1.frozen bn
                  have c2 := hw.2.1.lt
                  clear hw hd HI1
                  go_wp2_with fail
                  exact ⟨⟨k + 1, true, _, by go_num, hkl, rfl, HAI.out.then_setCell (p := ⟨g, bn, none⟩) hg _, HFI.out.set fa, HTJ.out⟩, by simp [intOf]; omega⟩
                · have hmn : min (f an) (f bn) = fb := by omega
                  have hlt2 : fb < fa := by omega
                  rw [hmn] at HTJ
                  clear hfe hfa hfb hlt
                  have ta : ((fa : Int) != (fb : Int)) = true := by simp; try omega
                  have tb : ((fb : Int) != (fb : Int)) = false := by simp; try omega
                  rw [hmn]
                  clear hmn
                  go_upto_region 18 with fail
                  clear c1 c2 c3 c4 c5 c6 ta tb
                  have HI1 : Hid (Aft w2 W6.drew ∧ FI W6.drew g n f ∧ Blk W6.drew zj 35 #[.int .i64 (an : Nat), .int .i64 (bn : Nat), .int .i64 jx, .int .i64 jy]) := Lib.hid ⟨HA6.out.trans (Aft.drew _), HF6.out.aft (Aft.drew _), HB6.out.aft (Aft.drew _)⟩
                  clear HA6 HF6 HB6
                  refine wp_region_valsT (by kernel_rfl) 10 80 rfl (by kernel_rfl) (by kernel_rfl) (by kernel_rfl) [.slice (some ⟨g, 0, none⟩) n cg, .pointer (some ⟨zj, 0, none⟩), .int .i64 (an : Nat), .slice (some ⟨g, 0, none⟩) n cg, .pointer (some ⟨zj, 1, none⟩), .int .i64 (bn : Nat), .int .i64 (fb : Nat), .int .i64 (fb : Nat), .pointer (some ⟨g, an, none⟩), undef] rfl (fun done W => Aft w2 W ∧ FI W g n (if done 9 = true then (fun i => if i = an then fb else f i) else f) ∧ Blk W zj 35 #[.int .i64 (an : Nat), .int .i64 (bn : Nat), .int .i64 jx, .int .i64 jy]) (HI1.out) ?st2 ?fi2
                  case st2 =>
                    intro i o v ho hv
                    match i, ho, hv with
                    | 0, ho, hv =>
                      cases ho; cases hv
                      refine .inl ⟨rfl, fun done a W hd hp hk hw K hK => ?_⟩
                      have e6 := hk.same 6 (by decide)
                      exact op_val (by simp [go_sem, ev' e6]) (hK _ (by rw [upd_ne' (by decide)]; exact hw))
                    | 1, ho, hv =>
                      cases ho; cases hv
                      refine .inl ⟨rfl, fun done a W hd hp hk hw K hK => ?_⟩
                      have e10 := hk.same 10 (by decide)
                      exact op_val (by simp [go_sem, ev' e10]) (hK _ (by rw [upd_ne' (by decide)]; exact hw))
                    | 2, ho, hv =>
                      cases ho; cases hv
                      refine .inl ⟨rfl, fun done a W hd hp hk hw K hK => ?_⟩
                      have e69 := hk.at_ 1 _ 69 _ rfl (by decide) _ rfl rfl rfl
                      exact op_val (by simp [go_sem, ev' e69, hw.2.2.cell 0]) (hK _ (by rw [upd_ne' (by decide)]; exact hw))
                    | 3, ho, hv =>
                      cases ho; cases hv
                      refine .inl ⟨rfl, fun done a W hd hp hk hw K hK => ?_⟩
                      have e6 := hk.same 6 (by decide)
                      exact op_val (by simp [go_sem, ev' e6]) (hK _ (by rw [upd_ne' (by decide)]; exact hw))
                    | 4, ho, hv =>
                      cases ho; cases hv
                      refine .inl ⟨rfl, fun done a W hd hp hk hw K hK => ?_⟩
                      have e10 := hk.same 10 (by decide)
                      exact op_val (by simp [go_sem, ev' e10]) (hK _ (by rw [upd_ne' (by decide)]; exact hw))
                    | 5, ho, hv =>
                      cases ho; cases hv
                      refine .inl ⟨rfl, fun done a W hd hp hk hw K hK => ?_⟩
                      have e72 := hk.at_ 4 _ 72 _ rfl (by decide) _ rfl rfl rfl
                      exact op_val (by simp [go_sem, ev' e72, hw.2.2.cell 1]) (hK _ (by rw [upd_ne' (by decide)]; exact hw))
                    | 6, ho, hv =>
                      cases ho; cases hv
                      refine .inl ⟨rfl, fun done a W hd hp hk hw K hK => ?_⟩
                      have e11 := hk.same 11 (by decide)
                      exact op_val (by simp [go_sem, ev' e11]) (hK _ (by rw [upd_ne' (by decide)]; exact hw))
                    | 7, ho, hv =>
                      cases ho; cases hv
                      refine .inl ⟨rfl, fun done a W hd hp hk hw K hK => ?_⟩
                      have e11 := hk.same 11 (by decide)
                      exact op_val (by simp [go_sem, ev' e11]) (hK _ (by rw [upd_ne' (by decide)]; exact hw))
                    | 8, ho, hv =>
                      cases ho; cases hv
                      refine .inl ⟨rfl, fun done a W hd hp hk hw K hK => ?_⟩
                      have e68 := hk.at_ 0 _ 68 _ rfl (by decide) _ rfl rfl rfl
                      have e70 := hk.at_ 2 _ 70 _ rfl (by decide) _ rfl rfl rfl
                      exact op_val (by simp [go_sem, ev' e68, ev' e70, ia]) (hK _ (by rw [upd_ne' (by decide)]; exact hw))
                    | 9, ho, hv =>
                      cases ho; cases hv
                      refine .inl ⟨rfl, fun done a W hd hp hk hw K hK => ?_⟩
                      have e74 := hk.at_ 6 _ 74 _ rfl (by decide) _ rfl rfl rfl
                      have e76 := hk.at_ 8 _ 76 _ rfl (by decide) _ rfl rfl rfl
                      have h12 : done 9 = false := hd
                      rw [h12, if_neg (by decide)] at hw
                      have c0 := hw.2.1.cell han
                      have c1 := hw.2.1.frozen an
                      have c2 := hw.2.1.lt
                      refine op_skipW (w' := W.setCell ⟨g, an, none⟩ (.int .i64 (fb : Nat))) (by simp [go_sem, ev' e76, ev' e74, c0, c1, c2]) (hK _ ⟨hw.1.then_setCell (p := ⟨g, an, none⟩) hg _, ?_, hw.2.2.far (p := ⟨g, an, none⟩) hgz.symm _⟩)
                      rw [show Go.upd done 9 9 = true from rfl, if_pos rfl]
                      exact hw.2.1.set fb
                    | _ + 10, _, hv => cases hv
                  intro done W hd hw
                  simp only [List.drop_succ_cons, List.drop_zero, List.zip_cons_cons, List.zip_nil_right, putAll]
                  simp only [Act.put, List.setIfInBounds_toArray, List.set]
                  rw [hd 9 (by decide), if_pos rfl] at hw
                  have HFI := Lib.hid hw.2.1
                  have HAI := Lib.hid hw.1
                  have c0 : W.cell? ⟨g, bn, none⟩ = some (.int .i64 (f bn : Nat)) := by have := hw.2.1.cell hbn; rw [if_neg hne.symm] at this; exact this
                  have c1 := hw.2.1.frozen bn
                  have c2 := hw.2.1.lt
                  clear hw hd HI1
                  go_wp2_with fail
                  exact ⟨⟨k + 1, true, _, by go_num, hkl, rfl, HAI.out.then_setCell (p := ⟨g, bn, none⟩) hg _, HFI.out.set fb, HTJ.out⟩, by simp [intOf]; omega⟩
            · have t1 : decide (k < S.J.length) = false := by simpa using hkl
              have ek : k = S.J.length := by omega
              subst ek
              cases bb
              · have HTD : Hid (Sheet.TiedIs (Sheet.legs (joOf false S.J)) n f) := Lib.hid (by
                  have := HT3.out
                  rw [← HN.out] at this ⊢
                  exact tied_done HS.out this)
                have hsm := HF2.out.sum n (Nat.le_refl _)
                have hsm2 := HF3.out.sum n (Nat.le_refl _)
                have hse := Sheet.sumF_eq (HT3.out.same rfl).1
                go_wp2_with fail
                refine ⟨⟨false, f, rfl, HA3.out, HF3.out, HT3.out.wk, HT3.out.le, fun _ => HTD.out⟩, ?_⟩
                simp only [chN]
                omega
              · have hsm := HF2.out.sum n (Nat.le_refl _)
                have hsm2 := HF3.out.sum n (Nat.le_refl _)
                have hse := HT3.out.less rfl
                go_wp2_with fail
                refine ⟨⟨true, f, rfl, HA3.out, HF3.out, HT3.out.wk, HT3.out.le, fun h => (by cases h)⟩, ?_⟩
                simp only [chN]
                omega
end Go.Proofs
end

section
/- Shifts: what is plain of it. -/
namespace Go.Proofs
theorem most_up {E : List Sheet.Edge} {p q p' q' : Int} (h : Sheet.AtMost E p q) (hq : 0 < q) (hq' : 0 ≤ q') (hle : p * q' ≤ p' * q) : Sheet.AtMost E p' q' := by
  intro a k s hw hk
  have h1 := h a k s hw hk
  have h2 : q' * (q * s) ≤ q' * (p * k) := Int.mul_le_mul_of_nonneg_left h1 hq'
  have h3 : (p * q') * k ≤ (p' * q) * k := Int.mul_le_mul_of_nonneg_right hle (by omega)
  have e1 : q' * (p * k) = (p * q') * k := by rw [← Int.mul_assoc, Int.mul_comm q' p]
  have e2 : (p' * q) * k = q * (p' * k) := by rw [Int.mul_comm p' q, Int.mul_assoc]
  have e3 : q' * (q * s) = q * (q' * s) := Int.mul_left_comm _ _ _
  have h4 : q * (q' * s) ≤ q * (p' * k) := by rw [← e3, ← e2]; omega
  exact Int.le_of_mul_le_mul_left h4 hq
theorem gr2_cases (a b : Int × Int) : (gr2 a b = b ∧ a.1 * b.2 < b.1 * a.2) ∨ (gr2 a b = a ∧ b.1 * a.2 ≤ a.1 * b.2) := by
  unfold gr2 moreB
  by_cases h : a.1 * b.2 < b.1 * a.2
  · exact .inl ⟨by rw [if_pos (by simpa using h)], h⟩
  · exact .inr ⟨by rw [if_neg (by simpa using h)], by omega⟩
theorem PlayOf.parts {S : SetL} {p : Int × Int} (h : PlayOf S p) : ∃ p0 p1, LP S false p0 ∧ LP S true p1 ∧ p = gr2 (gr2 (0, 1) p0) p1 := by
  rcases h with ⟨h, _⟩ | ⟨h, _⟩ | ⟨_, h⟩
  · cases h
  · cases h
  · exact h
theorem gr2_most {E : List Sheet.Edge} {a b : Int × Int} (h : Sheet.AtMost E a.1 a.2) (ha : 0 < a.2) (hb : 0 < b.2) : Sheet.AtMost E (gr2 a b).1 (gr2 a b).2 := by
  rcases gr2_cases a b with ⟨e, h1⟩ | ⟨e, h1⟩ <;> rw [e]
  · exact most_up h ha (by omega) (by omega)
  · exact h
theorem gr2_most' {E : List Sheet.Edge} {a b : Int × Int} (h : Sheet.AtMost E b.1 b.2) (ha : 0 < a.2) (hb : 0 < b.2) : Sheet.AtMost E (gr2 a b).1 (gr2 a b).2 := by
  rcases gr2_cases a b with ⟨e, h1⟩ | ⟨e, h1⟩ <;> rw [e]
  · exact h
  · exact most_up h hb (by omega) h1
theorem gr2_pos {a b : Int × Int} (ha : 0 < a.2) (hb : 0 < b.2) : 0 < (gr2 a b).2 := by
  rcases gr2_cases a b with ⟨e, _⟩ | ⟨e, _⟩ <;> rw [e] <;> assumption
theorem PlayOf.most {S : SetL} {p : Int × Int} (h : PlayOf S p) (north : Bool) : Sheet.AtMost (Sheet.legs (joOf north S.J)) p.1 p.2 := by
  obtain ⟨p0, p1, h0, h1, rfl⟩ := h.parts
  have q0 := h0.least.q0
  have q1 := h1.least.q0
  have q : (0 : Int) < ((0, 1) : Int × Int).2 := by decide
  cases north
  · exact gr2_most (gr2_most' h0.least.most q q0) (gr2_pos q q0) q1
  · exact gr2_most' h1.least.most (gr2_pos q q0) q1
theorem PlayOf.ok {S : SetL} {p : Int × Int} (h : PlayOf S p) : PlayOk p.1 p.2 := by
  obtain ⟨p0, p1, h0, h1, rfl⟩ := h.parts
  have k : ∀ {n q}, LP S n q → 1 ≤ q.2 ∧ q.2 ≤ 1000 ∧ 0 ≤ q.1 ∧ q.1 ≤ 1000000000 := fun h => by
    have := h.least.q0
    have := h.least.p0
    have := h.n1
    have := h.d1
    omega
  have k0 := k h0
  have k1 := k h1
  have g : ∀ a b : Int × Int, (1 ≤ a.2 ∧ a.2 ≤ 1000 ∧ 0 ≤ a.1 ∧ a.1 ≤ 1000000000) → (1 ≤ b.2 ∧ b.2 ≤ 1000 ∧ 0 ≤ b.1 ∧ b.1 ≤ 1000000000) → (1 ≤ (gr2 a b).2 ∧ (gr2 a b).2 ≤ 1000 ∧ 0 ≤ (gr2 a b).1 ∧ (gr2 a b).1 ≤ 1000000000) := fun a b ha hb => by
    rcases gr2_cases a b with ⟨e, _⟩ | ⟨e, _⟩ <;> rw [e] <;> assumption
  have r := g _ _ (g (0, 1) p0 ⟨by decide, by decide, by decide, by decide⟩ k0) k1
  exact ⟨r.1, r.2.1, r.2.2.1, r.2.2.2⟩
/-- The cells of a slice of shifts. -/
def FQ (W : World) (g n : Nat) (q : Nat → Q4) : Prop := ∃ cs, Blk W g 93 cs ∧ ∀ i, i < n → cs[i * 4]? = some (.int .i64 (q i).a) ∧ cs[i * 4 + 1]? = some (.int .i64 (q i).b) ∧ cs[i * 4 + 2]? = some (.int .i64 (q i).x) ∧ cs[i * 4 + 3]? = some (.int .i64 (q i).y)
section
variable {W W' : World} {g n : Nat} {q : Nat → Q4}
theorem FQ.aft (h : FQ W g n q) (ha : Aft W W') : FQ W' g n q := let ⟨cs, h1, h2⟩ := h; ⟨cs, h1.aft ha, h2⟩
theorem FQ.grown (h : FQ W g n q) {row : Option Nat} (hg : W.grownBy W' row) (hr : some g ≠ row) : FQ W' g n q := let ⟨cs, h1, h2⟩ := h; ⟨cs, h1.grown hg hr, h2⟩
theorem FI.grown {f : Nat → Nat} (h : FI W g n f) {row : Option Nat} (hg : W.grownBy W' row) (hr : some g ≠ row) : FI W' g n f := let ⟨cs, h1, h2⟩ := h; ⟨cs, h1.grown hg hr, h2⟩
theorem FQ.lt (h : FQ W g n q) : g < W.heap.size := let ⟨_, h1, _⟩ := h; h1.lt
theorem FQ.frozen (h : FQ W g n q) (i : Nat) : W.frozen? ⟨g, i, none⟩ = false := let ⟨_, h1, _⟩ := h; h1.frozen i
theorem FQ.cell (h : FQ W g n q) {i : Nat} (hi : i < n) : W.cell? ⟨g, i * 4, none⟩ = some (.int .i64 (q i).a) ∧ W.cell? ⟨g, i * 4 + 1, none⟩ = some (.int .i64 (q i).b) ∧ W.cell? ⟨g, i * 4 + 2, none⟩ = some (.int .i64 (q i).x) ∧ W.cell? ⟨g, i * 4 + 3, none⟩ = some (.int .i64 (q i).y) := by
  obtain ⟨cs, h1, h2⟩ := h
  obtain ⟨a, b, c, d⟩ := h2 i hi
  exact ⟨(h1.cell _).trans a, (h1.cell _).trans b, (h1.cell _).trans c, (h1.cell _).trans d⟩
theorem set2_get {cs : Array Value} {o j : Nat} {v1 v2 : Value} (h : o + 1 < cs.size) : ((cs.setIfInBounds o v1).setIfInBounds (o + 1) v2)[j]? = if j = o then some v1 else if j = o + 1 then some v2 else cs[j]? := by
  by_cases e2 : j = o + 1
  · subst e2
    rw [if_neg (by omega), if_pos rfl, Array.getElem?_setIfInBounds_self_of_lt (by simpa using h)]
  · rw [Array.getElem?_setIfInBounds_ne (Ne.symm e2)]
    by_cases e1 : j = o
    · subst e1
      rw [if_pos rfl, Array.getElem?_setIfInBounds_self_of_lt (by omega)]
    · rw [if_neg e1, if_neg e2, Array.getElem?_setIfInBounds_ne (Ne.symm e1)]
theorem FQ.setX (h : FQ W g n q) {a : Nat} (ha : a < n) (r : Int × Int) : FQ ((W.setCell ⟨g, a * 4, none⟩ (.int .i64 r.1)).setCell ⟨g, a * 4 + 1, none⟩ (.int .i64 r.2)) g n (fun i => if i = a then ⟨r.1, r.2, (q a).x, (q a).y⟩ else q i) := by
  obtain ⟨cs, h1, h2⟩ := h
  have hl := (Array.getElem?_eq_some_iff.1 (h2 a ha).2.1).1
  refine ⟨_, (h1.store _ _).store _ _, fun i hi => ?_⟩
  obtain ⟨a1, a2, a3, a4⟩ := h2 i hi
  rw [set2_get hl, set2_get hl, set2_get hl, set2_get hl]
  by_cases e : i = a
  · subst e
    simp only [if_pos]
    rw [if_neg (by omega), if_neg (by omega), if_neg (by omega), if_neg (by omega), if_neg (by omega)]
    refine ⟨?_, ?_, ?_, ?_⟩ <;> first | trivial | exact a3 | exact a4
  · rw [if_neg (by omega), if_neg (by omega), if_neg (by omega), if_neg (by omega), if_neg (by omega), if_neg (by omega), if_neg (by omega), if_neg (by omega)]
    simp only [if_neg e]
    exact ⟨a1, a2, a3, a4⟩
theorem FQ.setY (h : FQ W g n q) {a : Nat} (ha : a < n) (r : Int × Int) : FQ ((W.setCell ⟨g, a * 4 + 2, none⟩ (.int .i64 r.1)).setCell ⟨g, a * 4 + 3, none⟩ (.int .i64 r.2)) g n (fun i => if i = a then ⟨(q a).a, (q a).b, r.1, r.2⟩ else q i) := by
  obtain ⟨cs, h1, h2⟩ := h
  have hl := (Array.getElem?_eq_some_iff.1 (h2 a ha).2.2.2).1
  have hl : (a * 4 + 2) + 1 < cs.size := hl
  refine ⟨_, (h1.store _ _).store _ _, fun i hi => ?_⟩
  obtain ⟨a1, a2, a3, a4⟩ := h2 i hi
  have e3 : a * 4 + 3 = (a * 4 + 2) + 1 := rfl
  rw [e3, set2_get hl, set2_get hl, set2_get hl, set2_get hl]
  by_cases e : i = a
  · subst e
    simp only [if_pos]
    rw [if_neg (by omega), if_neg (by omega), if_neg (by omega), if_neg (by omega), if_neg (by omega)]
    refine ⟨?_, ?_, ?_, ?_⟩ <;> first | trivial | exact a1 | exact a2
  · rw [if_neg (by omega), if_neg (by omega), if_neg (by omega), if_neg (by omega), if_neg (by omega), if_neg (by omega), if_neg (by omega), if_neg (by omega)]
    simp only [if_neg e]
    exact ⟨a1, a2, a3, a4⟩
end
theorem fq_made (w : World) (N : Nat) (hN : N ≤ 1000) : ∃ cs, (Instr.makeSlice 26 (.int .i64 N) (.int .i64 N)).run Try.prog w = .ok (.slice (some ⟨w.heap.size, 0, none⟩) N N) (w.alloc (.cells cs 93)) ∧ FQ (w.alloc (.cells cs 93)) w.heap.size N fun _ => z4 := by
  obtain ⟨ht, ⟨i, z, hi, hz, hsize, hby, hzs⟩, hsz⟩ := ty26
  have hzz : (Try.prog.info? 93).bind (·.zero) = some (.agg #[.int .i64 0, .int .i64 0, .int .i64 0, .int .i64 0]) := by kernel_rfl
  rw [hi] at hzz
  have hzz : i.zero = some (.agg #[.int .i64 0, .int .i64 0, .int .i64 0, .int .i64 0]) := hzz
  rw [hz] at hzz
  cases hzz
  have h := run_makeSlice (P := Try.prog) (w := w) 26 93 i (.agg #[.int .i64 0, .int .i64 0, .int .i64 0, .int .i64 0]) ht hi hz .i64 .i64 N N (by omega) (Int.le_refl _) (by rw [hsize]; simp; omega) (by rw [hby]; omega) (by omega)
  rw [Int.toNat_natCast, hsize] at h
  refine ⟨_, h, _, Blk.new _ _ _, fun i hi => ?_⟩
  have k : ∀ j, j < 4 → (Go.madeCells #[.int .i64 0, .int .i64 0, .int .i64 0, .int .i64 0] (N * 4))[i * 4 + j]? = some (.int .i64 0) := by
    intro j hj
    have : i * 4 + j < N * 4 := by omega
    have e : (i * 4 + j) % 4 = j := by omega
    simp [Go.madeCells, this, e]
    match j, hj with
    | 0, _ => rfl
    | 1, _ => rfl
    | 2, _ => rfl
    | 3, _ => rfl
  exact ⟨k 0 (by omega), k 1 (by omega), k 2 (by omega), k 3 (by omega)⟩
end Go.Proofs
end
