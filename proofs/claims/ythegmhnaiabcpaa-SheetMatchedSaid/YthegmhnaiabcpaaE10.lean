/- Own texts, merged: Sq St Su0 Su. -/
import Derived.Test.YthegmhnaiabcpaaE09
set_option linter.unusedSimpArgs false
set_option linter.unusedVariables false
set_option linter.unnecessarySimpa false
section
/- Walks: reckon. -/
namespace Go.Proofs
open Go.RowKit
attribute [local go_sem] Oper.semAt_some

theorem FolR.val2 {w : World} {J : List Sheet.Jo} {D N : Int} {a n : Nat} {row : Nat → Int} {by_ : Nat → Nat × Bool} {at_ : Nat} {e : Ending} {w' : World} (h : FolR w J D N a n row by_ at_ e w') : ∃ A n9 c9, e = .returned (.slice A n9 c9) ∧
    ((A = none ∧ n9 = 0 ∧ c9 = 0 ∧ Aft w w' ∧ NilP J a row by_ at_) ∨ ∃ g l, A = some ⟨g, 0, none⟩ ∧ n9 = l.length ∧ Aft w w' ∧ w'.ownsRow w.heap.size 120 2 (.slice (some ⟨g, 0, none⟩) l.length c9) l.length ((l.map legI).flatMap encG) ∧ Sheet.Clash n J D N l) := by
  rcases h.2 with ⟨rfl, hn⟩ | ⟨g, c, l, rfl, h1, h2⟩
  · exact ⟨_, _, _, rfl, .inl ⟨rfl, rfl, rfl, h.1, hn⟩⟩
  · exact ⟨_, _, _, rfl, .inr ⟨g, l, rfl, rfl, h.1, h1, h2⟩⟩
/-- What reckon leaves. -/
def ReckR (w0 w : World) (d : Nat) (S : SetL) (A : Option Addr) (c : Nat) (north : Bool) (D N : Int) (e : Ending) (w' : World) : Prop :=
  ∃ ap' bf', w.grownBy w' (some d) ∧ WorkAt w0 w' d S A c ap' bf' ∧ ((e = .returned (.slice none 0 0) ∧ ∀ a, a < S.n.toNat → RowDone S north D N ap' a) ∨
    ∃ g c l, e = .returned (.slice (some ⟨g, 0, none⟩) l.length c) ∧ w'.ownsRow w.heap.size 120 2 (.slice (some ⟨g, 0, none⟩) l.length c) l.length ((l.map legI).flatMap encG) ∧ Sheet.Clash S.n.toNat (joOf north S.J) D N l)
structure RecB (w0 w : World) (d s : Nat) (kw : FuncId) (S : SetL) (A : Option Addr) (c : Nat) (D N : Int) (ap : Nat → Int) (bf : Nat → Nat × Bool) (W : World) : Prop where
  fr : FrD w d (s + 1 + 1) [(s, 113, #[.func (.func kw) #[] #[]]), (s + 1, 37, #[.int .i64 N, .int .i64 D])] [] W
  wk : WorkAt w0 W d S A c ap bf
theorem RecB.later {w0 w W W' : World} {d s : Nat} {kw : FuncId} {S : SetL} {A : Option Addr} {c : Nat} {D N : Int} {ap : Nat → Int} {bf : Nat → Nat × Bool} (h : RecB w0 w d s kw S A c D N ap bf W) (ha : Aft W W') : RecB w0 w d s kw S A c D N ap bf W' := ⟨h.fr.later ha, h.wk.later ha⟩
/-- Between two sheets. -/
def RecI (w0 w : World) (d s : Nat) (kw : FuncId) (S : SetL) (A : Option Addr) (c : Nat) (north : Bool) (D N : Int) (a : Nat) (W : World) : Prop :=
  ∃ ap bf, RecB w0 w d s kw S A c D N ap bf W ∧ ∀ a', a' < a → RowDone S north D N ap a'
/-- In a row: what is far so far. -/
def RecF (w0 w : World) (d s : Nat) (kw : FuncId) (S : SetL) (A : Option Addr) (c : Nat) (north : Bool) (D N : Int) (a b : Nat) (W : World) : Prop :=
  ∃ ap bf, RecB w0 w d s kw S A c D N ap bf W ∧ (∀ a', a' < a → RowDone S north D N ap a') ∧ ∀ i, i < b → ap (12 * a + i) = Sheet.far
/-- Between two passes. -/
def RecP (w0 w : World) (d s : Nat) (kw : FuncId) (S : SetL) (A : Option Addr) (c : Nat) (north : Bool) (D N : Int) (a k : Nat) (W : World) : Prop :=
  ∃ ap bf, RecB w0 w d s kw S A c D N ap bf W ∧ (∀ a', a' < a → RowDone S north D N ap a') ∧ Sheet.RowI (joOf north S.J) D N a (rowOf S.n.toNat ap a) (byOf bf a) ∧ Sheet.Lens (joOf north S.J) D N a (rowOf S.n.toNat ap a) (k * S.n.toNat) ∧
    ∃ L, Sheet.Lev (Sheet.sc D N (Sheet.legs (joOf north S.J))) a (fun c => Sheet.opt (rowOf S.n.toNat ap a c)) (Sheet.viaOf (joOf north S.J) D N a (rowOf S.n.toNat ap a) (byOf bf a)) L k
theorem RecF.step {w0 w W : World} {d s : Nat} {kw : FuncId} {S : SetL} {A : Option Addr} {c : Nat} {north : Bool} {D N : Int} {a b : Nat} (h : RecF w0 w d s kw S A c north D N a b W) (hn : S.n.toNat ≤ 12) (ha : a < 12) (hb : b < 12) : RecF w0 w d s kw S A c north D N a (b + 1) (W.setCell ⟨d, 2 + a * 12 + b, none⟩ (.int .i64 36028797018963968)) := by
  obtain ⟨ap, bf, h1, h2, h3⟩ := h
  refine ⟨_, bf, ⟨h1.fr.grown (only_setCell (only_refl _ _) (p := ⟨d, 2 + a * 12 + b, none⟩) (.inl rfl) _) (.inl rfl), setAp2 h1.wk ha hb 36028797018963968⟩, fun a' ha' => (h2 a' ha').congr hn fun i hi => ?_, fun i hi => ?_⟩
  · unfold updF
    rw [if_neg (by omega)]
  · unfold updF
    by_cases e : i = b
    · subst e; rw [if_pos rfl]; rfl
    · rw [if_neg (by omega)]
      exact h3 i (by omega)
theorem RecF.start {w0 w W : World} {d s : Nat} {kw : FuncId} {S : SetL} {A : Option Addr} {c : Nat} {north : Bool} {D N : Int} {a : Nat} (h : RecF w0 w d s kw S A c north D N a S.n.toNat W) (hn : S.n.toNat ≤ 12) (ha : a < S.n.toNat) : RecP w0 w d s kw S A c north D N a 0 (W.setCell ⟨d, 2 + a * 12 + a, none⟩ (.int .i64 0)) := by
  obtain ⟨ap, bf, h1, h2, h3⟩ := h
  have e : rowOf S.n.toNat (updF ap (12 * a + a) 0) a = fun c => if c = a then 0 else Sheet.far := by
    funext c
    rw [rowOf_set ha]
    unfold Sheet.upd rowOf
    by_cases e : c = a
    · rw [if_pos e, if_pos e]
    · rw [if_neg e, if_neg e]
      by_cases hc : c < S.n.toNat
      · rw [if_pos hc]; exact h3 c hc
      · rw [if_neg hc]
  refine ⟨_, bf, ⟨h1.fr.grown (only_setCell (only_refl _ _) (p := ⟨d, 2 + a * 12 + a, none⟩) (.inl rfl) _) (.inl rfl), setAp2 h1.wk (by omega) (by omega) 0⟩, fun a' ha' => (h2 a' ha').congr hn fun i hi => ?_, ?_, ?_, ?_⟩
  · unfold updF
    rw [if_neg (by omega)]
  · rw [e]; exact Sheet.RowI.start _ _ _ _ _
  · rw [e]; exact Sheet.Lens.start.more (Nat.zero_le _)
  · rw [e]; exact ⟨_, Sheet.lev_start _ _ _ _ _⟩

set_option maxRecDepth 100000 in
set_option maxHeartbeats 4000000 in
theorem reckon_any {kw : FuncId} {north : Bool} (hK : WayOk kw north) (S : SetL) (A : Option Addr) (c d : Nat) (ap : Nat → Int) (bf : Nat → Nat × Bool) (w0 w : World) (hW : WorkAt w0 w d S A c ap bf) (hS : SetOk S) (N D : Int) (hp : PlayOk N D) :
    Calls Try.prog 48 #[.pointer (some ⟨d, 0, none⟩), .agg #[.func (.func kw) #[] #[]], .agg #[.int .i64 N, .int .i64 D]] w (ReckR w0 w d S A c north D N) := by
  have hn1 := hS.n1
  have hn2 := hS.n2
  have hn12 : S.n.toNat ≤ 12 := by omega
  have hdl := hW.lt
  have hb0 := hW.base
  have F0 := ((FrD.start w hW.lt).alloc rfl 113 #[.func (.func kw) #[] #[]]).alloc (by simp) 37 #[.int .i64 N, .int .i64 D]
  simp only [List.nil_append, List.cons_append] at F0
  obtain ⟨W2, hW2⟩ : ∃ W2, (w.alloc (.cells #[.func (.func kw) #[] #[]] 113)).alloc (.cells #[.int .i64 N, .int .i64 D] 37) = W2 := ⟨_, rfl⟩
  rw [hW2] at F0
  have HW2 := Lib.hid (hW.later (hW2 ▸ (Aft.alloc w _).then_alloc _))
  obtain ⟨s, hs⟩ : ∃ s, w.heap.size = s := ⟨_, rfl⟩
  rw [hs] at F0
  have HI0 : Hid (RecI w0 w d s kw S A c north D N 0 W2) := Lib.hid ⟨ap, bf, ⟨F0, HW2.out⟩, fun a' h => absurd h (Nat.not_lt_zero _)⟩
  have HS := Lib.hid hS
  have HP := Lib.hid hp
  have HKW := Lib.hid hK
  have qN : ∀ (w : World) (a : Option Addr) (n c n' c' : Nat), (binOp .neq 103 (.slice a n c) (.slice none n' c')).run Try.prog w = .ok (.bool (!a.isNone)) w := fun w a n c n' c' => run_neq_slice_nil_any w _ _ a n c n' c' Try.underlying103
  have k0 := HW2.out.k0
  have k1 := HW2.out.lt
  clear hW hS hp hK F0
  go_enter Try.func48, Try.ntmps48
  go_upto_block 0 with fail
  try rw [hW2]
  try rw [hs]
  clear hW2 k0 k1 HW2
  refine wp_block ?_
  go_loopw [16] (fun i wr => ∃ a : Nat, i = .int .i64 (a : Nat) ∧ a ≤ S.n.toNat ∧ RecI w0 w d s kw S A c north D N a wr) (fun i _ => S.n.toNat - (intOf i).toNat)
  case atStart => exact ⟨0, rfl, by omega, HI0.out⟩
  case round =>
    obtain ⟨a, rfl, hal, ap1, bf1, hB1, hD1⟩ := hrel
    clear HI0
    by_cases han : a < S.n.toNat
    · have t1 : decide ((a : Int) < S.n) = true := by simp; omega
      have ha12 : a < 12 := by omega
      have ia : (0 : Int) ≤ (a : Int) ∧ (a : Int) < 12 := by omega
      have hcl := fun ty => run_clear_by hB1.wk ha12 ty
      obtain ⟨bf2, hw2⟩ := clear_by ha12 12 0 wr bf1 (by omega) hB1.wk
      rw [show 146 + a * 24 + 0 * 2 = 146 + a * 24 by omega] at hw2
      have hg2 := only_cells (zs2 12) (146 + a * 24) wr (only_refl wr (some d))
      have HB2 : Hid (RecB w0 w d s kw S A c D N ap1 bf2 (wr.setCells d (146 + a * 24) (zs2 12))) := Lib.hid ⟨hB1.fr.grown hg2 (.inl rfl), hw2⟩
      have HD1 := Lib.hid hD1
      clear hB1 hD1 hw2 hg2
      go_upto_region 5 with fail
      generalize wr.setCells d (146 + a * 24) (zs2 12) = W3 at *
      clear hcl
      have k0 := HB2.out.wk.k0
      have k1 := HB2.out.wk.lt
      go_upto_block 2 with fail
      clear k0 k1
      have HF0 : Hid (RecF w0 w d s kw S A c north D N a 0 W3) := Lib.hid ⟨ap1, bf2, HB2.out, HD1.out, fun i h => absurd h (Nat.not_lt_zero _)⟩
      clear HB2 HD1
      refine wp_block ?_
      go_loopw [30] (fun i wr => ∃ b : Nat, i = .int .i64 (b : Nat) ∧ b ≤ S.n.toNat ∧ RecF w0 w d s kw S A c north D N a b wr) (fun i _ => S.n.toNat - (intOf i).toNat)
      case atStart => exact ⟨0, rfl, by omega, HF0.out⟩
      case round =>
        obtain ⟨b, rfl, hbl, hF⟩ := hrel
        have HF := Lib.hid hF
        clear HF0 hF
        obtain ⟨ap2, bf2, hB2, -⟩ := HF.out
        by_cases hbn : b < S.n.toNat
        · have t2 : decide ((b : Int) < S.n) = true := by simp; omega
          have ib : (0 : Int) ≤ (b : Int) ∧ (b : Int) < 12 := by omega
          have HF2 := Lib.hid (HF.out.step hn12 ha12 (by omega))
          have k1 := hB2.wk.lt
          have k2 := kap2 hB2.wk (n := S.n.toNat) (by omega) han hbn
          have k3 := hB2.wk.fz (2 + a * 12 + b)
          clear hB2
          go_wp2_with fail
          exact ⟨⟨b + 1, by go_num, by omega, HF2.out⟩, by simp [intOf]; omega⟩
        · have eb : b = S.n.toNat := by omega
          have t2 : decide ((b : Int) < S.n) = false := by simp; omega
          have HPP : Hid (RecP w0 w d s kw S A c north D N a 0 (wr.setCell ⟨d, 2 + a * 12 + a, none⟩ (.int .i64 0))) := Lib.hid (by
            have h := HF.out
            rw [eb] at h
            exact h.start hn12 han)
          have k0 := hB2.wk.k0
          have k1 := hB2.wk.lt
          have k2 := kap2 hB2.wk (n := S.n.toNat) (by omega) han han
          have k3 := hB2.wk.fz (2 + a * 12 + a)
          clear hB2 hbn HF eb hbl
          go_upto_region 11 with fail
          generalize wr.setCell ⟨d, 2 + a * 12 + a, none⟩ (.int .i64 0) = W5 at *
          clear k0 k1 k2 k3
          obtain ⟨ap3, bf3, hB3, -⟩ := HPP.out
          have k0 := hB3.wk.k0
          have k1 := hB3.wk.lt
          go_upto_block 4 with fail
          clear k0 k1 hB3
          refine wp_block ?_
          have HP0 : Hid (0 < S.n.toNat) := Lib.hid (by omega)
          go_loopw [53] (fun i wr => ∃ k : Nat, i = .int .i64 (k : Nat) ∧ k < S.n.toNat ∧ RecP w0 w d s kw S A c north D N a k wr) (fun i _ => S.n.toNat - (intOf i).toNat)
          case atStart => exact ⟨0, rfl, HP0.out, HPP.out⟩
          case round =>
            obtain ⟨k, rfl, hkn, ap4, bf4, hB4, hD4, hR4, hL4, L, hV4⟩ := hrel
            clear HPP
            have t3 : decide ((k : Int) < S.n) = true := by simp; omega
            have hkk : k * S.n.toNat + S.n.toNat ≤ 190 := by
              have h1 : k * S.n.toNat ≤ 11 * S.n.toNat := Nat.mul_le_mul_right _ (by omega)
              omega
            have HPA := Lib.hid (pass_any HKW.out S A c d ap4 bf4 w0 wr hB4.wk HS.out a han N D HP.out (k * S.n.toNat) hkk hR4 hL4)
            have y1 : wr.cell? ⟨s, 0, none⟩ = some (.func (.func kw) #[] #[]) := (hB4.fr.nth 0 rfl).cell 0
            have y2 := (hB4.fr.nth 0 rfl).lt
            have y3 : wr.cell? ⟨s + 1, 0, none⟩ = some (.int .i64 N) := (hB4.fr.nth 1 rfl).cell 0
            have y4 : wr.cell? ⟨s + 1, 1, none⟩ = some (.int .i64 D) := (hB4.fr.nth 1 rfl).cell 1
            have y5 := (hB4.fr.nth 1 rfl).lt
            have HB4 := Lib.hid hB4
            have HD4 := Lib.hid hD4
            have HR4 := Lib.hid hR4
            have HL4 := Lib.hid hL4
            have HV4 := Lib.hid hV4
            clear hB4 hD4 hR4 hL4 hV4
            go_upto_region 14 with (go_at_call 83; refine HPA.out.mono ?_; rintro e W6 ⟨x, ap5, bf5, rfl, hg6, hw6, hps6⟩; have HG6 := Lib.hid hg6; have HW6 := Lib.hid hw6; have HPS := Lib.hid hps6; clear hg6 hw6 hps6)
            clear y1 y2 y3 y4 y5 HPA
            have HB6 : Hid (RecB w0 w d s kw S A c D N ap5 bf5 W6) := Lib.hid ⟨HB4.out.fr.grown HG6.out (.inl rfl), HW6.out⟩
            have HD6 : Hid (∀ a', a' < a → RowDone S north D N ap5 a') := Lib.hid fun a' ha' => (HD4.out a' ha').congr hn12 fun i hi => HPS.out.rest i (by omega)
            rcases HPS.out.at_ with ⟨hx, he⟩ | ⟨q, hq, hx, hne⟩
            · have HRD : Hid (RowDone S north D N ap5 a) := Lib.hid ⟨⟨_, HPS.out.ps.core⟩, HPS.out.ps.calm (HS.out.ok north) han (fun c => by rw [he])⟩
              subst hx
              clear he
              go_wp2_with fail
              exact ⟨⟨a + 1, by go_num, by omega, ap5, bf5, HB6.out, fun a' ha' => by
                by_cases e : a' = a
                · subst e; exact HRD.out
                · exact HD6.out a' (by omega)⟩, by simp [intOf]; omega⟩
            · subst hx
              have hmet : rowOf S.n.toNat ap5 a q ≠ Sheet.far := by
                intro e
                apply hne
                have h1 := Sheet.opt_none.2 e
                rw [h1]
                refine (Classical.byContradiction fun h2 => ?_)
                have h3 : Sheet.opt (rowOf S.n.toNat ap4 a q) ≠ none := fun h => h2 h.symm
                obtain ⟨y, hy⟩ := Option.ne_none_iff_exists'.1 h3
                obtain ⟨y', hy', _⟩ := HPS.out.ps.mid.mono q y hy
                rw [h1] at hy'
                cases hy'
              obtain ⟨L', hV5, hL5⟩ := HPS.out.ps.lev (HS.out.ok north) han HR4.out HV4.out
              have hLq := hL5 q hne
              have HBK := Lib.hid (back_any (north := north) S A c d ap5 bf5 w0 W6 HB6.out.wk HS.out a han N D HPS.out.ps.core q hq hmet)
              have HV5 := Lib.hid hV5
              have HLQ := Lib.hid hLq
              have HMET := Lib.hid hmet
              clear hne hV5 hL5 hLq hmet
              go_upto_region 16 with (go_at_call 84; refine HBK.out.mono ?_; rintro e W7 hfin; obtain ⟨A9, n9, c9, rfl, hfin2⟩ := hfin.val2; have HFIN := Lib.hid hfin2; clear hfin hfin2)
              rcases HFIN.out with ⟨rfl, rfl, rfl, ha7, hnil⟩ | ⟨g7, l7, rfl, rfl, ha7, ho7, hcl7⟩
              · have HA7 := Lib.hid ha7
                have HK1 : Hid (k + 1 < S.n.toNat) := Lib.hid (by
                  refine Classical.byContradiction fun hk1 => ?_
                  have ek : k + 1 = S.n.toNat := by omega
                  obtain ⟨f, m, h1, h2, h3, h4, h5⟩ := hnil
                  have hv := HV5.out
                  rw [ek] at hv
                  exact Sheet.back_ends (HS.out.ok north) han HPS.out.ps.core hv h1 h2 h3 (by rw [h4, HLQ.out, ek]) (by rw [h4]; exact HMET.out) h5)
                clear ha7 hnil HFIN HBK HLQ HMET
                go_wp2_with fail
                exact ⟨⟨k + 1, by go_num, HK1.out, ap5, bf5, HB6.out.later HA7.out, HD6.out, HPS.out.ps.core, by rw [Nat.add_mul, Nat.one_mul]; exact HPS.out.lens, _, HV5.out⟩, by simp [intOf]; omega⟩
              · have HA7 := Lib.hid ha7
                have HO7 := Lib.hid ho7
                have HC7 := Lib.hid hcl7
                have hge := HB6.out.fr.grow.size
                clear ha7 ho7 hcl7 HFIN HBK HLQ HMET
                go_wp2_with fail
                go_ret
                have hB7 := HB6.out.later HA7.out
                exact ⟨ap5, bf5, hB7.fr.grow, hB7.wk, .inr ⟨g7, c9, l7, rfl, World.ownsRow.mono HO7.out hge, HC7.out⟩⟩
    · have ea : a = S.n.toNat := by omega
      have t1 : decide ((a : Int) < S.n) = false := by simp; omega
      have HB1 := Lib.hid hB1
      have HD1 := Lib.hid hD1
      clear hB1 hD1
      go_wp2_with fail
      go_ret
      exact ⟨ap1, bf1, HB1.out.fr.grow, HB1.out.wk, .inl ⟨rfl, fun a' ha' => HD1.out a' (by omega)⟩⟩
end Go.Proofs
end

section
/- Walks: ratio, greatest. -/
namespace Go.Proofs
open Go.RowKit
attribute [local go_sem] Oper.semAt_some

theorem low_gcd (n d : Int) (hd : 0 < d) (g : Nat) (hg : Nat.gcd n.natAbs d.toNat = g) : 0 < g ∧ Int.tdiv n g = (Sheet.low n d).1 ∧ Int.tdiv d g = (Sheet.low n d).2 := by
  have hg0 : 0 < g := by rw [← hg]; exact Nat.gcd_pos_of_pos_right _ (by omega)
  have hg1 : ((g : Int)) ∣ n := by
    rw [← hg]
    exact Int.natAbs_dvd_natAbs.1 (by simpa using Nat.gcd_dvd_left _ _)
  have hg2 : ((g : Int)) ∣ d := by
    rw [← hg]
    have h := Int.natCast_dvd_natCast.2 (Nat.gcd_dvd_right n.natAbs d.toNat)
    have e : (d.toNat : Int) = d := by omega
    rwa [e] at h
  unfold Sheet.low
  rw [hg]
  exact ⟨hg0, Int.tdiv_eq_ediv_of_dvd hg1, Int.tdiv_eq_ediv_of_dvd hg2⟩

set_option maxRecDepth 100000 in
set_option maxHeartbeats 2000000 in
theorem ratio_any (n d : Int) (w : World) (hd : 0 < d) (hd2 : d ≤ 1000000000000000000) (hn : -1000000000000000000 ≤ n ∧ n ≤ 1000000000000000000) :
    Calls Try.prog 49 #[.int .i64 n, .int .i64 d] w fun e w' => e = .returned (.agg #[.int .i64 (Sheet.low n d).1, .int .i64 (Sheet.low n d).2]) ∧ Aft w w' := by
  obtain ⟨dn, rfl⟩ : ∃ dn : Nat, d = dn := ⟨d.toNat, by omega⟩
  obtain ⟨N0, hN0⟩ : ∃ N0, n.natAbs = N0 := ⟨_, rfl⟩
  have hab : (if n < -n then -n else n) = (N0 : Int) := by split <;> omega
  have hN1 : N0 ≤ 1000000000000000000 := by omega
  have HL := Lib.hid (low_gcd n dn (by omega))
  rw [hN0] at HL
  have HAB := Lib.hid hab
  obtain ⟨q1, hq1⟩ : ∃ q, (Sheet.low n dn).1 = q := ⟨_, rfl⟩
  obtain ⟨q2, hq2⟩ : ∃ q, (Sheet.low n dn).2 = q := ⟨_, rfl⟩
  rw [hq1, hq2] at HL ⊢
  clear hab hN0 hq1 hq2
  go_enter Try.func49, Try.ntmps49
  go_upto_block 0 with fail
  rw [HAB.out]
  have HB0 := Lib.hid (Blk.new w 37 #[.int .i64 0, .int .i64 0])
  have HA0 := Lib.hid (Aft.alloc w (.cells #[.int .i64 0, .int .i64 0] 37))
  generalize w.alloc (.cells #[.int .i64 0, .int .i64 0] 37) = W1 at *
  obtain ⟨s, hs⟩ : ∃ s, w.heap.size = s := ⟨_, rfl⟩
  rw [hs] at HB0 ⊢
  refine wp_block ?_
  go_loopw [5, 6] (fun x y wr => ∃ a b : Nat, x = .int .i64 (a : Nat) ∧ y = .int .i64 (b : Nat) ∧ a ≤ 1000000000000000000 ∧ b ≤ 1000000000000000000 ∧ Hid (Nat.gcd a b = Nat.gcd N0 dn) ∧ Aft w wr ∧ Blk wr s 37 #[.int .i64 0, .int .i64 0]) (fun _ y _ => (intOf y).toNat)
  case atStart => exact ⟨N0, dn, rfl, rfl, hN1, by omega, Lib.hid rfl, HA0.out, HB0.out⟩
  case round =>
    obtain ⟨a, b, rfl, rfl, ha, hb, HG, haw, hbw⟩ := hrel
    have HAW := Lib.hid haw
    have HBW := Lib.hid hbw
    clear haw hbw HA0 HB0
    by_cases hb0 : 0 < b
    · have t1 : decide ((0 : Int) < (b : Int)) = true := by simp; omega
      have hm : (a : Int) % (b : Int) = ((a % b : Nat) : Int) := by simp
      have htm : Int.tmod (a : Int) (b : Int) = ((a % b : Nat) : Int) := by rw [Int.tmod_eq_emod_of_nonneg (by omega)]; simp
      have hlt : a % b < b := Nat.mod_lt _ hb0
      have HG2 : Hid (Nat.gcd b (a % b) = Nat.gcd N0 dn) := Lib.hid (by rw [← HG.out, Nat.gcd_comm b (a % b), ← Nat.gcd_rec b a, Nat.gcd_comm])
      have hb0' : ((b : Int) == 0) = false := by simp; omega
      obtain ⟨r, hr⟩ : ∃ r, a % b = r := ⟨_, rfl⟩
      rw [hr] at hm htm hlt HG2
      clear hr
      go_upto_region 3 with fail
      go_quiet (fail)
      go_wp2_with fail
      exact ⟨⟨b, r, rfl, rfl, by omega, by omega, HG2, HAW.out.then_drewN nq, HBW.out.drewN nq⟩, by simp [intOf]; omega⟩
    · have eb : b = 0 := by omega
      have t1 : decide ((0 : Int) < (b : Int)) = false := by simp; omega
      obtain ⟨hg0, hg1, hg2⟩ := HL.out a (by have := HG.out; rw [eb, Nat.gcd_zero_right] at this; rw [this]; simp)
      have hab1 : -1000000000000000000 ≤ q1 ∧ q1 ≤ 1000000000000000000 := by
        have h1 := Int.natAbs_tdiv n a
        rw [hg1, Int.natAbs_natCast] at h1
        have h2 : n.natAbs.div a ≤ n.natAbs := Nat.div_le_self _ _
        omega
      have hab2 : -1000000000000000000 ≤ q2 ∧ q2 ≤ 1000000000000000000 := by
        have h1 := Int.natAbs_tdiv (dn : Int) a
        rw [hg2, Int.natAbs_natCast (n := a)] at h1
        have h2 : (dn : Int).natAbs.div a ≤ (dn : Int).natAbs := Nat.div_le_self _ _
        omega
      have w1 : IntKind.i64.wrap q1 = q1 := IntWalk.i64_in _ (by omega)
      have w2 : IntKind.i64.wrap q2 = q2 := IntWalk.i64_in _ (by omega)
      have ha0 : ((a : Int) == 0) = false := by simp; omega
      have ha00 : ¬ ((a : Int) = 0) := by omega
      have ha000 : ¬ (a = 0) := by omega
      clear eb HG
      go_upto_region 4 with fail
      refine wp_region_valsT (by kernel_rfl) 7 25 rfl (by kernel_rfl) (by kernel_rfl) (by kernel_rfl) [.int .i64 n, .int .i64 (a : Nat), .int .i64 q1, .int .i64 (dn : Nat), .int .i64 (a : Nat), .int .i64 q2, .agg #[.int .i64 q1, .int .i64 q2]] rfl (fun _ W => Aft wr W) (Aft.drew _) ?st1 ?fi1
      case st1 =>
        intro i o v ho hv
        match i, ho, hv with
        | 0, ho, hv =>
          cases ho; cases hv
          refine .inl ⟨rfl, fun done a W hd hp hk hw K hK => ?_⟩
          have e0 := hk.same 0 (by decide)
          exact op_val (by simp [go_sem, ev' e0]) (hK _ hw)
        | 1, ho, hv =>
          cases ho; cases hv
          refine .inl ⟨rfl, fun done a W hd hp hk hw K hK => ?_⟩
          have e5 := hk.same 5 (by decide)
          exact op_val (by simp [go_sem, ev' e5]) (hK _ hw)
        | 2, ho, hv =>
          cases ho; cases hv
          refine .inl ⟨rfl, fun done a W hd hp hk hw K hK => ?_⟩
          have e18 := hk.at_ 0 _ 18 _ rfl (by decide) _ rfl rfl rfl
          have e19 := hk.at_ 1 _ 19 _ rfl (by decide) _ rfl rfl rfl
          exact op_val (by simp [go_sem, ev' e18, ev' e19, hg1, w1, ha0, ha00, ha000]) (hK _ hw)
        | 3, ho, hv =>
          cases ho; cases hv
          refine .inl ⟨rfl, fun done a W hd hp hk hw K hK => ?_⟩
          have e1 := hk.same 1 (by decide)
          exact op_val (by simp [go_sem, ev' e1]) (hK _ hw)
        | 4, ho, hv =>
          cases ho; cases hv
          refine .inl ⟨rfl, fun done a W hd hp hk hw K hK => ?_⟩
          have e5 := hk.same 5 (by decide)
          exact op_val (by simp [go_sem, ev' e5]) (hK _ hw)
        | 5, ho, hv =>
          cases ho; cases hv
          refine .inl ⟨rfl, fun done a W hd hp hk hw K hK => ?_⟩
          have e21 := hk.at_ 3 _ 21 _ rfl (by decide) _ rfl rfl rfl
          have e22 := hk.at_ 4 _ 22 _ rfl (by decide) _ rfl rfl rfl
          exact op_val (by simp [go_sem, ev' e21, ev' e22, hg2, w2, ha0, ha00, ha000]) (hK _ hw)
        | 6, ho, hv =>
          cases ho; cases hv
          refine .inl ⟨rfl, fun done a W hd hp hk hw K hK => ?_⟩
          have e20 := hk.at_ 2 _ 20 _ rfl (by decide) _ rfl rfl rfl
          have e23 := hk.at_ 5 _ 23 _ rfl (by decide) _ rfl rfl rfl
          exact op_val (by simp [go_sem, ev' e20, ev' e23]) (hK _ hw)
        | _ + 7, _, hv => cases hv
      intro done W hd hw
      simp only [List.drop_succ_cons, List.drop_zero, List.zip_cons_cons, List.zip_nil_right, putAll]
      simp only [Act.put, List.setIfInBounds_toArray, List.set]
      clear hd
      have HW := Lib.hid hw
      have y1 := (HBW.out.aft hw).cell 0
      have y2 := (HBW.out.aft hw).cell 1
      have y3 := (HBW.out.aft hw).frozen 0
      have y4 := (HBW.out.aft hw).frozen 1
      have y5 := (HBW.out.aft hw).lt
      have HB := Lib.hid (HBW.out.aft hw)
      simp only [List.getElem?_toArray, List.getElem?_cons_zero, List.getElem?_cons_succ] at y1 y2
      clear hw hg1 hg2 w1 w2 ha0 ha00 ha000
      go_wp2_with fail
      have B2 := (HB.out.store 0 (.int .i64 q1)).store 1 (.int .i64 q2)
      have A2 := ((HAW.out.trans HW.out).then_setCell (p := ⟨s, 0, none⟩) (by show w.heap.size ≤ s; omega) (.int .i64 q1)).then_setCell (p := ⟨s, 1, none⟩) (by show w.heap.size ≤ s; omega) (.int .i64 q2)
      generalize (W.setCell ⟨s, 0, none⟩ (.int .i64 q1)).setCell ⟨s, 1, none⟩ (.int .i64 q2) = X at *
      have z0 : X.cell? ⟨s, 0, none⟩ = some (.int .i64 q1) := B2.cell 0
      have z1 : X.cell? ⟨s, 1, none⟩ = some (.int .i64 q2) := B2.cell 1
      exact bodyPost_ret (v := .agg #[.int .i64 q1, .int .i64 q2]) (by simp [results, Try.results49, go_sem, z0, z1]) rfl ⟨rfl, A2⟩

/-- Whether a fraction is more than another one. -/
def moreB (a b : Int × Int) : Bool := decide (b.1 * a.2 < a.1 * b.2)
/-- The greater one of two. -/
def gr2 (a b : Int × Int) : Int × Int := if moreB b a then b else a
def grL (first : Int × Int) (l : List (Int × Int)) : Int × Int := l.foldl gr2 first
structure RatS (p : Int × Int) : Prop where
  n0 : 0 ≤ p.1
  n1 : p.1 ≤ 3000000000000
  d0 : 1 ≤ p.2
  d1 : p.2 ≤ 1000000
theorem grL_take (first : Int × Int) (l : List (Int × Int)) (k : Nat) (h : k < l.length) : grL first (l.take (k + 1)) = gr2 (grL first (l.take k)) l[k] := by
  unfold grL
  rw [List.take_succ_eq_append_getElem h, List.foldl_append]
  rfl
theorem RatS.gr2 {a b : Int × Int} (ha : RatS a) (hb : RatS b) : RatS (gr2 a b) := by unfold Go.Proofs.gr2; split <;> assumption
theorem RatS.grL {first : Int × Int} {l : List (Int × Int)} (hf : RatS first) (hl : ∀ r ∈ l, RatS r) : RatS (grL first l) := by
  unfold Go.Proofs.grL
  induction l generalizing first with
  | nil => exact hf
  | cons x r ih => exact ih (hf.gr2 (hl x (by simp))) (fun y hy => hl y (by simp [hy]))
theorem prod_le {a b : Int} (ha : 0 ≤ a) (ha2 : a ≤ 3000000000000) (hb : 1 ≤ b) (hb2 : b ≤ 1000000) : 0 ≤ a * b ∧ a * b ≤ 3000000000000000000 := by
  refine ⟨Int.mul_nonneg ha (by omega), ?_⟩
  have h1 : a * b ≤ 3000000000000 * b := Int.mul_le_mul_of_nonneg_right ha2 (by omega)
  omega

set_option maxRecDepth 100000 in
set_option maxHeartbeats 2000000 in
theorem greatest_any (first : Int × Int) (A : Option Addr) (l : List (Int × Int)) (c : Nat) (w : World) (hA : Prs w A l) (hf : RatS first) (hl : ∀ r ∈ l, RatS r) :
    Calls Try.prog 79 #[.agg #[.int .i64 first.1, .int .i64 first.2], .slice A l.length c] w fun e w' => e = .returned (.agg #[.int .i64 (grL first l).1, .int .i64 (grL first l).2]) ∧ Aft w w' := by
  have hlen := hA.len
  obtain ⟨s, hs⟩ : ∃ s, w.heap.size = s := ⟨_, rfl⟩
  have F0 := ((Fr.start w).alloc rfl 37 #[.int .i64 first.1, .int .i64 first.2]).alloc (by simp) 37 #[.int .i64 0, .int .i64 0]
  simp only [List.nil_append, List.cons_append] at F0
  rw [hs] at F0
  have HI0 : Hid (Fr w (s + 1 + 1) [(s, 37, #[.int .i64 (grL first (l.take 0)).1, .int .i64 (grL first (l.take 0)).2]), (s + 1, 37, #[.int .i64 0, .int .i64 0])] ((w.alloc (.cells #[.int .i64 first.1, .int .i64 first.2] 37)).alloc (.cells #[.int .i64 0, .int .i64 0] 37))) := Lib.hid F0
  obtain ⟨R, hR⟩ : ∃ R, grL first l = R := ⟨_, rfl⟩
  rw [hR]
  have HRR := Lib.hid hR
  have HA := Lib.hid hA
  have HF := Lib.hid hf
  have HL := Lib.hid hl
  clear F0 hR hA hf hl
  go_enter Try.func79, Try.ntmps79
  go_upto_block 0 with fail
  try rw [hs]
  generalize ((w.alloc (.cells #[.int .i64 first.1, .int .i64 first.2] 37)).alloc (.cells #[.int .i64 0, .int .i64 0] 37)) = W1 at *
  refine wp_block ?_
  go_loopw [9] (fun i wr => ∃ k : Nat, i = .int .i64 (k : Nat) ∧ k ≤ l.length ∧ Fr w (s + 1 + 1) [(s, 37, #[.int .i64 (grL first (l.take k)).1, .int .i64 (grL first (l.take k)).2]), (s + 1, 37, #[.int .i64 0, .int .i64 0])] wr) (fun i _ => l.length - (intOf i).toNat)
  case atStart => exact ⟨0, rfl, by omega, HI0.out⟩
  case round =>
    obtain ⟨k, rfl, hk, hI⟩ := hrel
    have HI := Lib.hid hI
    clear HI0 hI
    by_cases hkl : k < l.length
    · have t1 : decide (k < l.length) = true := by simpa using hkl
      obtain ⟨b, o, rfl, hb, hc⟩ := (HA.out.aft HI.out.aft).at hkl
      obtain ⟨x1, x2⟩ := hc k hkl
      have HT := Lib.hid (grL_take first l k hkl)
      have hr1 := HL.out _ (List.getElem_mem hkl)
      have hr2 : RatS (grL first (l.take k)) := HF.out.grL fun r hr => HL.out r (List.mem_of_mem_take hr)
      obtain ⟨r, hr⟩ : ∃ r, l[k] = r := ⟨_, rfl⟩
      obtain ⟨g, hg⟩ : ∃ g, grL first (l.take k) = g := ⟨_, rfl⟩
      rw [hr] at x1 x2 HT hr1
      rw [hg] at HT hr2 HI
      clear hr hg hc
      have HI2 := Lib.hid (HI.out.later (Aft.alloc wr (.cells #[.int .i64 r.1, .int .i64 r.2] 37)))
      have y0 := (HI.out.nth 0 rfl).cell 0
      have y1 := (HI.out.nth 0 rfl).cell 1
      have y2 := (HI.out.nth 0 rfl).lt
      have y3 := (HI.out.nth 0 rfl).frozen 0
      have y4 := (HI.out.nth 0 rfl).frozen 1
      simp only [List.getElem?_toArray, List.getElem?_cons_zero, List.getElem?_cons_succ] at y0 y1
      obtain ⟨p1, p1'⟩ := prod_le hr1.n0 hr1.n1 hr2.d0 hr2.d1
      obtain ⟨p2, p2'⟩ := prod_le hr2.n0 hr2.n1 hr1.d0 hr1.d1
      have e1 : IntKind.i64.wrap (r.1 * g.2) = r.1 * g.2 := IntWalk.i64_in _ (by omega)
      have e2 : IntKind.i64.wrap (g.1 * r.2) = g.1 * r.2 := IntWalk.i64_in _ (by omega)
      clear hr1 hr2
      by_cases hm : g.1 * r.2 < r.1 * g.2
      · have t2 : decide (g.1 * r.2 < r.1 * g.2) = true := by simpa using hm
        have HT2 : Hid (grL first (l.take (k + 1)) = r) := Lib.hid (by rw [HT.out]; unfold gr2 moreB; rw [if_pos (by simpa using hm)])
        clear hm
        go_wp2_with fail
        exact ⟨⟨k + 1, by go_num, by omega, by rw [HT2.out]; exact ((HI.out.store (g := s) (t := 37) (cs := #[.int .i64 g.1, .int .i64 g.2]) (by simp) 0 (.int .i64 r.1) (bs' := [(s, 37, #[.int .i64 r.1, .int .i64 g.2]), (s + 1, 37, #[.int .i64 0, .int .i64 0])]) (by simp)).store (g := s) (t := 37) (cs := #[.int .i64 r.1, .int .i64 g.2]) (by simp) 1 (.int .i64 r.2) (bs' := [(s, 37, #[.int .i64 r.1, .int .i64 r.2]), (s + 1, 37, #[.int .i64 0, .int .i64 0])]) (by simp)).later (Aft.alloc _ _)⟩, by simp [intOf]; omega⟩
      · have t2 : decide (g.1 * r.2 < r.1 * g.2) = false := by simpa using hm
        have HT2 : Hid (grL first (l.take (k + 1)) = g) := Lib.hid (by rw [HT.out]; unfold gr2 moreB; rw [if_neg (by simpa using hm)])
        clear hm
        go_wp2_with fail
        exact ⟨⟨k + 1, by go_num, by omega, by rw [HT2.out]; exact HI2.out⟩, by simp [intOf]; omega⟩
    · have t1 : decide (k < l.length) = false := by simpa using hkl
      have ek : l.take k = l := List.take_of_length_le (by omega)
      rw [ek, HRR.out] at HI
      have y0 := (HI.out.nth 0 rfl).cell 0
      have y1 := (HI.out.nth 0 rfl).cell 1
      have y2 := (HI.out.nth 0 rfl).lt
      have z0 := (HI.out.nth 1 rfl).cell 0
      have z1 := (HI.out.nth 1 rfl).cell 1
      have z2 := (HI.out.nth 1 rfl).lt
      have z3 := (HI.out.nth 1 rfl).frozen 0
      have z4 := (HI.out.nth 1 rfl).frozen 1
      simp only [List.getElem?_toArray, List.getElem?_cons_zero, List.getElem?_cons_succ] at y0 y1 z0 z1
      clear ek
      go_wp2_with fail
      have B2 := ((HI.out.nth 1 rfl).store 0 (.int .i64 R.1)).store 1 (.int .i64 R.2)
      have A2 := (HI.out.aft.then_setCell (p := ⟨s + 1, 0, none⟩) (by show w.heap.size ≤ s + 1; omega) (.int .i64 R.1)).then_setCell (p := ⟨s + 1, 1, none⟩) (by show w.heap.size ≤ s + 1; omega) (.int .i64 R.2)
      generalize (wr.setCell ⟨s + 1, 0, none⟩ (.int .i64 R.1)).setCell ⟨s + 1, 1, none⟩ (.int .i64 R.2) = X at *
      have z0 : X.cell? ⟨s + 1, 0, none⟩ = some (.int .i64 R.1) := B2.cell 0
      have z1 : X.cell? ⟨s + 1, 1, none⟩ = some (.int .i64 R.2) := B2.cell 1
      exact bodyPost_ret (v := .agg #[.int .i64 R.1, .int .i64 R.2]) (by simp [results, Try.results79, go_sem, z0, z1]) rfl ⟨rfl, A2⟩
end Go.Proofs
end

section
/- Words: what rounds prove. -/
namespace Go.Proofs
open Go.RowKit
open Sheet (sumN IsWalk)

theorem sumN_take {J : List Sheet.Jo} {l : List (Nat × Bool)} {k : Nat} (h : k < l.length) : sumN J (l.take (k + 1)) = sumN J (l.take k) + Sheet.num J l[k] := by
  rw [List.take_succ_eq_append_getElem h, Sheet.sumN_append]
  simp [sumN]
theorem sumN_le {S : SetL} {north : Bool} (hS : SetOk S) : ∀ {l : List (Nat × Bool)}, (∀ g ∈ l, g.1 < S.J.length) → -(1000000 * (l.length : Int)) ≤ sumN (joOf north S.J) l ∧ sumN (joOf north S.J) l ≤ 1000000 * (l.length : Int)
  | [], _ => by simp [sumN]
  | g :: r, h => by
    have h1 := sumN_le (north := north) hS (l := r) (fun x hx => h x (by simp [hx]))
    have hg := h g (by simp)
    have h2 := num_le (north := north) hS hg
    rw [← num_of (north := north) hg] at h2
    simp only [sumN, List.length_cons]
    omega
theorem IsWalk.ok {J : List Sheet.Jo} : ∀ {a b : Nat} {l : List (Nat × Bool)}, IsWalk J a l b → ∀ g ∈ l, g.1 < J.length
  | _, _, [], _, g, hg => by cases hg
  | _, _, x :: r, ⟨h1, _, h3⟩, g, hg => by
    rcases List.mem_cons.1 hg with rfl | hg
    · exact h1
    · exact IsWalk.ok h3 g hg
theorem low_le {n d : Int} (hn : 0 ≤ n) (hd : 0 < d) : 0 ≤ (Sheet.low n d).1 ∧ (Sheet.low n d).1 ≤ n ∧ 1 ≤ (Sheet.low n d).2 ∧ (Sheet.low n d).2 ≤ d := by
  obtain ⟨g, g0, h1, h2, h3, -⟩ := Sheet.low_facts n d hd
  generalize Sheet.low n d = x at *
  have e1 : x.1 ≤ x.1 * g := by
    by_cases h : 0 ≤ x.1
    · have := Int.mul_le_mul_of_nonneg_left (show 1 ≤ g by omega) h
      omega
    · omega
  have e2 : x.2 ≤ x.2 * g := by
    have := Int.mul_le_mul_of_nonneg_left (show 1 ≤ g by omega) (Int.le_of_lt h3)
    omega
  have e3 : 0 ≤ x.1 := by
    refine Int.not_lt.1 fun h => ?_
    have := Int.mul_neg_of_neg_of_pos h g0
    omega
  omega
theorem low_low (n d : Int) (hd : 0 < d) : Sheet.low (Sheet.low n d).1 (Sheet.low n d).2 = Sheet.low n d := by
  obtain ⟨g, g0, h1, h2, h3, h4⟩ := Sheet.low_facts n d hd
  generalize Sheet.low n d = x at *
  unfold Sheet.low
  rw [h4]
  simp
/-- The least play one way, in lowest terms. -/
structure LP (S : SetL) (north : Bool) (p : Int × Int) : Prop where
  least : Sheet.Least (Sheet.legs (joOf north S.J)) p.1 p.2
  low : Sheet.low p.1 p.2 = p
  n1 : p.1 ≤ 12000000
  d1 : p.2 ≤ 12
theorem LP.same {S : SetL} {north : Bool} {p q : Int × Int} (h : LP S north p) (h' : LP S north q) : p = q := by
  rw [← h.low, ← h'.low]
  exact h.least.low h'.least
/-- A round that proves a play. -/
def RoundP (S : SetL) (north : Bool) (l : List (Nat × Bool)) (p : Int × Int) : Prop := 0 < l.length ∧ l.length ≤ 12 ∧ (∃ c, IsWalk (joOf north S.J) c l c) ∧ sumN (joOf north S.J) l < 0 ∧ p = Sheet.low (-(sumN (joOf north S.J) l)) l.length
end Go.Proofs
end

section
/- Walks: mean, least. -/
namespace Go.Proofs
open Go.RowKit
open Sheet (sumN IsWalk)
attribute [local go_sem] Oper.semAt_some

set_option maxRecDepth 100000 in
set_option maxHeartbeats 2000000 in
theorem mean_any {kw : FuncId} {north : Bool} (hK : WayOk kw north) (S : SetL) (A : Option Addr) (c d : Nat) (ap : Nat → Int) (bf : Nat → Nat × Bool) (w0 w : World) (hW : WorkAt w0 w d S A c ap bf) (hS : SetOk S) (l : List (Nat × Bool)) (Al : Option Addr) (cl : Nat)
    (hA : Gs w Al (l.map legI)) (hl : ∀ g ∈ l, g.1 < S.J.length) (hl1 : 0 < l.length) (hl2 : l.length ≤ 60) :
    Calls Try.prog 88 #[.pointer (some ⟨d, 0, none⟩), .slice Al l.length cl, .agg #[.func (.func kw) #[] #[]]] w fun e w' => e = .returned (.agg #[.int .i64 (Sheet.low (sumN (joOf north S.J) l).natAbs l.length).1, .int .i64 (Sheet.low (sumN (joOf north S.J) l).natAbs l.length).2]) ∧ Aft w w' := by
  obtain ⟨s, hs⟩ : ∃ s, w.heap.size = s := ⟨_, rfl⟩
  have F0 := ((Fr.start w).alloc rfl 113 #[.func (.func kw) #[] #[]]).alloc (by simp) 37 #[.int .i64 0, .int .i64 0]
  simp only [List.nil_append, List.cons_append] at F0
  rw [hs] at F0
  have hts := sumN_le (north := north) hS hl
  obtain ⟨T, hT⟩ : ∃ T, sumN (joOf north S.J) l = T := ⟨_, rfl⟩
  rw [hT] at hts ⊢
  have HTT := Lib.hid hT
  have HRT := Lib.hid fun W => ratio_any (T.natAbs : Int) l.length W (by omega) (by omega) ⟨by omega, by omega⟩
  obtain ⟨R, hR⟩ : ∃ R, Sheet.low (T.natAbs : Int) l.length = R := ⟨_, rfl⟩
  rw [hR] at HRT ⊢
  have hmx : (if T < -T then -T else T) = (T.natAbs : Int) := by split <;> omega
  have HMX := Lib.hid hmx
  have hlen : (l.map legI).length = l.length := by simp
  have HF0 := Lib.hid F0
  have HA := Lib.hid hA
  have HL := Lib.hid hl
  have HS := Lib.hid hS
  have HKW := Lib.hid hK
  have HW := Lib.hid hW
  have HLEN := Lib.hid hlen
  clear F0 hA hl hS hK hW hT hR hmx hlen
  go_enter Try.func88, Try.ntmps88
  go_upto_block 0 with fail
  try rw [hs]
  generalize ((w.alloc (.cells #[.func (.func kw) #[] #[]] 113)).alloc (.cells #[.int .i64 0, .int .i64 0] 37)) = W1 at *
  refine wp_block ?_
  go_loopw [7, 12] (fun sm i wr => ∃ k : Nat, i = .int .i64 (k : Nat) ∧ k ≤ l.length ∧ sm = .int .i64 (sumN (joOf north S.J) (l.take k)) ∧ Fr w (s + 1 + 1) [(s, 113, #[.func (.func kw) #[] #[]]), (s + 1, 37, #[.int .i64 0, .int .i64 0])] wr) (fun _ i _ => l.length - (intOf i).toNat)
  case atStart => exact ⟨0, rfl, by omega, rfl, HF0.out⟩
  case round =>
    obtain ⟨k, rfl, hk, rfl, hI⟩ := hrel
    have HI := Lib.hid hI
    clear HF0 hI
    by_cases hkl : k < l.length
    · have t1 : decide (k < l.length) = true := by simpa using hkl
      have hkl' : k < (l.map legI).length := by rw [HLEN.out]; exact hkl
      obtain ⟨b, o, rfl, hb, hc⟩ := (HA.out.aft HI.out.aft).at hkl'
      obtain ⟨x1, x2⟩ := hc k hkl'
      have hg := HL.out _ (List.getElem_mem hkl)
      have HT := Lib.hid (sumN_take (J := joOf north S.J) hkl)
      have hsl := sumN_le (north := north) HS.out (l := l.take k) (fun g hg => HL.out g (List.mem_of_mem_take hg))
      have htl : (l.take k).length = k := by rw [List.length_take]; omega
      rw [htl] at hsl
      have hnl := num_le (north := north) HS.out hg
      have hnu := num_of (north := north) (g := l[k]) hg
      have ele : (l.map legI)[k] = legI l[k] := by simp
      rw [ele] at x1 x2
      obtain ⟨⟨g, bk⟩, hgb⟩ : ∃ y, l[k] = y := ⟨_, rfl⟩
      have HNU := Lib.hid (fun W (ha : Aft w W) => number_any HKW.out S A c d ap bf w0 W l[k].1 l[k].2 (HW.out.later ha) hg (way_le HS.out north))
      rw [← hnu] at HNU hnl
      obtain ⟨nm, hnm⟩ : ∃ nm, Sheet.num (joOf north S.J) l[k] = nm := ⟨_, rfl⟩
      rw [hnm] at HNU HT hnl
      obtain ⟨sm, hsm⟩ : ∃ sm, sumN (joOf north S.J) (l.take k) = sm := ⟨_, rfl⟩
      rw [hsm] at HT hsl ⊢
      rw [hgb] at x1 x2 HNU
      unfold legI at x1 x2
      dsimp only at x1 x2 HNU
      clear hc hg htl hnu ele hgb hnm hsm hkl'
      have HI2 := Lib.hid (HI.out.later (Aft.alloc wr (.cells #[.int .i64 (g : Nat), .bool bk] 120)))
      have y0 := (HI.out.nth 0 rfl).cell 0
      have y2 := (HI.out.nth 0 rfl).lt
      simp only [List.getElem?_toArray, List.getElem?_cons_zero, List.getElem?_cons_succ] at y0
      go_wp2_with (go_at_call 105; refine (HNU.out _ HI2.out.aft).mono ?_; rintro e w7 ⟨rfl, u, rfl⟩)
      exact ⟨⟨k + 1, by go_num, by omega, by rw [HT.out], HI2.out.later (Aft.lat _ _)⟩, by simp [intOf]; omega⟩
    · have t1 : decide (k < l.length) = false := by simpa using hkl
      have ek : l.take k = l := List.take_of_length_le (by omega)
      rw [ek, HTT.out]
      have z0 := (HI.out.nth 1 rfl).cell 0
      have z1 := (HI.out.nth 1 rfl).cell 1
      have z2 := (HI.out.nth 1 rfl).lt
      have z3 := (HI.out.nth 1 rfl).frozen 0
      have z4 := (HI.out.nth 1 rfl).frozen 1
      simp only [List.getElem?_toArray, List.getElem?_cons_zero, List.getElem?_cons_succ] at z0 z1
      clear ek
      go_wp2_with (go_at_call 49; rw [HMX.out]; refine (HRT.out _).mono ?_; rintro e w7 ⟨rfl, u, rfl⟩)
      have B2 := (((HI.out.nth 1 rfl).lat u).store 0 (.int .i64 R.1)).store 1 (.int .i64 R.2)
      have A2 := ((HI.out.aft.then_lat u).then_setCell (p := ⟨s + 1, 0, none⟩) (by show w.heap.size ≤ s + 1; omega) (.int .i64 R.1)).then_setCell (p := ⟨s + 1, 1, none⟩) (by show w.heap.size ≤ s + 1; omega) (.int .i64 R.2)
      generalize ((wr.lat u).setCell ⟨s + 1, 0, none⟩ (.int .i64 R.1)).setCell ⟨s + 1, 1, none⟩ (.int .i64 R.2) = X at *
      have z0 : X.cell? ⟨s + 1, 0, none⟩ = some (.int .i64 R.1) := B2.cell 0
      have z1 : X.cell? ⟨s + 1, 1, none⟩ = some (.int .i64 R.2) := B2.cell 1
      exact bodyPost_ret (v := .agg #[.int .i64 R.1, .int .i64 R.2]) (by simp [results, Try.results88, go_sem, z0, z1]) rfl ⟨rfl, A2⟩
/-- What reckon yields is a slice. -/
theorem ReckR.val {w0 w : World} {d : Nat} {S : SetL} {A : Option Addr} {c : Nat} {north : Bool} {D N : Int} {e : Ending} {w' : World} (h : ReckR w0 w d S A c north D N e w') : ∃ A9 n9 c9, e = .returned (.slice A9 n9 c9) ∧ ∃ ap' bf', w.grownBy w' (some d) ∧ WorkAt w0 w' d S A c ap' bf' ∧
    ((A9 = none ∧ n9 = 0 ∧ c9 = 0 ∧ ∀ a, a < S.n.toNat → RowDone S north D N ap' a) ∨ ∃ g l, A9 = some ⟨g, 0, none⟩ ∧ n9 = l.length ∧ w'.ownsRow w.heap.size 120 2 (.slice (some ⟨g, 0, none⟩) l.length c9) l.length ((l.map legI).flatMap encG) ∧ Sheet.Clash S.n.toNat (joOf north S.J) D N l) := by
  obtain ⟨ap', bf', h1, h2, h3⟩ := h
  rcases h3 with ⟨rfl, hn⟩ | ⟨g, c, l, rfl, h4, h5⟩
  · exact ⟨_, _, _, rfl, ap', bf', h1, h2, .inl ⟨rfl, rfl, rfl, hn⟩⟩
  · exact ⟨_, _, _, rfl, ap', bf', h1, h2, .inr ⟨g, l, rfl, rfl, h4, h5⟩⟩
theorem calms_of {S : SetL} {north : Bool} {D N : Int} {ap : Nat → Int} (h : ∀ a, a < S.n.toNat → RowDone S north D N ap a) : Sheet.Calms S.n.toNat (joOf north S.J) D N (fun a => rowOf S.n.toNat ap a) := h
/-- Who proves the play, if it is not 0. -/
def WorstV (w : World) (S : SetL) (north : Bool) (v7 : Value) (N D : Int) (W : World) : Prop :=
  (N = 0 ∧ v7 = .slice none 0 0) ∨ ∃ g c l, v7 = .slice (some ⟨g, 0, none⟩) l.length c ∧ W.ownsRow w.heap.size 120 2 (.slice (some ⟨g, 0, none⟩) l.length c) l.length ((l.map legI).flatMap encG) ∧ RoundP S north l (N, D)
theorem WorstV.grown {w W W' : World} {S : SetL} {north : Bool} {v7 : Value} {N D : Int} (h : WorstV w S north v7 N D W) {r : Nat} (hg : W.grownBy W' (some r)) (hr : r < w.heap.size) : WorstV w S north v7 N D W' := by
  rcases h with h | ⟨g, c, l, h1, h2, h3⟩
  · exact .inl h
  · exact .inr ⟨g, c, l, h1, own_sm h2 (Sm.of_grown (b := w.heap.size) hg (fun k e => by cases e; exact .inl hr)) (Nat.le_refl _), h3⟩
theorem WorstV.sm {w W W' : World} {S : SetL} {north : Bool} {v7 : Value} {N D : Int} (h : WorstV w S north v7 N D W) (hs : Sm w.heap.size W W') : WorstV w S north v7 N D W' := by
  rcases h with h | ⟨g, c, l, h1, h2, h3⟩
  · exact .inl h
  · exact .inr ⟨g, c, l, h1, own_sm h2 hs (Nat.le_refl _), h3⟩
theorem WorstV.other {w W W' : World} {S : SetL} {north : Bool} {v7 : Value} {N D : Int} (h : WorstV w S north v7 N D W) {r : Nat} {t : TypeId} {cs : Array Value} (hg : W.grownBy W' (some r)) (hb : Blk W r t cs) (hne : 120 ≠ t) : WorstV w S north v7 N D W' := by
  rcases h with h | ⟨g, c, l, h1, h2, h3⟩
  · exact .inl h
  · exact .inr ⟨g, c, l, h1, own_other h2 hg hb hne, h3⟩
structure LeI (w0 w : World) (d s : Nat) (kw : FuncId) (S : SetL) (A : Option Addr) (c : Nat) (north : Bool) (N D : Int) (v7 : Value) (ap : Nat → Int) (bf : Nat → Nat × Bool) (W : World) : Prop where
  fr : FrD w d (s + 1 + 1 + 1) [(s, 113, #[.func (.func kw) #[] #[]]), (s + 1, 37, #[.int .i64 0, .int .i64 0]), (s + 1 + 1, 37, #[.int .i64 N, .int .i64 D])] [] W
  wk : WorkAt w0 W d S A c ap bf
  pr : Sheet.Proved (Sheet.legs (joOf north S.J)) S.n.toNat N D
  n1 : N ≤ 12000000
  low : Sheet.low N D = (N, D)
  ws : WorstV w S north v7 N D W
theorem LeI.play {w0 w : World} {d s : Nat} {kw : FuncId} {S : SetL} {A : Option Addr} {c : Nat} {north : Bool} {N D : Int} {v7 : Value} {ap : Nat → Int} {bf : Nat → Nat × Bool} {W : World} (h : LeI w0 w d s kw S A c north N D v7 ap bf W) (hn : S.n.toNat ≤ 12) : PlayOk N D ∧ D ≤ 12 := by
  have h1 := (h.pr.part hn).2.2
  have := h.pr.1
  have := h.pr.2.1
  have := h.n1
  exact ⟨⟨by omega, by omega, by omega, by omega⟩, h1⟩
def cellI (W : World) (p : Addr) : Int := match W.cell? p with | some (.int _ n) => n | _ => 0
theorem cellI_of {W : World} {p : Addr} {n : Int} (h : W.cell? p = some (.int .i64 n)) : cellI W p = n := by unfold cellI; rw [h]
/-- What least leaves. -/
def LeastR (w0 w : World) (d : Nat) (S : SetL) (A : Option Addr) (c : Nat) (north : Bool) (e : Ending) (w' : World) : Prop :=
  ∃ N D v7 ap' bf', e = .returned (.tuple #[.agg #[.int .i64 N, .int .i64 D], v7]) ∧ w.grownBy w' (some d) ∧ WorkAt w0 w' d S A c ap' bf' ∧ LP S north (N, D) ∧ WorstV w S north v7 N D w'

set_option maxRecDepth 100000 in
set_option maxHeartbeats 4000000 in
theorem least_any {kw : FuncId} {north : Bool} (hK : WayOk kw north) (S : SetL) (A : Option Addr) (c d : Nat) (ap : Nat → Int) (bf : Nat → Nat × Bool) (w0 w : World) (hW : WorkAt w0 w d S A c ap bf) (hS : SetOk S) :
    Calls Try.prog 80 #[.pointer (some ⟨d, 0, none⟩), .agg #[.func (.func kw) #[] #[]]] w (LeastR w0 w d S A c north) := by
  obtain ⟨s, hs⟩ : ∃ s, w.heap.size = s := ⟨_, rfl⟩
  have hn1 := hS.n1
  have hn2 := hS.n2
  have hn12 : S.n.toNat ≤ 12 := by omega
  have hds : d < s := hs ▸ hW.lt
  have F0 := (((FrD.start w hW.lt).alloc rfl 113 #[.func (.func kw) #[] #[]]).alloc (by simp) 37 #[.int .i64 0, .int .i64 0]).alloc (by simp) 37 #[.int .i64 0, .int .i64 1]
  simp only [List.nil_append, List.cons_append] at F0
  rw [hs] at F0
  have HI0 : Hid (LeI w0 w d s kw S A c north 0 1 (.slice none 0 0) ap bf (((w.alloc (.cells #[.func (.func kw) #[] #[]] 113)).alloc (.cells #[.int .i64 0, .int .i64 0] 37)).alloc (.cells #[.int .i64 0, .int .i64 1] 37))) := Lib.hid ⟨F0, hW.later (((Aft.alloc w _).then_alloc _).then_alloc _), Sheet.Proved.start _ _, by decide, by decide, .inl ⟨rfl, rfl⟩⟩
  have HS := Lib.hid hS
  have HKW := Lib.hid hK
  have hw0s := hW.aft.size
  have qE : ∀ (w : World) (a : Option Addr) (n c n' c' : Nat), (binOp .eql 103 (.slice a n c) (.slice none n' c')).run Try.prog w = .ok (.bool a.isNone) w := fun w a n c n' c' => Lib.run_eql_slice_nil w _ _ a n c n' c' Try.underlying103
  clear F0 hS hK hW
  go_enter Try.func80, Try.ntmps80
  go_wp2_with fail
  refine wp_scope_straight ?_
  go_wp2_with fail
  refine wp_label ?_
  go_wp2_with fail
  try rw [hs]
  generalize ((w.alloc (.cells #[.func (.func kw) #[] #[]] 113)).alloc (.cells #[.int .i64 0, .int .i64 0] 37)).alloc (.cells #[.int .i64 0, .int .i64 1] 37) = W1 at *
  obtain ⟨J, hJ⟩ : ∃ J : Act → World → Prop, J = fun a9 W => ∃ (u8 u10 u11 u12 u13 u14 u15 u16 u17 u18 u19 u20 u21 u22 v7 : Value) (N D : Int) (ap' : Nat → Int) (bf' : Nat → Nat × Bool), a9 = { tmps := #[.pointer (some ⟨d, 0, none⟩), .agg #[.func (.func kw) #[] #[]], undef, .pointer (some ⟨s, 0, none⟩), .pointer (some ⟨s + 1, 0, none⟩), .slice none 0 0, .pointer (some ⟨s + 1 + 1, 0, none⟩), v7, u8, .agg #[.int .i64 0, .int .i64 1], u10, u11, u12, u13, u14, u15, u16, u17, u18, u19, u20, u21, u22], defers := [] } ∧ LeI w0 w d s kw S A c north N D v7 ap' bf' W := ⟨_, rfl⟩
  obtain ⟨mu, hmu⟩ : ∃ mu : Act → World → Nat, mu = fun _ W => (400000000000 - Sheet.ahead (cellI W ⟨s + 1 + 1, 0, none⟩) (cellI W ⟨s + 1 + 1, 1, none⟩)).toNat := ⟨_, rfl⟩
  refine wp_loop J mu (by rw [hJ]; exact ⟨_, _, _, _, _, _, _, _, _, _, _, _, _, _, _, 0, 1, ap, bf, rfl, HI0.out⟩) ?_
  intro a9 wr hrel
  rw [hJ] at hrel
  have HJ := Lib.hid hJ
  have HMU := Lib.hid hmu
  clear hJ hmu HI0
  obtain ⟨u8, u10, u11, u12, u13, u14, u15, u16, u17, u18, u19, u20, u21, u22, v7, N, D, ap', bf', rfl, hi⟩ := hrel
  have HI := Lib.hid hi
  have HPL := Lib.hid (hi.play hn12)
  have HRK := Lib.hid (reckon_any HKW.out S A c d ap' bf' w0 wr hi.wk HS.out N D HPL.out.1)
  have y1 : wr.cell? ⟨s, 0, none⟩ = some (.func (.func kw) #[] #[]) := (hi.fr.nth 0 rfl).cell 0
  have y2 := (hi.fr.nth 0 rfl).lt
  have y3 : wr.cell? ⟨s + 1 + 1, 0, none⟩ = some (.int .i64 N) := (hi.fr.nth 2 rfl).cell 0
  have y4 : wr.cell? ⟨s + 1 + 1, 1, none⟩ = some (.int .i64 D) := (hi.fr.nth 2 rfl).cell 1
  have y5 := (hi.fr.nth 2 rfl).lt
  have HM0 : Hid (mu { tmps := #[.pointer (some ⟨d, 0, none⟩), .agg #[.func (.func kw) #[] #[]], undef, .pointer (some ⟨s, 0, none⟩), .pointer (some ⟨s + 1, 0, none⟩), .slice none 0 0, .pointer (some ⟨s + 1 + 1, 0, none⟩), v7, u8, .agg #[.int .i64 0, .int .i64 1], u10, u11, u12, u13, u14, u15, u16, u17, u18, u19, u20, u21, u22], defers := [] } wr = (400000000000 - Sheet.ahead N D).toNat) := Lib.hid (by rw [HMU.out]; dsimp only; rw [cellI_of y3, cellI_of y4])
  clear hi
  go_upto_region 4 with (go_at_call 48; refine HRK.out.mono ?_; rintro e W7 hfin; obtain ⟨A9, n9, c9, rfl, ap7, bf7, hg7, hw7, hfin2⟩ := hfin.val; have HG7 := Lib.hid hg7; have HW7 := Lib.hid hw7; have HFIN := Lib.hid hfin2; clear hfin hfin2 hg7 hw7)
  clear y1 y2 y3 y4 y5 HRK
  have HFR := Lib.hid (HI.out.fr.grown HG7.out (.inl rfl))
  have HWS := Lib.hid (HI.out.ws.grown HG7.out (by omega))
  rcases HFIN.out with ⟨rfl, rfl, rfl, hdone⟩ | ⟨g7, l7, rfl, rfl, ho7, hcl7⟩
  · have HLP : Hid (LP S north (N, D)) := Lib.hid ⟨HI.out.pr.least ((calms_of hdone).most (HS.out.ok north)), HI.out.low, HI.out.n1, HPL.out.2⟩
    have y3 : W7.cell? ⟨s + 1 + 1, 0, none⟩ = some (.int .i64 N) := (HFR.out.nth 2 rfl).cell 0
    have y4 : W7.cell? ⟨s + 1 + 1, 1, none⟩ = some (.int .i64 D) := (HFR.out.nth 2 rfl).cell 1
    have y5 := (HFR.out.nth 2 rfl).lt
    have z0 := (HFR.out.nth 1 rfl).cell 0
    have z1 := (HFR.out.nth 1 rfl).cell 1
    have z2 := (HFR.out.nth 1 rfl).lt
    have z3 := (HFR.out.nth 1 rfl).frozen 0
    have z4 := (HFR.out.nth 1 rfl).frozen 1
    simp only [List.getElem?_toArray, List.getElem?_cons_zero, List.getElem?_cons_succ] at z0 z1
    clear hdone HFIN HM0
    go_wp2_with fail
    simp only [Exit.noGoto_ret, Exit.inBlock, Exit.then]
    have hg9 : W7.grownBy ((W7.setCell ⟨s + 1, 0, none⟩ (.int .i64 N)).setCell ⟨s + 1, 1, none⟩ (.int .i64 D)) (some (s + 1)) := only_setCell (only_setCell (only_refl _ _) (p := ⟨s + 1, 0, none⟩) (.inl rfl) _) (p := ⟨s + 1, 1, none⟩) (.inl rfl) _
    have B2 := ((HFR.out.nth 1 rfl).store 0 (.int .i64 N)).store 1 (.int .i64 D)
    generalize (W7.setCell ⟨s + 1, 0, none⟩ (.int .i64 N)).setCell ⟨s + 1, 1, none⟩ (.int .i64 D) = X at *
    have z0 : X.cell? ⟨s + 1, 0, none⟩ = some (.int .i64 N) := B2.cell 0
    have z1 : X.cell? ⟨s + 1, 1, none⟩ = some (.int .i64 D) := B2.cell 1
    refine bodyPost_ret (v := .tuple #[.agg #[.int .i64 N, .int .i64 D], v7]) (by simp [results, Try.results80, go_sem, z0, z1]) rfl ⟨N, D, v7, ap7, bf7, rfl, only_trans2 HFR.out.grow hg9 (.inr (by omega)), HW7.out.grown hg9 (fun e => by have e : d = s + 1 := Option.some.inj e; omega) (fun k e => by have e : s + 1 = k := Option.some.inj e; omega), HLP.out, ?_⟩
    exact HWS.out.other hg9 (HFR.out.nth 1 rfl) (by decide)
  · have HST := Lib.hid (Sheet.least_step HI.out.pr hcl7)
    obtain ⟨hc1, hc2, q0, hq0, hc3⟩ := hcl7
    have HWQ := Lib.hid hq0
    have hok := IsWalk.ok hq0
    rw [joOf_len] at hok
    have hsl := sumN_le (north := north) HS.out hok
    obtain ⟨A8, c8, hA8, _, hrow8, _⟩ := own_flat (enc := encG) (l := l7.map legI) (fun _ => rfl) (by rw [List.length_map]; exact ho7) (by rw [List.length_map]; omega)
    rw [List.length_map] at hA8
    cases hA8
    have HMN := Lib.hid (mean_any HKW.out S A c d ap7 bf7 w0 W7 HW7.out HS.out l7 _ c9 hrow8 hok hc1 (by omega))
    have hneg := HST.out.1
    have hna : (((sumN (joOf north S.J) l7).natAbs : Nat) : Int) = -(sumN (joOf north S.J) l7) := by omega
    rw [hna] at HMN
    have hln := low_le (n := -(sumN (joOf north S.J) l7)) (d := l7.length) (by omega) (by omega)
    have hll := low_low (-(sumN (joOf north S.J) l7)) l7.length (by omega)
    have HRP : Hid (RoundP S north l7 (Sheet.low (-(sumN (joOf north S.J) l7)) l7.length)) := Lib.hid ⟨hc1, by omega, ⟨q0, hq0⟩, hneg, rfl⟩
    obtain ⟨⟨N2, D2⟩, hND⟩ : ∃ p, Sheet.low (-(sumN (joOf north S.J) l7)) l7.length = p := ⟨_, rfl⟩
    rw [hND] at HMN hln hll HRP HST
    dsimp only at HMN hln hll
    have hN2 : N2 ≤ 12000000 := by omega
    have HLL := Lib.hid hll
    have HO7 := Lib.hid ho7
    have z0 : W7.cell? ⟨s + 1 + 1, 0, none⟩ = some (.int .i64 N) := (HFR.out.nth 2 rfl).cell 0
    have z1 : W7.cell? ⟨s + 1 + 1, 1, none⟩ = some (.int .i64 D) := (HFR.out.nth 2 rfl).cell 1
    have z2 := (HFR.out.nth 2 rfl).lt
    have z3 := (HFR.out.nth 2 rfl).frozen 0
    have z4 := (HFR.out.nth 2 rfl).frozen 1
    have y1 : W7.cell? ⟨s, 0, none⟩ = some (.func (.func kw) #[] #[]) := (HFR.out.nth 0 rfl).cell 0
    have y2 := (HFR.out.nth 0 rfl).lt
    clear hq0 hc3 hsl hrow8 hna hND ho7 HFIN hok hll
    go_wp2_with (go_at_call 88; refine HMN.out.mono ?_; rintro e W8 ⟨rfl, u8, rfl⟩)
    clear z0 z1 z2 z3 z4 y1 y2
    have hg9 : (W7.lat u8).grownBy (((W7.lat u8).setCell ⟨s + 1 + 1, 0, none⟩ (.int .i64 N2)).setCell ⟨s + 1 + 1, 1, none⟩ (.int .i64 D2)) (some (s + 1 + 1)) := only_setCell (only_setCell (only_refl _ _) (p := ⟨s + 1 + 1, 0, none⟩) (.inl rfl) _) (p := ⟨s + 1 + 1, 1, none⟩) (.inl rfl) _
    have ha8 : Aft W7 (W7.lat u8) := ⟨u8, rfl⟩
    have F9 := ((HFR.out.later ha8).store (g := s + 1 + 1) (t := 37) (cs := #[.int .i64 N, .int .i64 D]) (by simp) 0 (.int .i64 N2) (bs' := [(s, 113, #[.func (.func kw) #[] #[]]), (s + 1, 37, #[.int .i64 0, .int .i64 0]), (s + 1 + 1, 37, #[.int .i64 N2, .int .i64 D])]) (by simp; omega)).store (g := s + 1 + 1) (t := 37) (cs := #[.int .i64 N2, .int .i64 D]) (by simp) 1 (.int .i64 D2) (bs' := [(s, 113, #[.func (.func kw) #[] #[]]), (s + 1, 37, #[.int .i64 0, .int .i64 0]), (s + 1 + 1, 37, #[.int .i64 N2, .int .i64 D2])]) (by simp; omega)
    have W9k := (HW7.out.later ha8).grown hg9 (fun e => by have e : d = s + 1 + 1 := Option.some.inj e; omega) (fun k e => by have e : s + 1 + 1 = k := Option.some.inj e; omega)
    have O9 := own_other (own_aft (World.ownsRow.mono HO7.out HI.out.fr.grow.size) ha8) hg9 ((HFR.out.later ha8).nth 2 rfl) (by decide)
    generalize ((W7.lat u8).setCell ⟨s + 1 + 1, 0, none⟩ (.int .i64 N2)).setCell ⟨s + 1 + 1, 1, none⟩ (.int .i64 D2) = X at *
    have HL2 : Hid (LeI w0 w d s kw S A c north N2 D2 (.slice (some ⟨g7, 0, none⟩) l7.length c9) ap7 bf7 X) := Lib.hid ⟨F9, W9k, HST.out.2.1, hN2, HLL.out, .inr ⟨g7, c9, l7, rfl, O9, HRP.out⟩⟩
    refine And.intro ?_ ?_
    · rw [HJ.out]
      exact ⟨_, _, _, _, _, _, _, _, _, _, _, _, _, _, _, N2, D2, ap7, bf7, rfl, HL2.out⟩
    · rw [HM0.out, HMU.out]
      dsimp only
      rw [cellI_of (n := N2) ((F9.nth 2 rfl).cell 0), cellI_of (n := D2) ((F9.nth 2 rfl).cell 1)]
      have h1 := HI.out.pr.part hn12
      have h2 := HST.out.2.1.part hn12
      have h3 := Sheet.ahead_lt HI.out.pr.1 HST.out.2.1.1 h1.1 h2.1 HST.out.2.2
      have h4 : Sheet.ahead N2 D2 ≤ 27720 * N2 := Int.ediv_le_self _ (by omega)
      have h5 : 0 ≤ Sheet.ahead N D := Int.ediv_nonneg (by have := HI.out.pr.2.1; omega) (by have := HI.out.pr.1; omega)
      omega
end Go.Proofs
end
