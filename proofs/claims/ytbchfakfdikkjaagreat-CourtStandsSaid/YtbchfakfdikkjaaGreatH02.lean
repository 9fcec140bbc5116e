/- Own texts, merged: CtRe CtRg CtRh. -/
import Derived.Test.YtbchfakfdikkjaaGreatF01
import Derived.Test.YtbchfakfdikkjaaGreatH01
import Derived.Test.YtbchfakfdikkjaaGreatP16
import Derived.Test.YtbchfakfdikkjaaGreatP17
set_option linter.unusedSimpArgs false
set_option linter.unusedVariables false
set_option linter.unnecessarySimpa false
section
namespace Go.Proofs
open Go.RowKit
open Court (refL begF noS struckB award)
attribute [local go_sem] Oper.semAt_some

theorem ty29 : SliceTy Tryz.prog 29 84 2 16 := .mk' (z := .agg #[.int .i64 0, .int .i64 0]) Tryz.underlying29 (by kernel_rfl) rfl (by decide)
theorem own_strs84 {w : World} {base : Nat} {v : Value} {L : List (Int × Int)} (h : w.ownsRow base 84 2 v L.length (strC L)) (hl : L.length ≤ 1000000) : ∃ A c, v = .slice A L.length c ∧ Strs w A L ∧ ∀ b o, A = some ⟨b, o, none⟩ → base ≤ b := by
  rcases h.2 with ⟨rfl, h0⟩ | ⟨g, cap, cur, rfl, hg, hh, hc, hm, hs, ht⟩
  · have : L = [] := List.eq_nil_of_length_eq_zero h0
    subst this
    exact ⟨none, 0, rfl, ⟨by simp, .inl rfl⟩, fun b o h => by cases h⟩
  · refine ⟨_, cap, rfl, ⟨by omega, .inr ⟨g, 0, rfl, (Array.getElem?_eq_some_iff.1 hh).1, fun i hi => ⟨_, by simp, rfl, fun j hj => ?_⟩⟩⟩, fun b o h => by cases h; exact hg⟩
    obtain ⟨h1, h2⟩ := strC_get L i hi
    match j, hj with
    | 0, _ =>
      have := h.cells (g := g) rfl (2 * i) _ h1
      rw [Addr.add_lit] at this
      simpa [Nat.mul_comm] using this
    | 1, _ =>
      have := h.cells (g := g) rfl (2 * i + 1) _ h2
      rw [Addr.add_lit] at this
      simpa [Nat.mul_comm] using this
theorem wpList_push29 {w : World} {ops : Array Oper} {rest : List Oper} {o : Oper} {a : Act} {Q : Exit → Act → World → Prop}
    (hgd : o.guard = none) (s x : Operand) (ho : o.op = .call { callee := .builtin .append, args := #[s, x], argTypes := #[29, 29] })
    {base : Nat} {v : Value} {L : List (Int × Int)} (hown : w.ownsRow base 84 2 v L.length (strC L)) (hbase : base ≤ w.heap.size) (hs : a.eval s = v)
    {y0 y1 : Int} {c : Nat} {b : Nat} (hx : a.eval x = .slice (some ⟨b, 0, none⟩) 1 c) (hb0 : w.cell? ⟨b, 0, none⟩ = some (.int .i64 y0)) (hb1 : w.cell? ⟨b, 1, none⟩ = some (.int .i64 y1)) (hl : L.length ≤ 1000000)
    (hn : ∀ v' w', w'.ownsRow base 84 2 v' (L ++ [(y0, y1)]).length (strC (L ++ [(y0, y1)])) → w.grownBy w' v.ownBlock → wpList Tryz.prog ops Q rest (a.put o.dst v') w') : wpList Tryz.prog ops Q (o :: rest) a w := by
  obtain ⟨ht, ⟨i, z, hi, hz, hsize, hby, hzs⟩, hsz⟩ := ty29
  refine wpList_append_own_at (w := w) hgd s x 29 ho base 84 i z 2 16 ht hi hz hsize hby hzs hsz v L.length _ hs hown ⟨b, 0, none⟩ 1 c [.int .i64 y0, .int .i64 y1] hx rfl (fun j u hj => ?_) (fun u hu => by simp at hu; rcases hu with rfl | rfl <;> rfl)
    (by unfold maxLen; omega) (by omega) hbase fun v2 w2 h2 h3 _ _ => hn v2 w2 (by rw [strC_snoc]; simpa using h2) h3
  match j, hj with
  | 0, hj => simp at hj; subst hj; rw [Addr.add_lit]; simpa using hb0
  | 1, hj => simp at hj; subst hj; rw [Addr.add_lit]; simpa using hb1
theorem ty66b : SliceTy Tryz.prog 66 4 1 1 := .mk' (z := .bool false) Tryz.underlying66 (by kernel_rfl) rfl (by decide)
theorem bools_make (w : World) (N : Nat) (hN : N ≤ 1000) : (Instr.makeSlice 66 (.int .i64 N) (.int .i64 N)).run Tryz.prog w = .ok (.slice (some ⟨w.heap.size, 0, none⟩) N N) (w.alloc (.cells (blR N fun _ => false) 4)) := by
  obtain ⟨ht, ⟨i, z, hi, hz, hsize, hby, hzs⟩, hsz⟩ := ty66b
  have hzz : (Tryz.prog.info? 4).bind (·.zero) = some (.bool false) := by kernel_rfl
  rw [hi] at hzz
  have hzz : i.zero = some (.bool false) := hzz
  rw [hz] at hzz
  cases hzz
  have h := run_makeSlice (P := Tryz.prog) (w := w) 66 4 i (.bool false) ht hi hz .i64 .i64 N N (by omega) (Int.le_refl _) (by rw [hsize]; simp; omega) (by rw [hby]; omega) (by omega)
  rw [Int.toNat_natCast, hsize, Nat.mul_one] at h
  rw [← blR_no]
  exact h
theorem info31 : (Tryz.prog.info? 31).map (·.size) = some 3 := by kernel_rfl
theorem all_range_succ (p : Nat → Bool) (m : Nat) : (List.range (m + 1)).all p = ((List.range m).all p && p m) := by
  rw [List.range_succ, List.all_append]
  simp
theorem all_range_no {p : Nat → Bool} {m q : Nat} (h : m < q) (hp : p m = false) : (List.range q).all p = false := by
  rw [Bool.eq_false_iff]
  intro h'
  have := List.all_eq_true.1 h' m (List.mem_range.2 h)
  rw [hp] at this
  cases this

set_option maxRecDepth 100000 in
set_option maxHeartbeats 16000000 in
theorem decidesR_any (N : Nat) (S : List (Int × Int)) (T : List (List Int)) (a1 a2 : Option Addr) (c1 c2 : Nat) (l : List Int) (A : Option Addr) (c : Nat) (n : Nat) (w : World) (hC : CRep w ⟨N, S, T⟩ a1 a2) (hN : 1 ≤ N ∧ N ≤ 14) (hS60 : S.length ≤ 60) (hin : ∀ s ∈ S, (0 ≤ s.1 ∧ s.1 < N) ∧ (0 ≤ s.2 ∧ s.2 < N)) (hA : Ints w A l) (hlr : ∀ x ∈ l, 0 ≤ x ∧ x < N) (hll : l.length ≤ 6) (hn : n < N) :
    Calls Tryz.prog 58 #[(.agg #[.int .i64 N, .slice a1 S.length c1, .slice a2 T.length c2]), .slice A l.length c, .int .i64 n] w fun e w' => e = .returned (.bool (decT ⟨N, S, T⟩ l N (2 ^ l.length) n)) ∧ Aft w w' := by
  have H0 := Lib.hid (Aft.alloc w (.cells #[.int .i64 N, .slice a1 S.length c1, .slice a2 T.length c2] 31))
  have HB := Lib.hid (Blk.new w 31 #[.int .i64 N, .slice a1 S.length c1, .slice a2 T.length c2])
  have HC := Lib.hid (hC.aft H0.out)
  have HA := Lib.hid (hA.aft H0.out)
  rw [decT_filter ⟨N, S, T⟩ l N (2 ^ l.length) (n := (n : Int)) (by omega)]
  dsimp only
  obtain ⟨q, hq⟩ : ∃ q, 2 ^ l.length = q := ⟨_, rfl⟩
  have hq64 : q ≤ 64 := by rw [← hq]; exact Nat.le_trans (Nat.pow_le_pow_right (by omega) hll) (by decide)
  have q0 : wrap64 ((2 : Int) ^ l.length) = (q : Int) := by
    have e : (2 : Int) ^ l.length = (q : Int) := by rw [← hq]; push_cast; rfl
    rw [e]
    unfold wrap64
    omega
  rw [hq]
  clear hq hC hA
  obtain ⟨PD, hPD⟩ : ∃ PD : Nat → Bool, PD = fun m => decide (award (S.filter fun s => !refL (onTo m l l.length) s.2) noS N (begF (refL (offTo m l l.length))) n ≠ 0) := ⟨_, rfl⟩
  have HPD : Hid (∀ m, PD m = decide (award (S.filter fun s => !refL (onTo m l l.length) s.2) noS N (begF (refL (offTo m l l.length))) n ≠ 0)) := Lib.hid fun m => by rw [hPD]
  rw [← hPD]
  clear hPD
  have inN : (0 : Int) ≤ (n : Int) ∧ (n : Int) < (N : Int) := by omega
  obtain ⟨bC, hbC⟩ : ∃ bC, w.heap.size = bC := ⟨_, rfl⟩
  rw [hbC] at HB
  have HBC := Lib.hid hbC
  clear hbC
  go_enter Tryz.func58, Tryz.ntmps58
  go_upto_block 0 with fail
  rw [HBC.out]
  generalize w.alloc (.cells #[.int .i64 N, .slice a1 S.length c1, .slice a2 T.length c2] 31) = W0 at *
  refine wp_block ?_
  go_loopw [7] (fun i wr => ∃ m : Nat, i = .int .i64 m ∧ m ≤ q ∧ Aft W0 wr ∧ Hid ((List.range m).all PD = true)) (fun i _ => q - (intOf i).toNat)
  case atStart => exact ⟨0, rfl, by omega, Aft.refl _, Lib.hid rfl⟩
  case round =>
    obtain ⟨m, rfl, hm, hy, HAL⟩ := hrel
    have HY := Lib.hid hy
    clear hy
    by_cases hmq : m < q
    · have t1 : decide (m < q) = true := by simpa using hmq
      obtain ⟨W1, rfl⟩ : ∃ W1, W1 = wr := ⟨_, rfl⟩
      obtain ⟨k0, k1, k2⟩ := box31 (HB.out.aft HY.out)
      have k3 := (HB.out.aft HY.out).lt
      go_upto_region 5 with (refine wpList_store_new rfl 31 (.tmp 8) (.tmp 22) rfl rfl rfl info31 rfl (all_oneCell_toArray (by intro v hv; simp at hv; rcases hv with rfl | rfl | rfl <;> rfl)) ?_)
      try simp only [Act.put]
      rw [q0]
      have HB8 := Lib.hid (Blk.new W1 31 #[.int .i64 N, .slice none 0 0, .slice none 0 0])
      have HA8 := Lib.hid (Aft.alloc W1 (.cells #[.int .i64 N, .slice none 0 0, .slice none 0 0] 31))
      have hz8 : W1.heap.size < (W1.alloc (.cells #[.int .i64 N, .slice none 0 0, .slice none 0 0] 31)).heap.size := by simp
      obtain ⟨b8, hb8⟩ : ∃ b8, W1.heap.size = b8 := ⟨_, rfl⟩
      rw [hb8] at HB8 hz8 ⊢
      have HE8 := Lib.hid hb8
      clear hb8 k0 k1 k2 k3
      generalize W1.alloc (.cells #[.int .i64 N, .slice none 0 0, .slice none 0 0] 31) = W2 at *
      obtain ⟨k0, k1, k2⟩ := box31 (HB.out.aft (HY.out.trans HA8.out))
      have k3 := (HB.out.aft (HY.out.trans HA8.out)).lt
      have hmk := bools_make W2 N (by omega)
      go_upto_block 2 with fail
      have HB10 := Lib.hid (Blk.new W2 4 (blR N fun _ => false))
      have HA10 := Lib.hid (HA8.out.then_alloc (.cells (blR N fun _ => false) 4))
      replace HB8 := Lib.hid (HB8.out.aft (Aft.alloc W2 (.cells (blR N fun _ => false) 4)))
      have hz10 : W2.heap.size < (W2.alloc (.cells (blR N fun _ => false) 4)).heap.size := by simp
      obtain ⟨b10, hb10⟩ : ∃ b10, W2.heap.size = b10 := ⟨_, rfl⟩
      rw [hb10] at HB10 hz10 hz8 ⊢
      clear hb10 hmk k0 k1 k2 k3
      generalize W2.alloc (.cells (blR N fun _ => false) 4) = W3 at *
      have HO0 := Lib.hid (World.ownsRow_nil W3 W3.heap.size 3 1)
      have HW8 : Hid (W1.heap.size ≤ b8) := Lib.hid (Nat.le_of_eq HE8.out)
      clear HA8 HE8
      refine wp_block ?_
      go_loopw [9, 11] (fun v i wr => ∃ k : Nat, i = .int .i64 k ∧ k ≤ l.length ∧ wr.ownsRow W3.heap.size 3 1 v (offTo m l k).length ((offTo m l k).map (Value.int .i64)) ∧ Blk wr b10 4 (blR N fun i => (onTo m l k).contains (i : Int)) ∧ Blk wr b8 31 #[.int .i64 N, .slice none 0 0, .slice none 0 0] ∧ Aft W1 wr ∧ W3.heap.size ≤ wr.heap.size) (fun _ i _ => l.length - (intOf i).toNat)
      case atStart =>
        refine ⟨0, rfl, by omega, HO0.out, ?_, HB8.out, HA10.out, Nat.le_refl _⟩
        have : (blR N fun i => (onTo m l 0).contains (i : Int)) = blR N fun _ => false := by
          congr 1
        rw [this]
        exact HB10.out
      case round =>
        obtain ⟨k, rfl, hk, hown, hb10, hb8, hz, hsz⟩ := hrel
        have HO := Lib.hid hown
        have HB10 := Lib.hid hb10
        have HB8 := Lib.hid hb8
        have HZ := Lib.hid hz
        clear hown hb10 hb8 hz
        by_cases hkl : k < l.length
        · have t2 : decide (k < l.length) = true := by simpa using hkl
          have ik : (0 : Int) ≤ (k : Int) ∧ (k : Int) < (l.length : Int) := by omega
          have ik64 : (0 : Int) ≤ (k : Int) ∧ (k : Int) ≤ 64 := by omega
          obtain ⟨bl, ol, hbl, hltl, hcl⟩ := (HA.out.aft (HY.out.trans HZ.out)).at hkl
          subst hbl
          have x0 := hcl k hkl
          have hx := hlr l[k] (List.getElem_mem hkl)
          have hxk : l.getD k 0 = l[k] := by rw [List.getD_eq_getElem?_getD, List.getElem?_eq_getElem hkl]; rfl
          have HON := Lib.hid (onTo_succ m l k)
          have HOF := Lib.hid (offTo_succ m l k)
          have hof := offTo_len m l k
          rw [hxk] at HON HOF
          clear hxk hcl
          obtain ⟨X, hX⟩ := Int.eq_ofNat_of_zero_le hx.1
          rw [hX] at x0 hx HON HOF
          have hXN : X < N := by omega
          have iX : (0 : Int) ≤ (X : Int) ∧ (X : Int) < (N : Int) := by omega
          have hbit := bits_at (m := m) (k := k) (by omega)
          clear hX hx
          cases hb : m.testBit k
          · rw [hb] at hbit HON HOF
            clear hb
            rw [if_neg (by decide), List.append_nil] at HON
            rw [if_neg (by decide)] at HOF
            have HTA := Lib.hid (own_aft HO.out (Aft.alloc wr (.cells #[.int .i64 X] 3)))
            have hbase : W3.heap.size ≤ (wr.alloc (.cells #[.int .i64 X] 3)).heap.size := by simp; omega
            have hge := own_ge HO.out
            go_wp2_with (at_builtin; refine wpList_push rfl _ _ rfl HTA.out hbase rfl rfl (cell_new1 _ _ _) (by omega) ?_; intro v6 w6 ho6 hg6; have HO6 := Lib.hid ho6; have HG6 := Lib.hid hg6; clear ho6 hg6)
            refine ⟨⟨k + 1, by go_num, by omega, by rw [HOF.out]; exact HO6.out, ?_, (HB8.out.aft (Aft.alloc _ _)).grown HG6.out (fun e => by have := hge b8 e.symm; omega), (HZ.out.then_alloc _).grown HG6.out (fun g e => by have := hge g e; have := HW8.out; omega), Nat.le_trans hbase HG6.out.size⟩, by simp [intOf]; omega⟩
            rw [HON.out]
            exact (HB10.out.aft (Aft.alloc _ _)).grown HG6.out (fun e => by have := hge b10 e.symm; omega)
          · rw [hb] at hbit HON HOF
            clear hb
            rw [if_pos rfl] at HON HOF
            rw [List.append_nil] at HOF
            have y0 := (HB10.out.cell X).trans (blR_get _ hXN)
            have y1 := HB10.out.frozen X
            have y2 := HB10.out.lt
            go_wp2_with fail
            have hset : wr.grownBy (wr.setCell ⟨b10, X, none⟩ (.bool true)) (some b10) := only_setCell (only_refl wr (some b10)) (p := ⟨b10, X, none⟩) (.inl rfl) _
            refine ⟨⟨k + 1, by go_num, by omega, ?_, ?_, HB8.out.grown hset (fun e => by cases e; omega), HZ.out.grown hset (fun g e => by cases e; have := HW8.out; omega), by simpa using hsz⟩, by simp [intOf]; omega⟩
            · rw [HOF.out]
              exact own_sm HO.out (Sm.of_grown (b := b10 + 1) hset fun k e => by cases e; omega) (by omega)
            · have := HB10.out.store X (.bool true)
              rw [blR_set] at this
              have e : (fun i : Nat => (onTo m l (k + 1)).contains (i : Int)) = fun i => if i = X then true else (onTo m l k).contains (i : Int) := by
                funext i
                rw [HON.out]
                by_cases e : i = X
                · subst e; rw [if_pos rfl]; simp
                · rw [if_neg e]
                  have : ¬ ((i : Int) = (X : Int)) := by omega
                  simp [this]
              rw [e]
              exact this
        · have t2 : decide (k < l.length) = false := by simpa using hkl
          obtain rfl : l.length = k := by omega
          obtain ⟨W4, rfl⟩ : ∃ W4, W4 = wr := ⟨_, rfl⟩
          have HPM := Lib.hid (HPD.out m)
          have hoff := offTo_len m l l.length
          obtain ⟨on, hon⟩ : ∃ on, onTo m l l.length = on := ⟨_, rfl⟩
          obtain ⟨off, hoffe⟩ : ∃ off, offTo m l l.length = off := ⟨_, rfl⟩
          have HOFM : Hid (∀ x ∈ off, 0 ≤ x ∧ x < N) := Lib.hid fun x hx => by rw [← hoffe] at hx; exact hlr x (offTo_mem hx)
          rw [hon] at HB10 HPM
          rw [hoffe] at HO HPM hoff
          clear hon hoffe hkl HO0
          obtain ⟨A9, c9, rfl, hi9⟩ := own_intsX (d := b8) HO.out (by omega) (by omega)
          have HI9 := Lib.hid hi9
          have HOS0 := Lib.hid (World.ownsRow_nil W4 W4.heap.size 84 2)
          have hb8lt := HB8.out.lt
          clear hi9 HO
          go_upto_block 4 with fail
          refine wp_block ?_
          go_loopw [12] (fun i wr => ∃ (k : Nat) (vS : Value) (L2 : List (Int × Int)), i = .int .i64 k ∧ k ≤ S.length ∧ Hid (L2 = (S.take k).filter fun s => !refL on s.2) ∧ L2.length ≤ k ∧ wr.ownsRow W4.heap.size 84 2 vS L2.length (strC L2) ∧ Blk wr b8 31 #[.int .i64 N, vS, .slice none 0 0] ∧ Ex b8 W4 wr ∧ Aft W1 wr) (fun i _ => S.length - (intOf i).toNat)
          case atStart => exact ⟨0, _, [], rfl, by omega, Lib.hid rfl, by simp, HOS0.out, HB8.out, Ex.refl _ _, HZ.out⟩
          case round =>
            obtain ⟨k, vS, L2, rfl, hk, HL2, hL2l, hown, hbk, hex, hax⟩ := hrel
            have HOS := Lib.hid hown
            have HBK := Lib.hid hbk
            have HX := Lib.hid hex
            have HAX := Lib.hid hax
            clear hown hbk hex hax
            obtain ⟨k0, k1, k2⟩ := box31 (HB.out.aft (HY.out.trans HAX.out))
            have k3 := (HB.out.aft (HY.out.trans HAX.out)).lt
            by_cases hkL : k < S.length
            · have t3 : decide (k < S.length) = true := by simpa using hkL
              have ik : (0 : Int) ≤ (k : Int) ∧ (k : Int) < (S.length : Int) := by omega
              obtain ⟨bs, os, hbs, hlts, hcs⟩ := (HC.out.aft (HY.out.trans HAX.out)).strikes.at hkL
              subst hbs
              obtain ⟨x1, x2⟩ := hcs k hkL
              have hin1 := hin _ (List.getElem_mem hkL)
              have HFS : Hid ((S.take (k + 1)).filter (fun s => !refL on s.2) = (S.take k).filter (fun s => !refL on s.2) ++ if refL on S[k].2 then [] else [S[k]]) := Lib.hid (by
                rw [List.take_succ_eq_append_getElem hkL, List.filter_append]
                congr 1
                cases h : refL on S[k].2 <;> simp [h])
              obtain ⟨⟨y0, y1⟩, hyz⟩ : ∃ s, S[k] = s := ⟨_, rfl⟩
              rw [hyz] at x1 x2 hin1 HFS
              dsimp only at x1 x2 hin1 HFS
              obtain ⟨⟨ha0, ha1⟩, hb0, hb1⟩ := hin1
              obtain ⟨Y1, rfl⟩ := Int.eq_ofNat_of_zero_le hb0
              have hY1 : Y1 < N := by omega
              have iY1 : (0 : Int) ≤ (Y1 : Int) ∧ (Y1 : Int) < (N : Int) := by omega
              have x3 := ((blk_ex HB10.out HX.out (by omega)).cell Y1).trans (blR_get _ hY1)
              rw [show on.contains (Y1 : Int) = refL on (Y1 : Int) from rfl] at x3
              rw [← HL2.out] at HFS
              clear hcs hyz ha0 ha1 hb0 hb1
              cases hrf : refL on (Y1 : Int)
              · rw [hrf] at x3 HFS
                rw [if_neg (by decide)] at HFS
                obtain ⟨A8, c8, rfl, hst8, _⟩ := own_strs84 HOS.out (by omega)
                have HVS : Hid (∀ W, Aft wr W → W.cell? ⟨b8, 1, none⟩ = some (.slice A8 L2.length c8)) := Lib.hid fun W h => (HBK.out.aft h).cell 1
                have HV7 : Hid (∀ W, Aft wr W → W.cell? ⟨bC, 1, none⟩ = some (.slice (some ⟨bs, os, none⟩) S.length c1)) := Lib.hid fun W h => (HB.out.aft (HY.out.trans (HAX.out.trans h))).cell 1
                have HS0 : Hid (∀ W, Aft wr W → W.cell? ⟨bs, os + k * 2, none⟩ = some (.int .i64 y0)) := Lib.hid fun W h => cellA x1 hlts h
                have HS1 : Hid (∀ W, Aft wr W → W.cell? ⟨bs, os + k * 2 + 1, none⟩ = some (.int .i64 Y1)) := Lib.hid fun W h => cellA x2 hlts h
                clear hst8
                go_upto_region 17 with fail
                clear x1 x2 x3 k0 k1 k2 k3
                refine wp_region_valsT (by kernel_rfl) 8 84 rfl (by kernel_rfl) (by kernel_rfl) (by kernel_rfl) [.pointer (some ⟨b8, 1, none⟩), .slice A8 L2.length c8, .pointer (some ⟨bC, 1, none⟩), .slice (some ⟨bs, os, none⟩) S.length c1, .int .i64 k, .pointer (some ⟨bs, os + k * 2, none⟩), .agg #[.int .i64 y0, .int .i64 Y1], .slice (some ⟨wr.heap.size, 0, none⟩) 1 1] rfl (fun done W => Aft wr W ∧ (if done 7 = true then W = wr.drew.alloc (.cells #[.int .i64 y0, .int .i64 Y1] 84) else W = wr.drew)) (⟨Aft.drew _, by simp⟩) ?st1 ?fi1
                case st1 =>
                  intro i o v ho hv
                  match i, ho, hv with
                  | 0, ho, hv =>
                    cases ho; cases hv
                    refine .inl ⟨rfl, fun done a W hd hp hk hw K hK => ?_⟩
                    have e8 := hk.same 8 (by decide)
                    exact op_val (by simp [go_sem, ev' e8]) (hK _ (⟨hw.1, by rw [upd_ne' (by decide)]; exact hw.2⟩))
                  | 1, ho, hv =>
                    cases ho; cases hv
                    refine .inl ⟨rfl, fun done a W hd hp hk hw K hK => ?_⟩
                    have e67 := hk.at_ 0 _ 67 _ rfl (by decide) _ rfl rfl rfl
                    exact op_val (by simp [go_sem, ev' e67, HVS.out W hw.1]) (hK _ (⟨hw.1, by rw [upd_ne' (by decide)]; exact hw.2⟩))
                  | 2, ho, hv =>
                    cases ho; cases hv
                    refine .inl ⟨rfl, fun done a W hd hp hk hw K hK => ?_⟩
                    have e3 := hk.same 3 (by decide)
                    exact op_val (by simp [go_sem, ev' e3]) (hK _ (⟨hw.1, by rw [upd_ne' (by decide)]; exact hw.2⟩))
                  | 3, ho, hv =>
                    cases ho; cases hv
                    refine .inl ⟨rfl, fun done a W hd hp hk hw K hK => ?_⟩
                    have e69 := hk.at_ 2 _ 69 _ rfl (by decide) _ rfl rfl rfl
                    exact op_val (by simp [go_sem, ev' e69, HV7.out W hw.1]) (hK _ (⟨hw.1, by rw [upd_ne' (by decide)]; exact hw.2⟩))
                  | 4, ho, hv =>
                    cases ho; cases hv
                    refine .inl ⟨rfl, fun done a W hd hp hk hw K hK => ?_⟩
                    have e12 := hk.same 12 (by decide)
                    exact op_val (by simp [go_sem, ev' e12]) (hK _ (⟨hw.1, by rw [upd_ne' (by decide)]; exact hw.2⟩))
                  | 5, ho, hv =>
                    cases ho; cases hv
                    refine .inl ⟨rfl, fun done a W hd hp hk hw K hK => ?_⟩
                    have e70 := hk.at_ 3 _ 70 _ rfl (by decide) _ rfl rfl rfl
                    have e71 := hk.at_ 4 _ 71 _ rfl (by decide) _ rfl rfl rfl
                    exact op_val (by simp [go_sem, ev' e70, ev' e71, ik]) (hK _ (⟨hw.1, by rw [upd_ne' (by decide)]; exact hw.2⟩))
                  | 6, ho, hv =>
                    cases ho; cases hv
                    refine .inl ⟨rfl, fun done a W hd hp hk hw K hK => ?_⟩
                    have e72 := hk.at_ 5 _ 72 _ rfl (by decide) _ rfl rfl rfl
                    exact op_val (by simp [go_sem, ev' e72, HS0.out W hw.1, HS1.out W hw.1]) (hK _ (⟨hw.1, by rw [upd_ne' (by decide)]; exact hw.2⟩))
                  | 7, ho, hv =>
                    cases ho; cases hv
                    refine .inl ⟨rfl, fun done a W hd hp hk hw K hK => ?_⟩
                    have e73 := hk.at_ 6 _ 73 _ rfl (by decide) _ rfl rfl rfl
                    have h2 := hw.2
                    rw [hd] at h2
                    simp only [Bool.false_eq_true, if_false] at h2
                    subst h2
                    exact op_valW (v := .slice (some ⟨wr.heap.size, 0, none⟩) 1 1) (w' := wr.drew.alloc (.cells #[.int .i64 y0, .int .i64 Y1] 84)) (by simp [go_sem, ev' e73]) (hK _ ⟨(Aft.drew wr).then_alloc _, by rw [upd_same', if_pos rfl]⟩)
                  | _ + 8, _, hv => cases hv
                intro done W hd hw
                simp only [List.drop_succ_cons, List.drop_zero, List.zip_cons_cons, List.zip_nil_right, putAll]
                simp only [Act.put, List.setIfInBounds_toArray, List.set]
                have hw2 := hw.2
                rw [if_pos (hd 7 (by decide))] at hw2
                clear hw hd
                subst hw2
                have HTA := Lib.hid (own_aft HOS.out ((Aft.drew wr).then_alloc (.cells #[.int .i64 y0, .int .i64 Y1] 84)))
                have hbase2 : W4.heap.size ≤ (wr.drew.alloc (.cells #[.int .i64 y0, .int .i64 Y1] 84)).heap.size := Nat.le_trans HX.out.size ((Aft.drew wr).then_alloc (.cells #[.int .i64 y0, .int .i64 Y1] 84)).size
                have HC0 : Hid ((wr.drew.alloc (.cells #[.int .i64 y0, .int .i64 Y1] 84)).cell? ⟨wr.heap.size, 0, none⟩ = some (.int .i64 y0)) := Lib.hid ((Blk.new wr.drew 84 #[.int .i64 y0, .int .i64 Y1]).cell 0)
                have HC1 : Hid ((wr.drew.alloc (.cells #[.int .i64 y0, .int .i64 Y1] 84)).cell? ⟨wr.heap.size, 1, none⟩ = some (.int .i64 Y1)) := Lib.hid ((Blk.new wr.drew 84 #[.int .i64 y0, .int .i64 Y1]).cell 1)
                have HBK2 := Lib.hid (HBK.out.aft ((Aft.drew wr).then_alloc (.cells #[.int .i64 y0, .int .i64 Y1] 84)))
                have HX2 := Lib.hid (HX.out.aft ((Aft.drew wr).then_alloc (.cells #[.int .i64 y0, .int .i64 Y1] 84)))
                have HAX2 := Lib.hid (HAX.out.trans ((Aft.drew wr).then_alloc (.cells #[.int .i64 y0, .int .i64 Y1] 84)))
                clear HVS HV7 HS0 HS1 HOS HX HAX HBK
                generalize wr.drew.alloc (.cells #[.int .i64 y0, .int .i64 Y1] 84) = W5 at *
                have hge := own_ge HTA.out
                go_wp2_with (at_builtin; refine wpList_push29 rfl _ _ rfl HTA.out hbase2 rfl rfl HC0.out HC1.out (by omega) ?_; intro v8 w8 ho8 hg8; obtain ⟨A80, c80, rfl, _, _⟩ := own_strs84 ho8 (by simp; omega); have HO8 := Lib.hid ho8; have HG8 := Lib.hid hg8; have y2 := HBK2.out.grown hg8 (fun e => by have := hge b8 e.symm; omega); have HB80 := Lib.hid y2; have y5 := y2.cell 1; have y6 := y2.frozen 1; have y7 := y2.lt; clear ho8)
                have hset : w8.grownBy (w8.setCell ⟨b8, 1, none⟩ (.slice A80 (L2.length + 1) c80)) (some b8) := only_setCell (only_refl w8 (some b8)) (p := ⟨b8, 1, none⟩) (.inl rfl) _
                have hO9 := HO8.out
                rw [show (L2 ++ [(y0, (Y1 : Int))]).length = L2.length + 1 by simp] at hO9
                have hO9 := own_sm hO9 (Sm.of_grown (b := b8 + 1) hset fun k e => by cases e; omega) (by omega)
                have hX9 := (HX2.out.next HG8.out (fun g e => .inr (hge g e))).next hset (fun g e => by cases e; exact .inl rfl)
                have hA9 := (HAX2.out.grown HG8.out (fun g e => by have := hge g e; have := HZ.out.size; omega)).grown hset (fun g e => by cases e; exact HW8.out)
                have hB9 : Blk (w8.setCell ⟨b8, 1, none⟩ (.slice A80 (L2.length + 1) c80)) b8 31 #[.int .i64 N, .slice A80 (L2.length + 1) c80, .slice none 0 0] := by
                  have := HB80.out.store 1 (.slice A80 (L2.length + 1) c80)
                  simpa using this
                have hO10 : (w8.setCell ⟨b8, 1, none⟩ (.slice A80 (L2.length + 1) c80)).ownsRow W4.heap.size 84 2 (.slice A80 (L2.length + 1) c80) (L2 ++ [(y0, (Y1 : Int))]).length (strC (L2 ++ [(y0, (Y1 : Int))])) := by
                  rw [show (L2 ++ [(y0, (Y1 : Int))]).length = L2.length + 1 by simp]
                  exact hO9
                exact ⟨⟨k + 1, _, L2 ++ [(y0, (Y1 : Int))], by go_num, by omega, Lib.hid HFS.out.symm, by simp; omega, hO10, hB9, hX9, hA9⟩, by simp [intOf]; omega⟩
              · rw [hrf] at x3 HFS
                rw [if_pos rfl, List.append_nil] at HFS
                go_wp2_with fail
                exact ⟨⟨k + 1, vS, L2, by go_num, by omega, Lib.hid HFS.out.symm, by omega, HOS.out, HBK.out, HX.out, HAX.out⟩, by simp [intOf]; omega⟩
            · have t3 : decide (k < S.length) = false := by simpa using hkL
              have HLE : Hid (L2 = S.filter fun s => !refL on s.2) := Lib.hid (by
                have := HL2.out
                rwa [List.take_of_length_le (by omega)] at this)
              obtain ⟨A8, c8, rfl, hst8, _⟩ := own_strs84 HOS.out (by omega)
              have hC2 : CRep wr ⟨N, L2, []⟩ A8 none := ⟨hst8, ⟨by simp, .inl rfl⟩⟩
              have hinL : ∀ s ∈ L2, 0 ≤ s.1 ∧ s.1 < N := fun s hs => by
                rw [HLE.out] at hs
                exact (hin s (List.mem_filter.1 hs).1).1
              obtain ⟨F, hF⟩ : ∃ F, foundL (award L2 noS N (begF (refL off))) N = F := ⟨_, rfl⟩
              have HFL : Hid (F.length = N) := Lib.hid (by rw [← hF, foundL_len])
              obtain ⟨fv, hfv⟩ : ∃ fv, award L2 noS N (begF (refL off)) n = fv := ⟨_, rfl⟩
              have HFN : Hid (∀ h : n < F.length, F[n] = (fv : Int)) := Lib.hid fun h => by
                subst hF
                rw [foundL_get, hfv]
              have H65 : Hid (Calls Tryz.prog 65 #[.agg #[.int .i64 N, .slice A8 L2.length c8, .slice none 0 0], .slice A9 off.length c9] wr (MadeI F wr)) := Lib.hid (by
                rw [← hF]
                exact awardR_any N L2 [] A8 none c8 0 off A9 c9 wr hC2 hN hinL (HI9.out wr HX.out) HOFM.out)
              have HPV : Hid (PD m = decide (fv ≠ 0)) := Lib.hid (by
                rw [HPM.out, ← HLE.out, hfv])
              obtain ⟨j0, j1, j2⟩ := box31 HBK.out
              have j3 := HBK.out.lt
              clear hst8 hC2 hinL hF hfv HL2 HLE HI9 HPM HOFM HOS HBK HX
              by_cases hf0 : fv = 0
              · have q1 : ((fv : Int) == 0) = true := by simp; omega
                have HFA : Hid ((List.range q).all PD = false) := Lib.hid (all_range_no hmq (by rw [HPV.out]; simp [hf0]))
                go_wp2_with (go_at_call 65; refine H65.out.mono ?_; rintro e W6 ⟨g, rfl, hg, hb, ha⟩; have HA6 := Lib.hid ha; rw [HFL.out]; have y0 := ivs_cell hb (i := n) (by rw [HFL.out]; exact hn); have y1 := hb.lt; rw [HFN.out] at y0; clear hg hb ha)
                go_ret
                exact ⟨ret_bool HFA.out.symm, H0.out.trans (HY.out.trans (HAX.out.trans HA6.out))⟩
              · have q1 : ((fv : Int) == 0) = false := by simp; omega
                have HAL2 : Hid ((List.range (m + 1)).all PD = true) := Lib.hid (by
                  rw [all_range_succ, HAL.out, HPV.out]
                  simp [hf0])
                go_wp2_with (go_at_call 65; refine H65.out.mono ?_; rintro e W6 ⟨g, rfl, hg, hb, ha⟩; have HA6 := Lib.hid ha; rw [HFL.out]; have y0 := ivs_cell hb (i := n) (by rw [HFL.out]; exact hn); have y1 := hb.lt; rw [HFN.out] at y0; clear hg hb ha)
                exact ⟨⟨m + 1, by go_num, by omega, HY.out.trans (HAX.out.trans HA6.out), HAL2⟩, by simp [intOf]; omega⟩
    · have t1 : decide (m < q) = false := by simpa using hmq
      obtain rfl : m = q := by omega
      go_wp2_with fail
      go_ret
      exact ⟨ret_bool HAL.out.symm, H0.out.trans HY.out⟩
end Go.Proofs
end

section
namespace Go.Proofs
open Go.RowKit
open Court (refL begF noS struckB award)
attribute [local go_sem] Oper.semAt_some

set_option maxRecDepth 100000 in
set_option maxHeartbeats 4000000 in
theorem decidesTop_bad (C : CaseL) (a1 a2 : Option Addr) (c1 c2 : Nat) (n : Int) (w : World) (hC : CRep w C a1 a2) (he : decidingE C n ≠ 0) :
    Calls Tryz.prog 16 #[(.agg #[.int .i64 C.claims, .slice a1 C.strikes.length c1, .slice a2 C.surveys.length c2]), .int .i64 n] w (BadS (decidingE C n) w) := by
  have H0 := Lib.hid (Aft.alloc w (.cells #[.int .i64 C.claims, .slice a1 C.strikes.length c1, .slice a2 C.surveys.length c2] 31))
  have HB := Lib.hid (Blk.new w 31 #[.int .i64 C.claims, .slice a1 C.strikes.length c1, .slice a2 C.surveys.length c2])
  unfold BadS
  unfold decidingE at he ⊢
  by_cases h1 : caseE C = 0
  · rw [if_pos h1] at he ⊢
    have hok := caseE_ok h1
    have hf : fromB n 0 ((C.surveys.length : Int) - 1) = false := by
      cases h : fromB n 0 ((C.surveys.length : Int) - 1)
      · rfl
      · rw [h] at he; exact absurd rfl he
    rw [hf, if_neg (by decide)]
    have H1 : Hid (Calls Tryz.prog 56 #[(.agg #[.int .i64 C.claims, .slice a1 C.strikes.length c1, .slice a2 C.surveys.length c2])] (w.alloc (.cells #[.int .i64 C.claims, .slice a1 C.strikes.length c1, .slice a2 C.surveys.length c2] 31)) fun e w' => e = .returned (.int .i64 0) ∧ Aft (w.alloc (.cells #[.int .i64 C.claims, .slice a1 C.strikes.length c1, .slice a2 C.surveys.length c2] 31)) w') := Lib.hid (by rw [← h1]; exact checkR_any C a1 a2 c1 c2 _ (hC.aft H0.out))
    have hfs := hok.fews
    have e1 : IntKind.i64.wrap ((C.surveys.length : Int) - 1) = (C.surveys.length : Int) - 1 := by rw [IntWalk.i64_in _ (by omega)]
    have HF := Lib.hid hf
    obtain ⟨k0, k1, k2⟩ := box31 HB.out
    have hlt := HB.out.lt
    clear hC he h1 hok hf
    go_enter Tryz.func16, Tryz.ntmps16
    go_wp2_with (first | (go_at_call 56; refine H1.out.mono ?_; rintro e w1 ⟨rfl, ha1⟩; have HA1 := Lib.hid ha1; obtain ⟨j0, j1, j2⟩ := box31 (HB.out.aft ha1); have hlt1 := (HB.out.aft ha1).lt; clear ha1) | (go_at_call 57; refine (beside_any n 0 ((C.surveys.length : Int) - 1) _).mono ?_; rintro e w2 ⟨rfl, rfl⟩; rw [HF.out]))
    go_ret2
    exact ⟨rfl, H0.out.trans HA1.out⟩
  · rw [if_neg h1] at he ⊢
    have H1 := Lib.hid (checkR_any C a1 a2 c1 c2 _ (hC.aft H0.out))
    have t1 : (caseE C != 0) = true := by simpa using h1
    obtain ⟨k0, k1, k2⟩ := box31 HB.out
    have hlt := HB.out.lt
    clear hC he h1
    generalize caseE C = E at *
    go_enter Tryz.func16, Tryz.ntmps16
    go_wp2_with (go_at_call 56; refine H1.out.mono ?_; rintro e w1 ⟨rfl, ha1⟩; have HA1 := Lib.hid ha1; clear ha1)
    go_ret2
    exact ⟨rfl, H0.out.trans HA1.out⟩

set_option maxRecDepth 100000 in
set_option maxHeartbeats 4000000 in
theorem decidesTop_good (N : Nat) (S : List (Int × Int)) (T : List (List Int)) (a1 a2 : Option Addr) (c1 c2 : Nat) (n : Nat) (w : World) (hC : CRep w ⟨N, S, T⟩ a1 a2) (he : decidingE ⟨N, S, T⟩ n = 0) :
    Calls Tryz.prog 16 #[(.agg #[.int .i64 N, .slice a1 S.length c1, .slice a2 T.length c2]), .int .i64 n] w (GoodL (idxL (fun (i : Nat) => decT ⟨N, S, T⟩ (T.getD n []) N (2 ^ (T.getD n []).length) i) N) w) := by
  have H0 := Lib.hid (Aft.alloc w (.cells #[.int .i64 N, .slice a1 S.length c1, .slice a2 T.length c2] 31))
  have HB := Lib.hid (Blk.new w 31 #[.int .i64 N, .slice a1 S.length c1, .slice a2 T.length c2])
  unfold decidingE at he
  by_cases h1 : caseE ⟨N, S, T⟩ = 0
  · rw [if_pos h1] at he
    have hf : fromB (n : Int) 0 ((T.length : Int) - 1) = true := by
      cases h : fromB (n : Int) 0 ((T.length : Int) - 1)
      · rw [h] at he; cases he
      · rfl
    have hnT : n < T.length := by have := fromB_iff.1 hf; omega
    have H1 : Hid (Calls Tryz.prog 56 #[(.agg #[.int .i64 N, .slice a1 S.length c1, .slice a2 T.length c2])] (w.alloc (.cells #[.int .i64 N, .slice a1 S.length c1, .slice a2 T.length c2] 31)) fun e w' => e = .returned (.int .i64 0) ∧ Aft (w.alloc (.cells #[.int .i64 N, .slice a1 S.length c1, .slice a2 T.length c2] 31)) w') := Lib.hid (by rw [← h1]; exact checkR_any ⟨N, S, T⟩ a1 a2 c1 c2 _ (hC.aft H0.out))
    have hok := caseE_ok h1
    have hn1 := hok.n1
    have hn2 := hok.n2
    have hfs := hok.fews
    have hss := hok.few
    have HIN := Lib.hid hok.ins
    have hsv := hok.svs T[n] (List.getElem_mem hnT)
    have hlr := (listedE_ok hsv.2).1
    dsimp only at hn1 hn2 hfs hss hsv hlr HIN
    have hgd : T.getD n [] = T[n] := by rw [List.getD_eq_getElem?_getD, List.getElem?_eq_getElem hnT]; rfl
    have e1 : IntKind.i64.wrap ((T.length : Int) - 1) = (T.length : Int) - 1 := by rw [IntWalk.i64_in _ (by omega)]
    have inT : (0 : Int) ≤ (n : Int) ∧ (n : Int) < (T.length : Int) := by omega
    have HF := Lib.hid hf
    have HC := Lib.hid hC
    rw [hgd]
    obtain ⟨bt, ot, A', c', hbt, hltt, x1, hil⟩ := hC.surveys.row hnT
    dsimp only at hbt x1 hil
    subst hbt
    obtain ⟨l, hl0⟩ : ∃ l, T[n] = l := ⟨_, rfl⟩
    rw [hl0] at x1 hil hsv hlr ⊢
    have hll := hsv.1.2
    have HIL := Lib.hid hil
    obtain ⟨PT, hPT⟩ : ∃ PT : Nat → Bool, PT = fun (i : Nat) => decT ⟨N, S, T⟩ l N (2 ^ l.length) i := ⟨_, rfl⟩
    have H58 : Hid (∀ (i : Nat) (W : World), i < N → Aft w W → Calls Tryz.prog 58 #[.agg #[.int .i64 N, .slice a1 S.length c1, .slice (some ⟨bt, ot, none⟩) T.length c2], .slice A' l.length c', .int .i64 i] W fun e w' => e = .returned (.bool (PT i)) ∧ Aft W w') := Lib.hid fun i W hi h => by
      rw [hPT]
      exact decidesR_any N S T a1 (some ⟨bt, ot, none⟩) c1 c2 l A' c' i W (HC.out.aft h) (by omega) hss (fun s hs => HIN.out s hs) (HIL.out.aft h) hlr hll hi
    rw [← hPT]
    have HX1 : Hid (∀ W, Aft w W → W.cell? ⟨bt, ot + n, none⟩ = some (.slice A' l.length c')) := Lib.hid fun W h => cellA x1 hltt h
    have hw0 : w.heap.size < (w.alloc (.cells #[.int .i64 N, .slice a1 S.length c1, .slice (some ⟨bt, ot, none⟩) T.length c2] 31)).heap.size := by simp
    obtain ⟨bC, hbC⟩ : ∃ bC, w.heap.size = bC := ⟨_, rfl⟩
    rw [hbC] at HB hw0
    have HBC := Lib.hid hbC
    clear hbC he h1 hok hf hPT HIN hsv hlr hgd hC hl0 hil HIL HC x1
    unfold GoodL
    rw [HBC.out]
    go_enter Tryz.func16, Tryz.ntmps16
    go_upto_region 1 with fail
    rw [HBC.out]
    generalize w.alloc (.cells #[.int .i64 N, .slice a1 S.length c1, .slice (some ⟨bt, ot, none⟩) T.length c2] 31) = W0 at *
    obtain ⟨k0, k1, k2⟩ := box31 HB.out
    have k3 := HB.out.lt
    go_upto_block 0 with (first | (go_at_call 56; refine H1.out.mono ?_; rintro e W1 ⟨rfl, ha1⟩; have HA1 := Lib.hid ha1; obtain ⟨j0, j1, j2⟩ := box31 (HB.out.aft ha1); have hlt1 := (HB.out.aft ha1).lt; clear ha1) | (go_at_call 57; refine (beside_any (n : Int) 0 ((T.length : Int) - 1) _).mono ?_; rintro e w2 ⟨rfl, rfl⟩; rw [HF.out]))
    clear k0 k1 k2 k3 j0 j1 j2 hlt1 H1 HF
    have HO0 := Lib.hid (World.ownsRow_nil W1 W0.heap.size 3 1)
    refine wp_block ?_
    go_loopw [7, 8] (fun v i wr => ∃ k : Nat, i = .int .i64 k ∧ k ≤ N ∧ wr.ownsRow W0.heap.size 3 1 v (idxL PT k).length ((idxL PT k).map (Value.int .i64)) ∧ Aft W0 wr) (fun _ i _ => N - (intOf i).toNat)
    case atStart => exact ⟨0, rfl, by omega, HO0.out, HA1.out⟩
    case round =>
      obtain ⟨k, rfl, hk, hown, hy⟩ := hrel
      have HO := Lib.hid hown
      have HY := Lib.hid hy
      clear hown hy
      obtain ⟨k0, k1, k2⟩ := box31 (HB.out.aft HY.out)
      have k3 := (HB.out.aft HY.out).lt
      by_cases hkN : k < N
      · have t2 : decide (k < N) = true := by simpa using hkN
        have HP := Lib.hid (idxL_succ PT k)
        have hpl := idxL_len PT k
        have HC0 : Hid (∀ W, Aft wr W → W.cell? ⟨bC, 0, none⟩ = some (.int .i64 N) ∧ W.cell? ⟨bC, 1, none⟩ = some (.slice a1 S.length c1) ∧ W.cell? ⟨bC, 2, none⟩ = some (.slice (some ⟨bt, ot, none⟩) T.length c2)) := Lib.hid fun W h => box31 (HB.out.aft (HY.out.trans h))
        have HX2 : Hid (∀ W, Aft wr W → W.cell? ⟨bt, ot + n, none⟩ = some (.slice A' l.length c')) := Lib.hid fun W h => HX1.out W (H0.out.trans (HY.out.trans h))
        obtain ⟨bb, hbb⟩ : ∃ bb, PT k = bb := ⟨_, rfl⟩
        have H58k : Hid (∀ W, Aft wr W → Calls Tryz.prog 58 #[.agg #[.int .i64 N, .slice a1 S.length c1, .slice (some ⟨bt, ot, none⟩) T.length c2], .slice A' l.length c', .int .i64 k] W fun e w' => e = .returned (.bool bb) ∧ Aft W w') := Lib.hid fun W h => by rw [← hbb]; exact H58.out k W hkN (H0.out.trans (HY.out.trans h))
        rw [hbb] at HP
        clear hbb
        go_upto_region 10 with fail
        clear k0 k1 k2 k3
        refine wp_region_valsG (by kernel_rfl) 39 rfl (by kernel_rfl) (by kernel_rfl) [(.agg #[.int .i64 N, .slice a1 S.length c1, .slice (some ⟨bt, ot, none⟩) T.length c2]), .pointer (some ⟨bC, 2, none⟩), .slice (some ⟨bt, ot, none⟩) T.length c2, .int .i64 n, .pointer (some ⟨bt, ot + n, none⟩), .slice A' l.length c', .int .i64 k, .bool bb] rfl (fun W => Aft wr W) (Aft.drew _) ?st1 ?fi1
        case st1 =>
          intro i o v ho hv
          match i, ho, hv with
          | 0, ho, hv =>
            cases ho; cases hv
            refine .inl ⟨rfl, fun a W hk hw K hK => ?_⟩
            have e2 := hk.same 2 (by decide)
            obtain ⟨j0, j1, j2⟩ := HC0.out W hw
            exact op_val (v := (.agg #[.int .i64 N, .slice a1 S.length c1, .slice (some ⟨bt, ot, none⟩) T.length c2])) (by simp [go_sem, ev' e2, j0, j1, j2]) (hK _ hw)
          | 1, ho, hv =>
            cases ho; cases hv
            refine .inl ⟨rfl, fun a W hk hw K hK => ?_⟩
            have e2 := hk.same 2 (by decide)
            exact op_val (by simp [go_sem, ev' e2]) (hK _ hw)
          | 2, ho, hv =>
            cases ho; cases hv
            refine .inl ⟨rfl, fun a W hk hw K hK => ?_⟩
            have e27 := hk.at_ 1 _ 27 _ rfl (by decide) _ rfl rfl rfl
            exact op_val (by simp [go_sem, ev' e27, (HC0.out W hw).2.2]) (hK _ hw)
          | 3, ho, hv =>
            cases ho; cases hv
            refine .inl ⟨rfl, fun a W hk hw K hK => ?_⟩
            have e1 := hk.same 1 (by decide)
            exact op_val (by simp [go_sem, ev' e1]) (hK _ hw)
          | 4, ho, hv =>
            cases ho; cases hv
            refine .inl ⟨rfl, fun a W hk hw K hK => ?_⟩
            have e28 := hk.at_ 2 _ 28 _ rfl (by decide) _ rfl rfl rfl
            have e29 := hk.at_ 3 _ 29 _ rfl (by decide) _ rfl rfl rfl
            exact op_val (by simp [go_sem, ev' e28, ev' e29, inT]) (hK _ hw)
          | 5, ho, hv =>
            cases ho; cases hv
            refine .inl ⟨rfl, fun a W hk hw K hK => ?_⟩
            have e30 := hk.at_ 4 _ 30 _ rfl (by decide) _ rfl rfl rfl
            exact op_val (by simp [go_sem, ev' e30, HX2.out W hw]) (hK _ hw)
          | 6, ho, hv =>
            cases ho; cases hv
            refine .inl ⟨rfl, fun a W hk hw K hK => ?_⟩
            have e8 := hk.same 8 (by decide)
            exact op_val (by simp [go_sem, ev' e8]) (hK _ hw)
          | 7, ho, hv =>
            cases ho; cases hv
            refine .inl ⟨rfl, fun a W hk hw K hK => ?_⟩
            have e26 := hk.at_ 0 _ 26 _ rfl (by decide) _ rfl rfl rfl
            have e31 := hk.at_ 5 _ 31 _ rfl (by decide) _ rfl rfl rfl
            have e32 := hk.at_ 6 _ 32 _ rfl (by decide) _ rfl rfl rfl
            refine op_callN rfl rfl rfl _ rfl (vs := #[(.agg #[.int .i64 N, .slice a1 S.length c1, .slice (some ⟨bt, ot, none⟩) T.length c2]), .slice A' l.length c', .int .i64 k]) (by simp [e26, e31, e32]) (H58k.out W hw) fun e w' h => ?_
            obtain ⟨rfl, ha⟩ := h
            exact ⟨_, rfl, hK _ (hw.trans ha)⟩
          | _ + 8, _, hv => cases hv
        intro W hw
        simp only [List.drop_succ_cons, List.drop_zero, List.zip_cons_cons, List.zip_nil_right, putAll]
        simp only [Act.put, List.setIfInBounds_toArray, List.set]
        cases bb
        · rw [if_neg (by decide), List.append_nil] at HP
          go_wp2_with fail
          exact ⟨⟨k + 1, by go_num, by omega, by rw [HP.out]; exact own_aft HO.out hw, HY.out.trans hw⟩, by simp [intOf]; omega⟩
        · rw [if_pos rfl] at HP
          have HTA := Lib.hid (own_aft (own_aft HO.out hw) (Aft.alloc W (.cells #[.int .i64 k] 3)))
          have hbase : W0.heap.size ≤ (W.alloc (.cells #[.int .i64 k] 3)).heap.size := Nat.le_trans (HY.out.trans hw).size (Aft.alloc _ _).size
          have hge := own_ge HO.out
          go_wp2_with (at_builtin; refine wpList_push rfl _ _ rfl HTA.out hbase rfl rfl (cell_new1 _ _ _) (by omega) ?_; intro v6 w6 ho6 hg6; have HO6 := Lib.hid ho6; have HG6 := Lib.hid hg6; clear ho6 hg6)
          exact ⟨⟨k + 1, by go_num, by omega, by rw [HP.out]; exact HO6.out, ((HY.out.trans hw).then_alloc _).grown HG6.out hge⟩, by simp [intOf]; omega⟩
      · have t2 : decide (k < N) = false := by simpa using hkN
        obtain rfl : k = N := by omega
        go_wp2_with fail
        go_ret2
        exact ⟨_, rfl, own_base HO.out (Nat.le_of_lt hw0), H0.out.trans HY.out⟩
  · rw [if_neg h1] at he
    exact absurd he h1

set_option maxRecDepth 100000 in
set_option maxHeartbeats 4000000 in
theorem surveysTop_bad (C : CaseL) (a1 a2 : Option Addr) (c1 c2 : Nat) (n : Int) (w : World) (hC : CRep w C a1 a2) (he : surveyingE C n ≠ 0) :
    Calls Tryz.prog 19 #[(.agg #[.int .i64 C.claims, .slice a1 C.strikes.length c1, .slice a2 C.surveys.length c2]), .int .i64 n] w (BadS (surveyingE C n) w) := by
  have H0 := Lib.hid (Aft.alloc w (.cells #[.int .i64 C.claims, .slice a1 C.strikes.length c1, .slice a2 C.surveys.length c2] 31))
  have HB := Lib.hid (Blk.new w 31 #[.int .i64 C.claims, .slice a1 C.strikes.length c1, .slice a2 C.surveys.length c2])
  unfold BadS
  unfold surveyingE at he ⊢
  by_cases h1 : caseE C = 0
  · rw [if_pos h1] at he ⊢
    have hok := caseE_ok h1
    have hf : Cl n C.claims = false := by
      cases h : Cl n C.claims
      · rfl
      · rw [h] at he; exact absurd rfl he
    rw [hf, if_neg (by decide)]
    have H1 : Hid (Calls Tryz.prog 56 #[(.agg #[.int .i64 C.claims, .slice a1 C.strikes.length c1, .slice a2 C.surveys.length c2])] (w.alloc (.cells #[.int .i64 C.claims, .slice a1 C.strikes.length c1, .slice a2 C.surveys.length c2] 31)) fun e w' => e = .returned (.int .i64 0) ∧ Aft (w.alloc (.cells #[.int .i64 C.claims, .slice a1 C.strikes.length c1, .slice a2 C.surveys.length c2] 31)) w') := Lib.hid (by rw [← h1]; exact checkR_any C a1 a2 c1 c2 _ (hC.aft H0.out))
    have hn1 := hok.n1
    have hn2 := hok.n2
    have e1 : IntKind.i64.wrap (C.claims - 1) = C.claims - 1 := by rw [IntWalk.i64_in _ (by omega)]
    have HF : Hid (fromB n 0 (C.claims - 1) = false) := Lib.hid hf
    obtain ⟨k0, k1, k2⟩ := box31 HB.out
    have hlt := HB.out.lt
    clear hC he h1 hok hf
    go_enter Tryz.func19, Tryz.ntmps19
    go_wp2_with (first | (go_at_call 56; refine H1.out.mono ?_; rintro e w1 ⟨rfl, ha1⟩; have HA1 := Lib.hid ha1; obtain ⟨j0, j1, j2⟩ := box31 (HB.out.aft ha1); have hlt1 := (HB.out.aft ha1).lt; clear ha1) | (go_at_call 57; refine (beside_any n 0 (C.claims - 1) _).mono ?_; rintro e w2 ⟨rfl, rfl⟩; rw [HF.out]))
    go_ret2
    exact ⟨rfl, H0.out.trans HA1.out⟩
  · rw [if_neg h1] at he ⊢
    have H1 := Lib.hid (checkR_any C a1 a2 c1 c2 _ (hC.aft H0.out))
    have t1 : (caseE C != 0) = true := by simpa using h1
    obtain ⟨k0, k1, k2⟩ := box31 HB.out
    have hlt := HB.out.lt
    clear hC he h1
    generalize caseE C = E at *
    go_enter Tryz.func19, Tryz.ntmps19
    go_wp2_with (go_at_call 56; refine H1.out.mono ?_; rintro e w1 ⟨rfl, ha1⟩; have HA1 := Lib.hid ha1; clear ha1)
    go_ret2
    exact ⟨rfl, H0.out.trans HA1.out⟩

set_option maxRecDepth 100000 in
set_option maxHeartbeats 4000000 in
theorem surveysTop_good (N : Nat) (S : List (Int × Int)) (T : List (List Int)) (a1 a2 : Option Addr) (c1 c2 : Nat) (n : Nat) (w : World) (hC : CRep w ⟨N, S, T⟩ a1 a2) (he : surveyingE ⟨N, S, T⟩ n = 0) :
    Calls Tryz.prog 19 #[(.agg #[.int .i64 N, .slice a1 S.length c1, .slice a2 T.length c2]), .int .i64 n] w (GoodL (idxL (fun i => decT ⟨N, S, T⟩ (T.getD i []) N (2 ^ (T.getD i []).length) n) T.length) w) := by
  have H0 := Lib.hid (Aft.alloc w (.cells #[.int .i64 N, .slice a1 S.length c1, .slice a2 T.length c2] 31))
  have HB := Lib.hid (Blk.new w 31 #[.int .i64 N, .slice a1 S.length c1, .slice a2 T.length c2])
  unfold surveyingE at he
  by_cases h1 : caseE ⟨N, S, T⟩ = 0
  · rw [if_pos h1] at he
    have hf : Cl (n : Int) N = true := by
      cases h : Cl (n : Int) N
      · rw [h] at he; cases he
      · rfl
    have hnN : n < N := by have := Cl_iff.1 hf; omega
    have H1 : Hid (Calls Tryz.prog 56 #[(.agg #[.int .i64 N, .slice a1 S.length c1, .slice a2 T.length c2])] (w.alloc (.cells #[.int .i64 N, .slice a1 S.length c1, .slice a2 T.length c2] 31)) fun e w' => e = .returned (.int .i64 0) ∧ Aft (w.alloc (.cells #[.int .i64 N, .slice a1 S.length c1, .slice a2 T.length c2] 31)) w') := Lib.hid (by rw [← h1]; exact checkR_any ⟨N, S, T⟩ a1 a2 c1 c2 _ (hC.aft H0.out))
    have hok := caseE_ok h1
    have hn1 := hok.n1
    have hn2 := hok.n2
    have hfs := hok.fews
    have hss := hok.few
    have HIN := Lib.hid hok.ins
    have HSV := Lib.hid hok.svs
    dsimp only at hn1 hn2 hfs hss HSV HIN
    have e1 : IntKind.i64.wrap ((N : Int) - 1) = (N : Int) - 1 := by rw [IntWalk.i64_in _ (by omega)]
    have HF : Hid (fromB (n : Int) 0 ((N : Int) - 1) = true) := Lib.hid hf
    have HC := Lib.hid (hC.aft H0.out)
    obtain ⟨PT, hPT⟩ : ∃ PT : Nat → Bool, PT = fun i => decT ⟨N, S, T⟩ (T.getD i []) N (2 ^ (T.getD i []).length) n := ⟨_, rfl⟩
    have HPT : Hid (∀ k, (h : k < T.length) → decT ⟨N, S, T⟩ T[k] N (2 ^ T[k].length) n = PT k) := Lib.hid fun k h => by
      have hgd : T.getD k [] = T[k] := by rw [List.getD_eq_getElem?_getD, List.getElem?_eq_getElem h]; rfl
      rw [hPT]
      dsimp only
      rw [hgd]
    rw [← hPT]
    have hw0 : w.heap.size < (w.alloc (.cells #[.int .i64 N, .slice a1 S.length c1, .slice a2 T.length c2] 31)).heap.size := by simp
    obtain ⟨bC, hbC⟩ : ∃ bC, w.heap.size = bC := ⟨_, rfl⟩
    rw [hbC] at HB hw0
    have HBC := Lib.hid hbC
    clear hbC he h1 hok hf hPT hC
    unfold GoodL
    rw [HBC.out]
    go_enter Tryz.func19, Tryz.ntmps19
    go_upto_region 1 with fail
    rw [HBC.out]
    generalize w.alloc (.cells #[.int .i64 N, .slice a1 S.length c1, .slice a2 T.length c2] 31) = W0 at *
    obtain ⟨k0, k1, k2⟩ := box31 HB.out
    have k3 := HB.out.lt
    go_upto_block 0 with (first | (go_at_call 56; refine H1.out.mono ?_; rintro e W1 ⟨rfl, ha1⟩; have HA1 := Lib.hid ha1; obtain ⟨j0, j1, j2⟩ := box31 (HB.out.aft ha1); have hlt1 := (HB.out.aft ha1).lt; clear ha1) | (go_at_call 57; refine (beside_any (n : Int) 0 ((N : Int) - 1) _).mono ?_; rintro e w2 ⟨rfl, rfl⟩; rw [HF.out]))
    clear k0 k1 k2 k3 j0 j1 j2 hlt1 H1 HF
    have HO0 := Lib.hid (World.ownsRow_nil W1 W0.heap.size 3 1)
    refine wp_block ?_
    go_loopw [7, 8] (fun v i wr => ∃ k : Nat, i = .int .i64 k ∧ k ≤ T.length ∧ wr.ownsRow W0.heap.size 3 1 v (idxL PT k).length ((idxL PT k).map (Value.int .i64)) ∧ Aft W0 wr) (fun _ i _ => T.length - (intOf i).toNat)
    case atStart => exact ⟨0, rfl, by omega, HO0.out, HA1.out⟩
    case round =>
      obtain ⟨k, rfl, hk, hown, hy⟩ := hrel
      have HO := Lib.hid hown
      have HY := Lib.hid hy
      clear hown hy
      obtain ⟨k0, k1, k2⟩ := box31 (HB.out.aft HY.out)
      have k3 := (HB.out.aft HY.out).lt
      by_cases hkT : k < T.length
      · have t2 : decide (k < T.length) = true := by simpa using hkT
        have ik : (0 : Int) ≤ (k : Int) ∧ (k : Int) < (T.length : Int) := by omega
        have HP := Lib.hid (idxL_succ PT k)
        have hpl := idxL_len PT k
        obtain ⟨bt, ot, A', c', hbt, hltt, x1, hil⟩ := (HC.out.aft HY.out).surveys.row hkT
        dsimp only at hbt x1 hil
        subst hbt
        have hsv := HSV.out T[k] (List.getElem_mem hkT)
        have hlr := (listedE_ok hsv.2).1
        have hpk := HPT.out k hkT
        obtain ⟨l, hl0⟩ : ∃ l, T[k] = l := ⟨_, rfl⟩
        rw [hl0] at x1 hil hsv hlr hpk
        have HIL := Lib.hid hil
        have HX2 : Hid (∀ W, Aft wr W → W.cell? ⟨bt, ot + k, none⟩ = some (.slice A' l.length c')) := Lib.hid fun W h => cellA x1 hltt h
        have HC0 : Hid (∀ W, Aft wr W → W.cell? ⟨bC, 0, none⟩ = some (.int .i64 N) ∧ W.cell? ⟨bC, 1, none⟩ = some (.slice a1 S.length c1) ∧ W.cell? ⟨bC, 2, none⟩ = some (.slice (some ⟨bt, ot, none⟩) T.length c2)) := Lib.hid fun W h => box31 (HB.out.aft (HY.out.trans h))
        obtain ⟨bb, hbb⟩ : ∃ bb, PT k = bb := ⟨_, rfl⟩
        have H58k : Hid (∀ W, Aft wr W → Calls Tryz.prog 58 #[.agg #[.int .i64 N, .slice a1 S.length c1, .slice (some ⟨bt, ot, none⟩) T.length c2], .slice A' l.length c', .int .i64 n] W fun e w' => e = .returned (.bool bb) ∧ Aft W w') := Lib.hid fun W h => by
          rw [← hbb, ← hpk]
          exact decidesR_any N S T a1 (some ⟨bt, ot, none⟩) c1 c2 l A' c' n W (HC.out.aft (HY.out.trans h)) (by omega) hss (fun s hs => HIN.out s hs) (HIL.out.aft h) hlr hsv.1.2 hnN
        rw [hbb] at HP
        clear hbb hpk hl0 hil hsv hlr x1
        go_upto_region 10 with fail
        clear k0 k1 k2 k3
        refine wp_region_valsG (by kernel_rfl) 39 rfl (by kernel_rfl) (by kernel_rfl) [(.agg #[.int .i64 N, .slice a1 S.length c1, .slice (some ⟨bt, ot, none⟩) T.length c2]), .pointer (some ⟨bC, 2, none⟩), .slice (some ⟨bt, ot, none⟩) T.length c2, .int .i64 k, .pointer (some ⟨bt, ot + k, none⟩), .slice A' l.length c', .int .i64 n, .bool bb] rfl (fun W => Aft wr W) (Aft.drew _) ?st2 ?fi2
        case st2 =>
          intro i o v ho hv
          match i, ho, hv with
          | 0, ho, hv =>
            cases ho; cases hv
            refine .inl ⟨rfl, fun a W hk hw K hK => ?_⟩
            have e2 := hk.same 2 (by decide)
            obtain ⟨j0, j1, j2⟩ := HC0.out W hw
            exact op_val (v := (.agg #[.int .i64 N, .slice a1 S.length c1, .slice (some ⟨bt, ot, none⟩) T.length c2])) (by simp [go_sem, ev' e2, j0, j1, j2]) (hK _ hw)
          | 1, ho, hv =>
            cases ho; cases hv
            refine .inl ⟨rfl, fun a W hk hw K hK => ?_⟩
            have e2 := hk.same 2 (by decide)
            exact op_val (by simp [go_sem, ev' e2]) (hK _ hw)
          | 2, ho, hv =>
            cases ho; cases hv
            refine .inl ⟨rfl, fun a W hk hw K hK => ?_⟩
            have e27 := hk.at_ 1 _ 27 _ rfl (by decide) _ rfl rfl rfl
            exact op_val (by simp [go_sem, ev' e27, (HC0.out W hw).2.2]) (hK _ hw)
          | 3, ho, hv =>
            cases ho; cases hv
            refine .inl ⟨rfl, fun a W hk hw K hK => ?_⟩
            have e8 := hk.same 8 (by decide)
            exact op_val (by simp [go_sem, ev' e8]) (hK _ hw)
          | 4, ho, hv =>
            cases ho; cases hv
            refine .inl ⟨rfl, fun a W hk hw K hK => ?_⟩
            have e28 := hk.at_ 2 _ 28 _ rfl (by decide) _ rfl rfl rfl
            have e29 := hk.at_ 3 _ 29 _ rfl (by decide) _ rfl rfl rfl
            exact op_val (by simp [go_sem, ev' e28, ev' e29, ik]) (hK _ hw)
          | 5, ho, hv =>
            cases ho; cases hv
            refine .inl ⟨rfl, fun a W hk hw K hK => ?_⟩
            have e30 := hk.at_ 4 _ 30 _ rfl (by decide) _ rfl rfl rfl
            exact op_val (by simp [go_sem, ev' e30, HX2.out W hw]) (hK _ hw)
          | 6, ho, hv =>
            cases ho; cases hv
            refine .inl ⟨rfl, fun a W hk hw K hK => ?_⟩
            have e1 := hk.same 1 (by decide)
            exact op_val (by simp [go_sem, ev' e1]) (hK _ hw)
          | 7, ho, hv =>
            cases ho; cases hv
            refine .inl ⟨rfl, fun a W hk hw K hK => ?_⟩
            have e26 := hk.at_ 0 _ 26 _ rfl (by decide) _ rfl rfl rfl
            have e31 := hk.at_ 5 _ 31 _ rfl (by decide) _ rfl rfl rfl
            have e32 := hk.at_ 6 _ 32 _ rfl (by decide) _ rfl rfl rfl
            refine op_callN rfl rfl rfl _ rfl (vs := #[(.agg #[.int .i64 N, .slice a1 S.length c1, .slice (some ⟨bt, ot, none⟩) T.length c2]), .slice A' l.length c', .int .i64 n]) (by simp [e26, e31, e32]) (H58k.out W hw) fun e w' h => ?_
            obtain ⟨rfl, ha⟩ := h
            exact ⟨_, rfl, hK _ (hw.trans ha)⟩
          | _ + 8, _, hv => cases hv
        intro W hw
        simp only [List.drop_succ_cons, List.drop_zero, List.zip_cons_cons, List.zip_nil_right, putAll]
        simp only [Act.put, List.setIfInBounds_toArray, List.set]
        cases bb
        · rw [if_neg (by decide), List.append_nil] at HP
          go_wp2_with fail
          exact ⟨⟨k + 1, by go_num, by omega, by rw [HP.out]; exact own_aft HO.out hw, HY.out.trans hw⟩, by simp [intOf]; omega⟩
        · rw [if_pos rfl] at HP
          have HTA := Lib.hid (own_aft (own_aft HO.out hw) (Aft.alloc W (.cells #[.int .i64 k] 3)))
          have hbase : W0.heap.size ≤ (W.alloc (.cells #[.int .i64 k] 3)).heap.size := Nat.le_trans (HY.out.trans hw).size (Aft.alloc _ _).size
          have hge := own_ge HO.out
          go_wp2_with (at_builtin; refine wpList_push rfl _ _ rfl HTA.out hbase rfl rfl (cell_new1 _ _ _) (by omega) ?_; intro v6 w6 ho6 hg6; have HO6 := Lib.hid ho6; have HG6 := Lib.hid hg6; clear ho6 hg6)
          exact ⟨⟨k + 1, by go_num, by omega, by rw [HP.out]; exact HO6.out, ((HY.out.trans hw).then_alloc _).grown HG6.out hge⟩, by simp [intOf]; omega⟩
      · have t2 : decide (k < T.length) = false := by simpa using hkT
        obtain rfl : T.length = k := by omega
        go_wp2_with fail
        go_ret2
        exact ⟨_, rfl, own_base HO.out (Nat.le_of_lt hw0), H0.out.trans HY.out⟩
  · rw [if_neg h1] at he
    exact absurd he h1
end Go.Proofs
end

section
namespace Go.Proofs
open Go.RowKit
open Court (refL begF noS struckB award winB)
attribute [local go_sem] Oper.semAt_some

theorem bits_i64_one (a : Nat) (ha : a < 1000000) : bits .and .i64 (a : Int) 1 = ((a % 2 : Nat) : Int) := by
  have h1 : (BitVec.ofInt 64 (a : Int)).toNat = a := by
    rw [BitVec.ofInt_natCast, BitVec.toNat_ofNat]; exact Nat.mod_eq_of_lt (by omega)
  have h2 : (BitVec.ofInt 64 1).toNat = 1 := by decide
  show IntKind.i64.wrap ((BitVec.ofInt 64 (a : Int) &&& BitVec.ofInt 64 1).toNat : Int) = _
  rw [BitVec.toNat_and, h1, h2, Nat.and_one_is_mod, IntKind.wrap_i64]
  omega
theorem bits_big {m k : Nat} (hm : m < 1000000) : (bits .and .i64 ((m : Int) / 2 ^ k) 1 == 1) = m.testBit k := by
  have e : ((m : Int) / 2 ^ k) = ((m / 2 ^ k : Nat) : Int) := by push_cast; rfl
  rw [e, bits_i64_one _ (Nat.lt_of_le_of_lt (Nat.div_le_self _ _) hm), Nat.testBit_eq_decide_div_mod_eq]
  by_cases h : m / 2 ^ k % 2 = 1
  · rw [h]; rfl
  · rw [decide_eq_false h]
    have : ¬ (((m / 2 ^ k % 2 : Nat) : Int) = 1) := by omega
    simpa using this
def ManyE (b : Nat) (E : Int) (w : World) (e : Ending) (w' : World) : Prop := e = .returned (.tuple #[.int .i64 b, .int .i64 E]) ∧ Aft w w'

set_option maxRecDepth 100000 in
set_option maxHeartbeats 4000000 in
theorem many_arg (C : CaseL) (a1 a2 : Option Addr) (c1 c2 : Nat) (n : Int) (w : World) (hC : CRep w C a1 a2) (he : caseE C ≠ 0 ∨ Cl n C.claims = false) :
    Calls Tryz.prog 21 #[(.agg #[.int .i64 C.claims, .slice a1 C.strikes.length c1, .slice a2 C.surveys.length c2]), .int .i64 n] w (ManyE 0 (fewE C n) w) := by
  have H0 := Lib.hid (Aft.alloc w (.cells #[.int .i64 C.claims, .slice a1 C.strikes.length c1, .slice a2 C.surveys.length c2] 31))
  have HB := Lib.hid (Blk.new w 31 #[.int .i64 C.claims, .slice a1 C.strikes.length c1, .slice a2 C.surveys.length c2])
  unfold ManyE fewE
  by_cases h1 : caseE C = 0
  · rw [if_pos h1]
    have hok := caseE_ok h1
    have hf : Cl n C.claims = false := by
      rcases he with h | h
      · exact absurd h1 h
      · exact h
    rw [hf, if_neg (by decide)]
    have H1 : Hid (Calls Tryz.prog 56 #[(.agg #[.int .i64 C.claims, .slice a1 C.strikes.length c1, .slice a2 C.surveys.length c2])] (w.alloc (.cells #[.int .i64 C.claims, .slice a1 C.strikes.length c1, .slice a2 C.surveys.length c2] 31)) fun e w' => e = .returned (.int .i64 0) ∧ Aft (w.alloc (.cells #[.int .i64 C.claims, .slice a1 C.strikes.length c1, .slice a2 C.surveys.length c2] 31)) w') := Lib.hid (by rw [← h1]; exact checkR_any C a1 a2 c1 c2 _ (hC.aft H0.out))
    have hn1 := hok.n1
    have hn2 := hok.n2
    have e1 : IntKind.i64.wrap (C.claims - 1) = C.claims - 1 := by rw [IntWalk.i64_in _ (by omega)]
    have HF : Hid (fromB n 0 (C.claims - 1) = false) := Lib.hid hf
    obtain ⟨k0, k1, k2⟩ := box31 HB.out
    have hlt := HB.out.lt
    clear hC he h1 hok hf
    go_enter Tryz.func21, Tryz.ntmps21
    go_wp2_with (first | (go_at_call 56; refine H1.out.mono ?_; rintro e w1 ⟨rfl, ha1⟩; have HA1 := Lib.hid ha1; obtain ⟨j0, j1, j2⟩ := box31 (HB.out.aft ha1); have hlt1 := (HB.out.aft ha1).lt; clear ha1) | (go_at_call 57; refine (beside_any n 0 (C.claims - 1) _).mono ?_; rintro e w2 ⟨rfl, rfl⟩; rw [HF.out]))
    go_ret2
    exact ⟨rfl, H0.out.trans HA1.out⟩
  · rw [if_neg h1]
    have H1 := Lib.hid (checkR_any C a1 a2 c1 c2 _ (hC.aft H0.out))
    have t1 : (caseE C != 0) = true := by simpa using h1
    obtain ⟨k0, k1, k2⟩ := box31 HB.out
    have hlt := HB.out.lt
    clear hC he h1
    generalize caseE C = E at *
    go_enter Tryz.func21, Tryz.ntmps21
    go_wp2_with (go_at_call 56; refine H1.out.mono ?_; rintro e w1 ⟨rfl, ha1⟩; have HA1 := Lib.hid ha1; clear ha1)
    go_ret2
    exact ⟨rfl, H0.out.trans HA1.out⟩

set_option maxRecDepth 100000 in
set_option maxHeartbeats 16000000 in
theorem many_in (N : Nat) (S : List (Int × Int)) (T : List (List Int)) (a1 a2 : Option Addr) (c1 c2 : Nat) (n : Nat) (w : World) (hC : CRep w ⟨N, S, T⟩ a1 a2) (h1 : caseE ⟨N, S, T⟩ = 0) (hn : n < N) :
    Calls Tryz.prog 21 #[(.agg #[.int .i64 N, .slice a1 S.length c1, .slice a2 T.length c2]), .int .i64 n] w (ManyE (if ((n : Int), (n : Int)) ∈ S then 0 else manyTo S N n (2 ^ N)) (if ((n : Int), (n : Int)) ∈ S then 7 else 0) w) := by
  have H0 := Lib.hid (Aft.alloc w (.cells #[.int .i64 N, .slice a1 S.length c1, .slice a2 T.length c2] 31))
  have HB := Lib.hid (Blk.new w 31 #[.int .i64 N, .slice a1 S.length c1, .slice a2 T.length c2])
  have H1 : Hid (Calls Tryz.prog 56 #[(.agg #[.int .i64 N, .slice a1 S.length c1, .slice a2 T.length c2])] (w.alloc (.cells #[.int .i64 N, .slice a1 S.length c1, .slice a2 T.length c2] 31)) fun e w' => e = .returned (.int .i64 0) ∧ Aft (w.alloc (.cells #[.int .i64 N, .slice a1 S.length c1, .slice a2 T.length c2] 31)) w') := Lib.hid (by rw [← h1]; exact checkR_any ⟨N, S, T⟩ a1 a2 c1 c2 _ (hC.aft H0.out))
  have hok := caseE_ok h1
  have hn1 := hok.n1
  have hn2 := hok.n2
  have hss := hok.few
  have HIN := Lib.hid hok.ins
  dsimp only at hn1 hn2 hss HIN
  have e1 : IntKind.i64.wrap ((N : Int) - 1) = (N : Int) - 1 := by rw [IntWalk.i64_in _ (by omega)]
  have HF : Hid (fromB (n : Int) 0 ((N : Int) - 1) = true) := Lib.hid (fromB_iff.2 (by omega))
  have HC := Lib.hid (hC.aft H0.out)
  have inN : (0 : Int) ≤ (n : Int) ∧ (n : Int) < (N : Int) := by omega
  obtain ⟨bm, hbm⟩ : ∃ bm, (if ((n : Int), (n : Int)) ∈ S then 0 else manyTo S N n (2 ^ N)) = bm := ⟨_, rfl⟩
  obtain ⟨em, hem⟩ : ∃ em : Int, (if ((n : Int), (n : Int)) ∈ S then 7 else 0) = em := ⟨_, rfl⟩
  rw [hbm, hem]
  have HEM := Lib.hid hem
  unfold ManyE
  obtain ⟨bC, hbC⟩ : ∃ bC, w.heap.size = bC := ⟨_, rfl⟩
  rw [hbC] at HB
  have HBC := Lib.hid hbC
  clear hbC h1 hok hC hem
  obtain ⟨q, hq⟩ : ∃ q, 2 ^ N = q := ⟨_, rfl⟩
  have hq14 : q ≤ 16384 := by rw [← hq]; exact Nat.le_trans (Nat.pow_le_pow_right (by omega) (show N ≤ 14 by omega)) (by decide)
  have q0 : wrap64 ((2 : Int) ^ N) = (q : Int) := by
    have e : (2 : Int) ^ N = (q : Int) := by rw [← hq]; push_cast; rfl
    rw [e]
    unfold wrap64
    omega
  rw [hq] at hbm
  have HBM := Lib.hid hbm
  clear hq hbm
  go_enter Tryz.func21, Tryz.ntmps21
  go_upto_region 1 with fail
  rw [HBC.out]
  generalize w.alloc (.cells #[.int .i64 N, .slice a1 S.length c1, .slice a2 T.length c2] 31) = W0 at *
  obtain ⟨k0, k1, k2⟩ := box31 HB.out
  have k3 := HB.out.lt
  go_upto_block 0 with (first | (go_at_call 56; refine H1.out.mono ?_; rintro e W1 ⟨rfl, ha1⟩; have HA1 := Lib.hid ha1; obtain ⟨j0, j1, j2⟩ := box31 (HB.out.aft ha1); have hlt1 := (HB.out.aft ha1).lt; clear ha1) | (go_at_call 57; refine (beside_any (n : Int) 0 ((N : Int) - 1) _).mono ?_; rintro e w2 ⟨rfl, rfl⟩; rw [HF.out]))
  clear k0 k1 k2 k3 j0 j1 j2 hlt1 H1 HF e1
  refine wp_block ?_
  go_loopw [7] (fun i wr => ∃ k : Nat, i = .int .i64 k ∧ k ≤ S.length ∧ Aft W0 wr ∧ Hid (∀ j, (h : j < S.length) → j < k → S[j] ≠ ((n : Int), (n : Int)))) (fun i _ => S.length - (intOf i).toNat)
  case atStart => exact ⟨0, rfl, by omega, HA1.out, Lib.hid fun j _ h => by omega⟩
  case round =>
    obtain ⟨k, rfl, hk, hy, HNO⟩ := hrel
    have HY := Lib.hid hy
    clear hy
    obtain ⟨k0, k1, k2⟩ := box31 (HB.out.aft HY.out)
    have k3 := (HB.out.aft HY.out).lt
    by_cases hkl : k < S.length
    · have t1 : decide (k < S.length) = true := by simpa using hkl
      have ik : (0 : Int) ≤ (k : Int) ∧ (k : Int) < (S.length : Int) := by omega
      obtain ⟨bs, os, hbs, hlts, hcs⟩ := (HC.out.aft HY.out).strikes.at hkl
      subst hbs
      obtain ⟨x1, x2⟩ := hcs k hkl
      obtain ⟨⟨y, z⟩, hyz⟩ : ∃ s, S[k] = s := ⟨_, rfl⟩
      have HYZ := Lib.hid hyz
      rw [hyz] at x1 x2
      dsimp only at x1 x2
      clear hcs hyz
      cases hyn : (y == (n : Int))
      · have HNO2 : Hid (∀ j, (h : j < S.length) → j < k + 1 → S[j] ≠ ((n : Int), (n : Int))) := Lib.hid fun j h h' => by
          by_cases e : j = k
          · subst e
            rw [HYZ.out]
            intro e
            cases e
            simp at hyn
          · exact HNO.out j h (by omega)
        go_wp2_with fail
        exact ⟨⟨k + 1, by go_num, by omega, HY.out, HNO2⟩, by simp [intOf]; omega⟩
      · cases hzn : (z == (n : Int))
        · have HNO2 : Hid (∀ j, (h : j < S.length) → j < k + 1 → S[j] ≠ ((n : Int), (n : Int))) := Lib.hid fun j h h' => by
            by_cases e : j = k
            · subst e
              rw [HYZ.out]
              intro e
              cases e
              simp at hzn
            · exact HNO.out j h (by omega)
          go_wp2_with fail
          exact ⟨⟨k + 1, by go_num, by omega, HY.out, HNO2⟩, by simp [intOf]; omega⟩
        · have HMEM : Hid (((n : Int), (n : Int)) ∈ S) := Lib.hid (by
            have h1 := eq_of_beq hyn
            have h2 := eq_of_beq hzn
            have h3 := HYZ.out
            rw [h1, h2] at h3
            rw [← h3]
            exact List.getElem_mem hkl)
          have HB0 : Hid (bm = 0) := Lib.hid (by rw [← HBM.out, if_pos HMEM.out])
          have HE0 : Hid (em = 7) := Lib.hid (by rw [← HEM.out, if_pos HMEM.out])
          go_wp2_with fail
          go_ret2
          exact ⟨by rw [HB0.out, HE0.out]; rfl, H0.out.trans HY.out⟩
    · have t1 : decide (k < S.length) = false := by simpa using hkl
      have hmem : ((n : Int), (n : Int)) ∉ S := fun h => by
        obtain ⟨j, hj, e⟩ := List.mem_iff_getElem.1 h
        exact HNO.out j hj (by omega) e
      have HB0 : Hid (bm = manyTo S N n q) := Lib.hid (by rw [← HBM.out, if_neg hmem])
      have HE0 : Hid (em = 0) := Lib.hid (by rw [← HEM.out, if_neg hmem])
      obtain ⟨W2, rfl⟩ : ∃ W2, W2 = wr := ⟨_, rfl⟩
      clear HNO hmem hkl
      go_upto_block 2 with fail
      clear k0 k1 k2 k3
      have HM0 := Lib.hid (manyTo_zero S N n)
      refine wp_block ?_
      go_loopw [8, 9] (fun b i wr => ∃ (m bv : Nat), i = .int .i64 m ∧ b = .int .i64 bv ∧ m ≤ q ∧ Aft W0 wr ∧ Hid (manyTo S N n m = bv)) (fun _ i _ => q - (intOf i).toNat)
      case atStart => exact ⟨0, N, rfl, rfl, by omega, HY.out, HM0⟩
      case round =>
        obtain ⟨m, bv, rfl, rfl, hm, hy, HBV⟩ := hrel
        have HY := Lib.hid hy
        clear hy
        obtain ⟨W3, rfl⟩ : ∃ W3, W3 = wr := ⟨_, rfl⟩
        obtain ⟨k0, k1, k2⟩ := box31 (HB.out.aft HY.out)
        have k3 := (HB.out.aft HY.out).lt
        by_cases hmq : m < q
        · have t2 : decide (m < q) = true := by simpa using hmq
          go_upto_block 4 with fail
          rw [q0]
          clear k0 k1 k2 k3
          have HO0 := Lib.hid (World.ownsRow_nil W3 W3.heap.size 3 1)
          refine wp_block ?_
          go_loopw [10, 11] (fun v i wr => ∃ k : Nat, i = .int .i64 k ∧ k ≤ N ∧ wr.ownsRow W3.heap.size 3 1 v (idxL (fun i => m.testBit i) k).length ((idxL (fun i => m.testBit i) k).map (Value.int .i64)) ∧ Aft W3 wr) (fun _ i _ => N - (intOf i).toNat)
          case atStart => exact ⟨0, rfl, by omega, HO0.out, Aft.refl _⟩
          case round =>
            obtain ⟨k, rfl, hk, hown, hz⟩ := hrel
            have HO := Lib.hid hown
            have HZ := Lib.hid hz
            clear hown hz
            obtain ⟨k0, k1, k2⟩ := box31 (HB.out.aft (HY.out.trans HZ.out))
            have k3 := (HB.out.aft (HY.out.trans HZ.out)).lt
            have hpl := idxL_len (fun i => m.testBit i) k
            by_cases hkN : k < N
            · have t3 : decide (k < N) = true := by simpa using hkN
              have ik64 : (0 : Int) ≤ (k : Int) ∧ (k : Int) ≤ 64 := by omega
              have HP := Lib.hid (idxL_succ (fun i => m.testBit i) k)
              have hbit := bits_big (m := m) (k := k) (by omega)
              cases hb : m.testBit k
              · rw [hb] at hbit HP
                clear hb
                rw [if_neg (by decide), List.append_nil] at HP
                go_wp2_with fail
                exact ⟨⟨k + 1, by go_num, by omega, by rw [HP.out]; exact HO.out, HZ.out⟩, by simp [intOf]; omega⟩
              · rw [hb] at hbit HP
                clear hb
                rw [if_pos rfl] at HP
                have HTA := Lib.hid (own_aft HO.out (Aft.alloc wr (.cells #[.int .i64 k] 3)))
                have hbase : W3.heap.size ≤ (wr.alloc (.cells #[.int .i64 k] 3)).heap.size := Nat.le_trans HZ.out.size (Aft.alloc _ _).size
                have hge := own_ge HO.out
                go_wp2_with (at_builtin; refine wpList_push rfl _ _ rfl HTA.out hbase rfl rfl (cell_new1 _ _ _) (by omega) ?_; intro v6 w6 ho6 hg6; have HO6 := Lib.hid ho6; have HG6 := Lib.hid hg6; clear ho6 hg6)
                exact ⟨⟨k + 1, by go_num, by omega, by rw [HP.out]; exact HO6.out, (HZ.out.then_alloc _).grown HG6.out hge⟩, by simp [intOf]; omega⟩
            · have t3 : decide (k < N) = false := by simpa using hkN
              obtain rfl : k = N := by omega
              have HSU := Lib.hid (manyTo_succ S k n m)
              rw [HBV.out] at HSU
              unfold manyF at HSU
              have hml : ∀ x ∈ setL k m, 0 ≤ x ∧ x < k := fun x hx => setL_mem hx
              have HO2 : Hid (wr.ownsRow W3.heap.size 3 1 u10 (setL k m).length ((setL k m).map (Value.int .i64))) := HO
              have hpl2 : (setL k m).length ≤ k := hpl
              obtain ⟨l, hl0⟩ : ∃ l, setL k m = l := ⟨_, rfl⟩
              rw [hl0] at HSU hml HO2 hpl2
              have HML := Lib.hid hml
              clear HO hpl hl0 hml hkN
              obtain ⟨A10, c10, rfl, hc10, hi10⟩ := own_ints HO2.out (by omega)
              have HI := Lib.hid hi10
              clear hi10 hc10 HO2
              by_cases hlb : l.length < bv
              · have t4 : decide (l.length < bv) = true := by simpa using hlb
                obtain ⟨bh, hbh⟩ : ∃ bh, hasB l n = bh := ⟨_, rfl⟩
                have hbh' : l.contains (n : Int) = bh := hbh
                have H64 := Lib.hid (hasR_any A10 l c10 n wr HI.out)
                rw [hbh] at H64
                rw [hbh'] at HSU
                clear hbh hbh'
                cases bh
                · obtain ⟨F, hF⟩ : ∃ F, foundL (award S noS k (begF (refL l))) k = F := ⟨_, rfl⟩
                  have HFL : Hid (F.length = k) := Lib.hid (by rw [← hF, foundL_len])
                  obtain ⟨fv, hfv⟩ : ∃ fv, award S noS k (begF (refL l)) n = fv := ⟨_, rfl⟩
                  have HFN : Hid (∀ h : n < F.length, F[n] = (fv : Int)) := Lib.hid fun h => by
                    subst hF
                    rw [foundL_get, hfv]
                  have H65 : Hid (Calls Tryz.prog 65 #[.agg #[.int .i64 k, .slice a1 S.length c1, .slice a2 T.length c2], .slice A10 l.length c10] wr (MadeI F wr)) := Lib.hid (by
                    rw [← hF]
                    exact awardR_any k S T a1 a2 c1 c2 l A10 c10 wr (HC.out.aft (HY.out.trans HZ.out)) (by omega) (fun s hs => (HIN.out s hs).1) HI.out HML.out)
                  have HW : Hid (winB S k n l = decide (fv = 1)) := Lib.hid (by rw [← hfv]; rfl)
                  rw [HW.out] at HSU
                  clear hF hfv HW HI HML
                  by_cases hf1 : fv = 1
                  · have q1 : ((fv : Int) == 1) = true := by simp; omega
                    rw [if_pos ⟨hlb, rfl, by simpa using hf1⟩] at HSU
                    go_wp2_with (first | (go_at_call 64; refine H64.out.mono ?_; rintro e w6 ⟨rfl, rfl⟩) | (go_at_call 65; refine H65.out.mono ?_; rintro e W6 ⟨g, rfl, hg, hb, ha⟩; have HA6 := Lib.hid ha; rw [HFL.out]; have y0 := ivs_cell hb (i := n) (by rw [HFL.out]; exact hn); have y1 := hb.lt; rw [HFN.out] at y0; clear hg hb ha))
                    exact ⟨⟨m + 1, l.length, by go_num, rfl, by omega, HY.out.trans (HZ.out.trans HA6.out), HSU⟩, by simp [intOf]; omega⟩
                  · have q1 : ((fv : Int) == 1) = false := by simp; omega
                    rw [if_neg (fun h => hf1 (by simpa using h.2.2))] at HSU
                    go_wp2_with (first | (go_at_call 64; refine H64.out.mono ?_; rintro e w6 ⟨rfl, rfl⟩) | (go_at_call 65; refine H65.out.mono ?_; rintro e W6 ⟨g, rfl, hg, hb, ha⟩; have HA6 := Lib.hid ha; rw [HFL.out]; have y0 := ivs_cell hb (i := n) (by rw [HFL.out]; exact hn); have y1 := hb.lt; rw [HFN.out] at y0; clear hg hb ha))
                    exact ⟨⟨m + 1, bv, by go_num, rfl, by omega, HY.out.trans (HZ.out.trans HA6.out), HSU⟩, by simp [intOf]; omega⟩
                · rw [if_neg (fun h => by cases h.2.1)] at HSU
                  go_wp2_with (go_at_call 64; refine H64.out.mono ?_; rintro e w6 ⟨rfl, rfl⟩)
                  exact ⟨⟨m + 1, bv, by go_num, rfl, by omega, HY.out.trans HZ.out, HSU⟩, by simp [intOf]; omega⟩
              · have t4 : decide (l.length < bv) = false := by simpa using hlb
                rw [if_neg (fun h => hlb h.1)] at HSU
                go_wp2_with fail
                exact ⟨⟨m + 1, bv, by go_num, rfl, by omega, HY.out.trans HZ.out, HSU⟩, by simp [intOf]; omega⟩
        · have t2 : decide (m < q) = false := by simpa using hmq
          obtain rfl : m = q := by omega
          go_wp2_with fail
          go_ret2
          exact ⟨by rw [HB0.out, HE0.out, HBV.out]; rfl, H0.out.trans HY.out⟩
end Go.Proofs
end
