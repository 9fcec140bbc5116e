/- Own texts, merged: CtS1 CtS. -/
import Derived.Test.YtbchfakfdikkjaaGreatP10
set_option linter.unusedSimpArgs false
set_option linter.unusedVariables false
set_option linter.unnecessarySimpa false
section
namespace Go.Proofs
open Go.RowKit
open Court (refL begF noS struckB nextR strikeL canB coverB grow)

structure Kp (W W' : World) : Prop where
  size : W.heap.size ≤ W'.heap.size
  same : ∀ (k : Nat) (cs : Array Value) (t : TypeId) (fz : Nat × Nat), W.heap[k]? = some (.cells cs t fz) → t ≠ 33 → t ≠ 23 → W'.heap[k]? = some (.cells cs t fz)
theorem Kp.refl (W : World) : Kp W W := ⟨Nat.le_refl _, fun _ _ _ _ h _ _ => h⟩
theorem Kp.trans {W W' W'' : World} (h : Kp W W') (k : Kp W' W'') : Kp W W'' := ⟨Nat.le_trans h.size k.size, fun i cs t fz h1 h2 h3 => k.same i cs t fz (h.same i cs t fz h1 h2 h3) h2 h3⟩
theorem Kp.of_aft {W W' : World} (h : Aft W W') : Kp W W' := ⟨h.size, fun k cs t fz h1 _ _ => (h.below.block k (Array.getElem?_eq_some_iff.1 h1).1).trans h1⟩
theorem Kp.of_grown {W W' : World} {row : Option Nat} (h : W.grownBy W' row) (hr : ∀ g, row = some g → g < W.heap.size → ∃ cs t fz, W.heap[g]? = some (.cells cs t fz) ∧ (t = 33 ∨ t = 23)) : Kp W W' :=
  ⟨h.size, fun k cs t fz h1 h2 h3 => by
    have hk := (Array.getElem?_eq_some_iff.1 h1).1
    by_cases e : row = some k
    · obtain ⟨cs', t', fz', h4, h5⟩ := hr k e hk
      rw [h1] at h4
      cases h4
      rcases h5 with h5 | h5
      · exact absurd h5 h2
      · exact absurd h5 h3
    · exact (h.block k hk (fun e2 => e e2.symm)).trans h1⟩
theorem Blk.kp {W W' : World} {g : Nat} {t : TypeId} {cs : Array Value} (h : Blk W g t cs) (hk : Kp W W') (h1 : t ≠ 33) (h2 : t ≠ 23) : Blk W' g t cs := hk.same _ _ _ _ h h1 h2
theorem own_kp {W W' : World} {base : Nat} {v : Value} {n : Nat} {xs : List Value} (h : W.ownsRow base 3 1 v n xs) (hk : Kp W W') : W'.ownsRow base 3 1 v n xs := by
  refine ⟨h.1, ?_⟩
  rcases h.2 with ⟨h1, h2⟩ | ⟨g, cap, cur, h1, h2, h3, h4⟩
  · exact .inl ⟨h1, h2⟩
  · exact .inr ⟨g, cap, cur, h1, h2, hk.same _ _ _ _ h3 (by decide) (by decide), h4⟩

def OutsV (W : World) (b : Nat) (v : Value) (vs : List Value) (ls : List (List Int)) : Prop := W.ownsRow b 33 1 v ls.length vs ∧ ∀ i, (h : i < ls.length) → (h' : i < vs.length) → W.ownsRow b 3 1 vs[i] ls[i].length (ls[i].map (Value.int .i64))
def Outs (W : World) (b : Nat) (v : Value) (ls : List (List Int)) : Prop := ∃ vs, OutsV W b v vs ls
theorem OutsV.len {W : World} {b : Nat} {v : Value} {vs : List Value} {ls : List (List Int)} (h : OutsV W b v vs ls) : vs.length = ls.length := by simpa using h.1.1
theorem Outs.nil (W : World) (b : Nat) : Outs W b (.slice none 0 0) [] := ⟨[], World.ownsRow_nil _ _ 33 1, fun i h => by simp at h⟩
theorem Outs.aft {W W' : World} {b : Nat} {v : Value} {ls : List (List Int)} (h : Outs W b v ls) (ha : Aft W W') : Outs W' b v ls :=
  let ⟨vs, h1, h2⟩ := h
  ⟨vs, own_aft h1 ha, fun i hi hi' => own_aft (h2 i hi hi') ha⟩
theorem Outs.form {W : World} {b : Nat} {v : Value} {ls : List (List Int)} (h : Outs W b v ls) : ∃ A c, v = .slice A ls.length c := by
  obtain ⟨vs, h1, _⟩ := h
  rcases h1.2 with ⟨rfl, h0⟩ | ⟨g, cap, cur, rfl, _⟩
  · exact ⟨none, 0, by rw [h0]⟩
  · exact ⟨_, _, rfl⟩
theorem Outs.lists {W : World} {b : Nat} {v : Value} {ls : List (List Int)} (h : Outs W b v ls) (hl : ls.length ≤ 17592186043904) (hr : ∀ l ∈ ls, l.length ≤ 17592186043904) : ∃ A c, v = .slice A ls.length c ∧ ls.length ≤ c ∧ Lists W A ls := by
  obtain ⟨vs, h1, h2⟩ := h
  have hlen : vs.length = ls.length := by simpa using h1.1
  rcases h1.2 with ⟨rfl, h0⟩ | ⟨g, cap, cur, rfl, hg, hh, hc, hm, hs, ht⟩
  · have : ls = [] := List.eq_nil_of_length_eq_zero h0
    subst this
    exact ⟨none, 0, rfl, Nat.le_refl _, by simp, .inl rfl⟩
  · refine ⟨_, cap, rfl, hc, by omega, .inr ⟨g, 0, rfl, (Array.getElem?_eq_some_iff.1 hh).1, fun i hi => ?_⟩⟩
    have hiv : i < vs.length := by rw [hlen]; exact hi
    obtain ⟨A, c, e, _, hi2⟩ := own_ints (h2 i hi hiv) (hr _ (List.getElem_mem hi))
    refine ⟨[vs[i]], rfl, ⟨A, c, by rw [e], hi2⟩, fun j hj => ?_⟩
    have := h1.cells (g := g) rfl i vs[i] (by simp [hiv])
    rw [Addr.add_lit] at this
    simp at hj
    subst hj
    simpa using this
theorem own33_block {W : World} {b : Nat} {v : Value} {n : Nat} {vs : List Value} (h : W.ownsRow b 33 1 v n vs) {g : Nat} (hg : v.ownBlock = some g) : ∃ cs, W.heap[g]? = some (.cells cs 33 (0, 0)) := by
  rcases h.2 with ⟨rfl, _⟩ | ⟨g', cap, cur, rfl, _, hh, _⟩
  · cases hg
  · cases hg; exact ⟨cur, hh⟩
theorem Outs.push {W W' : World} {b : Nat} {v v' r : Value} {vs : List Value} {ls : List (List Int)} {l : List Int} (h : OutsV W b v vs ls) (hr : W.ownsRow b 3 1 r l.length (l.map (Value.int .i64))) (hk : Kp W W') (hown : W'.ownsRow b 33 1 v' (ls.length + 1) (vs ++ [r])) : OutsV W' b v' (vs ++ [r]) (ls ++ [l]) := by
  refine ⟨by simpa using hown, fun i hi hi' => ?_⟩
  have hlen := h.len
  by_cases e : i < vs.length
  · have e' : i < ls.length := by omega
    rw [List.getElem_append_left e]
    simp only [List.getElem_append_left e']
    exact own_kp (h.2 i e' e) hk
  · have e2 : i = ls.length := by simp at hi; omega
    subst e2
    rw [List.getElem_append_right (by omega)]
    have : (ls ++ [l])[ls.length]'hi = l := by simp
    rw [this]
    simp only [hlen, Nat.sub_self, List.getElem_cons_zero]
    exact own_kp hr hk

theorem wpList_app_out {w : World} {ops : Array Oper} {rest : List Oper} {o : Oper} {a : Act} {Q : Exit → Act → World → Prop}
    (hgd : o.guard = none) (s x : Operand) (ho : o.op = .call { callee := .builtin .append, args := #[s, x], argTypes := #[23, 23] })
    {b : Nat} {v : Value} {ls : List (List Int)} (h : Outs w b v ls) (hbase : b ≤ w.heap.size) (hs : a.eval s = v)
    {r : Value} {l : List Int} {c g : Nat} (hx : a.eval x = .slice (some ⟨g, 0, none⟩) 1 c) (hb : w.cell? ⟨g, 0, none⟩ = some r)
    (hr : w.ownsRow b 3 1 r l.length (l.map (Value.int .i64))) (hl : ls.length ≤ 1000000)
    (hn : ∀ v' w', Outs w' b v' (ls ++ [l]) → Kp w w' → w.grownBy w' v.ownBlock → wpList Tryz.prog ops Q rest (a.put o.dst v') w') : wpList Tryz.prog ops Q (o :: rest) a w := by
  obtain ⟨ht, ⟨i, z, hi, hz, hsize, hby, hzs⟩, hsz⟩ := ty41
  obtain ⟨vs, hv⟩ := h
  refine wpList_append_own_at (w := w) hgd s x 23 ho b 33 i z 1 24 ht hi hz hsize hby hzs hsz v ls.length vs hs hv.1 ⟨g, 0, none⟩ 1 c [r] hx rfl (fun j u hj => ?_) (fun u hu => by rw [List.mem_singleton] at hu; subst hu; exact own_cell1 hr)
    (by unfold maxLen; omega) (by omega) hbase fun v' w' h2 h3 _ h5 => ?_
  · match j, hj with
    | 0, hj => simp at hj; subst hj; rw [Addr.add_lit]; simpa using hb
  · have hk : Kp w w' := Kp.of_grown h3 fun g' hg' _ => by
      obtain ⟨cs, hcs⟩ := own33_block hv.1 hg'
      exact ⟨cs, 33, _, hcs, .inl rfl⟩
    exact hn v' w' ⟨_, Outs.push hv hr hk h2⟩ hk h3

structure GI (w : World) (b d M : Nat) (acc : List (List Int)) (W : World) : Prop where
  aft : Aft w W
  ge : w.heap.size = b
  b0 : Blk W b 95 #[.pointer (some ⟨d, 0, none⟩)]
  b1 : Blk W (b + 1) 3 #[.int .i64 M]
  b2 : ∃ v, Blk W (b + 1 + 1) 23 #[v] ∧ Outs W b v acc
  b3 : Blk W (b + 1 + 1 + 1) 132 #[.func (.func 105) #[] #[.pointer (some ⟨b + 1 + 1, 0, none⟩), .pointer (some ⟨b + 1, 0, none⟩), .pointer (some ⟨b, 0, none⟩), .pointer (some ⟨b + 1 + 1 + 1, 0, none⟩)]]
theorem GI.later {w : World} {b d M : Nat} {acc : List (List Int)} {W W' : World} (h : GI w b d M acc W) (ha : Aft W W') : GI w b d M acc W' :=
  ⟨h.aft.trans ha, h.ge, h.b0.aft ha, h.b1.aft ha, let ⟨v, h1, h2⟩ := h.b2; ⟨v, h1.aft ha, h2.aft ha⟩, h.b3.aft ha⟩
def GrowR (w : World) (b d M : Nat) (acc : List (List Int)) (W : World) (e : Ending) (W' : World) : Prop := (∃ v, e = .returned v) ∧ GI w b d M acc W' ∧ Kp W W'
theorem take_full {α : Type} {M : Nat} {acc t : List α} (h : acc.length = M) : (acc ++ t).take M = acc := by subst h; exact List.take_left
end Go.Proofs
end

section
namespace Go.Proofs
open Go.RowKit
open Court (refL begF noS struckB nextR strikeL canB coverB grow)
attribute [local go_sem] Oper.semAt_some
theorem runs_106 (args : Array Value) (w : World) : (callFunc 106 args).run Tryz.prog w = .ok (.enter 106 args) w := by simp [go_sem]
theorem take_take_app {α : Type} (M : Nat) (x g : List α) : ((x.take M) ++ g).take M = (x ++ g).take M := by
  by_cases h : M ≤ x.length
  · rw [List.take_append_of_le_length (by rw [List.length_take]; omega), List.take_take, Nat.min_self, List.take_append_of_le_length h]
  · rw [List.take_of_length_le (by omega : x.length ≤ M)]
theorem GI.put {w : World} {b d M : Nat} {acc acc' : List (List Int)} {W W' : World} {v v' : Value} (h : GI w b d M acc W) (hk : Kp W W') (ha : Aft w W') (hv : Blk W' (b + 1 + 1) 23 #[v]) (ho : Outs W' b v' acc') :
    GI w b d M acc' (W'.setCell ⟨b + 1 + 1, 0, none⟩ v') ∧ Kp W' (W'.setCell ⟨b + 1 + 1, 0, none⟩ v') := by
  have hk2 : Kp W' (W'.setCell ⟨b + 1 + 1, 0, none⟩ v') := Kp.of_grown (grownBy_setCell' W' (b + 1 + 1) v') fun g hg _ => by
    cases hg
    exact ⟨_, 23, _, hv, .inr rfl⟩
  refine ⟨⟨ha.then_setCell (by have := h.ge; show w.heap.size ≤ b + 1 + 1; omega) _, h.ge, Blk.kp (Blk.kp h.b0 hk (by decide) (by decide)) hk2 (by decide) (by decide), Blk.kp (Blk.kp h.b1 hk (by decide) (by decide)) hk2 (by decide) (by decide), ⟨v', by have := hv.store 0 v'; simpa using this, ?_⟩, Blk.kp (Blk.kp h.b3 hk (by decide) (by decide)) hk2 (by decide) (by decide)⟩, hk2⟩
  obtain ⟨vs, h1, h2⟩ := ho
  refine ⟨vs, h1.kept (grownBy_setCell' W' (b + 1 + 1) v') ?_, fun i hi hi' => own_kp (h2 i hi hi') hk2⟩
  cases e : v'.ownBlock with
  | none => left; rfl
  | some g =>
    right
    intro e2
    cases e2
    obtain ⟨cs, hcs⟩ := own33_block h1 e
    unfold Blk at hv
    rw [hv] at hcs
    cases hcs

set_option maxRecDepth 100000 in
set_option maxHeartbeats 2000000 in
theorem grow_cap (w0 w : World) (b d M N : Nat) (C : CaseL) (a1 a2 : Option Addr) (c1 c2 : Nat) (ref : Int → Bool) (f r : Int → Nat) (HD0 : ∀ W, Aft w W → DeskAt w0 W d C a1 a2 c1 c2 ref noS f r) (hN : C.claims = N) (hN14 : N ≤ 14) (hS : ∀ s ∈ C.strikes, 0 ≤ s.1 ∧ s.1 < 14) (hM : M ≤ 1000000) (n : Nat) (l : List Int) (lv : Value) (acc : List (List Int)) (W : World) (hl : ∀ x ∈ l, 0 ≤ x ∧ x < 14) (hll : l.length ≤ n) (hrow : W.ownsRow b 3 1 lv l.length (l.map (Value.int .i64))) (hG : GI w b d M acc W) (hacc : M = acc.length) (hn : n ≤ 14) :
    Calls Tryz.prog 105 #[.int .i64 n, lv, .pointer (some ⟨b + 1 + 1, 0, none⟩), .pointer (some ⟨b + 1, 0, none⟩), .pointer (some ⟨b, 0, none⟩), .pointer (some ⟨b + 1 + 1 + 1, 0, none⟩)] W (GrowR w b d M (acc) W) := by
  have t1 : decide (M ≤ acc.length) = true := by simp; omega
  clear hacc
  obtain ⟨A, c, rfl, _, hA⟩ := own_ints hrow (by omega)
  have H1 : Hid (∀ W', Aft W W' → Calls Tryz.prog 71 #[.slice A l.length c] W' (Marked l W')) := Lib.hid fun W' h => marked_any l A c W' (hA.aft h) hl
  have HG0 := Lib.hid hG
  have HROW0 := Lib.hid hrow
  have HA0 := Lib.hid hA
  have HLL := Lib.hid hl
  clear hG hrow hA hl
  go_enter Tryz.func105, Tryz.ntmps105
  go_upto_region 2 with (first | (go_at_call 71; refine (H1.out _ (Aft.alloc _ _)).mono ?_; rintro e w1 ⟨rfl, ha1⟩; have HA1 := Lib.hid ha1; clear ha1) | (refine wpList_store_new rfl 87 (.tmp 8) (.tmp 11) rfl rfl rfl (by rw [info87, mk_size]) (by rw [mk_size]; rfl) (all_oneCell_toArray (mkL_one _)) ?_))
  have HA : Hid (Aft W (w1.alloc (.cells (mk (refL l)) 87))) := Lib.hid (((Aft.alloc W _).trans HA1.out).then_alloc _)
  have HB6 : Hid (Blk (w1.alloc (.cells (mk (refL l)) 87)) W.heap.size 3 #[.int .i64 n]) := Lib.hid (((Blk.new W 3 #[.int .i64 n]).aft HA1.out).alloc _)
  have HB8 : Hid (Blk (w1.alloc (.cells (mk (refL l)) 87)) w1.heap.size 87 (mk (refL l))) := Lib.hid (Blk.new w1 87 _)
  clear HA1 H1
  generalize w1.alloc (.cells (mk (refL l)) 87) = Wx at *
  generalize w1.heap.size = B8 at *
  generalize W.heap.size = B6 at *
  have HG := Lib.hid (HG0.out.later HA.out)
  have HROW := Lib.hid (own_aft HROW0.out HA.out)
  have HAI := Lib.hid (HA0.out.aft HA.out)
  clear HG0 HROW0 HA0
  obtain ⟨v, hbv, hov⟩ := HG.out.b2
  obtain ⟨Ao, co, rfl⟩ := hov.form
  have k2 : Wx.cell? ⟨b + 1 + 1, 0, none⟩ = some (.slice Ao acc.length co) := hbv.cell 0
  have k1 : Wx.cell? ⟨b + 1, 0, none⟩ = some (.int .i64 M) := HG.out.b1.cell 0
  have l2 := hbv.lt
  have l1 := HG.out.b1.lt
  have HOV := Lib.hid hov
  have HBV := Lib.hid hbv
  clear hbv hov
  go_wp2_with fail
  refine bodyPost_ret (v := .tuple #[]) (by simp [results, Tryz.results105, go_sem]) rfl ?_
  exact ⟨⟨_, rfl⟩, HG.out, Kp.of_aft HA.out⟩

set_option maxRecDepth 100000 in
set_option maxHeartbeats 4000000 in
theorem grow_leaf (w0 w : World) (b d M N : Nat) (C : CaseL) (a1 a2 : Option Addr) (c1 c2 : Nat) (ref : Int → Bool) (f r : Int → Nat) (HD0 : ∀ W, Aft w W → DeskAt w0 W d C a1 a2 c1 c2 ref noS f r) (hN : C.claims = N) (hN14 : N ≤ 14) (hS : ∀ s ∈ C.strikes, 0 ≤ s.1 ∧ s.1 < 14) (hM : M ≤ 1000000) (n : Nat) (l : List Int) (lv : Value) (acc : List (List Int)) (W : World) (hl : ∀ x ∈ l, 0 ≤ x ∧ x < 14) (hll : l.length ≤ n) (hrow : W.ownsRow b 3 1 lv l.length (l.map (Value.int .i64))) (hG : GI w b d M acc W) (hacc : acc.length < M) (hn : n = N) :
    Calls Tryz.prog 105 #[.int .i64 n, lv, .pointer (some ⟨b + 1 + 1, 0, none⟩), .pointer (some ⟨b + 1, 0, none⟩), .pointer (some ⟨b, 0, none⟩), .pointer (some ⟨b + 1 + 1 + 1, 0, none⟩)] W (GrowR w b d M (acc ++ if coverB C.strikes ref N l then [l] else []) W) := by
  have t1 : decide (M ≤ acc.length) = false := by simp; omega
  have t2 : decide (n < N) = false := by simp; omega
  have hn' : n ≤ 14 := by omega
  have ha' : acc.length ≤ 1000000 := by omega
  clear hn hacc
  obtain ⟨T, hT⟩ : ∃ T, (acc ++ if coverB C.strikes ref N l then [l] else []) = T := ⟨_, rfl⟩
  rw [hT]
  have HT := Lib.hid hT
  clear hT
  obtain ⟨A, c, rfl, _, hA⟩ := own_ints hrow (by omega)
  have H1 : Hid (∀ W', Aft W W' → Calls Tryz.prog 71 #[.slice A l.length c] W' (Marked l W')) := Lib.hid fun W' h => marked_any l A c W' (hA.aft h) hl
  have HG0 := Lib.hid hG
  have HROW0 := Lib.hid hrow
  have HA0 := Lib.hid hA
  have HLL := Lib.hid hl
  clear hG hrow hA hl
  go_enter Tryz.func105, Tryz.ntmps105
  go_upto_region 2 with (first | (go_at_call 71; refine (H1.out _ (Aft.alloc _ _)).mono ?_; rintro e w1 ⟨rfl, ha1⟩; have HA1 := Lib.hid ha1; clear ha1) | (refine wpList_store_new rfl 87 (.tmp 8) (.tmp 11) rfl rfl rfl (by rw [info87, mk_size]) (by rw [mk_size]; rfl) (all_oneCell_toArray (mkL_one _)) ?_))
  have HA : Hid (Aft W (w1.alloc (.cells (mk (refL l)) 87))) := Lib.hid (((Aft.alloc W _).trans HA1.out).then_alloc _)
  have HB6 : Hid (Blk (w1.alloc (.cells (mk (refL l)) 87)) W.heap.size 3 #[.int .i64 n]) := Lib.hid (((Blk.new W 3 #[.int .i64 n]).aft HA1.out).alloc _)
  have HB8 : Hid (Blk (w1.alloc (.cells (mk (refL l)) 87)) w1.heap.size 87 (mk (refL l))) := Lib.hid (Blk.new w1 87 _)
  clear HA1 H1
  generalize w1.alloc (.cells (mk (refL l)) 87) = Wx at *
  generalize w1.heap.size = B8 at *
  generalize W.heap.size = B6 at *
  have HG := Lib.hid (HG0.out.later HA.out)
  have HROW := Lib.hid (own_aft HROW0.out HA.out)
  have HAI := Lib.hid (HA0.out.aft HA.out)
  clear HG0 HROW0 HA0
  obtain ⟨v, hbv, hov⟩ := HG.out.b2
  obtain ⟨Ao, co, rfl⟩ := hov.form
  have k2 : Wx.cell? ⟨b + 1 + 1, 0, none⟩ = some (.slice Ao acc.length co) := hbv.cell 0
  have k1 : Wx.cell? ⟨b + 1, 0, none⟩ = some (.int .i64 M) := HG.out.b1.cell 0
  have l2 := hbv.lt
  have l1 := HG.out.b1.lt
  have HOV := Lib.hid hov
  have HBV := Lib.hid hbv
  clear hbv hov
  have HDX : Hid (∀ W', Aft Wx W' → DeskAt w0 W' d C a1 a2 c1 c2 ref noS f r) := Lib.hid fun W' h => HD0 W' (HG.out.aft.trans h)
  have HN := Lib.hid hN
  have HK : Hid (∀ W' (k : Nat), Aft Wx W' → k < 14 → Calls Tryz.prog 102 #[.pointer (some ⟨d, 0, none⟩), .agg (mk (refL l)), .int .i64 k] W' fun e w' => e = .returned (.bool (strikeL C.strikes (refL l) k)) ∧ Aft W' w') := Lib.hid fun W' k h hk => by
    rw [← strikers_any]
    exact strikes_any w0 W' d C a1 a2 c1 c2 ref noS f r (HDX.out W' h) (refL l) k hk hS
  clear hN HD0 hS
  have HC0 : Hid (∀ W', Aft Wx W' → W'.cell? ⟨b, 0, none⟩ = some (.pointer (some ⟨d, 0, none⟩))) := Lib.hid fun W' h => (HG.out.b0.aft h).cell 0
  have HC6 : Hid (∀ W', Aft Wx W' → W'.cell? ⟨B6, 0, none⟩ = some (.int .i64 n)) := Lib.hid fun W' h => (HB6.out.aft h).cell 0
  have HCN : Hid (∀ W', Aft Wx W' → W'.cell? ⟨d, 0, none⟩ = some (.int .i64 N)) := Lib.hid fun W' h => by rw [← HN.out]; exact (HDX.out W' h).k0
  go_upto_region 3 with (fail)
  clear k1 k2
  refine wp_region_valsT (by kernel_rfl) 6 94 rfl (by kernel_rfl) (by kernel_rfl) (by kernel_rfl) [.int .i64 n, .pointer (some ⟨d, 0, none⟩), .pointer (some ⟨d, 0, none⟩), .pointer (some ⟨d, 0, none⟩), .pointer (some ⟨d, 0, none⟩), .int .i64 N] rfl (fun _ W' => W' = Wx.drew) (rfl) ?st1 ?fi1
  case st1 =>
    intro i o v ho hv
    match i, ho, hv with
    | 0, ho, hv =>
      cases ho; cases hv
      refine .inl ⟨rfl, fun done a W hd hp hk hw K hK => ?_⟩
      have e6 := hk.same 6 (by decide)
      exact op_val (by simp [go_sem, ev' e6, HC6.out W (hw ▸ Aft.drew Wx)]) (hK _ hw)
    | 1, ho, hv =>
      cases ho; cases hv
      refine .inl ⟨rfl, fun done a W hd hp hk hw K hK => ?_⟩
      have e4 := hk.same 4 (by decide)
      exact op_val (by simp [go_sem, ev' e4, HC0.out W (hw ▸ Aft.drew Wx)]) (hK _ hw)
    | 2, ho, hv =>
      cases ho; cases hv
      refine .inl ⟨rfl, fun done a W hd hp hk hw K hK => ?_⟩
      have e17 := hk.at_ 1 _ 17 _ rfl (by decide) _ rfl rfl rfl
      exact op_val (by simp [go_sem, ev' e17]) (hK _ hw)
    | 3, ho, hv =>
      cases ho; cases hv
      refine .inl ⟨rfl, fun done a W hd hp hk hw K hK => ?_⟩
      have e18 := hk.at_ 2 _ 18 _ rfl (by decide) _ rfl rfl rfl
      exact op_val (by simp [go_sem, ev' e18]) (hK _ hw)
    | 4, ho, hv =>
      cases ho; cases hv
      refine .inl ⟨rfl, fun done a W hd hp hk hw K hK => ?_⟩
      have e19 := hk.at_ 3 _ 19 _ rfl (by decide) _ rfl rfl rfl
      exact op_val (by simp [go_sem, ev' e19]) (hK _ hw)
    | 5, ho, hv =>
      cases ho; cases hv
      refine .inl ⟨rfl, fun done a W hd hp hk hw K hK => ?_⟩
      have e20 := hk.at_ 4 _ 20 _ rfl (by decide) _ rfl rfl rfl
      exact op_val (by simp [go_sem, ev' e20, HCN.out W (hw ▸ Aft.drew Wx)]) (hK _ hw)
    | _ + 6, _, hv => cases hv
  intro done W hd hw
  simp only [List.drop_succ_cons, List.drop_zero, List.zip_cons_cons, List.zip_nil_right, putAll]
  simp only [Act.put, List.setIfInBounds_toArray, List.set]
  clear hd
  subst hw
  have q0 := HC0.out _ (Aft.drew Wx)
  have q1 := HCN.out _ (Aft.drew Wx)
  have q2 := (HDX.out _ (Aft.drew Wx)).lt
  have q3 := (HG.out.b0.aft (Aft.drew Wx)).lt
  go_upto_block 0 with (fail)
  clear q0 q1 q2 q3
  have HDR := Lib.hid (Aft.drew Wx)
  generalize Wx.drew = Wy at *
  refine wp_block ?_
  go_loopw [66] (fun i wr => ∃ k : Nat, i = .int .i64 k ∧ k ≤ N ∧ (∀ j : Nat, j < k → (l.contains (j : Int) || ref j || strikeL C.strikes (refL l) j) = true) ∧ Aft Wy wr) (fun i _ => N - (intOf i).toNat)
  case atStart => exact ⟨0, rfl, by omega, fun j hj => absurd hj (Nat.not_lt_zero _), Aft.refl _⟩
  case round =>
    obtain ⟨k, rfl, hk, hall, har⟩ := hrel
    have HAL := Lib.hid hall
    have HAR := Lib.hid (HDR.out.trans har)
    have HAY := Lib.hid har
    clear hall har
    by_cases hkN : k < N
    · have t3 : decide (k < N) = true := by simpa using hkN
      have hk14 : k < 14 := by omega
      have i1 : (0 : Int) ≤ (k : Int) ∧ (k : Int) < 14 := by omega
      have q0 : wr.cell? ⟨B8, k, none⟩ = some (.bool (l.contains (k : Int))) := ((HB8.out.aft HAR.out).cell k).trans (mk_get _ hk14)
      have q1 := HC0.out _ HAR.out
      have q2 := (HDX.out _ HAR.out).rf hk14
      have q3 := (HDX.out _ HAR.out).lt
      have q4 := (HG.out.b0.aft HAR.out).lt
      have q5 := (HB8.out.aft HAR.out).lt
      have NX : Hid ((l.contains (k : Int) || ref k || strikeL C.strikes (refL l) k) = true → ∀ j : Nat, j < k + 1 → (l.contains (j : Int) || ref j || strikeL C.strikes (refL l) j) = true) := Lib.hid fun h j hj => by
        by_cases e : j < k
        · exact HAL.out j e
        · obtain rfl : j = k := by omega
          exact h
      have HR8 := Lib.hid (blk_range (HB8.out.aft HAR.out))
      cases hc : l.contains (k : Int)
      · rw [hc] at q0
        have HC := Lib.hid hc
        clear hc
        cases hr : ref k
        · rw [hr] at q2
          have HR := Lib.hid hr
          clear hr
          have HKK := Lib.hid (HK.out wr k HAR.out hk14)
          cases hs : strikeL C.strikes (refL l) k
          all_goals
            rw [hs] at HKK
            have HSK := Lib.hid hs
            clear hs
            go_wp2_with (first | (refine wpList_load_midG (by rfl) 87 (.tmp 8) rfl B8 0 rfl (mkL (refL l)) _ HR8.out Tryz.underlying87 rfl (by rw [info87, mkL_len]) ?_) | (go_at_call 102; refine HKK.out.mono ?_; rintro e w6 ⟨rfl, ha6⟩; have HA6 := Lib.hid ha6; clear ha6))
          · refine bodyPost_ret (v := .tuple #[]) (by simp [results, Tryz.results105, go_sem]) rfl ?_
            have hcv : coverB C.strikes ref N l = false := by
              rw [Bool.eq_false_iff]
              intro h
              have := List.all_eq_true.1 h k (List.mem_range.2 hkN)
              rw [HC.out, HR.out] at this
              have e : strikeL C.strikes (fun x => l.contains x) k = false := HSK.out
              rw [e] at this
              cases this
            rw [← HT.out, hcv, if_neg (by decide), List.append_nil]
            exact ⟨⟨_, rfl⟩, (HG.out.later HAR.out).later HA6.out, Kp.of_aft ((HA.out.trans HAR.out).trans HA6.out)⟩
          · refine ⟨⟨k + 1, by go_num, by omega, NX.out (by rw [HSK.out, Bool.or_true]), HAY.out.trans HA6.out⟩, by simp [intOf]; omega⟩
        · rw [hr] at q2
          have HR := Lib.hid hr
          clear hr
          go_wp2_with fail
          refine ⟨⟨k + 1, by go_num, by omega, NX.out (by rw [HR.out, Bool.or_true, Bool.true_or]), HAY.out⟩, by simp [intOf]; omega⟩
      · rw [hc] at q0
        have HC := Lib.hid hc
        clear hc
        go_wp2_with fail
        refine ⟨⟨k + 1, by go_num, by omega, NX.out (by rw [HC.out, Bool.true_or, Bool.true_or]), HAY.out⟩, by simp [intOf]; omega⟩
    · have t3 : decide (k < N) = false := by simpa using hkN
      obtain rfl : N = k := by omega
      have hcv : coverB C.strikes ref N l = true := List.all_eq_true.2 fun j hj => HAL.out j (List.mem_range.1 hj)
      have HT2 : Hid (acc ++ [l] = T) := Lib.hid (by rw [← HT.out, hcv, if_pos rfl])
      clear hkN hcv HT
      have q0 : wr.cell? ⟨b + 1 + 1, 0, none⟩ = some (.slice Ao acc.length co) := (HBV.out.aft HAR.out).cell 0
      have q1 := (HBV.out.aft HAR.out).lt
      have HBW := Lib.hid ((HBV.out.aft HAR.out).alloc (.cells #[.slice A l.length c] 33))
      have HOW := Lib.hid ((HOV.out.aft HAR.out).aft (Aft.alloc wr (.cells #[.slice A l.length c] 33)))
      have HRW := Lib.hid (own_aft (HROW.out) (HAR.out.then_alloc (.cells #[.slice A l.length c] 33)))
      have hbase : b ≤ (wr.alloc (.cells #[.slice A l.length c] 33)).heap.size := by simp; omega
      have HNE : Hid (some (b + 1 + 1) ≠ (Value.slice Ao acc.length co).ownBlock) := Lib.hid fun e => by
        obtain ⟨vs, hv, _⟩ := HOW.out
        obtain ⟨cs, hcs⟩ := own33_block hv e.symm
        have h8 := HBW.out
        unfold Blk at h8
        rw [h8] at hcs
        cases hcs
      go_wp2_with (at_builtin; refine wpList_app_out rfl _ _ rfl HOW.out hbase rfl rfl (cell_new1 _ _ _) HRW.out (by omega) ?_; intro v' w7 ho7 hk7 hg7; obtain ⟨A7, c7, rfl⟩ := ho7.form; have HO7 := Lib.hid ho7; have HK7 := Lib.hid hk7; have HG7 := Lib.hid hg7; have y0 := HBW.out.grown hg7 HNE.out; have HB7 := Lib.hid y0; have z1 := y0.cell 0; have z2 := y0.frozen 0; have z3 := y0.lt)
      have hge := HG.out.ge
      have HW7 : Aft w w7 := ((HG.out.aft.trans HAR.out).then_alloc _).grown HG7.out (fun g hg => by obtain ⟨vs, hv, _⟩ := HOW.out; have := own_ge hv g hg; omega)
      obtain ⟨p1, p2⟩ := GI.put (HG.out.later (HAR.out.then_alloc (.cells #[.slice A l.length c] 33))) HK7.out HW7 HB7.out HO7.out
      rw [show (acc ++ [l]).length = acc.length + 1 by simp] at p1 p2
      go_end0
      rw [← HT2.out]
      exact ⟨⟨_, rfl⟩, p1, ((Kp.of_aft (HA.out.trans (HAR.out.then_alloc _))).trans HK7.out).trans p2⟩
end Go.Proofs
end
