/- Own texts, merged: Td Te. -/
import Derived.Test.YthegmhnaiabcpaaB15
set_option linter.unusedSimpArgs false
set_option linter.unusedVariables false
set_option linter.unnecessarySimpa false
section
/- Walks: Shifts. -/
namespace Go.Proofs
open Go.RowKit
attribute [local go_sem] Oper.semAt_some
attribute [local go_sem ↓] build124


set_option maxRecDepth 100000 in
theorem zero124 (n : Int) (sl : Value) : (Try.zeroCells124.setIfInBounds 0 (.int .i64 n)).setIfInBounds 1 sl = workC n sl zAp zBy := by kernel_rfl
/-- What shifts answers. -/
def shR (D : Int) (t : Nat → Nat → Int) (f : Nat → Nat) (i : Nat) : Int × Int := Sheet.low (t (f i) i) D
def ShiftsR (S : SetL) (w : World) (e : Ending) (w' : World) : Prop := ∃ g c p f t0 t1, PlayOf S p ∧ Sheet.TiedIs (Sheet.legs (joOf false S.J)) S.n.toNat f ∧ Sheet.Calms S.n.toNat (joOf false S.J) p.2 p.1 t0 ∧ Sheet.Calms S.n.toNat (joOf true S.J) p.2 p.1 t1 ∧
  e = .returned (.tuple #[.slice (some ⟨g, 0, none⟩) S.n.toNat c, .int .i64 0]) ∧ w.heap.size ≤ g ∧ FQ w' g S.n.toNat (fun i => ⟨(shR p.2 t0 f i).1, (shR p.2 t0 f i).2, (shR p.2 t1 f i).1, (shR p.2 t1 f i).2⟩) ∧ Aft w w'
/-- What is known after k ways. -/
def ShK (S : SetL) (n : Nat) (p : Int × Int) (f : Nat → Nat) (k : Nat) (q : Nat → Q4) : Prop :=
  (k = 0 ∧ ∀ i, i < n → q i = z4) ∨ (k = 1 ∧ ∃ t0, Sheet.Calms n (joOf false S.J) p.2 p.1 t0 ∧ ∀ i, i < n → q i = ⟨(shR p.2 t0 f i).1, (shR p.2 t0 f i).2, 0, 0⟩) ∨
  (k = 2 ∧ ∃ t0 t1, Sheet.Calms n (joOf false S.J) p.2 p.1 t0 ∧ Sheet.Calms n (joOf true S.J) p.2 p.1 t1 ∧ ∀ i, i < n → q i = ⟨(shR p.2 t0 f i).1, (shR p.2 t0 f i).2, (shR p.2 t1 f i).1, (shR p.2 t1 f i).2⟩)
def putW (north : Bool) (q : Q4) (r : Int × Int) : Q4 := if north then ⟨q.a, q.b, r.1, r.2⟩ else ⟨r.1, r.2, q.x, q.y⟩
theorem ShK.next {S : SetL} {n : Nat} {p : Int × Int} {f : Nat → Nat} {k : Nat} {q q' : Nat → Q4} {north : Bool} {t : Nat → Nat → Int} (h : ShK S n p f k q) (hk : k < 2) (hn : north = decide (k = 1)) (hc : Sheet.Calms n (joOf north S.J) p.2 p.1 t) (hq : ∀ i, i < n → q' i = putW north (q i) (shR p.2 t f i)) : ShK S n p f (k + 1) q' := by
  rcases h with ⟨rfl, h⟩ | ⟨rfl, t0, h0, h⟩ | ⟨rfl, _⟩
  · subst hn
    exact .inr (.inl ⟨rfl, t, hc, fun i hi => by rw [hq i hi, h i hi]; rfl⟩)
  · subst hn
    exact .inr (.inr ⟨rfl, t0, t, h0, hc, fun i hi => by rw [hq i hi, h i hi]; rfl⟩)
  · omega
structure ShI (w W1 : World) (d z g gs n : Nat) (S : SetL) (A : Option Addr) (c : Nat) (p : Int × Int) (f : Nat → Nat) (ap : Nat → Int) (bf : Nat → Nat × Bool) (q : Nat → Q4) (W : World) : Prop where
  aft : Aft w W
  wk : WorkAt W1 W d S A c ap bf
  pb : Blk W z 37 #[.int .i64 p.1, .int .i64 p.2]
  fi : FI W g n f
  fq : FQ W gs n q
section
variable {w W1 W W' : World} {d z g gs n : Nat} {S : SetL} {A : Option Addr} {c : Nat} {p : Int × Int} {f : Nat → Nat} {ap : Nat → Int} {bf : Nat → Nat × Bool} {q : Nat → Q4}
theorem ShI.later (h : ShI w W1 d z g gs n S A c p f ap bf q W) (ha : Aft W W') : ShI w W1 d z g gs n S A c p f ap bf q W' := ⟨h.aft.trans ha, h.wk.later ha, h.pb.aft ha, h.fi.aft ha, h.fq.aft ha⟩
/-- The numbers' places. -/
structure ShP (w W1 : World) (d z g gs : Nat) : Prop where
  z1 : z ≠ d ∧ z ≠ gs
  g1 : g ≠ d ∧ g ≠ gs
  s1 : gs ≠ d
  d1 : w.heap.size ≤ d
  b1 : w.heap.size ≤ gs ∧ W1.heap.size ≤ gs
theorem ShI.grown (h : ShI w W1 d z g gs n S A c p f ap bf q W) (hp : ShP w W1 d z g gs) {ap' : Nat → Int} {bf' : Nat → Nat × Bool} (hg : W.grownBy W' (some d)) (hw : WorkAt W1 W' d S A c ap' bf') : ShI w W1 d z g gs n S A c p f ap' bf' q W' :=
  ⟨h.aft.grown hg (fun k e => by cases e; exact hp.d1), hw, h.pb.grown hg (fun e => hp.z1.1 (Option.some.inj e)), h.fi.grown hg (fun e => hp.g1.1 (Option.some.inj e)), h.fq.grown hg (fun e => hp.s1 (Option.some.inj e))⟩
theorem ShI.put (h : ShI w W1 d z g gs n S A c p f ap bf q W) (hp : ShP w W1 d z g gs) {q' : Nat → Q4} (hg : W.grownBy W' (some gs)) (hq : FQ W' gs n q') : ShI w W1 d z g gs n S A c p f ap bf q' W' :=
  ⟨h.aft.grown hg (fun k e => by cases e; exact hp.b1.1), h.wk.grown hg (fun e => hp.s1.symm (Option.some.inj e)) (fun k e => by cases e; exact hp.b1.2), h.pb.grown hg (fun e => hp.z1.2 (Option.some.inj e)), h.fi.grown hg (fun e => hp.g1.2 (Option.some.inj e)), hq⟩
end
/-- A box that is laid within a region. -/
structure Bx1 (W0 : World) (ix tm : Nat) (done : Nat → Bool) (a : Act) (W : World) : Prop where
  aft : Aft W0 W
  s : done ix = true → ∃ b, a.eval (.tmp tm) = .pointer (some ⟨b, 0, none⟩) ∧ W0.heap.size ≤ b ∧ Blk W b 37 #[.int .i64 0, .int .i64 0]
section
variable {W0 W W' : World} {ix tm : Nat} {done : Nat → Bool} {a : Act}
theorem Bx1.start : Bx1 W0 ix tm (fun _ => false) a W0.drew := ⟨Aft.drew _, (fun h => by cases h)⟩
theorem Bx1.keep (h : Bx1 W0 ix tm done a W) (ha : Aft W W') {i : Nat} {dst : Option Tmp} {v : Value} (hi : i ≠ ix) (hd : dst ≠ some tm) : Bx1 W0 ix tm (Go.upd done i) (a.put dst v) W' := by
  refine ⟨h.aft.trans ha, fun p => ?_⟩
  rw [upd_ne' (Ne.symm hi)] at p
  obtain ⟨b, e, h1, h2⟩ := h.s p
  exact ⟨b, by rw [evne hd]; exact e, h1, h2.aft ha⟩
theorem Bx1.step (h : Bx1 W0 ix tm done a W) (hz : tm < a.tmps.size) : Bx1 W0 ix tm (Go.upd done ix) (a.put (some tm) (.pointer (some ⟨W.heap.size, 0, none⟩))) (W.alloc (.cells #[.int .i64 0, .int .i64 0] 37)) :=
  ⟨h.aft.then_alloc _, fun _ => ⟨W.heap.size, Act.eval_put_same _ _ _ hz, h.aft.size, Blk.new _ _ _⟩⟩
end

theorem tab_tied {S : SetL} {n : Nat} {north : Bool} {D N : Int} {t : Nat → Nat → Int} {f : Nat → Nat} (h : Sheet.Calms n (joOf north S.J) D N t) (ht : Sheet.TiedIs (Sheet.legs (joOf false S.J)) n f) {a : Nat} (ha : a < n) : f a < n ∧ t (f a) a ≠ Sheet.far := by
  have hf : f a < n := Nat.lt_of_le_of_lt (ht.le a a 0 0 ha (.nil a)) ha
  refine ⟨hf, fun e => ?_⟩
  obtain ⟨k, s, h1⟩ := ht.has a ha
  obtain ⟨k2, s2, h2⟩ := Sheet.wk_back (fun a b w he => ⟨_, Sheet.legs_sym _ _ _ _ he⟩) h1
  obtain ⟨s3, h3⟩ := Sheet.wk_map (E' := Sheet.sc D N (Sheet.legs (joOf north S.J))) (fun a b w he => by
    obtain ⟨w', h⟩ := legs_ways S.J false north _ _ _ he
    exact ⟨_, Sheet.sc_mem h⟩) h2
  obtain ⟨m, h4, _⟩ := (h.dist hf a).2 _ _ h3
  rw [Sheet.opt_none.2 e] at h4
  cases h4

set_option maxRecDepth 100000 in
set_option maxHeartbeats 4000000 in
theorem shifts_good (S : SetL) (A : Option Addr) (c : Nat) (w : World) (hA : Quads w A S.J) (he : setE S = 0) :
    Calls Try.prog 36 #[.agg #[.int .i64 S.n, .slice A S.J.length c]] w (ShiftsR S w) := by
  obtain ⟨s, hs⟩ : ∃ s, w.heap.size = s := ⟨_, rfl⟩
  have F0 := (Fr.start w).alloc rfl 25 #[.int .i64 S.n, .slice A S.J.length c]
  simp only [List.nil_append] at F0
  rw [hs] at F0
  have HF0 := Lib.hid F0
  have HO1 := tied_good S A c _ (hA.aft F0.aft) he
  have hS := setE_ok he
  have hn1 := hS.n1
  have hn2 := hS.n2
  have HS := Lib.hid hS
  have HQ0 := Lib.hid hA
  obtain ⟨n, hn⟩ : ∃ n, S.n.toNat = n := ⟨_, rfl⟩
  have hnn : S.n = (n : Int) := by omega
  have hn12 : n ≤ 12 := by omega
  unfold TiedR at HO1
  simp only [hn] at HO1
  have HO := Lib.hid HO1
  clear HO1
  have HNN := Lib.hid hnn
  have HN := Lib.hid hn
  clear hA he F0 hS hn hnn
  go_enter Try.func36, Try.ntmps36
  go_upto_region 4 with (go_at_call 35; refine HO.out.mono ?_; rintro e w2 ⟨g, cg, f, rfl, hgb, hfi, htd, ha2⟩)
  have HF2 := Lib.hid (HF0.out.later ha2)
  have HFI := Lib.hid hfi
  have HTD := Lib.hid htd
  have hgb : s + 1 ≤ g := by have := hgb; simp at this; omega
  clear hfi htd ha2 HO HF0
  have y1 : w2.cell? ⟨s, 0, none⟩ = some (.int .i64 S.n) := (HF2.out.nth 0 rfl).cell 0
  have y2 : w2.cell? ⟨s, 1, none⟩ = some (.slice A S.J.length c) := (HF2.out.nth 0 rfl).cell 1
  have y3 := (HF2.out.nth 0 rfl).lt
  try rw [hs]
  obtain ⟨d, hd⟩ : ∃ d, w2.heap.size = d := ⟨_, rfl⟩
  have HW3 : Hid (WorkAt w2 (w2.alloc (.cells (workC S.n (.slice A S.J.length c) zAp zBy) 124)) d S A c zAp zBy) := Lib.hid (by rw [← hd]; exact ⟨Blk.new _ _ _, HQ0.out.aft HF2.out.aft, Nat.le_refl _, Aft.alloc _ _⟩)
  have HF3 := Lib.hid (HF2.out.later (Aft.alloc w2 (.cells (workC S.n (.slice A S.J.length c) zAp zBy) 124)))
  have HFI3 := Lib.hid (HFI.out.aft (Aft.alloc w2 (.cells (workC S.n (.slice A S.J.length c) zAp zBy) 124)))
  have HD := Lib.hid hd
  have hgd : g < d := hd ▸ HFI.out.lt
  clear hd
  go_upto_region 5 with fail
  rw [zero124]
  clear y1 y2 y3
  try rw [HD.out]
  have hsd : s + 1 ≤ d := by have := HF2.out.size; rw [HD.out] at this; exact this
  have hsw : w2.heap.size = d := HD.out
  have HSW := Lib.hid hsw
  clear HF2 HFI HD hsw
  generalize w2.alloc (.cells (workC S.n (.slice A S.J.length c) zAp zBy) 124) = W3 at *
  have HPL := Lib.hid (plays_any S A c d zAp zBy w2 W3 HW3.out HS.out)
  go_upto_region 6 with (go_at_call 44; refine HPL.out.mono ?_; rintro e w5 ⟨p, nb, v, ap5, bf5, rfl, hg5, hw5, hpl, hws⟩; obtain ⟨A9, n9, c9, rfl⟩ := hws.slice; have HG5 := Lib.hid hg5; have HPO := Lib.hid hpl; have HW5 := Lib.hid hw5; clear hg5 hw5 hpl hws)
  obtain ⟨z, hz⟩ : ∃ z, w5.heap.size = z := ⟨_, rfl⟩
  have hdz : d < z := hz ▸ HW5.out.lt
  have ha6 : Aft w5 ((w5.alloc (.cells #[.int .i64 p.1, .int .i64 p.2] 37)).alloc (.cells #[.bool nb, .slice A9 n9 c9] 105)) := (Aft.alloc _ _).then_alloc _
  have HPB : Hid (Blk ((w5.alloc (.cells #[.int .i64 p.1, .int .i64 p.2] 37)).alloc (.cells #[.bool nb, .slice A9 n9 c9] 105)) z 37 #[.int .i64 p.1, .int .i64 p.2]) := Lib.hid (by rw [← hz]; exact (Blk.new w5 37 _).alloc _)
  have HW6 := Lib.hid (HW5.out.later ha6)
  have HF6 := Lib.hid ((HF3.out.grown HG5.out (fun r e => by have e : d = r := Option.some.inj e; omega)).later ha6)
  have HFI6 := Lib.hid ((HFI3.out.grown HG5.out (fun e => by have e : g = d := Option.some.inj e; omega)).aft ha6)
  try rw [hz]
  clear HW5 HF3 HFI3 HG5 HPL ha6 hz HW3
  generalize (w5.alloc (.cells #[.int .i64 p.1, .int .i64 p.2] 37)).alloc (.cells #[.bool nb, .slice A9 n9 c9] 105) = W6 at *
  have y1 : W6.cell? ⟨s, 0, none⟩ = some (.int .i64 (n : Int)) := by rw [← HNN.out]; exact (HF6.out.nth 0 rfl).cell 0
  have y3 := (HF6.out.nth 0 rfl).lt
  obtain ⟨csm, hmk, hfq⟩ := fq_made W6 n (by omega)
  obtain ⟨gs, hgs⟩ : ∃ gs, W6.heap.size = gs := ⟨_, rfl⟩
  have HFQ : Hid (FQ (W6.alloc (.cells csm 93)) gs n fun _ => z4) := Lib.hid (by rw [← hgs]; exact hfq)
  have hzs : z < gs := hgs ▸ HPB.out.lt
  have hws : w2.heap.size ≤ gs := hgs ▸ HW6.out.aft.size
  have hww : w.heap.size ≤ gs := hgs ▸ HF6.out.aft.size
  have HGS := Lib.hid hgs
  clear hfq hgs
  go_upto_block 0 with (go_at_call 47; refine (both_any _).mono ?_; rintro e w7 ⟨rfl, u7, rfl⟩)
  try rw [HGS.out]
  have ha7 : Aft W6 ((W6.alloc (.cells csm 93)).lat u7) := (Aft.alloc _ _).then_lat u7
  have hsp : ShP w w2 d z g gs := ⟨⟨by omega, by omega⟩, ⟨by omega, by omega⟩, by omega, by omega, hww, hws⟩
  have HI0 : Hid (ShI w w2 d z g gs n S A c p f ap5 bf5 (fun _ => z4) ((W6.alloc (.cells csm 93)).lat u7)) := Lib.hid ⟨HF6.out.aft.trans ha7, HW6.out.later ha7, HPB.out.aft ha7, HFI6.out.aft ha7, HFQ.out.aft (Aft.lat _ u7)⟩
  have HSP := Lib.hid hsp
  clear hmk y1 y3 HGS HFQ HPB HW6 HF6 HFI6 ha7 hsp
  generalize (W6.alloc (.cells csm 93)).lat u7 = W7 at *
  refine wp_block ?_
  go_loopw [35] (fun i wr => ∃ k : Nat, i = .int .i64 (k : Nat) ∧ k ≤ 2 ∧ ∃ ap bf q, ShI w w2 d z g gs n S A c p f ap bf q wr ∧ ShK S n p f k q) (fun i _ => 2 - (intOf i).toNat)
  case atStart => exact ⟨0, rfl, by omega, _, _, _, HI0.out, .inl ⟨rfl, fun _ _ => rfl⟩⟩
  case round =>
    obtain ⟨k, rfl, hk, ap1, bf1, q1, hI, hK1⟩ := hrel
    have HI := Lib.hid hI
    have HK1 := Lib.hid hK1
    clear HI0 hI hK1
    by_cases hk2 : k < 2
    · have t1 : decide ((k : Int) < 2) = true := by simp; omega
      obtain ⟨kw, north, hK, hix, hk1, hno⟩ := way_ex k hk2
      have HNO := Lib.hid hno
      obtain ⟨X1, hX1⟩ : ∃ X1, wr.alloc (.cells #[.func (.func kw) #[] #[]] 113) = X1 := ⟨_, rfl⟩
      have hax := hX1 ▸ Aft.alloc wr (.cells #[.func (.func kw) #[] #[]] 113)
      have HBX := Lib.hid (hX1 ▸ Blk.new wr 113 #[.func (.func kw) #[] #[]])
      have HI5 := Lib.hid (HI.out.later hax)
      have HRK := Lib.hid (reckon_any hK S A c d ap1 bf1 w2 X1 HI5.out.wk HS.out p.1 p.2 HPO.out.ok)
      obtain ⟨zx, hzx⟩ : ∃ zx, wr.heap.size = zx := ⟨_, rfl⟩
      rw [hzx] at HBX
      clear hK hno hax
      go_upto_region 10 with fail
      try rw [hX1]
      try rw [hzx]
      clear hX1 hix hzx
      have y1 : X1.cell? ⟨zx, 0, none⟩ = some (.func (.func kw) #[] #[]) := HBX.out.cell 0
      have y2 := HBX.out.lt
      have y3 : X1.cell? ⟨z, 0, none⟩ = some (.int .i64 p.1) := HI5.out.pb.cell 0
      have y4 : X1.cell? ⟨z, 1, none⟩ = some (.int .i64 p.2) := HI5.out.pb.cell 1
      have y5 := HI5.out.pb.lt
      go_upto_block 2 with (go_at_call 48; refine HRK.out.mono ?_; rintro e W8 hfin; refine hfin.val3.elim ?_ ?_ <;> clear hfin; rotate_left; (rintro ⟨g9, n9, c9, l9, rfl, hg6, hor⟩; exact absurd (HPO.out.most north) (by have := hor.not; exact this)); rintro ⟨ap2, bf2, rfl, hg6, hw6, hor⟩)
      have HI8 := Lib.hid (HI5.out.grown HSP.out hg6 hw6)
      have HOR : Hid (Sheet.Calms n (joOf north S.J) p.2 p.1 (tabOf S ap2)) := Lib.hid (by have := hor; rw [HN.out] at this; exact this)
      have HOS := Lib.hid hor
      clear hg6 hw6 hor HI5 HBX y1 y2 y3 y4 y5 HI
      refine wp_block ?_
      go_loopw [45] (fun i wr => ∃ a : Nat, i = .int .i64 (a : Nat) ∧ a ≤ n ∧ ∃ q, ShI w w2 d z g gs n S A c p f ap2 bf2 q wr ∧ ∀ i, i < n → q i = if i < a then putW north (q1 i) (shR p.2 (tabOf S ap2) f i) else q1 i) (fun i _ => n - (intOf i).toNat)
      case atStart => exact ⟨0, rfl, by omega, q1, HI8.out, fun i _ => by rw [if_neg (by omega)]⟩
      case round =>
        obtain ⟨sa, rfl, ha, q, hI, hq⟩ := hrel
        have HI9 := Lib.hid hI
        have HQ9 := Lib.hid hq
        clear HI8 hI hq
        by_cases han : sa < n
        · have t2 : decide (sa < n) = true := by simpa using han
          have c1 := HI9.out.fi.cell han
          have c2 := HI9.out.fi.lt
          obtain ⟨hfn, hfar⟩ := tab_tied HOR.out HTD.out han
          have hx := tab_small HS.out HPO.out.ok HOS.out (by rw [HN.out]; exact hfn) hfar
          have k2 : wr.cell? ⟨d, 2 + f sa * 12 + sa, none⟩ = some (.int .i64 (tabOf S ap2 (f sa) sa)) := kap2 HI9.out.wk (n := S.n.toNat) (by omega) (by rw [HN.out]; exact hfn) (by rw [HN.out]; exact han)
          have k1 := HI9.out.wk.lt
          have hpo := HPO.out.ok
          have hd1 := hpo.d1
          have hd2 := hpo.d2
          have HQN0 : Hid (shR p.2 (tabOf S ap2) f sa = Sheet.low (tabOf S ap2 (f sa) sa) p.2) := Lib.hid rfl
          obtain ⟨fa, hfa⟩ : ∃ fa, f sa = fa := ⟨_, rfl⟩
          rw [hfa] at c1 hfn hx k2 HQN0
          obtain ⟨x, hxe⟩ : ∃ x, tabOf S ap2 fa sa = x := ⟨_, rfl⟩
          rw [hxe] at hx k2 HQN0
          have HR1 := Lib.hid fun W => ratio_any x p.2 W (by omega) (by omega) ⟨by omega, by omega⟩
          obtain ⟨⟨l1, l2⟩, hl⟩ : ∃ l, Sheet.low x p.2 = l := ⟨_, rfl⟩
          rw [hl] at HR1 HQN0
          dsimp only at HR1
          have ia : (0 : Int) ≤ (sa : Int) ∧ (sa : Int) < 12 := by omega
          have ifa : (0 : Int) ≤ (fa : Int) ∧ (fa : Int) < 12 := by omega
          have ian : (0 : Int) ≤ (sa : Int) ∧ (sa : Int) < (n : Int) := by omega
          clear hfar hxe hl hfa hpo
          go_upto_region 14 with fail
          clear c1 c2 t2
          refine wp_region_valsU (by kernel_rfl) 12 76 rfl (by kernel_rfl) (by kernel_rfl) [some (.pointer (some ⟨d, 0, none⟩)), some (.int .i64 (fa : Nat)), some (.int .i64 (sa : Nat)), some (.pointer (some ⟨d, 0, none⟩)), some (.pointer (some ⟨d, 2, none⟩)), some (.pointer (some ⟨d, 2 + fa * 12, none⟩)), some (.pointer (some ⟨d, 2 + fa * 12 + sa, none⟩)), some (.int .i64 x), some (.pointer (some ⟨z, 1, none⟩)), some (.int .i64 p.2), some (.agg #[.int .i64 l1, .int .i64 l2]), none] (by kernel_rfl) rfl (Bx1 wr 11 14) (Bx1.start) ?st1 ?fi1
          case st1 =>
            intro i o v ho hv
            match i, ho, hv with
            | 0, ho, hv =>
              cases ho; cases hv
              refine .inl ⟨rfl, fun done a W hz hd hp hk hw K hK => ?_⟩
              have e6 := hk.same 6 (by decide)
              exact op_val (v := .pointer (some ⟨d, 0, none⟩)) (by simp [go_sem, ev' e6]) (hK _ _ (fun u hu => by cases hu; rfl) (hw.keep (Aft.refl _) (by decide) (by decide)))
            | 1, ho, hv =>
              cases ho; cases hv
              refine .inl ⟨rfl, fun done a W hz hd hp hk hw K hK => ?_⟩
              have e13 := hk.same 13 (by decide)
              exact op_val (v := .int .i64 (fa : Nat)) (by simp [go_sem, ev' e13]) (hK _ _ (fun u hu => by cases hu; rfl) (hw.keep (Aft.refl _) (by decide) (by decide)))
            | 2, ho, hv =>
              cases ho; cases hv
              refine .inl ⟨rfl, fun done a W hz hd hp hk hw K hK => ?_⟩
              have e12 := hk.same 12 (by decide)
              exact op_val (v := .int .i64 (sa : Nat)) (by simp [go_sem, ev' e12]) (hK _ _ (fun u hu => by cases hu; rfl) (hw.keep (Aft.refl _) (by decide) (by decide)))
            | 3, ho, hv =>
              cases ho; cases hv
              refine .inl ⟨rfl, fun done a W hz hd hp hk hw K hK => ?_⟩
              have e50 := hk.at_ 0 _ 50 _ rfl (by decide) _ rfl rfl rfl
              exact op_val (v := .pointer (some ⟨d, 0, none⟩)) (by simp [go_sem, ev' e50]) (hK _ _ (fun u hu => by cases hu; rfl) (hw.keep (Aft.refl _) (by decide) (by decide)))
            | 4, ho, hv =>
              cases ho; cases hv
              refine .inl ⟨rfl, fun done a W hz hd hp hk hw K hK => ?_⟩
              have e53 := hk.at_ 3 _ 53 _ rfl (by decide) _ rfl rfl rfl
              exact op_val (v := .pointer (some ⟨d, 2, none⟩)) (by simp [go_sem, ev' e53]) (hK _ _ (fun u hu => by cases hu; rfl) (hw.keep (Aft.refl _) (by decide) (by decide)))
            | 5, ho, hv =>
              cases ho; cases hv
              refine .inl ⟨rfl, fun done a W hz hd hp hk hw K hK => ?_⟩
              have e51 := hk.at_ 1 _ 51 _ rfl (by decide) _ rfl rfl rfl
              have e54 := hk.at_ 4 _ 54 _ rfl (by decide) _ rfl rfl rfl
              exact op_val (v := .pointer (some ⟨d, 2 + fa * 12, none⟩)) (by simp [go_sem, ev' e51, ev' e54, ifa]) (hK _ _ (fun u hu => by cases hu; rfl) (hw.keep (Aft.refl _) (by decide) (by decide)))
            | 6, ho, hv =>
              cases ho; cases hv
              refine .inl ⟨rfl, fun done a W hz hd hp hk hw K hK => ?_⟩
              have e52 := hk.at_ 2 _ 52 _ rfl (by decide) _ rfl rfl rfl
              have e55 := hk.at_ 5 _ 55 _ rfl (by decide) _ rfl rfl rfl
              exact op_val (v := .pointer (some ⟨d, 2 + fa * 12 + sa, none⟩)) (by simp [go_sem, ev' e52, ev' e55, ia]) (hK _ _ (fun u hu => by cases hu; rfl) (hw.keep (Aft.refl _) (by decide) (by decide)))
            | 7, ho, hv =>
              cases ho; cases hv
              refine .inl ⟨rfl, fun done a W hz hd hp hk hw K hK => ?_⟩
              have e56 := hk.at_ 6 _ 56 _ rfl (by decide) _ rfl rfl rfl
              have q1 := cellA k2 k1 hw.aft
              exact op_val (v := .int .i64 x) (by simp [go_sem, ev' e56, q1]) (hK _ _ (fun u hu => by cases hu; rfl) (hw.keep (Aft.refl _) (by decide) (by decide)))
            | 8, ho, hv =>
              cases ho; cases hv
              refine .inl ⟨rfl, fun done a W hz hd hp hk hw K hK => ?_⟩
              have e7 := hk.same 7 (by decide)
              exact op_val (v := .pointer (some ⟨z, 1, none⟩)) (by simp [go_sem, ev' e7]) (hK _ _ (fun u hu => by cases hu; rfl) (hw.keep (Aft.refl _) (by decide) (by decide)))
            | 9, ho, hv =>
              cases ho; cases hv
              refine .inl ⟨rfl, fun done a W hz hd hp hk hw K hK => ?_⟩
              have e58 := hk.at_ 8 _ 58 _ rfl (by decide) _ rfl rfl rfl
              exact op_val (v := .int .i64 p.2) (by simp [go_sem, ev' e58, (HI9.out.pb.aft hw.aft).cell 1]) (hK _ _ (fun u hu => by cases hu; rfl) (hw.keep (Aft.refl _) (by decide) (by decide)))
            | 10, ho, hv =>
              cases ho; cases hv
              refine .inl ⟨rfl, fun done a W hz hd hp hk hw K hK => ?_⟩
              have e57 := hk.at_ 7 _ 57 _ rfl (by decide) _ rfl rfl rfl
              have e59 := hk.at_ 9 _ 59 _ rfl (by decide) _ rfl rfl rfl
              refine op_callN rfl rfl rfl _ rfl (vs := #[.int .i64 x, .int .i64 p.2]) (by simp [e57, e59]) (HR1.out W) ?_
              rintro e w7 ⟨rfl, hw7⟩
              exact ⟨_, rfl, hK _ _ (fun u hu => by cases hu; rfl) (hw.keep hw7 (by decide) (by decide))⟩
            | 11, ho, hv =>
              cases ho; cases hv
              refine .inl ⟨rfl, fun done a W hz hd hp hk hw K hK => ?_⟩
              exact op_valW (w' := W.alloc (.cells #[.int .i64 0, .int .i64 0] 37)) (v := .pointer (some ⟨W.heap.size, 0, none⟩)) (by simp [go_sem]) (hK _ _ (fun u hu => by cases hu) (hw.step (by rw [hz]; decide)))
            | _ + 12, _, hv => cases hv
          intro done us W hus hd hw
          obtain ⟨b9, e14, hb9, hbk⟩ := hw.s (hd 11 (by decide))
          have hwa := hw.aft
          clear hw
          obtain ⟨x1, rfl⟩ : ∃ x, us = [x] := List.length_eq_one_iff.1 hus
          simp only [fill, List.drop_succ_cons, List.drop_zero, List.zip_cons_cons, List.zip_nil_right, putAll] at e14 ⊢
          simp only [Act.put, List.setIfInBounds_toArray, List.set] at e14 ⊢
          have e14 : x1 = .pointer (some ⟨b9, 0, none⟩) := e14
          subst e14
          have c1 := hbk.cell 0
          have c2 := hbk.cell 1
          have c3 := hbk.frozen 0
          have c4 := hbk.frozen 1
          have c5 := hbk.lt
          simp only [List.getElem?_toArray, List.getElem?_cons_zero, List.getElem?_cons_succ] at c1 c2
          have B10 := Lib.hid ((hbk.store 0 (.int .i64 l1)).store 1 (.int .i64 l2))
          have HI10 := Lib.hid (HI9.out.later ((hwa.then_setCell (p := ⟨b9, 0, none⟩) hb9 (.int .i64 l1)).then_setCell (p := ⟨b9, 1, none⟩) hb9 (.int .i64 l2)))
          have hX9 : ∃ X9, (W.setCell ⟨b9, 0, none⟩ (.int .i64 l1)).setCell ⟨b9, 1, none⟩ (.int .i64 l2) = X9 := ⟨_, rfl⟩
          clear hbk hwa hd hus k1 k2 HR1 HI9 hb9
          go_upto_region 15 with fail
          obtain ⟨X9, hX9⟩ := hX9
          rw [hX9] at B10 HI10 ⊢
          clear hX9 c1 c2 c3 c4 c5
          have c1 : X9.cell? ⟨b9, 0, none⟩ = some (.int .i64 l1) := B10.out.cell 0
          have c2 : X9.cell? ⟨b9, 1, none⟩ = some (.int .i64 l2) := B10.out.cell 1
          have c3 := B10.out.lt
          have HQA : Hid (q sa = q1 sa) := Lib.hid (by rw [HQ9.out sa han, if_neg (by omega)])
          by_cases hk0 : k = 0
          · have t3 : ((k : Int) == 0) = true := by simp [hk0]
            have hnf : north = false := by rw [HNO.out, hk0]; rfl
            have HQN : Hid (∀ i, i < n → (if i = sa then (⟨l1, l2, (q sa).x, (q sa).y⟩ : Q4) else q i) = if i < sa + 1 then putW north (q1 i) (shR p.2 (tabOf S ap2) f i) else q1 i) := Lib.hid fun i hi => by
              by_cases e : i = sa
              · subst e
                rw [if_pos rfl, if_pos (by omega), HQN0.out, HQA.out, hnf]
                rfl
              · rw [if_neg e, HQ9.out i hi]
                by_cases e2 : i < sa
                · rw [if_pos e2, if_pos (by omega)]
                · rw [if_neg e2, if_neg (by omega)]
            clear hnf hk0
            have m0 := HI10.out.fq.cell han
            have m1 := HI10.out.fq.frozen (sa * 4)
            have m2 := HI10.out.fq.frozen (sa * 4 + 1)
            have m3 := HI10.out.fq.lt
            obtain ⟨m4, m5, m6, m7⟩ := m0
            go_wp2_with fail
            have hg3 : X9.grownBy ((X9.setCell ⟨gs, sa * 4, none⟩ (.int .i64 l1)).setCell ⟨gs, sa * 4 + 1, none⟩ (.int .i64 l2)) (some gs) := only_setCell (only_setCell (only_refl _ _) (p := ⟨gs, sa * 4, none⟩) (.inl rfl) _) (p := ⟨gs, sa * 4 + 1, none⟩) (.inl rfl) _
            exact ⟨⟨sa + 1, by go_num, by omega, _, HI10.out.put HSP.out hg3 (HI10.out.fq.setX han (l1, l2)), HQN.out⟩, by simp [intOf]; omega⟩
          · have t3 : ((k : Int) == 0) = false := by simp; omega
            have hnf : north = true := by rw [HNO.out, decide_eq_true_eq]; omega
            have HQN : Hid (∀ i, i < n → (if i = sa then (⟨(q sa).a, (q sa).b, l1, l2⟩ : Q4) else q i) = if i < sa + 1 then putW north (q1 i) (shR p.2 (tabOf S ap2) f i) else q1 i) := Lib.hid fun i hi => by
              by_cases e : i = sa
              · subst e
                rw [if_pos rfl, if_pos (by omega), HQN0.out, HQA.out, hnf]
                rfl
              · rw [if_neg e, HQ9.out i hi]
                by_cases e2 : i < sa
                · rw [if_pos e2, if_pos (by omega)]
                · rw [if_neg e2, if_neg (by omega)]
            clear hnf hk0
            have m0 := HI10.out.fq.cell han
            have m1 := HI10.out.fq.frozen (sa * 4 + 2)
            have m2 := HI10.out.fq.frozen (sa * 4 + 3)
            have m3 := HI10.out.fq.lt
            obtain ⟨m4, m5, m6, m7⟩ := m0
            go_wp2_with fail
            have hg3 : X9.grownBy ((X9.setCell ⟨gs, sa * 4 + 2, none⟩ (.int .i64 l1)).setCell ⟨gs, sa * 4 + 3, none⟩ (.int .i64 l2)) (some gs) := only_setCell (only_setCell (only_refl _ _) (p := ⟨gs, sa * 4 + 2, none⟩) (.inl rfl) _) (p := ⟨gs, sa * 4 + 3, none⟩) (.inl rfl) _
            exact ⟨⟨sa + 1, by go_num, by omega, _, HI10.out.put HSP.out hg3 (HI10.out.fq.setY han (l1, l2)), HQN.out⟩, by simp [intOf]; omega⟩
        · have t2 : decide (sa < n) = false := by simpa using han
          have ea : sa = n := by omega
          have HKN := Lib.hid (HK1.out.next hk2 HNO.out HOR.out (q' := q) fun i hi => by rw [HQ9.out i hi, if_pos (by omega)])
          go_wp2_with fail
          exact ⟨⟨k + 1, by go_num, by omega, ap2, bf2, q, HI9.out, HKN.out⟩, by simp [intOf]; omega⟩
    · have t1 : decide ((k : Int) < 2) = false := by simp; omega
      obtain ⟨t0, t1', hc0, hc1, hq⟩ : ∃ t0 t1, Sheet.Calms n (joOf false S.J) p.2 p.1 t0 ∧ Sheet.Calms n (joOf true S.J) p.2 p.1 t1 ∧ ∀ i, i < n → q1 i = ⟨(shR p.2 t0 f i).1, (shR p.2 t0 f i).2, (shR p.2 t1 f i).1, (shR p.2 t1 f i).2⟩ := by
        rcases HK1.out with ⟨h, _⟩ | ⟨h, _⟩ | ⟨_, h⟩
        · omega
        · omega
        · exact h
      have HC0 := Lib.hid hc0
      have HC1 := Lib.hid hc1
      have HFQ : Hid (FQ wr gs n fun i => ⟨(shR p.2 t0 f i).1, (shR p.2 t0 f i).2, (shR p.2 t1' f i).1, (shR p.2 t1' f i).2⟩) := Lib.hid (by
        obtain ⟨cs, h1, h2⟩ := HI.out.fq
        exact ⟨cs, h1, fun i hi => by have := h2 i hi; rw [hq i hi] at this; exact this⟩)
      clear hc0 hc1 hq
      go_wp2_with fail
      exact bodyPost_ret (v := .tuple #[.slice (some ⟨gs, 0, none⟩) n n, .int .i64 0]) (by simp [results, Try.results36, go_sem]) rfl ⟨gs, n, p, f, t0, t1', HPO.out, by rw [HN.out]; exact HTD.out, by rw [HN.out]; exact HC0.out, by rw [HN.out]; exact HC1.out, by rw [HN.out], hww, by rw [HN.out]; exact HFQ.out, HI.out.aft⟩
end Go.Proofs
end

section
/- Walks: asked. -/
namespace Go.Proofs
open Go.RowKit
attribute [local go_sem] Oper.semAt_some

/-- A mark that is right. -/
def markB (m : Int × Int) : Bool := fromB m.1 (-1000000) 1000000 && fromB m.2 0 20
/-- The first k places are in order. -/
def OrdTo (l : List (Int × Int)) (k : Nat) : Prop := ∀ i, 1 ≤ i → i < k → i < l.length → (l.getD (i - 1) (0, 0)).1 < (l.getD i (0, 0)).1
instance (l : List (Int × Int)) : Decidable (OrdTo l l.length) := Nat.decidableBallLT l.length (fun i _ => 1 ≤ i → i < l.length → (l.getD (i - 1) (0, 0)).1 < (l.getD i (0, 0)).1) |> fun d => decidable_of_iff _ (show (∀ i, (h : i < l.length) → 1 ≤ i → i < l.length → (l.getD (i - 1) (0, 0)).1 < (l.getD i (0, 0)).1) ↔ OrdTo l l.length from ⟨fun h i h1 h2 h3 => h i h2 h1 h3, fun h i h2 h1 h3 => h i h1 h2 h3⟩)
def ordB (l : List (Int × Int)) : Bool := decide (OrdTo l l.length)
def edgesE (a b : List (Int × Int)) (play : Int) : Int :=
  if 30 < a.length ∨ 30 < b.length then 3 else if a.all markB = false ∨ b.all markB = false ∨ fromB play 0 1000000 = false then 4 else if ordB a = false ∨ ordB b = false then 5 else 0

theorem mark_any (m : Int × Int) (w : World) : Calls Try.prog 89 #[.agg #[.int .i64 m.1, .int .i64 m.2]] w fun e w' => e = .returned (.bool (markB m)) ∧ Aft w w' := by
  obtain ⟨x, y⟩ := m
  unfold markB
  dsimp only
  go_enter Try.func89, Try.ntmps89
  cases h1 : fromB x (-1000000) 1000000
  · have H1 := Lib.hid h1
    clear h1
    go_wp2_with (go_at_call 45; refine (in_any _ _ _ _).mono ?_; rintro e w' ⟨rfl, rfl⟩; rw [H1.out])
    go_ret
    exact ⟨rfl, Aft.alloc _ _⟩
  · have H1 := Lib.hid h1
    clear h1
    go_wp2_with (first | (go_at_call_of 45 (Value.int IntKind.i64 x); refine (in_any _ _ _ _).mono ?_; rintro e w' ⟨rfl, rfl⟩; rw [H1.out]) | (go_at_call_of 45 (Value.int IntKind.i64 y); refine (in_any _ _ _ _).mono ?_; rintro e w' ⟨rfl, rfl⟩))
    go_ret
    exact ⟨rfl, Aft.alloc _ _⟩
theorem runs_89 (args : Array Value) (w : World) : (callFunc 89 args).run Try.prog w = .ok (.enter 89 args) w := by simp [go_sem]
theorem every_mark (L : List (Int × Int)) (A : Option Addr) (c : Nat) (w : World) (hA : Prs w A L) :
    Calls Try.prog 90 #[.slice A L.length c, .func (.func 89) #[] #[]] w fun e w' => e = .returned (.bool (L.all markB)) ∧ Aft w w' :=
  everyMark (FlatR enc2) FlatR.mono 89 [] markB A L c w hA runs_89 fun x _ W ha v0 v1 hv u => by
    unfold FlatR enc2 at hv
    cases hv
    exact mark_any x _

set_option maxRecDepth 100000 in
set_option maxHeartbeats 4000000 in
theorem asked_count (a b : List (Int × Int)) (play : Int) (A B : Option Addr) (ca cb : Nat) (w : World) (h : 30 < a.length ∨ 30 < b.length) :
    Calls Try.prog 56 #[.slice A a.length ca, .slice B b.length cb, .int .i64 play] w fun e w' => e = .returned (.tuple #[.pointer none, .int .i64 3]) ∧ Aft w w' := by
  go_enter Try.func56, Try.ntmps56
  by_cases h1 : 30 < a.length
  · have t1 : decide (30 < a.length) = true := by simpa using h1
    clear h
    go_wp2_with fail
    exact bodyPost_ret (v := .tuple #[.pointer none, .int .i64 3]) (by simp [results, Try.results56, go_sem]) rfl ⟨rfl, Aft.refl _⟩
  · have t1 : decide (30 < a.length) = false := by simpa using h1
    have h2 : 30 < b.length := h.resolve_left h1
    have t2 : decide (30 < b.length) = true := by simpa using h2
    clear h
    go_wp2_with fail
    exact bodyPost_ret (v := .tuple #[.pointer none, .int .i64 3]) (by simp [results, Try.results56, go_sem]) rfl ⟨rfl, Aft.refl _⟩

set_option maxRecDepth 100000 in
set_option maxHeartbeats 4000000 in
theorem asked_value (a b : List (Int × Int)) (play : Int) (A B : Option Addr) (ca cb : Nat) (w : World) (hA : Prs w A a) (hB : Prs w B b) (ha : a.length ≤ 30) (hb : b.length ≤ 30) (h : a.all markB = false ∨ b.all markB = false ∨ fromB play 0 1000000 = false) :
    Calls Try.prog 56 #[.slice A a.length ca, .slice B b.length cb, .int .i64 play] w fun e w' => e = .returned (.tuple #[.pointer none, .int .i64 4]) ∧ Aft w w' := by
  have t1 : decide (30 < a.length) = false := by simpa using ha
  have t2 : decide (30 < b.length) = false := by simpa using hb
  have HEA := Lib.hid (every_mark a A ca w hA)
  have HEB := Lib.hid fun W (h : Aft w W) => every_mark b B cb W (hB.aft h)
  clear hA hB
  by_cases h1 : a.all markB = false
  · rw [h1] at HEA
    clear h h1
    go_enter Try.func56, Try.ntmps56
    go_wp2_with (go_at_call 90; refine HEA.out.mono ?_; rintro e w2 ⟨rfl, u, rfl⟩)
    exact bodyPost_ret (v := .tuple #[.pointer none, .int .i64 4]) (by simp [results, Try.results56, go_sem]) rfl ⟨rfl, Aft.lat _ u⟩
  · have h1' : a.all markB = true := by simpa using h1
    rw [h1'] at HEA
    by_cases h2 : b.all markB = false
    · rw [h2] at HEB
      clear h h1 h1' h2
      go_enter Try.func56, Try.ntmps56
      go_upto_region 5 with (first | (go_at_call 90; refine (HEA.out).mono ?_; rintro e w2 ⟨rfl, u, rfl⟩) | (go_at_call 90; refine (HEB.out _ (Aft.lat _ u)).mono ?_; rintro e w2 ⟨rfl, u2, rfl⟩))
      go_wp2_with fail
      exact bodyPost_ret (v := .tuple #[.pointer none, .int .i64 4]) (by simp [results, Try.results56, go_sem]) rfl ⟨rfl, (Aft.lat _ u).then_lat u2⟩
    · have h2' : b.all markB = true := by simpa using h2
      have h3 : fromB play 0 1000000 = false := (h.resolve_left h1).resolve_left h2
      have H3 := Lib.hid h3
      rw [h2'] at HEB
      clear h h1 h1' h2 h2' h3
      go_enter Try.func56, Try.ntmps56
      go_upto_region 5 with (first | (go_at_call 90; refine (HEA.out).mono ?_; rintro e w2 ⟨rfl, u, rfl⟩) | (go_at_call 90; refine (HEB.out _ (Aft.lat _ u)).mono ?_; rintro e w2 ⟨rfl, u2, rfl⟩) | (go_at_call 45; refine (in_any _ _ _ _).mono ?_; rintro e w' ⟨rfl, rfl⟩; rw [H3.out]))
      go_wp2_with fail
      exact bodyPost_ret (v := .tuple #[.pointer none, .int .i64 4]) (by simp [results, Try.results56, go_sem]) rfl ⟨rfl, (Aft.lat _ u).then_lat u2⟩

theorem OrdTo.all {l : List (Int × Int)} {k : Nat} (h : OrdTo l k) (hk : l.length ≤ k) : ordB l = true := decide_eq_true fun i h1 h2 h3 => h i h1 (by omega) h3
theorem OrdTo.step {l : List (Int × Int)} {k : Nat} (h : OrdTo l k) (hk : (l.getD (k - 1) (0, 0)).1 < (l.getD k (0, 0)).1) : OrdTo l (k + 1) := fun i h1 h2 h3 => by
  by_cases e : i = k
  · subst e; exact hk
  · exact h i h1 (by omega) h3
theorem not_ord {l : List (Int × Int)} {k : Nat} (h1 : 1 ≤ k) (hk : k < l.length) (h : ¬ (l.getD (k - 1) (0, 0)).1 < (l.getD k (0, 0)).1) : ordB l = false := decide_eq_false fun h2 => h (h2 k h1 hk hk)
/-- What asked leaves where all is right. -/
def EdgesAt (w0 w : World) (x : Nat) (a b : List (Int × Int)) (play : Int) (A B : Option Addr) (ca cb : Nat) : Prop :=
  Blk w x 169 #[.slice A a.length ca, .slice B b.length cb, .int .i64 play] ∧ w0.heap.size ≤ x ∧ Aft w0 w ∧ Prs w A a ∧ Prs w B b
def AskedR (a b : List (Int × Int)) (play : Int) (A B : Option Addr) (ca cb : Nat) (w : World) (e : Ending) (w' : World) : Prop :=
  ((ordB a = false ∨ ordB b = false) ∧ e = .returned (.tuple #[.pointer none, .int .i64 5]) ∧ Aft w w') ∨
  (ordB a = true ∧ ordB b = true ∧ ∃ x, e = .returned (.tuple #[.pointer (some ⟨x, 0, none⟩), .int .i64 0]) ∧ EdgesAt w w' x a b play A B ca cb)

set_option maxRecDepth 100000 in
set_option maxHeartbeats 4000000 in
theorem asked_loop (a b : List (Int × Int)) (play : Int) (A B : Option Addr) (ca cb : Nat) (w : World) (hA : Prs w A a) (hB : Prs w B b) (ha : a.length ≤ 30) (hb : b.length ≤ 30) (h1 : a.all markB = true) (h2 : b.all markB = true) (h3 : fromB play 0 1000000 = true) :
    Calls Try.prog 56 #[.slice A a.length ca, .slice B b.length cb, .int .i64 play] w (AskedR a b play A B ca cb w) := by
  have t1 : decide (30 < a.length) = false := by simpa using ha
  have t2 : decide (30 < b.length) = false := by simpa using hb
  have HEA := Lib.hid (every_mark a A ca w hA)
  have HEB := Lib.hid fun W (h : Aft w W) => every_mark b B cb W (hB.aft h)
  rw [h1] at HEA
  rw [h2] at HEB
  have H3 := Lib.hid h3
  have HA := Lib.hid hA
  have HB := Lib.hid hB
  clear hA hB h1 h2 h3
  go_enter Try.func56, Try.ntmps56
  go_upto_region 6 with (first | (go_at_call 90; refine (HEA.out).mono ?_; rintro e w2 ⟨rfl, u, rfl⟩) | (go_at_call 90; refine (HEB.out _ (Aft.lat _ u)).mono ?_; rintro e w2 ⟨rfl, u2, rfl⟩) | (go_at_call 45; refine (in_any _ _ _ _).mono ?_; rintro e w' ⟨rfl, rfl⟩; rw [H3.out]))
  have HW1 := Lib.hid (Aft.lat w (u.trans u2))
  generalize w.lat (u.trans u2) = W1 at *
  clear HEA HEB t1 t2
  obtain ⟨gb, hgb⟩ : ∃ gb, W1.heap.size = gb := ⟨_, rfl⟩
  have HG := Lib.hid hgb
  have HB2 : Hid (Blk (W1.alloc (.cells #[.slice A a.length ca, .slice B b.length cb] 48)) gb 48 #[.slice A a.length ca, .slice B b.length cb]) := Lib.hid (by rw [← hgb]; exact Blk.new _ _ _)
  have HW2 := Lib.hid (HW1.out.then_alloc (.cells #[.slice A a.length ca, .slice B b.length cb] 48))
  clear hgb
  go_upto_block 1 with fail
  try rw [HG.out]
  clear HG HW1
  generalize W1.alloc (.cells #[.slice A a.length ca, .slice B b.length cb] 48) = W2 at *
  refine wp_block ?_
  go_loopw [41] (fun i wr => ∃ j : Nat, i = .int .i64 (j : Nat) ∧ j ≤ 2 ∧ (1 ≤ j → ordB a = true) ∧ (2 ≤ j → ordB b = true) ∧ Aft W2 wr) (fun i _ => 2 - (intOf i).toNat)
  case atStart => exact ⟨0, rfl, by omega, fun h => absurd h (by omega), fun h => absurd h (by omega), Aft.refl _⟩
  case round =>
    obtain ⟨j, rfl, hj, ho1, ho2, hI⟩ := hrel
    have HI := Lib.hid hI
    have HO1 := Lib.hid ho1
    have HO2 := Lib.hid ho2
    clear hI ho1 ho2
    by_cases hj2 : j < 2
    · have t1 : decide (j < 2) = true := by simpa using hj2
      have t1' : decide ((j : Int) < 2) = true := by simp; omega
      obtain ⟨L, AL, cL, y1, hP, hlen, hf, ht⟩ : ∃ L AL cL, wr.cell? ⟨gb, j, none⟩ = some (.slice AL (List.length L) cL) ∧ Prs w AL L ∧ L.length ≤ 30 ∧ (ordB L = false → ordB a = false ∨ ordB b = false) ∧ (ordB L = true → (1 ≤ j + 1 → ordB a = true) ∧ (2 ≤ j + 1 → ordB b = true)) := by
        have hbk := HB2.out.aft HI.out
        match j, hj2 with
        | 0, _ => exact ⟨a, A, ca, hbk.cell 0, HA.out, ha, .inl, fun h => ⟨fun _ => h, fun h => absurd h (by omega)⟩⟩
        | 1, _ => exact ⟨b, B, cb, hbk.cell 1, HB.out, hb, .inr, fun h => ⟨fun _ => HO1.out (by omega), fun _ => h⟩⟩
      have y2 := (HB2.out.aft HI.out).lt
      have HP := Lib.hid hP
      have HF := Lib.hid hf
      have HT := Lib.hid ht
      have ij : (0 : Int) ≤ (j : Int) ∧ (j : Int) < 2 := by omega
      clear hP hf ht
      go_upto_block 3 with fail
      clear y1 y2 t1 t1'
      refine wp_block ?_
      go_loopw [11] (fun i wr' => ∃ k : Nat, i = .int .i64 ((k : Int) + 1) ∧ k ≤ L.length ∧ OrdTo L (k + 1) ∧ Aft W2 wr') (fun i _ => L.length + 1 - (intOf i).toNat)
      case atStart => exact ⟨0, rfl, by omega, fun i h1 h2 _ => absurd h1 (by omega), HI.out⟩
      case round =>
        obtain ⟨k, rfl, hk, hO, hI2⟩ := hrel
        have HI2 := Lib.hid hI2
        have HOR := Lib.hid hO
        clear hO hI2
        by_cases hkl : k + 1 < L.length
        · have t3 : decide ((k : Int) + 1 < (L.length : Int)) = true := by rw [decide_eq_true_eq]; omega
          obtain ⟨b9, o9, rfl, hb9, hc⟩ := (HP.out.aft (HW2.out.trans HI2.out)).at hkl
          have x0 := (hc k (by omega)).1
          have x1 := (hc (k + 1) hkl).1
          have hg0 : (L.getD k (0, 0)).1 = L[k].1 := by rw [List.getD_eq_getElem?_getD, List.getElem?_eq_getElem (by omega)]; rfl
          have hg1 : (L.getD (k + 1) (0, 0)).1 = L[k + 1].1 := by rw [List.getD_eq_getElem?_getD, List.getElem?_eq_getElem hkl]; rfl
          obtain ⟨v0, hv0⟩ : ∃ v, L[k].1 = v := ⟨_, rfl⟩
          obtain ⟨v1, hv1⟩ : ∃ v, L[k + 1].1 = v := ⟨_, rfl⟩
          rw [hv0] at x0 hg0
          rw [hv1] at x1 hg1
          have hk1 : (k : Int) + 1 - 1 = (k : Int) := by omega
          have HST : Hid (v0 < v1 → OrdTo L (k + 1 + 1)) := Lib.hid fun h => HOR.out.step (by rw [Nat.add_sub_cancel, hg0, hg1]; exact h)
          have HNO : Hid (¬ v0 < v1 → ordB L = false) := Lib.hid fun h => not_ord (k := k + 1) (by omega) hkl (by rw [Nat.add_sub_cancel, hg0, hg1]; exact h)
          clear hc hv0 hv1 hg0 hg1
          go_upto_region 12 with fail
          go_quiet (fail)
          have ha6 := Lib.hid (HI2.out.then_drewN nq)
          generalize wr.drewN nq = W6 at *
          clear x0 x1
          go_wp2_with fail
          · exact bodyPost_ret (v := .tuple #[.pointer none, .int .i64 5]) (by simp [results, Try.results56, go_sem]) rfl (.inl ⟨HF.out (HNO.out (by omega)), rfl, HW2.out.trans ha6.out⟩)
          · exact ⟨⟨k + 1, by go_num, by omega, HST.out (by omega), ha6.out⟩, by simp [intOf]; omega⟩
        · have t3 : decide ((k : Int) + 1 < (L.length : Int)) = false := by rw [decide_eq_false_iff_not]; omega
          have HTT := Lib.hid (HT.out (HOR.out.all (by omega)))
          go_wp2_with fail
          exact ⟨⟨j + 1, by go_num, by omega, HTT.out.1, HTT.out.2, HI2.out⟩, by simp [intOf]; omega⟩
    · have t1 : decide (j < 2) = false := by simpa using hj2
      have t1' : decide ((j : Int) < 2) = false := by simp; omega
      have HX := Lib.hid (HW2.out.trans HI.out)
      have HOA := Lib.hid (HO1.out (by omega))
      have HOB := Lib.hid (HO2.out (by omega))
      go_wp2_with fail
      have h9 := HX.out.then_alloc (.cells #[.slice A a.length ca, .slice B b.length cb, .int .i64 play] 169)
      exact bodyPost_ret (v := .tuple #[.pointer (some ⟨wr.heap.size, 0, none⟩), .int .i64 0]) (by simp [results, Try.results56, go_sem]) rfl (.inr ⟨HOA.out, HOB.out, _, rfl, Blk.new _ _ _, HX.out.size, h9, HA.out.aft h9, HB.out.aft h9⟩)
end Go.Proofs
end
