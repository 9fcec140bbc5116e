/- Own texts, merged: Mr11 Mr12. -/
import Derived.Test.YtobpdobneocckaaGreatDoorH17
set_option linter.unusedSimpArgs false
set_option linter.unusedVariables false
section
/- Walks: drawn regions of the law TreatyMore: a way more; a kind and an end; a leg's other word. -/
namespace Go.Proofs
open Go.RowKit

theorem DeckAt.offS {w0 : World} {d : Nat} {A : Option Addr} {l : List Int} {c m : Nat} {w w' : World} {row : Option Nat} (h : DeckAt w0 d A l c m w) (hg : w.grownBy w' row) (hr : ∀ k, row = some k → w0.heap.size ≤ k ∧ k ≠ d) : DeckAt w0 d A l c m w' := by
  obtain ⟨q1, q2, q3, qq, ss, q4, q5, q6⟩ := h
  exact ⟨q1, q2, q3.grown hg (fun k e => (hr k e).1), qq, ss, q4.grown hg (fun e => (hr d e.symm).2 rfl), q5, q6⟩
def Fc11 (D d b2 n x y P : Nat) (d1 : Option Addr) (f1 : Nat) (_ : Nat → Bool) : Nat → Value → World → Prop
  | 0, v, _ => v = .pointer (some ⟨b2, 1, none⟩)
  | 1, v, _ => v = .slice d1 n f1
  | 2, v, _ => v = .int .i64 x
  | 3, v, _ => v = .int .i64 x
  | 4, v, _ => v = .int .i64 ((x : Int) + 1)
  | 5, v, _ => v = .pointer (some ⟨D, 0, none⟩)
  | 6, v, _ => v = .int .i64 P
  | 7, v, _ => v = .int .i64 y
  | 8, v, _ => v = .pointer (some ⟨d, 0, none⟩)
  | 13, v, _ => v = .pointer (some ⟨b2, 1, none⟩)
  | 9, v, _ => ∃ k : Nat, k < 4 ∧ v = .int .i64 k
  | 10, v, _ => ∃ k : Nat, k < 4 ∧ v = .agg #[.int .i64 x, .int .i64 y, .int .i64 k]
  | _, _, _ => True
theorem Fc11.any {D d b2 n x y P : Nat} {d1 : Option Addr} {f1 : Nat} {done done' : Nat → Bool} {i : Nat} {v : Value} {w w' : World} (h : Fc11 D d b2 n x y P d1 f1 done i v w) : Fc11 D d b2 n x y P d1 f1 done' i v w' := by
  unfold Fc11 at h ⊢
  split at h <;> exact h
/-- Behind the region: the list of ways has one more. -/
def Fin11 (w0 : World) (d : Nat) (A : Option Addr) (l : List Int) (c m : Nat) (X : World) (D2 : Nat → Prop) (b2 n x y : Nat) (z0 z2 z3 z4 : Value) (xs : List Value) (w : World) : Prop :=
  ∃ (k : Nat) (v' : Value), k < 4 ∧ OwnD (Dom D2 X) 65 3 v' (n + 1) (xs ++ [.int .i64 x, .int .i64 y, .int .i64 k]) w ∧ Blk w b2 27 #[z0, v', z2, z3, z4] ∧ GrownS (fun k => k = d ∨ (D2 k ∧ ∃ cs, X.heap[k]? = some (.cells cs 65)) ∨ k = b2) X w ∧ DeckAt w0 d A l c (m + 1) w
structure W11 (w0 : World) (d : Nat) (A : Option Addr) (l : List Int) (c m : Nat) (X : World) (D2 : Nat → Prop) (b2 n x y : Nat) (z0 z2 z3 z4 v1 : Value) (xs : List Value) (done : Nat → Bool) (a : Act) (w : World) : Prop where
  pre : done 12 = false → GrownS (OnD d) X w ∧ DeckAt w0 d A l c (m + b9 (done 9) 1) w ∧ (done 11 = true → ∃ k b : Nat, k < 4 ∧ a.eval (.tmp 100) = .slice (some ⟨b, 0, none⟩) 1 1 ∧ Blk w b 65 #[.int .i64 x, .int .i64 y, .int .i64 k])
  app : done 12 = true → done 14 = false → ∃ k : Nat, k < 4 ∧ w.ownsRow 0 65 3 (a.eval (.tmp 101)) (n + 1) (xs ++ [.int .i64 x, .int .i64 y, .int .i64 k]) ∧ (∀ q, (a.eval (.tmp 101)).ownBlock = some q → Dom D2 X q) ∧ GrownS (fun k => k = d ∨ D2 k ∧ ∃ cs, X.heap[k]? = some (.cells cs 65)) X w ∧ DeckAt w0 d A l c (m + 1) w
  fin : done 14 = true → Fin11 w0 d A l c m X D2 b2 n x y z0 z2 z3 z4 xs w
def ch11 (s : Nat) : Bool := decide (s = 89) || decide (s = 90) || decide (s = 91) || decide (s = 92) || decide (s = 93) || decide (s = 94) || decide (s = 95) || decide (s = 96) || decide (s = 97) || decide (s = 98) || decide (s = 99) || decide (s = 100) || decide (s = 101) || decide (s = 102)

set_option maxRecDepth 100000 in
set_option maxHeartbeats 4000000 in
theorem region11_mr (w0 : World) (d : Nat) (A : Option Addr) (l : List Int) (c m : Nat) (D : Nat) (D2 : Nat → Prop) (b2 n x y P : Nat) (d1 : Option Addr) (f1 : Nat) (z0 z2 z3 z4 p1 p2 p3 p4 : Value) (xs : List Value) (a0 : Act) (Q0 : Exit → Act → World → Prop) (X : World) (hz : a0.tmps.size = 253) (s5 : a0.eval (.tmp 5) = .pointer (some ⟨D, 0, none⟩)) (s6 : a0.eval (.tmp 6) = .pointer (some ⟨d, 0, none⟩)) (s13 : a0.eval (.tmp 13) = .pointer (some ⟨b2, 0, none⟩)) (s16 : a0.eval (.tmp 16) = .int .i64 x)
    (hD : DeckAt w0 d A l c m X) (hm : m ≤ 800000) (hP : 2 ≤ P ∧ P ≤ 8) (hx : x < P) (hy : y = (x + 1) % P) (hbx : Blk X D 27 #[.int .i64 P, p1, p2, p3, p4]) (hb2 : Blk X b2 27 #[z0, .slice d1 n f1, z2, z3, z4])
    (hown : OwnD D2 65 3 (.slice d1 n f1) n xs X) (hd2 : ¬ D2 d) (hlow : ∀ k, D2 k → w0.heap.size ≤ k) (hlowb : w0.heap.size ≤ b2) (hDd : D ≠ d) (hb2d : b2 ≠ d) (hb2D : ¬ D2 b2) (hn : n ≤ 1000)
    (hexit : ∀ a W', a.tmps.size = 253 → a.defers = a0.defers → (∀ s : Nat, ch11 s = false → a.eval (.tmp s) = a0.eval (.tmp s)) → Fin11 w0 d A l c m X D2 b2 n x y z0 z2 z3 z4 xs W' → Q0 .normal a W') :
    Code.wp Tryz.prog (Code.region 11 (opsMr 11).toArray true) Q0 a0 X := by
  have HEX := Lib.hid hexit
  clear hexit
  have hP0 : ¬ P = 0 := by omega
  have hx1 : IntKind.i64.wrap ((x : Int) + 1) = (x : Int) + 1 := IntWalk.i64_in _ (by omega)
  have hmod : ((x : Int) + 1).tmod (P : Int) = (y : Int) := by
    rw [Int.tmod_eq_emod_of_nonneg (by omega), hy, Int.natCast_emod]
    rfl
  refine wp_region_factsF (by kernel_rfl) 253 hz (by kernel_rfl) (Fc11 D d b2 n x y P d1 f1) ((W11 w0 d A l c m X D2 b2 n x y z0 z2 z3 z4 (.slice d1 n f1) xs)) ⟨fun _ => ⟨GrownS.of (only_of_aft (Aft.drew _) none) (fun _ e => by cases e), hD.aft (Aft.drew _), (fun h => by cases h)⟩, (fun h => by cases h), (fun h => by cases h)⟩ ?step ?fin
  case step =>
    intro i o ho done a w hH hd hp K hK
    have hW : (W11 w0 d A l c m X D2 b2 n x y z0 z2 z3 z4 (.slice d1 n f1) xs) done a w := hH.wd
    have hold : ∀ s : Nat, ch11 s = false → a.eval (.tmp s) = a0.eval (.tmp s) := fun s h => hH.old s fun k ok hk hs => by
      match k, hk with
      | 0, hk => cases hk; cases hs; exact absurd h (by decide)
      | 1, hk => cases hk; cases hs; exact absurd h (by decide)
      | 2, hk => cases hk; cases hs; exact absurd h (by decide)
      | 3, hk => cases hk; cases hs; exact absurd h (by decide)
      | 4, hk => cases hk; cases hs; exact absurd h (by decide)
      | 5, hk => cases hk; cases hs; exact absurd h (by decide)
      | 6, hk => cases hk; cases hs; exact absurd h (by decide)
      | 7, hk => cases hk; cases hs; exact absurd h (by decide)
      | 8, hk => cases hk; cases hs; exact absurd h (by decide)
      | 9, hk => cases hk; cases hs; exact absurd h (by decide)
      | 10, hk => cases hk; cases hs; exact absurd h (by decide)
      | 11, hk => cases hk; cases hs; exact absurd h (by decide)
      | 12, hk => cases hk; cases hs; exact absurd h (by decide)
      | 13, hk => cases hk; cases hs; exact absurd h (by decide)
      | 14, hk => cases hk; cases hs
      | _ + 15, hk => cases hk
    have hsz : a.tmps.size = 253 := by rw [hH.size, hz]
    match i, ho, hd, hp, hK with
    | 0, ho, hd, hp, hK =>
      cases ho
      have e13 : a.eval (.tmp 13) = .pointer (some ⟨b2, 0, none⟩) := (hold 13 (by decide)).trans s13
      refine op_value (v := .pointer (some ⟨b2, 1, none⟩)) (by simp [go_sem, ev e13]) (hK _ _ rfl ?_ fun j _ _ _ _ _ hu => hu.any)
      exact ⟨fun h => by rw [put_otherR (by decide)]; exact hW.pre h, fun h1 h2 => by rw [put_otherR (by decide)]; exact hW.app h1 h2, hW.fin⟩
    | 1, ho, hd, hp, hK =>
      cases ho
      have e89 : a.eval (.tmp 89) = .pointer (some ⟨b2, 1, none⟩) := hH.fact 0 _ 89 rfl rfl (hp 0 (by decide))
      have h12 : done 12 = false := not_done hH 12 1 hd rfl (by decide)
      have kb : w.cell? ⟨b2, 1, none⟩ = some (.slice d1 n f1) := (blk_grownS hb2 (hW.pre h12).1 hb2d).cell 1
      refine op_value (v := .slice d1 n f1) (by simp [go_sem, ev e89, kb]) (hK _ _ rfl ?_ fun j _ _ _ _ _ hu => hu.any)
      exact ⟨fun h => by rw [put_otherR (by decide)]; exact hW.pre h, fun h1 h2 => by rw [put_otherR (by decide)]; exact hW.app h1 h2, hW.fin⟩
    | 2, ho, hd, hp, hK =>
      cases ho
      have e16 : a.eval (.tmp 16) = .int .i64 x := (hold 16 (by decide)).trans s16
      refine op_value (v := .int .i64 x) (by simp [go_sem, ev e16]) (hK _ _ rfl ?_ fun j _ _ _ _ _ hu => hu.any)
      exact ⟨fun h => by rw [put_otherR (by decide)]; exact hW.pre h, fun h1 h2 => by rw [put_otherR (by decide)]; exact hW.app h1 h2, hW.fin⟩
    | 3, ho, hd, hp, hK =>
      cases ho
      have e16 : a.eval (.tmp 16) = .int .i64 x := (hold 16 (by decide)).trans s16
      refine op_value (v := .int .i64 x) (by simp [go_sem, ev e16]) (hK _ _ rfl ?_ fun j _ _ _ _ _ hu => hu.any)
      exact ⟨fun h => by rw [put_otherR (by decide)]; exact hW.pre h, fun h1 h2 => by rw [put_otherR (by decide)]; exact hW.app h1 h2, hW.fin⟩
    | 4, ho, hd, hp, hK =>
      cases ho
      have e92 : a.eval (.tmp 92) = .int .i64 x := hH.fact 3 _ 92 rfl rfl (hp 3 (by decide))
      refine op_value (v := .int .i64 ((x : Int) + 1)) (by simp [go_sem, ev e92, hx1]) (hK _ _ rfl ?_ fun j _ _ _ _ _ hu => hu.any)
      exact ⟨fun h => by rw [put_otherR (by decide)]; exact hW.pre h, fun h1 h2 => by rw [put_otherR (by decide)]; exact hW.app h1 h2, hW.fin⟩
    | 5, ho, hd, hp, hK =>
      cases ho
      have e5 : a.eval (.tmp 5) = .pointer (some ⟨D, 0, none⟩) := (hold 5 (by decide)).trans s5
      refine op_value (v := .pointer (some ⟨D, 0, none⟩)) (by simp [go_sem, ev e5]) (hK _ _ rfl ?_ fun j _ _ _ _ _ hu => hu.any)
      exact ⟨fun h => by rw [put_otherR (by decide)]; exact hW.pre h, fun h1 h2 => by rw [put_otherR (by decide)]; exact hW.app h1 h2, hW.fin⟩
    | 6, ho, hd, hp, hK =>
      cases ho
      have e94 : a.eval (.tmp 94) = .pointer (some ⟨D, 0, none⟩) := hH.fact 5 _ 94 rfl rfl (hp 5 (by decide))
      have h12 : done 12 = false := not_done hH 12 11 (not_done hH 11 10 (not_done hH 10 7 (not_done hH 7 6 hd rfl (by decide)) rfl (by decide)) rfl (by decide)) rfl (by decide)
      have kd : w.cell? ⟨D, 0, none⟩ = some (.int .i64 P) := (blk_grownS hbx (hW.pre h12).1 hDd).cell 0
      refine op_value (v := .int .i64 P) (by simp [go_sem, ev e94, kd]) (hK _ _ rfl ?_ fun j _ _ _ _ _ hu => hu.any)
      exact ⟨fun h => by rw [put_otherR (by decide)]; exact hW.pre h, fun h1 h2 => by rw [put_otherR (by decide)]; exact hW.app h1 h2, hW.fin⟩
    | 7, ho, hd, hp, hK =>
      cases ho
      have e93 : a.eval (.tmp 93) = .int .i64 ((x : Int) + 1) := hH.fact 4 _ 93 rfl rfl (hp 4 (by decide))
      have e95 : a.eval (.tmp 95) = .int .i64 P := hH.fact 6 _ 95 rfl rfl (hp 6 (by decide))
      refine op_value (v := .int .i64 y) (by simp [go_sem, ev e93, ev e95, hP0, hmod]) (hK _ _ rfl ?_ fun j _ _ _ _ _ hu => hu.any)
      exact ⟨fun h => by rw [put_otherR (by decide)]; exact hW.pre h, fun h1 h2 => by rw [put_otherR (by decide)]; exact hW.app h1 h2, hW.fin⟩
    | 8, ho, hd, hp, hK =>
      cases ho
      have e6 : a.eval (.tmp 6) = .pointer (some ⟨d, 0, none⟩) := (hold 6 (by decide)).trans s6
      refine op_value (v := .pointer (some ⟨d, 0, none⟩)) (by simp [go_sem, ev e6]) (hK _ _ rfl ?_ fun j _ _ _ _ _ hu => hu.any)
      exact ⟨fun h => by rw [put_otherR (by decide)]; exact hW.pre h, fun h1 h2 => by rw [put_otherR (by decide)]; exact hW.app h1 h2, hW.fin⟩
    | 9, ho, hd, hp, hK =>
      cases ho
      have e97 : a.eval (.tmp 97) = .pointer (some ⟨d, 0, none⟩) := hH.fact 8 _ 97 rfl rfl (hp 8 (by decide))
      have h10 : done 10 = false := not_done hH 10 9 hd rfl (by decide)
      have h11 : done 11 = false := not_done hH 11 10 h10 rfl (by decide)
      have h12 : done 12 = false := not_done hH 12 11 h11 rfl (by decide)
      have h14 : done 14 = false := not_done hH 14 12 h12 rfl (by decide)
      obtain ⟨p1, p2, -⟩ := hW.pre h12
      rw [hd] at p2
      refine op_call2 Tryz.func39 (by kernel_rfl) (by kernel_rfl) _ _ rfl e97 rfl (draw_any w0 d A l c _ 4 w p2 (by show m + 0 ≤ _; omega) (by omega) (by omega)) ?_
      rintro e w' ⟨k, rfl, k0, k1, g5, g6⟩
      obtain ⟨k, rfl⟩ := Int.eq_ofNat_of_zero_le k0
      refine ⟨_, rfl, hK _ _ ⟨k, by omega, rfl⟩ ⟨fun _ => ⟨p1.then g6 fun b e => by cases e; exact .inl rfl, g5.more (by show m + 0 + 1 ≤ m + 1; omega), fun h => ?_⟩, fun h => ?_, fun h => ?_⟩ fun j _ _ _ _ _ hu => hu.any⟩
      · have h' : done 11 = true := h
        rw [h11] at h'; cases h'
      · have h' : done 12 = true := h
        rw [h12] at h'; cases h'
      · have h' : done 14 = true := h
        rw [h14] at h'; cases h'
    | 10, ho, hd, hp, hK =>
      cases ho
      have e91 : a.eval (.tmp 91) = .int .i64 x := hH.fact 2 _ 91 rfl rfl (hp 2 (by decide))
      have e96 : a.eval (.tmp 96) = .int .i64 y := hH.fact 7 _ 96 rfl rfl (hp 7 (by decide))
      obtain ⟨k, hk4, ek⟩ : ∃ k : Nat, k < 4 ∧ a.eval (.tmp 98) = .int .i64 k := hH.fact 9 _ 98 rfl rfl (hp 9 (by decide))
      exact op_value (v := .agg #[.int .i64 x, .int .i64 y, .int .i64 k]) (by simp [go_sem, ev e91, ev e96, ev ek]) (hK _ _ ⟨k, hk4, rfl⟩ ⟨fun h => by rw [put_otherR (by decide)]; exact hW.pre h, fun h1 h2 => by rw [put_otherR (by decide)]; exact hW.app h1 h2, hW.fin⟩ fun j _ _ _ _ _ hu => hu.any)
    | 11, ho, hd, hp, hK =>
      cases ho
      have h12 : done 12 = false := not_done hH 12 11 hd rfl (by decide)
      have h14 : done 14 = false := not_done hH 14 12 h12 rfl (by decide)
      obtain ⟨p1, p2, -⟩ := hW.pre h12
      obtain ⟨k, hk4, ek⟩ : ∃ k : Nat, k < 4 ∧ a.eval (.tmp 99) = .agg #[.int .i64 x, .int .i64 y, .int .i64 k] := hH.fact 10 _ 99 rfl rfl (hp 10 (by decide))
      have hk := hK (.slice (some ⟨w.heap.size, 0, none⟩) 1 1) (w.alloc (.cells #[.int .i64 x, .int .i64 y, .int .i64 k] 65)) trivial ⟨fun _ => ⟨p1.then_aft (Aft.alloc _ _), p2.aft (Aft.alloc _ _), fun _ => ⟨k, _, hk4, by rw [Act.eval_put_same _ _ _ (by rw [hsz]; decide)], Blk.new _ _ _⟩⟩, (fun h => by
        have h' : done 12 = true := h
        rw [h12] at h'; cases h'), (fun h => by
        have h' : done 14 = true := h
        rw [h14] at h'; cases h')⟩ fun j _ _ _ _ _ hu => hu.any
      unfold Oper.wp
      simpa [go_sem, ev ek] using hk
    | 12, ho, hd, hp, hK =>
      cases ho
      have e90 : a.eval (.tmp 90) = .slice d1 n f1 := hH.fact 1 _ 90 rfl rfl (hp 1 (by decide))
      have h14 : done 14 = false := not_done hH 14 12 hd rfl (by decide)
      have h11 : done 11 = true := hp 11 (by decide)
      have h10 : done 10 = true := hH.closed 11 _ rfl h11 10 (by decide)
      have h9 : done 9 = true := hH.closed 10 _ rfl h10 9 (by decide)
      obtain ⟨p1, p2, p3⟩ := hW.pre hd
      obtain ⟨k, b, hk4, e100, hbb⟩ := p3 h11
      rw [h9] at p2
      have ho : OwnD D2 65 3 (.slice d1 n f1) n xs w := by
        have one : ∀ q, (Value.slice d1 n f1).ownBlock = some q → w.heap[q]? = X.heap[q]? := fun q hq => p1.block q (hown.1.lt q hq).2 fun e => hd2 (e ▸ hown.2 q hq)
        refine ⟨⟨hown.1.1, ?_⟩, hown.2⟩
        rcases hown.1.2 with q | ⟨g, cap, cur, e0, hg, hh, rest⟩
        · exact .inl q
        · exact .inr ⟨g, cap, cur, e0, hg, (one g (by rw [e0]; rfl)).trans hh, rest⟩
      refine op_app (base := 0) ty22 _ _ rfl (Nat.zero_le _) e90 ho.1 e100 hbb rfl (fun u hu => by
        simp only [List.mem_cons, List.not_mem_nil, or_false] at hu
        rcases hu with rfl | rfl | rfl <;> rfl) (by omega) (by decide) fun v' w' h1 h2 h3 => ?_
      refine hK _ _ trivial ⟨(fun h => by (have h' : Go.upd done 12 12 = true := rfl); rw [h'] at h; cases h), (fun _ _ => ?_), (fun h => ?_)⟩ fun j _ _ _ _ _ hu => hu.any
      · rw [Act.eval_put_same _ _ _ (by rw [hsz]; decide)]
        refine ⟨k, hk4, h1, fun q hq => ?_, (p1.mono fun k hk => .inl hk).then h2 (fun k e => .inl (.inr ⟨hown.2 k e, own_block hown.1 e⟩)), ?_⟩
        · rcases h3 with h | h
          · rw [h] at hq; exact .inl (hown.2 q hq)
          · rw [h] at hq; cases hq; exact .inr p1.size
        · exact (p2.offS h2 fun k e => ⟨hlow k (hown.2 k e), fun e' => hd2 (e' ▸ hown.2 k e)⟩).more (by show m + 1 ≤ m + 1; omega)
      · have h' : done 14 = true := h
        rw [h14] at h'; cases h'
    | 13, ho, hd, hp, hK =>
      cases ho
      have e13 : a.eval (.tmp 13) = .pointer (some ⟨b2, 0, none⟩) := (hold 13 (by decide)).trans s13
      refine op_value (v := .pointer (some ⟨b2, 1, none⟩)) (by simp [go_sem, ev e13]) (hK _ _ rfl ?_ fun j _ _ _ _ _ hu => hu.any)
      exact ⟨fun h => by rw [put_otherR (by decide)]; exact hW.pre h, fun h1 h2 => by rw [put_otherR (by decide)]; exact hW.app h1 h2, hW.fin⟩
    | 14, ho, hd, hp, hK =>
      cases ho
      have e102 : a.eval (.tmp 102) = .pointer (some ⟨b2, 1, none⟩) := hH.fact 13 _ 102 rfl rfl (hp 13 (by decide))
      have h12 : done 12 = true := hp 12 (by decide)
      obtain ⟨k, hk4, ho, hq, hg, hdk⟩ := hW.app h12 hd
      obtain ⟨v', e101⟩ : ∃ v, a.eval (.tmp 101) = v := ⟨_, rfl⟩
      rw [e101] at ho hq
      have hb := blk_grownS hb2 hg (fun h => h.elim hb2d fun h => hb2D h.1)
      have hb' := hb.store 1 v'
      have hgs : w.grownBy (w.setCell ⟨b2, 1, none⟩ v') (some b2) := only_setCell (only_refl w (some b2)) (p := ⟨b2, 1, none⟩) (.inl rfl) v'
      have ho65 := own_off (e' := 27) ho (by decide)
      have ho' := own_kept3 ho hgs (fun q e1 e2 => by cases e1; exact ho65 b2 e2 _ hb)
      have hfin : Fin11 w0 d A l c m X D2 b2 n x y z0 z2 z3 z4 xs (w.setCell ⟨b2, 1, none⟩ v') := ⟨k, v', hk4, ⟨ho', hq⟩, hb', (hg.mono fun k hk => hk.elim .inl fun h => .inr (.inl h)).then hgs (fun q e => by cases e; exact .inl (.inr (.inr rfl))), hdk.offS hgs fun q e => by cases e; exact ⟨hlowb, hb2d⟩⟩
      have hk := hK undef _ trivial ⟨(fun h => by (have h' : Go.upd done 14 12 = true := h12); rw [h'] at h; cases h), (fun _ h => by (have h' : Go.upd done 14 14 = true := rfl); rw [h'] at h; cases h), (fun _ => hfin)⟩ fun j _ _ _ _ _ hu => hu.any
      obtain ⟨sA, sn, sc, rfl⟩ := own_slice' ho
      have c1 : w.cell? ⟨b2, 1, none⟩ = some (.slice d1 n f1) := hb.cell 1
      have c2 := hb.frozen 1
      have c3 := hb.lt
      unfold Oper.wp
      simpa [go_sem, ev e102, ev e101, c1, c2, c3] using hk
    | _ + 15, ho, _, _, _ => cases ho
  case fin =>
    intro done a w hall hH
    have hold : ∀ s : Nat, ch11 s = false → a.eval (.tmp s) = a0.eval (.tmp s) := fun s h => hH.old s fun k ok hk hs => by
      match k, hk with
      | 0, hk => cases hk; cases hs; exact absurd h (by decide)
      | 1, hk => cases hk; cases hs; exact absurd h (by decide)
      | 2, hk => cases hk; cases hs; exact absurd h (by decide)
      | 3, hk => cases hk; cases hs; exact absurd h (by decide)
      | 4, hk => cases hk; cases hs; exact absurd h (by decide)
      | 5, hk => cases hk; cases hs; exact absurd h (by decide)
      | 6, hk => cases hk; cases hs; exact absurd h (by decide)
      | 7, hk => cases hk; cases hs; exact absurd h (by decide)
      | 8, hk => cases hk; cases hs; exact absurd h (by decide)
      | 9, hk => cases hk; cases hs; exact absurd h (by decide)
      | 10, hk => cases hk; cases hs; exact absurd h (by decide)
      | 11, hk => cases hk; cases hs; exact absurd h (by decide)
      | 12, hk => cases hk; cases hs; exact absurd h (by decide)
      | 13, hk => cases hk; cases hs; exact absurd h (by decide)
      | 14, hk => cases hk; cases hs
      | _ + 15, hk => cases hk
    have hW : (W11 w0 d A l c m X D2 b2 n x y z0 z2 z3 z4 (.slice d1 n f1) xs) done a w := hH.wd
    refine HEX.out a w (hH.size.trans hz) hH.defers hold ?_
    exact hW.fin (hall 14 (by decide))

set_option maxRecDepth 100000 in
set_option maxHeartbeats 2000000 in
theorem region11_mrlit (w0 : World) (d : Nat) (A : Option Addr) (l : List Int) (c m : Nat) (D : Nat) (D2 : Nat → Prop) (b2 n x y P : Nat) (d1 : Option Addr) (f1 : Nat) (z0 z2 z3 z4 p1 p2 p3 p4 : Value) (xs : List Value) (X : World)
    (hD : DeckAt w0 d A l c m X) (hm : m ≤ 800000) (hP : 2 ≤ P ∧ P ≤ 8) (hx : x < P) (hy : y = (x + 1) % P) (hbx : Blk X D 27 #[.int .i64 P, p1, p2, p3, p4]) (hb2 : Blk X b2 27 #[z0, .slice d1 n f1, z2, z3, z4])
    (hown : OwnD D2 65 3 (.slice d1 n f1) n xs X) (hd2 : ¬ D2 d) (hlow : ∀ k, D2 k → w0.heap.size ≤ k) (hlowb : w0.heap.size ≤ b2) (hDd : D ≠ d) (hb2d : b2 ≠ d) (hb2D : ¬ D2 b2) (hn : n ≤ 1000)
    (q0 q1 q2 q3 q4 q7 q8 q9 q10 q11 q12 q14 q15 q17 q18 q19 q20 q21 q22 q23 q24 q25 q26 q27 q28 q29 q30 q31 q32 q33 q34 q35 q36 q37 q38 q39 q40 q41 q42 q43 q44 q45 q46 q47 q48 q49 q50 q51 q52 q53 q54 q55 q56 q57 q58 q59 q60 q61 q62 q63 q64 q65 q66 q67 q68 q69 q70 q71 q72 q73 q74 q75 q76 q77 q78 q79 q80 q81 q82 q83 q84 q85 q86 q87 q88 q89 q90 q91 q92 q93 q94 q95 q96 q97 q98 q99 q100 q101 q102 q103 q104 q105 q106 q107 q108 q109 q110 q111 q112 q113 q114 q115 q116 q117 q118 q119 q120 q121 q122 q123 q124 q125 q126 q127 q128 q129 q130 q131 q132 q133 q134 q135 q136 q137 q138 q139 q140 q141 q142 q143 q144 q145 q146 q147 q148 q149 q150 q151 q152 q153 q154 q155 q156 q157 q158 q159 q160 q161 q162 q163 q164 q165 q166 q167 q168 q169 q170 q171 q172 q173 q174 q175 q176 q177 q178 q179 q180 q181 q182 q183 q184 q185 q186 q187 q188 q189 q190 q191 q192 q193 q194 q195 q196 q197 q198 q199 q200 q201 q202 q203 q204 q205 q206 q207 q208 q209 q210 q211 q212 q213 q214 q215 q216 q217 q218 q219 q220 q221 q222 q223 q224 q225 q226 q227 q228 q229 q230 q231 q232 q233 q234 q235 q236 q237 q238 q239 q240 q241 q242 q243 q244 q245 q246 q247 q248 q249 q250 q251 q252 : Value) (Q0 : Exit → Act → World → Prop)
    (hexit : ∀ (u89 u90 u91 u92 u93 u94 u95 u96 u97 u98 u99 u100 u101 u102 : Value) W', Fin11 w0 d A l c m X D2 b2 n x y z0 z2 z3 z4 xs W' → Q0 .normal ⟨(List.toArray (q0 :: q1 :: q2 :: q3 :: q4 :: .pointer (some ⟨D, 0, none⟩) :: .pointer (some ⟨d, 0, none⟩) :: q7 :: q8 :: q9 :: q10 :: q11 :: q12 :: .pointer (some ⟨b2, 0, none⟩) :: q14 :: q15 :: .int .i64 x :: q17 :: q18 :: q19 :: q20 :: q21 :: q22 :: q23 :: q24 :: q25 :: q26 :: q27 :: q28 :: q29 :: q30 :: q31 :: q32 :: q33 :: q34 :: q35 :: q36 :: q37 :: q38 :: q39 :: q40 :: q41 :: q42 :: q43 :: q44 :: q45 :: q46 :: q47 :: q48 :: q49 :: q50 :: q51 :: q52 :: q53 :: q54 :: q55 :: q56 :: q57 :: q58 :: q59 :: q60 :: q61 :: q62 :: q63 :: q64 :: q65 :: q66 :: q67 :: q68 :: q69 :: q70 :: q71 :: q72 :: q73 :: q74 :: q75 :: q76 :: q77 :: q78 :: q79 :: q80 :: q81 :: q82 :: q83 :: q84 :: q85 :: q86 :: q87 :: q88 :: u89 :: u90 :: u91 :: u92 :: u93 :: u94 :: u95 :: u96 :: u97 :: u98 :: u99 :: u100 :: u101 :: u102 :: q103 :: q104 :: q105 :: q106 :: q107 :: q108 :: q109 :: q110 :: q111 :: q112 :: q113 :: q114 :: q115 :: q116 :: q117 :: q118 :: q119 :: q120 :: q121 :: q122 :: q123 :: q124 :: q125 :: q126 :: q127 :: q128 :: q129 :: q130 :: q131 :: q132 :: q133 :: q134 :: q135 :: q136 :: q137 :: q138 :: q139 :: q140 :: q141 :: q142 :: q143 :: q144 :: q145 :: q146 :: q147 :: q148 :: q149 :: q150 :: q151 :: q152 :: q153 :: q154 :: q155 :: q156 :: q157 :: q158 :: q159 :: q160 :: q161 :: q162 :: q163 :: q164 :: q165 :: q166 :: q167 :: q168 :: q169 :: q170 :: q171 :: q172 :: q173 :: q174 :: q175 :: q176 :: q177 :: q178 :: q179 :: q180 :: q181 :: q182 :: q183 :: q184 :: q185 :: q186 :: q187 :: q188 :: q189 :: q190 :: q191 :: q192 :: q193 :: q194 :: q195 :: q196 :: q197 :: q198 :: q199 :: q200 :: q201 :: q202 :: q203 :: q204 :: q205 :: q206 :: q207 :: q208 :: q209 :: q210 :: q211 :: q212 :: q213 :: q214 :: q215 :: q216 :: q217 :: q218 :: q219 :: q220 :: q221 :: q222 :: q223 :: q224 :: q225 :: q226 :: q227 :: q228 :: q229 :: q230 :: q231 :: q232 :: q233 :: q234 :: q235 :: q236 :: q237 :: q238 :: q239 :: q240 :: q241 :: q242 :: q243 :: q244 :: q245 :: q246 :: q247 :: q248 :: q249 :: q250 :: q251 :: q252 :: [])), []⟩ W') :
    Code.wp Tryz.prog (Code.region 11 (opsMr 11).toArray true) Q0 ⟨(List.toArray (q0 :: q1 :: q2 :: q3 :: q4 :: .pointer (some ⟨D, 0, none⟩) :: .pointer (some ⟨d, 0, none⟩) :: q7 :: q8 :: q9 :: q10 :: q11 :: q12 :: .pointer (some ⟨b2, 0, none⟩) :: q14 :: q15 :: .int .i64 x :: q17 :: q18 :: q19 :: q20 :: q21 :: q22 :: q23 :: q24 :: q25 :: q26 :: q27 :: q28 :: q29 :: q30 :: q31 :: q32 :: q33 :: q34 :: q35 :: q36 :: q37 :: q38 :: q39 :: q40 :: q41 :: q42 :: q43 :: q44 :: q45 :: q46 :: q47 :: q48 :: q49 :: q50 :: q51 :: q52 :: q53 :: q54 :: q55 :: q56 :: q57 :: q58 :: q59 :: q60 :: q61 :: q62 :: q63 :: q64 :: q65 :: q66 :: q67 :: q68 :: q69 :: q70 :: q71 :: q72 :: q73 :: q74 :: q75 :: q76 :: q77 :: q78 :: q79 :: q80 :: q81 :: q82 :: q83 :: q84 :: q85 :: q86 :: q87 :: q88 :: q89 :: q90 :: q91 :: q92 :: q93 :: q94 :: q95 :: q96 :: q97 :: q98 :: q99 :: q100 :: q101 :: q102 :: q103 :: q104 :: q105 :: q106 :: q107 :: q108 :: q109 :: q110 :: q111 :: q112 :: q113 :: q114 :: q115 :: q116 :: q117 :: q118 :: q119 :: q120 :: q121 :: q122 :: q123 :: q124 :: q125 :: q126 :: q127 :: q128 :: q129 :: q130 :: q131 :: q132 :: q133 :: q134 :: q135 :: q136 :: q137 :: q138 :: q139 :: q140 :: q141 :: q142 :: q143 :: q144 :: q145 :: q146 :: q147 :: q148 :: q149 :: q150 :: q151 :: q152 :: q153 :: q154 :: q155 :: q156 :: q157 :: q158 :: q159 :: q160 :: q161 :: q162 :: q163 :: q164 :: q165 :: q166 :: q167 :: q168 :: q169 :: q170 :: q171 :: q172 :: q173 :: q174 :: q175 :: q176 :: q177 :: q178 :: q179 :: q180 :: q181 :: q182 :: q183 :: q184 :: q185 :: q186 :: q187 :: q188 :: q189 :: q190 :: q191 :: q192 :: q193 :: q194 :: q195 :: q196 :: q197 :: q198 :: q199 :: q200 :: q201 :: q202 :: q203 :: q204 :: q205 :: q206 :: q207 :: q208 :: q209 :: q210 :: q211 :: q212 :: q213 :: q214 :: q215 :: q216 :: q217 :: q218 :: q219 :: q220 :: q221 :: q222 :: q223 :: q224 :: q225 :: q226 :: q227 :: q228 :: q229 :: q230 :: q231 :: q232 :: q233 :: q234 :: q235 :: q236 :: q237 :: q238 :: q239 :: q240 :: q241 :: q242 :: q243 :: q244 :: q245 :: q246 :: q247 :: q248 :: q249 :: q250 :: q251 :: q252 :: [])), []⟩ X := by
  refine region11_mr w0 d A l c m D D2 b2 n x y P d1 f1 z0 z2 z3 z4 p1 p2 p3 p4 xs _ Q0 X rfl rfl rfl rfl rfl hD hm hP hx hy hbx hb2 hown hd2 hlow hlowb hDd hb2d hb2D hn ?_
  intro a W' hz hd hs hF
  have e := frame_act 253 a _ hz hd ch11 (fun s hp => hs s hp)
  have e2 : a = ⟨(List.toArray (q0 :: q1 :: q2 :: q3 :: q4 :: .pointer (some ⟨D, 0, none⟩) :: .pointer (some ⟨d, 0, none⟩) :: q7 :: q8 :: q9 :: q10 :: q11 :: q12 :: .pointer (some ⟨b2, 0, none⟩) :: q14 :: q15 :: .int .i64 x :: q17 :: q18 :: q19 :: q20 :: q21 :: q22 :: q23 :: q24 :: q25 :: q26 :: q27 :: q28 :: q29 :: q30 :: q31 :: q32 :: q33 :: q34 :: q35 :: q36 :: q37 :: q38 :: q39 :: q40 :: q41 :: q42 :: q43 :: q44 :: q45 :: q46 :: q47 :: q48 :: q49 :: q50 :: q51 :: q52 :: q53 :: q54 :: q55 :: q56 :: q57 :: q58 :: q59 :: q60 :: q61 :: q62 :: q63 :: q64 :: q65 :: q66 :: q67 :: q68 :: q69 :: q70 :: q71 :: q72 :: q73 :: q74 :: q75 :: q76 :: q77 :: q78 :: q79 :: q80 :: q81 :: q82 :: q83 :: q84 :: q85 :: q86 :: q87 :: q88 :: a.eval (.tmp 89) :: a.eval (.tmp 90) :: a.eval (.tmp 91) :: a.eval (.tmp 92) :: a.eval (.tmp 93) :: a.eval (.tmp 94) :: a.eval (.tmp 95) :: a.eval (.tmp 96) :: a.eval (.tmp 97) :: a.eval (.tmp 98) :: a.eval (.tmp 99) :: a.eval (.tmp 100) :: a.eval (.tmp 101) :: a.eval (.tmp 102) :: q103 :: q104 :: q105 :: q106 :: q107 :: q108 :: q109 :: q110 :: q111 :: q112 :: q113 :: q114 :: q115 :: q116 :: q117 :: q118 :: q119 :: q120 :: q121 :: q122 :: q123 :: q124 :: q125 :: q126 :: q127 :: q128 :: q129 :: q130 :: q131 :: q132 :: q133 :: q134 :: q135 :: q136 :: q137 :: q138 :: q139 :: q140 :: q141 :: q142 :: q143 :: q144 :: q145 :: q146 :: q147 :: q148 :: q149 :: q150 :: q151 :: q152 :: q153 :: q154 :: q155 :: q156 :: q157 :: q158 :: q159 :: q160 :: q161 :: q162 :: q163 :: q164 :: q165 :: q166 :: q167 :: q168 :: q169 :: q170 :: q171 :: q172 :: q173 :: q174 :: q175 :: q176 :: q177 :: q178 :: q179 :: q180 :: q181 :: q182 :: q183 :: q184 :: q185 :: q186 :: q187 :: q188 :: q189 :: q190 :: q191 :: q192 :: q193 :: q194 :: q195 :: q196 :: q197 :: q198 :: q199 :: q200 :: q201 :: q202 :: q203 :: q204 :: q205 :: q206 :: q207 :: q208 :: q209 :: q210 :: q211 :: q212 :: q213 :: q214 :: q215 :: q216 :: q217 :: q218 :: q219 :: q220 :: q221 :: q222 :: q223 :: q224 :: q225 :: q226 :: q227 :: q228 :: q229 :: q230 :: q231 :: q232 :: q233 :: q234 :: q235 :: q236 :: q237 :: q238 :: q239 :: q240 :: q241 :: q242 :: q243 :: q244 :: q245 :: q246 :: q247 :: q248 :: q249 :: q250 :: q251 :: q252 :: [])), []⟩ := e
  have h := hexit (a.eval (.tmp 89)) (a.eval (.tmp 90)) (a.eval (.tmp 91)) (a.eval (.tmp 92)) (a.eval (.tmp 93)) (a.eval (.tmp 94)) (a.eval (.tmp 95)) (a.eval (.tmp 96)) (a.eval (.tmp 97)) (a.eval (.tmp 98)) (a.eval (.tmp 99)) (a.eval (.tmp 100)) (a.eval (.tmp 101)) (a.eval (.tmp 102)) W' hF
  rw [← e2] at h
  exact h
end Go.Proofs
end

section
/- Walks: drawn regions of the law TreatyMore: a kind and an end; a leg's other word. -/
namespace Go.Proofs
open Go.RowKit

def Fc12 (D d P : Nat) (_ : Nat → Bool) : Nat → Value → World → Prop
  | 0, v, _ => v = .pointer (some ⟨d, 0, none⟩)
  | 2, v, _ => v = .pointer (some ⟨d, 0, none⟩)
  | 3, v, _ => v = .pointer (some ⟨D, 0, none⟩)
  | 4, v, _ => v = .int .i64 P
  | 1, v, _ => ∃ k : Nat, k < 4 ∧ v = .int .i64 k
  | 5, v, _ => ∃ k : Nat, k < P ∧ v = .int .i64 k
  | 6, v, _ => ∃ k : Nat, k < 4 ∧ v = .int .i64 k
  | 7, v, _ => ∃ k : Nat, k < P ∧ v = .int .i64 k
  | _, _, _ => True
theorem Fc12.any {D d P : Nat} {done done' : Nat → Bool} {i : Nat} {v : Value} {w w' : World} (h : Fc12 D d P done i v w) : Fc12 D d P done' i v w' := by
  unfold Fc12 at h ⊢
  split at h <;> exact h
structure Wt12 (w0 : World) (d : Nat) (A : Option Addr) (l : List Int) (c m : Nat) (X : World) (P : Nat) (done : Nat → Bool) (a : Act) (w : World) : Prop where
  grown : GrownS (OnD d) X w
  deck : DeckAt w0 d A l c (m + b9 (done 1) 1 + b9 (done 5) 1) w
def Fin12 (w0 : World) (d : Nat) (A : Option Addr) (l : List Int) (c m : Nat) (X : World) (P : Nat) (a : Act) (w : World) : Prop :=
  ∃ k e : Nat, k < 4 ∧ e < P ∧ a.eval (.tmp 17) = .int .i64 k ∧ a.eval (.tmp 18) = .int .i64 e ∧ GrownS (OnD d) X w ∧ DeckAt w0 d A l c (m + 2) w
def ch12 (s : Nat) : Bool := decide (s = 103) || decide (s = 104) || decide (s = 105) || decide (s = 106) || decide (s = 107) || decide (s = 108) || decide (s = 17) || decide (s = 18)

set_option maxRecDepth 100000 in
set_option maxHeartbeats 4000000 in
theorem region12_mr (w0 : World) (d : Nat) (A : Option Addr) (l : List Int) (c m : Nat) (D P : Nat) (p1 p2 p3 p4 : Value) (a0 : Act) (Q0 : Exit → Act → World → Prop) (X : World) (hz : a0.tmps.size = 253) (s5 : a0.eval (.tmp 5) = .pointer (some ⟨D, 0, none⟩)) (s6 : a0.eval (.tmp 6) = .pointer (some ⟨d, 0, none⟩))
    (hD : DeckAt w0 d A l c m X) (hm : m ≤ 800000) (hP : 2 ≤ P ∧ P ≤ 8) (hbx : Blk X D 27 #[.int .i64 P, p1, p2, p3, p4]) (hDd : D ≠ d)
    (hexit : ∀ a W', a.tmps.size = 253 → a.defers = a0.defers → (∀ s : Nat, ch12 s = false → a.eval (.tmp s) = a0.eval (.tmp s)) → Fin12 w0 d A l c m X P a W' → Q0 .normal a W') :
    Code.wp Tryz.prog (Code.region 12 (opsMr 12).toArray true) Q0 a0 X := by
  have HEX := Lib.hid hexit
  clear hexit
  refine wp_region_factsF (by kernel_rfl) 253 hz (by kernel_rfl) (Fc12 D d P) ((Wt12 w0 d A l c m X P)) ⟨GrownS.of (only_of_aft (Aft.drew _) none) (fun _ e => by cases e), hD.aft (Aft.drew _)⟩ ?step ?fin
  case step =>
    intro i o ho done a w hH hd hp K hK
    have hW : (Wt12 w0 d A l c m X P) done a w := hH.wd
    have hold : ∀ s : Nat, ch12 s = false → a.eval (.tmp s) = a0.eval (.tmp s) := fun s h => hH.old s fun k ok hk hs => by
      match k, hk with
      | 0, hk => cases hk; cases hs; exact absurd h (by decide)
      | 1, hk => cases hk; cases hs; exact absurd h (by decide)
      | 2, hk => cases hk; cases hs; exact absurd h (by decide)
      | 3, hk => cases hk; cases hs; exact absurd h (by decide)
      | 4, hk => cases hk; cases hs; exact absurd h (by decide)
      | 5, hk => cases hk; cases hs; exact absurd h (by decide)
      | 6, hk => cases hk; cases hs; exact absurd h (by decide)
      | 7, hk => cases hk; cases hs; exact absurd h (by decide)
      | _ + 8, hk => cases hk
    have hsz : a.tmps.size = 253 := by rw [hH.size, hz]
    match i, ho, hd, hp, hK with
    | 0, ho, hd, hp, hK =>
      cases ho
      have e6 : a.eval (.tmp 6) = .pointer (some ⟨d, 0, none⟩) := (hold 6 (by decide)).trans s6
      refine op_value (v := .pointer (some ⟨d, 0, none⟩)) (by simp [go_sem, ev e6]) (hK _ _ rfl ?_ fun j _ _ _ _ _ hu => hu.any)
      exact ⟨hW.grown, hW.deck⟩
    | 1, ho, hd, hp, hK =>
      cases ho
      have e103 : a.eval (.tmp 103) = .pointer (some ⟨d, 0, none⟩) := hH.fact 0 _ 103 rfl rfl (hp 0 (by decide))
      have p2 := hW.deck
      rw [hd] at p2
      refine op_call2 Tryz.func39 (by kernel_rfl) (by kernel_rfl) _ _ rfl e103 rfl (draw_any w0 d A l c _ 4 w p2 (by have h1 := b9_le (done 5) 1; have h2 : b9 false 1 = 0 := rfl; omega) (by omega) (by omega)) ?_
      rintro e w' ⟨k, rfl, k0, k1, g5, g6⟩
      obtain ⟨k, rfl⟩ := Int.eq_ofNat_of_zero_le k0
      exact ⟨_, rfl, hK _ _ ⟨k, by omega, rfl⟩ ⟨hW.grown.then g6 fun b e => by cases e; exact .inl rfl, g5.more (by show m + b9 false 1 + b9 (done 5) 1 + 1 ≤ m + 1 + b9 (done 5) 1; unfold b9; simp; omega)⟩ fun j _ _ _ _ _ hu => hu.any⟩
    | 2, ho, hd, hp, hK =>
      cases ho
      have e6 : a.eval (.tmp 6) = .pointer (some ⟨d, 0, none⟩) := (hold 6 (by decide)).trans s6
      refine op_value (v := .pointer (some ⟨d, 0, none⟩)) (by simp [go_sem, ev e6]) (hK _ _ rfl ?_ fun j _ _ _ _ _ hu => hu.any)
      exact ⟨hW.grown, hW.deck⟩
    | 3, ho, hd, hp, hK =>
      cases ho
      have e5 : a.eval (.tmp 5) = .pointer (some ⟨D, 0, none⟩) := (hold 5 (by decide)).trans s5
      refine op_value (v := .pointer (some ⟨D, 0, none⟩)) (by simp [go_sem, ev e5]) (hK _ _ rfl ?_ fun j _ _ _ _ _ hu => hu.any)
      exact ⟨hW.grown, hW.deck⟩
    | 4, ho, hd, hp, hK =>
      cases ho
      have e106 : a.eval (.tmp 106) = .pointer (some ⟨D, 0, none⟩) := hH.fact 3 _ 106 rfl rfl (hp 3 (by decide))
      have kd : w.cell? ⟨D, 0, none⟩ = some (.int .i64 P) := (blk_grownS hbx hW.grown hDd).cell 0
      refine op_value (v := .int .i64 P) (by simp [go_sem, ev e106, kd]) (hK _ _ rfl ?_ fun j _ _ _ _ _ hu => hu.any)
      exact ⟨hW.grown, hW.deck⟩
    | 5, ho, hd, hp, hK =>
      cases ho
      have e105 : a.eval (.tmp 105) = .pointer (some ⟨d, 0, none⟩) := hH.fact 2 _ 105 rfl rfl (hp 2 (by decide))
      have e107 : a.eval (.tmp 107) = .int .i64 P := hH.fact 4 _ 107 rfl rfl (hp 4 (by decide))
      have p2 := hW.deck
      rw [hd] at p2
      refine op_call2 Tryz.func39 (by kernel_rfl) (by kernel_rfl) _ _ rfl e105 e107 (draw_any w0 d A l c _ P w p2 (by have h1 := b9_le (done 1) 1; have h2 : b9 false 1 = 0 := rfl; omega) (by omega) (by omega)) ?_
      rintro e w' ⟨k, rfl, k0, k1, g5, g6⟩
      obtain ⟨k, rfl⟩ := Int.eq_ofNat_of_zero_le k0
      exact ⟨_, rfl, hK _ _ ⟨k, by omega, rfl⟩ ⟨hW.grown.then g6 fun b e => by cases e; exact .inl rfl, g5.more (by show m + b9 (done 1) 1 + 0 + 1 ≤ m + b9 (done 1) 1 + 1; omega)⟩ fun j _ _ _ _ _ hu => hu.any⟩
    | 6, ho, hd, hp, hK =>
      cases ho
      obtain ⟨k, hk4, ek⟩ : ∃ k : Nat, k < 4 ∧ a.eval (.tmp 104) = .int .i64 k := hH.fact 1 _ 104 rfl rfl (hp 1 (by decide))
      exact op_value (v := .int .i64 k) (by simp [go_sem, ev ek]) (hK _ _ ⟨k, hk4, rfl⟩ ⟨hW.grown, hW.deck⟩ fun j _ _ _ _ _ hu => hu.any)
    | 7, ho, hd, hp, hK =>
      cases ho
      obtain ⟨k, hk4, ek⟩ : ∃ k : Nat, k < P ∧ a.eval (.tmp 108) = .int .i64 k := hH.fact 5 _ 108 rfl rfl (hp 5 (by decide))
      exact op_value (v := .int .i64 k) (by simp [go_sem, ev ek]) (hK _ _ ⟨k, hk4, rfl⟩ ⟨hW.grown, hW.deck⟩ fun j _ _ _ _ _ hu => hu.any)
    | _ + 8, ho, _, _, _ => cases ho
  case fin =>
    intro done a w hall hH
    have hold : ∀ s : Nat, ch12 s = false → a.eval (.tmp s) = a0.eval (.tmp s) := fun s h => hH.old s fun k ok hk hs => by
      match k, hk with
      | 0, hk => cases hk; cases hs; exact absurd h (by decide)
      | 1, hk => cases hk; cases hs; exact absurd h (by decide)
      | 2, hk => cases hk; cases hs; exact absurd h (by decide)
      | 3, hk => cases hk; cases hs; exact absurd h (by decide)
      | 4, hk => cases hk; cases hs; exact absurd h (by decide)
      | 5, hk => cases hk; cases hs; exact absurd h (by decide)
      | 6, hk => cases hk; cases hs; exact absurd h (by decide)
      | 7, hk => cases hk; cases hs; exact absurd h (by decide)
      | _ + 8, hk => cases hk
    have hW : (Wt12 w0 d A l c m X P) done a w := hH.wd
    refine HEX.out a w (hH.size.trans hz) hH.defers hold ?_
    obtain ⟨k, hk, ek⟩ : ∃ k : Nat, k < 4 ∧ a.eval (.tmp 17) = .int .i64 k := hH.fact 6 _ 17 rfl rfl (hall 6 (by decide))
    obtain ⟨e, he, ee⟩ : ∃ k : Nat, k < P ∧ a.eval (.tmp 18) = .int .i64 k := hH.fact 7 _ 18 rfl rfl (hall 7 (by decide))
    have hdk := hW.deck
    rw [hall 1 (by decide), hall 5 (by decide)] at hdk
    exact ⟨k, e, hk, he, ek, ee, hW.grown, hdk⟩

set_option maxRecDepth 100000 in
set_option maxHeartbeats 2000000 in
theorem region12_mrlit (w0 : World) (d : Nat) (A : Option Addr) (l : List Int) (c m : Nat) (D P : Nat) (p1 p2 p3 p4 : Value) (X : World)
    (hD : DeckAt w0 d A l c m X) (hm : m ≤ 800000) (hP : 2 ≤ P ∧ P ≤ 8) (hbx : Blk X D 27 #[.int .i64 P, p1, p2, p3, p4]) (hDd : D ≠ d)
    (q0 q1 q2 q3 q4 q7 q8 q9 q10 q11 q12 q13 q14 q15 q16 q17 q18 q19 q20 q21 q22 q23 q24 q25 q26 q27 q28 q29 q30 q31 q32 q33 q34 q35 q36 q37 q38 q39 q40 q41 q42 q43 q44 q45 q46 q47 q48 q49 q50 q51 q52 q53 q54 q55 q56 q57 q58 q59 q60 q61 q62 q63 q64 q65 q66 q67 q68 q69 q70 q71 q72 q73 q74 q75 q76 q77 q78 q79 q80 q81 q82 q83 q84 q85 q86 q87 q88 q89 q90 q91 q92 q93 q94 q95 q96 q97 q98 q99 q100 q101 q102 q103 q104 q105 q106 q107 q108 q109 q110 q111 q112 q113 q114 q115 q116 q117 q118 q119 q120 q121 q122 q123 q124 q125 q126 q127 q128 q129 q130 q131 q132 q133 q134 q135 q136 q137 q138 q139 q140 q141 q142 q143 q144 q145 q146 q147 q148 q149 q150 q151 q152 q153 q154 q155 q156 q157 q158 q159 q160 q161 q162 q163 q164 q165 q166 q167 q168 q169 q170 q171 q172 q173 q174 q175 q176 q177 q178 q179 q180 q181 q182 q183 q184 q185 q186 q187 q188 q189 q190 q191 q192 q193 q194 q195 q196 q197 q198 q199 q200 q201 q202 q203 q204 q205 q206 q207 q208 q209 q210 q211 q212 q213 q214 q215 q216 q217 q218 q219 q220 q221 q222 q223 q224 q225 q226 q227 q228 q229 q230 q231 q232 q233 q234 q235 q236 q237 q238 q239 q240 q241 q242 q243 q244 q245 q246 q247 q248 q249 q250 q251 q252 : Value) (Q0 : Exit → Act → World → Prop)
    (hexit : ∀ (u103 u104 u105 u106 u107 u108 u17 u18 : Value) W', Fin12 w0 d A l c m X P ⟨(List.toArray (q0 :: q1 :: q2 :: q3 :: q4 :: .pointer (some ⟨D, 0, none⟩) :: .pointer (some ⟨d, 0, none⟩) :: q7 :: q8 :: q9 :: q10 :: q11 :: q12 :: q13 :: q14 :: q15 :: q16 :: u17 :: u18 :: q19 :: q20 :: q21 :: q22 :: q23 :: q24 :: q25 :: q26 :: q27 :: q28 :: q29 :: q30 :: q31 :: q32 :: q33 :: q34 :: q35 :: q36 :: q37 :: q38 :: q39 :: q40 :: q41 :: q42 :: q43 :: q44 :: q45 :: q46 :: q47 :: q48 :: q49 :: q50 :: q51 :: q52 :: q53 :: q54 :: q55 :: q56 :: q57 :: q58 :: q59 :: q60 :: q61 :: q62 :: q63 :: q64 :: q65 :: q66 :: q67 :: q68 :: q69 :: q70 :: q71 :: q72 :: q73 :: q74 :: q75 :: q76 :: q77 :: q78 :: q79 :: q80 :: q81 :: q82 :: q83 :: q84 :: q85 :: q86 :: q87 :: q88 :: q89 :: q90 :: q91 :: q92 :: q93 :: q94 :: q95 :: q96 :: q97 :: q98 :: q99 :: q100 :: q101 :: q102 :: u103 :: u104 :: u105 :: u106 :: u107 :: u108 :: q109 :: q110 :: q111 :: q112 :: q113 :: q114 :: q115 :: q116 :: q117 :: q118 :: q119 :: q120 :: q121 :: q122 :: q123 :: q124 :: q125 :: q126 :: q127 :: q128 :: q129 :: q130 :: q131 :: q132 :: q133 :: q134 :: q135 :: q136 :: q137 :: q138 :: q139 :: q140 :: q141 :: q142 :: q143 :: q144 :: q145 :: q146 :: q147 :: q148 :: q149 :: q150 :: q151 :: q152 :: q153 :: q154 :: q155 :: q156 :: q157 :: q158 :: q159 :: q160 :: q161 :: q162 :: q163 :: q164 :: q165 :: q166 :: q167 :: q168 :: q169 :: q170 :: q171 :: q172 :: q173 :: q174 :: q175 :: q176 :: q177 :: q178 :: q179 :: q180 :: q181 :: q182 :: q183 :: q184 :: q185 :: q186 :: q187 :: q188 :: q189 :: q190 :: q191 :: q192 :: q193 :: q194 :: q195 :: q196 :: q197 :: q198 :: q199 :: q200 :: q201 :: q202 :: q203 :: q204 :: q205 :: q206 :: q207 :: q208 :: q209 :: q210 :: q211 :: q212 :: q213 :: q214 :: q215 :: q216 :: q217 :: q218 :: q219 :: q220 :: q221 :: q222 :: q223 :: q224 :: q225 :: q226 :: q227 :: q228 :: q229 :: q230 :: q231 :: q232 :: q233 :: q234 :: q235 :: q236 :: q237 :: q238 :: q239 :: q240 :: q241 :: q242 :: q243 :: q244 :: q245 :: q246 :: q247 :: q248 :: q249 :: q250 :: q251 :: q252 :: [])), []⟩ W' → Q0 .normal ⟨(List.toArray (q0 :: q1 :: q2 :: q3 :: q4 :: .pointer (some ⟨D, 0, none⟩) :: .pointer (some ⟨d, 0, none⟩) :: q7 :: q8 :: q9 :: q10 :: q11 :: q12 :: q13 :: q14 :: q15 :: q16 :: u17 :: u18 :: q19 :: q20 :: q21 :: q22 :: q23 :: q24 :: q25 :: q26 :: q27 :: q28 :: q29 :: q30 :: q31 :: q32 :: q33 :: q34 :: q35 :: q36 :: q37 :: q38 :: q39 :: q40 :: q41 :: q42 :: q43 :: q44 :: q45 :: q46 :: q47 :: q48 :: q49 :: q50 :: q51 :: q52 :: q53 :: q54 :: q55 :: q56 :: q57 :: q58 :: q59 :: q60 :: q61 :: q62 :: q63 :: q64 :: q65 :: q66 :: q67 :: q68 :: q69 :: q70 :: q71 :: q72 :: q73 :: q74 :: q75 :: q76 :: q77 :: q78 :: q79 :: q80 :: q81 :: q82 :: q83 :: q84 :: q85 :: q86 :: q87 :: q88 :: q89 :: q90 :: q91 :: q92 :: q93 :: q94 :: q95 :: q96 :: q97 :: q98 :: q99 :: q100 :: q101 :: q102 :: u103 :: u104 :: u105 :: u106 :: u107 :: u108 :: q109 :: q110 :: q111 :: q112 :: q113 :: q114 :: q115 :: q116 :: q117 :: q118 :: q119 :: q120 :: q121 :: q122 :: q123 :: q124 :: q125 :: q126 :: q127 :: q128 :: q129 :: q130 :: q131 :: q132 :: q133 :: q134 :: q135 :: q136 :: q137 :: q138 :: q139 :: q140 :: q141 :: q142 :: q143 :: q144 :: q145 :: q146 :: q147 :: q148 :: q149 :: q150 :: q151 :: q152 :: q153 :: q154 :: q155 :: q156 :: q157 :: q158 :: q159 :: q160 :: q161 :: q162 :: q163 :: q164 :: q165 :: q166 :: q167 :: q168 :: q169 :: q170 :: q171 :: q172 :: q173 :: q174 :: q175 :: q176 :: q177 :: q178 :: q179 :: q180 :: q181 :: q182 :: q183 :: q184 :: q185 :: q186 :: q187 :: q188 :: q189 :: q190 :: q191 :: q192 :: q193 :: q194 :: q195 :: q196 :: q197 :: q198 :: q199 :: q200 :: q201 :: q202 :: q203 :: q204 :: q205 :: q206 :: q207 :: q208 :: q209 :: q210 :: q211 :: q212 :: q213 :: q214 :: q215 :: q216 :: q217 :: q218 :: q219 :: q220 :: q221 :: q222 :: q223 :: q224 :: q225 :: q226 :: q227 :: q228 :: q229 :: q230 :: q231 :: q232 :: q233 :: q234 :: q235 :: q236 :: q237 :: q238 :: q239 :: q240 :: q241 :: q242 :: q243 :: q244 :: q245 :: q246 :: q247 :: q248 :: q249 :: q250 :: q251 :: q252 :: [])), []⟩ W') :
    Code.wp Tryz.prog (Code.region 12 (opsMr 12).toArray true) Q0 ⟨(List.toArray (q0 :: q1 :: q2 :: q3 :: q4 :: .pointer (some ⟨D, 0, none⟩) :: .pointer (some ⟨d, 0, none⟩) :: q7 :: q8 :: q9 :: q10 :: q11 :: q12 :: q13 :: q14 :: q15 :: q16 :: q17 :: q18 :: q19 :: q20 :: q21 :: q22 :: q23 :: q24 :: q25 :: q26 :: q27 :: q28 :: q29 :: q30 :: q31 :: q32 :: q33 :: q34 :: q35 :: q36 :: q37 :: q38 :: q39 :: q40 :: q41 :: q42 :: q43 :: q44 :: q45 :: q46 :: q47 :: q48 :: q49 :: q50 :: q51 :: q52 :: q53 :: q54 :: q55 :: q56 :: q57 :: q58 :: q59 :: q60 :: q61 :: q62 :: q63 :: q64 :: q65 :: q66 :: q67 :: q68 :: q69 :: q70 :: q71 :: q72 :: q73 :: q74 :: q75 :: q76 :: q77 :: q78 :: q79 :: q80 :: q81 :: q82 :: q83 :: q84 :: q85 :: q86 :: q87 :: q88 :: q89 :: q90 :: q91 :: q92 :: q93 :: q94 :: q95 :: q96 :: q97 :: q98 :: q99 :: q100 :: q101 :: q102 :: q103 :: q104 :: q105 :: q106 :: q107 :: q108 :: q109 :: q110 :: q111 :: q112 :: q113 :: q114 :: q115 :: q116 :: q117 :: q118 :: q119 :: q120 :: q121 :: q122 :: q123 :: q124 :: q125 :: q126 :: q127 :: q128 :: q129 :: q130 :: q131 :: q132 :: q133 :: q134 :: q135 :: q136 :: q137 :: q138 :: q139 :: q140 :: q141 :: q142 :: q143 :: q144 :: q145 :: q146 :: q147 :: q148 :: q149 :: q150 :: q151 :: q152 :: q153 :: q154 :: q155 :: q156 :: q157 :: q158 :: q159 :: q160 :: q161 :: q162 :: q163 :: q164 :: q165 :: q166 :: q167 :: q168 :: q169 :: q170 :: q171 :: q172 :: q173 :: q174 :: q175 :: q176 :: q177 :: q178 :: q179 :: q180 :: q181 :: q182 :: q183 :: q184 :: q185 :: q186 :: q187 :: q188 :: q189 :: q190 :: q191 :: q192 :: q193 :: q194 :: q195 :: q196 :: q197 :: q198 :: q199 :: q200 :: q201 :: q202 :: q203 :: q204 :: q205 :: q206 :: q207 :: q208 :: q209 :: q210 :: q211 :: q212 :: q213 :: q214 :: q215 :: q216 :: q217 :: q218 :: q219 :: q220 :: q221 :: q222 :: q223 :: q224 :: q225 :: q226 :: q227 :: q228 :: q229 :: q230 :: q231 :: q232 :: q233 :: q234 :: q235 :: q236 :: q237 :: q238 :: q239 :: q240 :: q241 :: q242 :: q243 :: q244 :: q245 :: q246 :: q247 :: q248 :: q249 :: q250 :: q251 :: q252 :: [])), []⟩ X := by
  refine region12_mr w0 d A l c m D P p1 p2 p3 p4 _ Q0 X rfl rfl rfl hD hm hP hbx hDd ?_
  intro a W' hz hd hs hF
  have e := frame_act 253 a _ hz hd ch12 (fun s hp => hs s hp)
  have e2 : a = ⟨(List.toArray (q0 :: q1 :: q2 :: q3 :: q4 :: .pointer (some ⟨D, 0, none⟩) :: .pointer (some ⟨d, 0, none⟩) :: q7 :: q8 :: q9 :: q10 :: q11 :: q12 :: q13 :: q14 :: q15 :: q16 :: a.eval (.tmp 17) :: a.eval (.tmp 18) :: q19 :: q20 :: q21 :: q22 :: q23 :: q24 :: q25 :: q26 :: q27 :: q28 :: q29 :: q30 :: q31 :: q32 :: q33 :: q34 :: q35 :: q36 :: q37 :: q38 :: q39 :: q40 :: q41 :: q42 :: q43 :: q44 :: q45 :: q46 :: q47 :: q48 :: q49 :: q50 :: q51 :: q52 :: q53 :: q54 :: q55 :: q56 :: q57 :: q58 :: q59 :: q60 :: q61 :: q62 :: q63 :: q64 :: q65 :: q66 :: q67 :: q68 :: q69 :: q70 :: q71 :: q72 :: q73 :: q74 :: q75 :: q76 :: q77 :: q78 :: q79 :: q80 :: q81 :: q82 :: q83 :: q84 :: q85 :: q86 :: q87 :: q88 :: q89 :: q90 :: q91 :: q92 :: q93 :: q94 :: q95 :: q96 :: q97 :: q98 :: q99 :: q100 :: q101 :: q102 :: a.eval (.tmp 103) :: a.eval (.tmp 104) :: a.eval (.tmp 105) :: a.eval (.tmp 106) :: a.eval (.tmp 107) :: a.eval (.tmp 108) :: q109 :: q110 :: q111 :: q112 :: q113 :: q114 :: q115 :: q116 :: q117 :: q118 :: q119 :: q120 :: q121 :: q122 :: q123 :: q124 :: q125 :: q126 :: q127 :: q128 :: q129 :: q130 :: q131 :: q132 :: q133 :: q134 :: q135 :: q136 :: q137 :: q138 :: q139 :: q140 :: q141 :: q142 :: q143 :: q144 :: q145 :: q146 :: q147 :: q148 :: q149 :: q150 :: q151 :: q152 :: q153 :: q154 :: q155 :: q156 :: q157 :: q158 :: q159 :: q160 :: q161 :: q162 :: q163 :: q164 :: q165 :: q166 :: q167 :: q168 :: q169 :: q170 :: q171 :: q172 :: q173 :: q174 :: q175 :: q176 :: q177 :: q178 :: q179 :: q180 :: q181 :: q182 :: q183 :: q184 :: q185 :: q186 :: q187 :: q188 :: q189 :: q190 :: q191 :: q192 :: q193 :: q194 :: q195 :: q196 :: q197 :: q198 :: q199 :: q200 :: q201 :: q202 :: q203 :: q204 :: q205 :: q206 :: q207 :: q208 :: q209 :: q210 :: q211 :: q212 :: q213 :: q214 :: q215 :: q216 :: q217 :: q218 :: q219 :: q220 :: q221 :: q222 :: q223 :: q224 :: q225 :: q226 :: q227 :: q228 :: q229 :: q230 :: q231 :: q232 :: q233 :: q234 :: q235 :: q236 :: q237 :: q238 :: q239 :: q240 :: q241 :: q242 :: q243 :: q244 :: q245 :: q246 :: q247 :: q248 :: q249 :: q250 :: q251 :: q252 :: [])), []⟩ := e
  have h := hexit (a.eval (.tmp 103)) (a.eval (.tmp 104)) (a.eval (.tmp 105)) (a.eval (.tmp 106)) (a.eval (.tmp 107)) (a.eval (.tmp 108)) (a.eval (.tmp 17)) (a.eval (.tmp 18)) W' (by rw [← e2]; exact hF)
  rw [← e2] at h
  exact h
def Fc27 (D d b3 g n cap i0 nW tc : Nat) (t2 : Option Addr) (_ : Nat → Bool) : Nat → Value → World → Prop
  | 0, v, _ => v = .pointer (some ⟨b3, 4, none⟩)
  | 1, v, _ => v = .slice (some ⟨g, 0, none⟩) n cap
  | 2, v, _ => v = .int .i64 i0
  | 3, v, _ => v = .pointer (some ⟨d, 0, none⟩)
  | 4, v, _ => v = .pointer (some ⟨D, 2, none⟩)
  | 5, v, _ => v = .slice t2 nW tc
  | 6, v, _ => v = .int .i64 nW
  | 8, v, _ => v = .pointer (some ⟨g, i0 * 2, none⟩)
  | 9, v, _ => v = .pointer (some ⟨g, i0 * 2 + 1, none⟩)
  | 7, v, _ => ∃ k : Nat, k < nW ∧ v = .int .i64 k
  | _, _, _ => True
theorem Fc27.any {D d b3 g n cap i0 nW tc : Nat} {t2 : Option Addr} {done done' : Nat → Bool} {i : Nat} {v : Value} {w w' : World} (h : Fc27 D d b3 g n cap i0 nW tc t2 done i v w) : Fc27 D d b3 g n cap i0 nW tc t2 done' i v w' := by
  unfold Fc27 at h ⊢
  split at h <;> exact h
def Fin27 (w0 : World) (d : Nat) (A : Option Addr) (l : List Int) (c m : Nat) (X : World) (D3 : Nat → Prop) (g n cap i0 nW : Nat) (xs : List Value) (w : World) : Prop :=
  ∃ k : Nat, k < nW ∧ OwnD D3 70 2 (.slice (some ⟨g, 0, none⟩) n cap) n (xs.set (i0 * 2 + 1) (.int .i64 k)) w ∧ GrownS (fun k => k = d ∨ D3 k ∧ ∃ cs, X.heap[k]? = some (.cells cs 70)) X w ∧ DeckAt w0 d A l c (m + 1) w
structure W27 (w0 : World) (d : Nat) (A : Option Addr) (l : List Int) (c m : Nat) (X : World) (D3 : Nat → Prop) (g n cap i0 nW : Nat) (xs : List Value) (done : Nat → Bool) (a : Act) (w : World) : Prop where
  pre : done 10 = false → GrownS (OnD d) X w ∧ DeckAt w0 d A l c (m + b9 (done 7) 1) w
  fin : done 10 = true → Fin27 w0 d A l c m X D3 g n cap i0 nW xs w
def ch27 (s : Nat) : Bool := decide (s = 164) || decide (s = 165) || decide (s = 166) || decide (s = 167) || decide (s = 168) || decide (s = 169) || decide (s = 170) || decide (s = 171) || decide (s = 172) || decide (s = 173)

set_option maxRecDepth 100000 in
set_option maxHeartbeats 4000000 in
theorem region27_mr (w0 : World) (d : Nat) (A : Option Addr) (l : List Int) (c m : Nat) (D : Nat) (D3 : Nat → Prop) (b3 g n cap i0 nW tc : Nat) (t2 : Option Addr) (z0 z1 z2 z3 p0 p1 p3 p4 : Value) (xs : List Value) (os : Nat → Int) (a0 : Act) (Q0 : Exit → Act → World → Prop) (X : World) (hz : a0.tmps.size = 253) (s5 : a0.eval (.tmp 5) = .pointer (some ⟨D, 0, none⟩)) (s6 : a0.eval (.tmp 6) = .pointer (some ⟨d, 0, none⟩)) (s14 : a0.eval (.tmp 14) = .pointer (some ⟨b3, 0, none⟩)) (s22 : a0.eval (.tmp 22) = .int .i64 i0)
    (hD : DeckAt w0 d A l c m X) (hm : m ≤ 800000) (hnW : 1 ≤ nW ∧ nW ≤ 1000) (hi : i0 < n) (hbx : Blk X D 27 #[p0, p1, .slice t2 nW tc, p3, p4]) (hb3 : Blk X b3 27 #[z0, z1, z2, z3, .slice (some ⟨g, 0, none⟩) n cap])
    (hown : OwnD D3 70 2 (.slice (some ⟨g, 0, none⟩) n cap) n xs X) (hd3 : ¬ D3 d) (hlow : ∀ k, D3 k → w0.heap.size ≤ k) (hDd : D ≠ d) (hb3d : b3 ≠ d) (hnum : ∀ j, (h : j < xs.length) → xs[j] = .int .i64 (os j))
    (hexit : ∀ a W', a.tmps.size = 253 → a.defers = a0.defers → (∀ s : Nat, ch27 s = false → a.eval (.tmp s) = a0.eval (.tmp s)) → Fin27 w0 d A l c m X D3 g n cap i0 nW xs W' → Q0 .normal a W') :
    Code.wp Tryz.prog (Code.region 27 (opsMr 27).toArray true) Q0 a0 X := by
  have HEX := Lib.hid hexit
  clear hexit
  have iw : (0 : Int) ≤ (i0 : Int) ∧ (i0 : Int) < (n : Int) := by omega
  refine wp_region_factsF (by kernel_rfl) 253 hz (by kernel_rfl) (Fc27 D d b3 g n cap i0 nW tc t2) ((W27 w0 d A l c m X D3 g n cap i0 nW xs)) ⟨fun _ => ⟨GrownS.of (only_of_aft (Aft.drew _) none) (fun _ e => by cases e), hD.aft (Aft.drew _)⟩, (fun h => by cases h)⟩ ?step ?fin
  case step =>
    intro i o ho done a w hH hd hp K hK
    have hW : (W27 w0 d A l c m X D3 g n cap i0 nW xs) done a w := hH.wd
    have hold : ∀ s : Nat, ch27 s = false → a.eval (.tmp s) = a0.eval (.tmp s) := fun s h => hH.old s fun k ok hk hs => by
      match k, hk with
      | 0, hk => cases hk; cases hs; exact absurd h (by decide)
      | 1, hk => cases hk; cases hs; exact absurd h (by decide)
      | 2, hk => cases hk; cases hs; exact absurd h (by decide)
      | 3, hk => cases hk; cases hs; exact absurd h (by decide)
      | 4, hk => cases hk; cases hs; exact absurd h (by decide)
      | 5, hk => cases hk; cases hs; exact absurd h (by decide)
      | 6, hk => cases hk; cases hs; exact absurd h (by decide)
      | 7, hk => cases hk; cases hs; exact absurd h (by decide)
      | 8, hk => cases hk; cases hs; exact absurd h (by decide)
      | 9, hk => cases hk; cases hs; exact absurd h (by decide)
      | 10, hk => cases hk; cases hs
      | _ + 11, hk => cases hk
    have hsz : a.tmps.size = 253 := by rw [hH.size, hz]
    match i, ho, hd, hp, hK with
    | 0, ho, hd, hp, hK =>
      cases ho
      have e14 : a.eval (.tmp 14) = .pointer (some ⟨b3, 0, none⟩) := (hold 14 (by decide)).trans s14
      refine op_value (v := .pointer (some ⟨b3, 4, none⟩)) (by simp [go_sem, ev e14]) (hK _ _ rfl ?_ fun j _ _ _ _ _ hu => hu.any)
      exact ⟨hW.pre, hW.fin⟩
    | 1, ho, hd, hp, hK =>
      cases ho
      have e164 : a.eval (.tmp 164) = .pointer (some ⟨b3, 4, none⟩) := hH.fact 0 _ 164 rfl rfl (hp 0 (by decide))
      have h10 : done 10 = false := not_done hH 10 9 (not_done hH 9 8 (not_done hH 8 1 hd rfl (by decide)) rfl (by decide)) rfl (by decide)
      have kb : w.cell? ⟨b3, 4, none⟩ = some (.slice (some ⟨g, 0, none⟩) n cap) := (blk_grownS hb3 (hW.pre h10).1 hb3d).cell 4
      refine op_value (v := .slice (some ⟨g, 0, none⟩) n cap) (by simp [go_sem, ev e164, kb]) (hK _ _ rfl ?_ fun j _ _ _ _ _ hu => hu.any)
      exact ⟨hW.pre, hW.fin⟩
    | 2, ho, hd, hp, hK =>
      cases ho
      have e22 : a.eval (.tmp 22) = .int .i64 i0 := (hold 22 (by decide)).trans s22
      refine op_value (v := .int .i64 i0) (by simp [go_sem, ev e22]) (hK _ _ rfl ?_ fun j _ _ _ _ _ hu => hu.any)
      exact ⟨hW.pre, hW.fin⟩
    | 3, ho, hd, hp, hK =>
      cases ho
      have e6 : a.eval (.tmp 6) = .pointer (some ⟨d, 0, none⟩) := (hold 6 (by decide)).trans s6
      refine op_value (v := .pointer (some ⟨d, 0, none⟩)) (by simp [go_sem, ev e6]) (hK _ _ rfl ?_ fun j _ _ _ _ _ hu => hu.any)
      exact ⟨hW.pre, hW.fin⟩
    | 4, ho, hd, hp, hK =>
      cases ho
      have e5 : a.eval (.tmp 5) = .pointer (some ⟨D, 0, none⟩) := (hold 5 (by decide)).trans s5
      refine op_value (v := .pointer (some ⟨D, 2, none⟩)) (by simp [go_sem, ev e5]) (hK _ _ rfl ?_ fun j _ _ _ _ _ hu => hu.any)
      exact ⟨hW.pre, hW.fin⟩
    | 5, ho, hd, hp, hK =>
      cases ho
      have e168 : a.eval (.tmp 168) = .pointer (some ⟨D, 2, none⟩) := hH.fact 4 _ 168 rfl rfl (hp 4 (by decide))
      have h10 : done 10 = false := not_done hH 10 7 (not_done hH 7 6 (not_done hH 6 5 hd rfl (by decide)) rfl (by decide)) rfl (by decide)
      have kd : w.cell? ⟨D, 2, none⟩ = some (.slice t2 nW tc) := (blk_grownS hbx (hW.pre h10).1 hDd).cell 2
      refine op_value (v := .slice t2 nW tc) (by simp [go_sem, ev e168, kd]) (hK _ _ rfl ?_ fun j _ _ _ _ _ hu => hu.any)
      exact ⟨hW.pre, hW.fin⟩
    | 6, ho, hd, hp, hK =>
      cases ho
      have e169 : a.eval (.tmp 169) = .slice t2 nW tc := hH.fact 5 _ 169 rfl rfl (hp 5 (by decide))
      refine op_value (v := .int .i64 nW) (by simp [go_sem, ev e169]) (hK _ _ rfl ?_ fun j _ _ _ _ _ hu => hu.any)
      exact ⟨hW.pre, hW.fin⟩
    | 7, ho, hd, hp, hK =>
      cases ho
      have e167 : a.eval (.tmp 167) = .pointer (some ⟨d, 0, none⟩) := hH.fact 3 _ 167 rfl rfl (hp 3 (by decide))
      have e170 : a.eval (.tmp 170) = .int .i64 nW := hH.fact 6 _ 170 rfl rfl (hp 6 (by decide))
      have h10 : done 10 = false := not_done hH 10 7 hd rfl (by decide)
      obtain ⟨p1, p2⟩ := hW.pre h10
      rw [hd] at p2
      refine op_call2 Tryz.func39 (by kernel_rfl) (by kernel_rfl) _ _ rfl e167 e170 (draw_any w0 d A l c _ nW w p2 (by show m + 0 ≤ _; omega) (by omega) (by omega)) ?_
      rintro e w' ⟨k, rfl, k0, k1, g5, g6⟩
      obtain ⟨k, rfl⟩ := Int.eq_ofNat_of_zero_le k0
      refine ⟨_, rfl, hK _ _ ⟨k, by omega, rfl⟩ ⟨fun _ => ⟨p1.then g6 fun b e => by cases e; exact .inl rfl, g5.more (by show m + 0 + 1 ≤ m + 1; omega)⟩, fun h => ?_⟩ fun j _ _ _ _ _ hu => hu.any⟩
      have h' : done 10 = true := h
      rw [h10] at h'; cases h'
    | 8, ho, hd, hp, hK =>
      cases ho
      have e165 : a.eval (.tmp 165) = .slice (some ⟨g, 0, none⟩) n cap := hH.fact 1 _ 165 rfl rfl (hp 1 (by decide))
      have e166 : a.eval (.tmp 166) = .int .i64 i0 := hH.fact 2 _ 166 rfl rfl (hp 2 (by decide))
      refine op_value (v := .pointer (some ⟨g, i0 * 2, none⟩)) (by simp [go_sem, ev e165, ev e166, iw.1, iw.2]) (hK _ _ rfl ?_ fun j _ _ _ _ _ hu => hu.any)
      exact ⟨hW.pre, hW.fin⟩
    | 9, ho, hd, hp, hK =>
      cases ho
      have e172 : a.eval (.tmp 172) = .pointer (some ⟨g, i0 * 2, none⟩) := hH.fact 8 _ 172 rfl rfl (hp 8 (by decide))
      refine op_value (v := .pointer (some ⟨g, i0 * 2 + 1, none⟩)) (by simp [go_sem, ev e172]) (hK _ _ rfl ?_ fun j _ _ _ _ _ hu => hu.any)
      exact ⟨hW.pre, hW.fin⟩
    | 10, ho, hd, hp, hK =>
      cases ho
      have e173 : a.eval (.tmp 173) = .pointer (some ⟨g, i0 * 2 + 1, none⟩) := hH.fact 9 _ 173 rfl rfl (hp 9 (by decide))
      obtain ⟨k, hk4, ek⟩ : ∃ k : Nat, k < nW ∧ a.eval (.tmp 171) = .int .i64 k := hH.fact 7 _ 171 rfl rfl (hp 7 (by decide))
      have h7 : done 7 = true := hp 7 (by decide)
      obtain ⟨p1, p2⟩ := hW.pre hd
      rw [h7] at p2
      have ho : OwnD D3 70 2 (.slice (some ⟨g, 0, none⟩) n cap) n xs w := by
        have one : ∀ q, (Value.slice (some ⟨g, 0, none⟩) n cap).ownBlock = some q → w.heap[q]? = X.heap[q]? := fun q hq => p1.block q (hown.1.lt q hq).2 fun e => hd3 (e ▸ hown.2 q hq)
        refine ⟨⟨hown.1.1, ?_⟩, hown.2⟩
        rcases hown.1.2 with q | ⟨g', cap', cur, e0, hg, hh, rest⟩
        · exact .inl q
        · exact .inr ⟨g', cap', cur, e0, hg, (one g' (by rw [e0]; rfl)).trans hh, rest⟩
      obtain ⟨s1, s2⟩ := ho.1.stored (i0 * 2 + 1) (.int .i64 k)
      have hg3 : D3 g := hown.2 g rfl
      have hfin : Fin27 w0 d A l c m X D3 g n cap i0 nW xs (w.setCell ⟨g, i0 * 2 + 1, none⟩ (.int .i64 k)) := ⟨k, hk4, ⟨s1, hown.2⟩, (p1.mono fun k hk => .inl hk).then s2 (fun q e => by cases e; exact .inl (.inr ⟨hg3, own_block hown.1 rfl⟩)), (p2.offS s2 fun q e => by cases e; exact ⟨hlow g hg3, fun e' => hd3 (e' ▸ hg3)⟩).more (by show m + 1 ≤ m + 1; omega)⟩
      have hk := hK undef _ trivial ⟨(fun h => by (have h' : Go.upd done 10 10 = true := rfl); rw [h'] at h; cases h), (fun _ => hfin)⟩ fun j _ _ _ _ _ hu => hu.any
      have hlx := ho.1.1
      have hc := ho.1.cells (g := g) rfl (i0 * 2 + 1) _ (List.getElem?_eq_getElem (by omega))
      rw [Addr.add_lit, Nat.zero_add, hnum _ (by omega)] at hc
      have hf : w.frozen? ⟨g, i0 * 2 + 1, none⟩ = false := by
        rcases ho.1.2 with ⟨e, -⟩ | ⟨g', cap', cur', e, -, hh, -⟩
        · cases e
        · cases e
          simp [World.frozen?, hh]
      have c3 := (ho.1.lt g rfl).2
      unfold Oper.wp
      simpa [go_sem, ev e173, ev ek, hc, hf, c3] using hk
    | _ + 11, ho, _, _, _ => cases ho
  case fin =>
    intro done a w hall hH
    have hold : ∀ s : Nat, ch27 s = false → a.eval (.tmp s) = a0.eval (.tmp s) := fun s h => hH.old s fun k ok hk hs => by
      match k, hk with
      | 0, hk => cases hk; cases hs; exact absurd h (by decide)
      | 1, hk => cases hk; cases hs; exact absurd h (by decide)
      | 2, hk => cases hk; cases hs; exact absurd h (by decide)
      | 3, hk => cases hk; cases hs; exact absurd h (by decide)
      | 4, hk => cases hk; cases hs; exact absurd h (by decide)
      | 5, hk => cases hk; cases hs; exact absurd h (by decide)
      | 6, hk => cases hk; cases hs; exact absurd h (by decide)
      | 7, hk => cases hk; cases hs; exact absurd h (by decide)
      | 8, hk => cases hk; cases hs; exact absurd h (by decide)
      | 9, hk => cases hk; cases hs; exact absurd h (by decide)
      | 10, hk => cases hk; cases hs
      | _ + 11, hk => cases hk
    have hW : (W27 w0 d A l c m X D3 g n cap i0 nW xs) done a w := hH.wd
    refine HEX.out a w (hH.size.trans hz) hH.defers hold ?_
    exact hW.fin (hall 10 (by decide))

set_option maxRecDepth 100000 in
set_option maxHeartbeats 2000000 in
theorem region27_mrlit (w0 : World) (d : Nat) (A : Option Addr) (l : List Int) (c m : Nat) (D : Nat) (D3 : Nat → Prop) (b3 g n cap i0 nW tc : Nat) (t2 : Option Addr) (z0 z1 z2 z3 p0 p1 p3 p4 : Value) (xs : List Value) (os : Nat → Int) (X : World)
    (hD : DeckAt w0 d A l c m X) (hm : m ≤ 800000) (hnW : 1 ≤ nW ∧ nW ≤ 1000) (hi : i0 < n) (hbx : Blk X D 27 #[p0, p1, .slice t2 nW tc, p3, p4]) (hb3 : Blk X b3 27 #[z0, z1, z2, z3, .slice (some ⟨g, 0, none⟩) n cap])
    (hown : OwnD D3 70 2 (.slice (some ⟨g, 0, none⟩) n cap) n xs X) (hd3 : ¬ D3 d) (hlow : ∀ k, D3 k → w0.heap.size ≤ k) (hDd : D ≠ d) (hb3d : b3 ≠ d) (hnum : ∀ j, (h : j < xs.length) → xs[j] = .int .i64 (os j))
    (q0 q1 q2 q3 q4 q7 q8 q9 q10 q11 q12 q13 q15 q16 q17 q18 q19 q20 q21 q23 q24 q25 q26 q27 q28 q29 q30 q31 q32 q33 q34 q35 q36 q37 q38 q39 q40 q41 q42 q43 q44 q45 q46 q47 q48 q49 q50 q51 q52 q53 q54 q55 q56 q57 q58 q59 q60 q61 q62 q63 q64 q65 q66 q67 q68 q69 q70 q71 q72 q73 q74 q75 q76 q77 q78 q79 q80 q81 q82 q83 q84 q85 q86 q87 q88 q89 q90 q91 q92 q93 q94 q95 q96 q97 q98 q99 q100 q101 q102 q103 q104 q105 q106 q107 q108 q109 q110 q111 q112 q113 q114 q115 q116 q117 q118 q119 q120 q121 q122 q123 q124 q125 q126 q127 q128 q129 q130 q131 q132 q133 q134 q135 q136 q137 q138 q139 q140 q141 q142 q143 q144 q145 q146 q147 q148 q149 q150 q151 q152 q153 q154 q155 q156 q157 q158 q159 q160 q161 q162 q163 q164 q165 q166 q167 q168 q169 q170 q171 q172 q173 q174 q175 q176 q177 q178 q179 q180 q181 q182 q183 q184 q185 q186 q187 q188 q189 q190 q191 q192 q193 q194 q195 q196 q197 q198 q199 q200 q201 q202 q203 q204 q205 q206 q207 q208 q209 q210 q211 q212 q213 q214 q215 q216 q217 q218 q219 q220 q221 q222 q223 q224 q225 q226 q227 q228 q229 q230 q231 q232 q233 q234 q235 q236 q237 q238 q239 q240 q241 q242 q243 q244 q245 q246 q247 q248 q249 q250 q251 q252 : Value) (Q0 : Exit → Act → World → Prop)
    (hexit : ∀ (u164 u165 u166 u167 u168 u169 u170 u171 u172 u173 : Value) W', Fin27 w0 d A l c m X D3 g n cap i0 nW xs W' → Q0 .normal ⟨(List.toArray (q0 :: q1 :: q2 :: q3 :: q4 :: .pointer (some ⟨D, 0, none⟩) :: .pointer (some ⟨d, 0, none⟩) :: q7 :: q8 :: q9 :: q10 :: q11 :: q12 :: q13 :: .pointer (some ⟨b3, 0, none⟩) :: q15 :: q16 :: q17 :: q18 :: q19 :: q20 :: q21 :: .int .i64 i0 :: q23 :: q24 :: q25 :: q26 :: q27 :: q28 :: q29 :: q30 :: q31 :: q32 :: q33 :: q34 :: q35 :: q36 :: q37 :: q38 :: q39 :: q40 :: q41 :: q42 :: q43 :: q44 :: q45 :: q46 :: q47 :: q48 :: q49 :: q50 :: q51 :: q52 :: q53 :: q54 :: q55 :: q56 :: q57 :: q58 :: q59 :: q60 :: q61 :: q62 :: q63 :: q64 :: q65 :: q66 :: q67 :: q68 :: q69 :: q70 :: q71 :: q72 :: q73 :: q74 :: q75 :: q76 :: q77 :: q78 :: q79 :: q80 :: q81 :: q82 :: q83 :: q84 :: q85 :: q86 :: q87 :: q88 :: q89 :: q90 :: q91 :: q92 :: q93 :: q94 :: q95 :: q96 :: q97 :: q98 :: q99 :: q100 :: q101 :: q102 :: q103 :: q104 :: q105 :: q106 :: q107 :: q108 :: q109 :: q110 :: q111 :: q112 :: q113 :: q114 :: q115 :: q116 :: q117 :: q118 :: q119 :: q120 :: q121 :: q122 :: q123 :: q124 :: q125 :: q126 :: q127 :: q128 :: q129 :: q130 :: q131 :: q132 :: q133 :: q134 :: q135 :: q136 :: q137 :: q138 :: q139 :: q140 :: q141 :: q142 :: q143 :: q144 :: q145 :: q146 :: q147 :: q148 :: q149 :: q150 :: q151 :: q152 :: q153 :: q154 :: q155 :: q156 :: q157 :: q158 :: q159 :: q160 :: q161 :: q162 :: q163 :: u164 :: u165 :: u166 :: u167 :: u168 :: u169 :: u170 :: u171 :: u172 :: u173 :: q174 :: q175 :: q176 :: q177 :: q178 :: q179 :: q180 :: q181 :: q182 :: q183 :: q184 :: q185 :: q186 :: q187 :: q188 :: q189 :: q190 :: q191 :: q192 :: q193 :: q194 :: q195 :: q196 :: q197 :: q198 :: q199 :: q200 :: q201 :: q202 :: q203 :: q204 :: q205 :: q206 :: q207 :: q208 :: q209 :: q210 :: q211 :: q212 :: q213 :: q214 :: q215 :: q216 :: q217 :: q218 :: q219 :: q220 :: q221 :: q222 :: q223 :: q224 :: q225 :: q226 :: q227 :: q228 :: q229 :: q230 :: q231 :: q232 :: q233 :: q234 :: q235 :: q236 :: q237 :: q238 :: q239 :: q240 :: q241 :: q242 :: q243 :: q244 :: q245 :: q246 :: q247 :: q248 :: q249 :: q250 :: q251 :: q252 :: [])), []⟩ W') :
    Code.wp Tryz.prog (Code.region 27 (opsMr 27).toArray true) Q0 ⟨(List.toArray (q0 :: q1 :: q2 :: q3 :: q4 :: .pointer (some ⟨D, 0, none⟩) :: .pointer (some ⟨d, 0, none⟩) :: q7 :: q8 :: q9 :: q10 :: q11 :: q12 :: q13 :: .pointer (some ⟨b3, 0, none⟩) :: q15 :: q16 :: q17 :: q18 :: q19 :: q20 :: q21 :: .int .i64 i0 :: q23 :: q24 :: q25 :: q26 :: q27 :: q28 :: q29 :: q30 :: q31 :: q32 :: q33 :: q34 :: q35 :: q36 :: q37 :: q38 :: q39 :: q40 :: q41 :: q42 :: q43 :: q44 :: q45 :: q46 :: q47 :: q48 :: q49 :: q50 :: q51 :: q52 :: q53 :: q54 :: q55 :: q56 :: q57 :: q58 :: q59 :: q60 :: q61 :: q62 :: q63 :: q64 :: q65 :: q66 :: q67 :: q68 :: q69 :: q70 :: q71 :: q72 :: q73 :: q74 :: q75 :: q76 :: q77 :: q78 :: q79 :: q80 :: q81 :: q82 :: q83 :: q84 :: q85 :: q86 :: q87 :: q88 :: q89 :: q90 :: q91 :: q92 :: q93 :: q94 :: q95 :: q96 :: q97 :: q98 :: q99 :: q100 :: q101 :: q102 :: q103 :: q104 :: q105 :: q106 :: q107 :: q108 :: q109 :: q110 :: q111 :: q112 :: q113 :: q114 :: q115 :: q116 :: q117 :: q118 :: q119 :: q120 :: q121 :: q122 :: q123 :: q124 :: q125 :: q126 :: q127 :: q128 :: q129 :: q130 :: q131 :: q132 :: q133 :: q134 :: q135 :: q136 :: q137 :: q138 :: q139 :: q140 :: q141 :: q142 :: q143 :: q144 :: q145 :: q146 :: q147 :: q148 :: q149 :: q150 :: q151 :: q152 :: q153 :: q154 :: q155 :: q156 :: q157 :: q158 :: q159 :: q160 :: q161 :: q162 :: q163 :: q164 :: q165 :: q166 :: q167 :: q168 :: q169 :: q170 :: q171 :: q172 :: q173 :: q174 :: q175 :: q176 :: q177 :: q178 :: q179 :: q180 :: q181 :: q182 :: q183 :: q184 :: q185 :: q186 :: q187 :: q188 :: q189 :: q190 :: q191 :: q192 :: q193 :: q194 :: q195 :: q196 :: q197 :: q198 :: q199 :: q200 :: q201 :: q202 :: q203 :: q204 :: q205 :: q206 :: q207 :: q208 :: q209 :: q210 :: q211 :: q212 :: q213 :: q214 :: q215 :: q216 :: q217 :: q218 :: q219 :: q220 :: q221 :: q222 :: q223 :: q224 :: q225 :: q226 :: q227 :: q228 :: q229 :: q230 :: q231 :: q232 :: q233 :: q234 :: q235 :: q236 :: q237 :: q238 :: q239 :: q240 :: q241 :: q242 :: q243 :: q244 :: q245 :: q246 :: q247 :: q248 :: q249 :: q250 :: q251 :: q252 :: [])), []⟩ X := by
  refine region27_mr w0 d A l c m D D3 b3 g n cap i0 nW tc t2 z0 z1 z2 z3 p0 p1 p3 p4 xs os _ Q0 X rfl rfl rfl rfl rfl hD hm hnW hi hbx hb3 hown hd3 hlow hDd hb3d hnum ?_
  intro a W' hz hd hs hF
  have e := frame_act 253 a _ hz hd ch27 (fun s hp => hs s hp)
  have e2 : a = ⟨(List.toArray (q0 :: q1 :: q2 :: q3 :: q4 :: .pointer (some ⟨D, 0, none⟩) :: .pointer (some ⟨d, 0, none⟩) :: q7 :: q8 :: q9 :: q10 :: q11 :: q12 :: q13 :: .pointer (some ⟨b3, 0, none⟩) :: q15 :: q16 :: q17 :: q18 :: q19 :: q20 :: q21 :: .int .i64 i0 :: q23 :: q24 :: q25 :: q26 :: q27 :: q28 :: q29 :: q30 :: q31 :: q32 :: q33 :: q34 :: q35 :: q36 :: q37 :: q38 :: q39 :: q40 :: q41 :: q42 :: q43 :: q44 :: q45 :: q46 :: q47 :: q48 :: q49 :: q50 :: q51 :: q52 :: q53 :: q54 :: q55 :: q56 :: q57 :: q58 :: q59 :: q60 :: q61 :: q62 :: q63 :: q64 :: q65 :: q66 :: q67 :: q68 :: q69 :: q70 :: q71 :: q72 :: q73 :: q74 :: q75 :: q76 :: q77 :: q78 :: q79 :: q80 :: q81 :: q82 :: q83 :: q84 :: q85 :: q86 :: q87 :: q88 :: q89 :: q90 :: q91 :: q92 :: q93 :: q94 :: q95 :: q96 :: q97 :: q98 :: q99 :: q100 :: q101 :: q102 :: q103 :: q104 :: q105 :: q106 :: q107 :: q108 :: q109 :: q110 :: q111 :: q112 :: q113 :: q114 :: q115 :: q116 :: q117 :: q118 :: q119 :: q120 :: q121 :: q122 :: q123 :: q124 :: q125 :: q126 :: q127 :: q128 :: q129 :: q130 :: q131 :: q132 :: q133 :: q134 :: q135 :: q136 :: q137 :: q138 :: q139 :: q140 :: q141 :: q142 :: q143 :: q144 :: q145 :: q146 :: q147 :: q148 :: q149 :: q150 :: q151 :: q152 :: q153 :: q154 :: q155 :: q156 :: q157 :: q158 :: q159 :: q160 :: q161 :: q162 :: q163 :: a.eval (.tmp 164) :: a.eval (.tmp 165) :: a.eval (.tmp 166) :: a.eval (.tmp 167) :: a.eval (.tmp 168) :: a.eval (.tmp 169) :: a.eval (.tmp 170) :: a.eval (.tmp 171) :: a.eval (.tmp 172) :: a.eval (.tmp 173) :: q174 :: q175 :: q176 :: q177 :: q178 :: q179 :: q180 :: q181 :: q182 :: q183 :: q184 :: q185 :: q186 :: q187 :: q188 :: q189 :: q190 :: q191 :: q192 :: q193 :: q194 :: q195 :: q196 :: q197 :: q198 :: q199 :: q200 :: q201 :: q202 :: q203 :: q204 :: q205 :: q206 :: q207 :: q208 :: q209 :: q210 :: q211 :: q212 :: q213 :: q214 :: q215 :: q216 :: q217 :: q218 :: q219 :: q220 :: q221 :: q222 :: q223 :: q224 :: q225 :: q226 :: q227 :: q228 :: q229 :: q230 :: q231 :: q232 :: q233 :: q234 :: q235 :: q236 :: q237 :: q238 :: q239 :: q240 :: q241 :: q242 :: q243 :: q244 :: q245 :: q246 :: q247 :: q248 :: q249 :: q250 :: q251 :: q252 :: [])), []⟩ := e
  have h := hexit (a.eval (.tmp 164)) (a.eval (.tmp 165)) (a.eval (.tmp 166)) (a.eval (.tmp 167)) (a.eval (.tmp 168)) (a.eval (.tmp 169)) (a.eval (.tmp 170)) (a.eval (.tmp 171)) (a.eval (.tmp 172)) (a.eval (.tmp 173)) W' hF
  rw [← e2] at h
  exact h
end Go.Proofs
end
