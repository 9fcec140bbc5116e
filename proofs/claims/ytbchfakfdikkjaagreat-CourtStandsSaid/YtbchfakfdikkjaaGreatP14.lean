/- Own texts, merged: CtFe. -/
import Derived.Test.YtbchfakfdikkjaaGreatP12
import Derived.Test.YtbchfakfdikkjaaGreatP13
set_option linter.unusedSimpArgs false
set_option linter.unusedVariables false
set_option linter.unnecessarySimpa false
section
namespace Go.Proofs
open Go.RowKit
open Court (refL begF noS struckB nextR hearR hearsR rule setF allN RankOk openN round award winB tryW FewIs)
attribute [local go_sem] Oper.semAt_some

structure Kq (b : Nat) (W W' : World) : Prop where
  size : W.heap.size ≤ W'.heap.size
  same : ∀ k, k < W.heap.size → k ≠ b → k ≠ b + 1 → W'.heap[k]? = W.heap[k]?
theorem Kq.refl (b : Nat) (W : World) : Kq b W W := ⟨Nat.le_refl _, fun _ _ _ _ => rfl⟩
theorem Kq.trans {b : Nat} {W W' W'' : World} (h : Kq b W W') (k : Kq b W' W'') : Kq b W W'' := ⟨Nat.le_trans h.size k.size, fun i h1 h2 h3 => (k.same i (Nat.lt_of_lt_of_le h1 h.size) h2 h3).trans (h.same i h1 h2 h3)⟩
theorem Kq.of_aft {b : Nat} {W W' : World} (h : Aft W W') : Kq b W W' := ⟨h.size, fun k h1 _ _ => h.below.block k h1⟩
theorem Kq.of_grown {b : Nat} {W W' : World} {row : Option Nat} (h : W.grownBy W' row) (hr : row = some b ∨ row = some (b + 1)) : Kq b W W' :=
  ⟨h.size, fun k h1 h2 h3 => h.block k h1 (fun e => by rcases hr with hr | hr <;> rw [hr] at e <;> cases e <;> contradiction)⟩
theorem blk_kq {b : Nat} {W W' : World} {g : Nat} {t : TypeId} {cs : Array Value} (h : Blk W g t cs) (hk : Kq b W W') (h1 : g ≠ b) (h2 : g ≠ b + 1) : Blk W' g t cs := (hk.same g h.lt h1 h2).trans h
theorem own_kq {b : Nat} {W W' : World} {v : Value} {n : Nat} {xs : List Value} (h : W.ownsRow (b + 2) 3 1 v n xs) (hk : Kq b W W') : W'.ownsRow (b + 2) 3 1 v n xs := by
  refine ⟨h.1, ?_⟩
  rcases h.2 with ⟨h1, h2⟩ | ⟨g, cap, cur, h1, h2, h3, h4⟩
  · exact .inl ⟨h1, h2⟩
  · exact .inr ⟨g, cap, cur, h1, h2, (hk.same g (Array.getElem?_eq_some_iff.1 h3).1 (by omega) (by omega)).trans h3, h4⟩

structure FI (w : World) (b bC bQ : Nat) (C : CaseL) (a1 a2 : Option Addr) (c1 c2 : Nat) (q : Nat) (X : Option (List Int)) (W : World) : Prop where
  aft : Aft w W
  ge : w.heap.size = b
  rep : CRep w C a1 a2
  bc : Blk w bC 25 #[.int .i64 C.claims, .slice a1 C.strikes.length c1, .slice a2 C.surveys.length c2]
  bq : Blk w bQ 3 #[.int .i64 q]
  b0 : ∃ v, Blk W b 33 #[v] ∧ W.ownsRow (b + 2) 3 1 v (X.getD []).length ((X.getD []).map (Value.int .i64))
  b1 : Blk W (b + 1) 4 #[.bool X.isSome]
  b2 : Blk W (b + 1 + 1) 91 #[.func (.func 60) #[] #[.pointer (some ⟨b + 1, 0, none⟩), .pointer (some ⟨bC, 0, none⟩), .pointer (some ⟨bQ, 0, none⟩), .pointer (some ⟨b, 0, none⟩), .pointer (some ⟨b + 1 + 1, 0, none⟩)]]
theorem FI.later {w : World} {b bC bQ : Nat} {C : CaseL} {a1 a2 : Option Addr} {c1 c2 : Nat} {q : Nat} {X : Option (List Int)} {W W' : World} (h : FI w b bC bQ C a1 a2 c1 c2 q X W) (ha : Aft W W') : FI w b bC bQ C a1 a2 c1 c2 q X W' :=
  ⟨h.aft.trans ha, h.ge, h.rep, h.bc, h.bq, let ⟨v, h1, h2⟩ := h.b0; ⟨v, h1.aft ha, own_aft h2 ha⟩, h.b1.aft ha, h.b2.aft ha⟩
theorem FI.put {w : World} {b bC bQ : Nat} {C : CaseL} {a1 a2 : Option Addr} {c1 c2 : Nat} {q : Nat} {W : World} (h : FI w b bC bQ C a1 a2 c1 c2 q none W) {v : Value} {l : List Int} (hv : W.ownsRow (b + 2) 3 1 v l.length (l.map (Value.int .i64))) :
    FI w b bC bQ C a1 a2 c1 c2 q (some l) ((W.setCell ⟨b, 0, none⟩ v).setCell ⟨b + 1, 0, none⟩ (.bool true)) ∧ Kq b W ((W.setCell ⟨b, 0, none⟩ v).setCell ⟨b + 1, 0, none⟩ (.bool true)) := by
  have k1 : Kq b W (W.setCell ⟨b, 0, none⟩ v) := Kq.of_grown (grownBy_setCell' W b v) (.inl rfl)
  have k2 : Kq b (W.setCell ⟨b, 0, none⟩ v) ((W.setCell ⟨b, 0, none⟩ v).setCell ⟨b + 1, 0, none⟩ (.bool true)) := Kq.of_grown (grownBy_setCell' _ (b + 1) _) (.inr rfl)
  obtain ⟨u, hu, -⟩ := h.b0
  refine ⟨⟨(h.aft.then_setCell (by have := h.ge; show w.heap.size ≤ b; omega) _).then_setCell (by have := h.ge; show w.heap.size ≤ b + 1; omega) _, h.ge, h.rep, h.bc, h.bq, ⟨v, ?_, own_kq hv (k1.trans k2)⟩, ?_, blk_kq h.b2 (k1.trans k2) (by omega) (by omega)⟩, k1.trans k2⟩
  · have := (hu.store 0 v).far (p := ⟨b + 1, 0, none⟩) (by show b ≠ b + 1; omega) (.bool true)
    simpa using this
  · have := (h.b1.far (p := ⟨b, 0, none⟩) (by show b + 1 ≠ b; omega) v).store 0 (.bool true)
    simpa using this
def FewR (w : World) (b bC bQ : Nat) (C : CaseL) (a1 a2 : Option Addr) (c1 c2 : Nat) (q : Nat) (X : Option (List Int)) (W : World) (e : Ending) (W' : World) : Prop := (∃ v, e = .returned v) ∧ FI w b bC bQ C a1 a2 c1 c2 q X W' ∧ Kq b W W'

structure Beg (W0 : World) (C : CaseL) (a1 a2 : Option Addr) (c1 c2 : Nat) (l : List Int) (N : Nat) (done : Nat → Bool) (a : Act) (W : World) : Prop where
  aft : Aft W0 W
  two : done 2 = true → done 3 = false → ∃ d, a.eval (.tmp 18) = .pointer (some ⟨d, 0, none⟩) ∧ DeskAt W0 W d C a1 a2 c1 c2 (refL l) noS (begF (refL l)) (fun _ => 0)
  three : done 3 = true → ∃ d r, a.eval (.tmp 19) = .pointer (some ⟨d, 0, none⟩) ∧ (done 5 = true → a.eval (.tmp 21) = .pointer (some ⟨d, 0, none⟩)) ∧ (done 6 = true → a.eval (.tmp 22) = .pointer (some ⟨d, 31, none⟩)) ∧ DeskAt W0 W d C a1 a2 c1 c2 (refL l) noS (award C.strikes noS N (begF (refL l))) r
  o3 : done 3 = true → done 2 = true
  o5 : done 5 = true → done 3 = true
  o6 : done 6 = true → done 5 = true
section
variable {W0 : World} {C : CaseL} {a1 a2 : Option Addr} {c1 c2 : Nat} {l : List Int} {N : Nat} {done : Nat → Bool} {a : Act} {W W' : World}
theorem Beg.start : Beg W0 C a1 a2 c1 c2 l N (fun _ => false) a W0.drew :=
  ⟨Aft.drew _, (fun h => by cases h), (fun h => by cases h), (fun h => by cases h), (fun h => by cases h), (fun h => by cases h)⟩
theorem Beg.keep (h : Beg W0 C a1 a2 c1 c2 l N done a W) {i : Nat} {dst : Option Tmp} {v : Value} (ha : Aft W W') (hi : i ≠ 2 ∧ i ≠ 3 ∧ i ≠ 5 ∧ i ≠ 6) (hd : dst ≠ some 18 ∧ dst ≠ some 19 ∧ dst ≠ some 21 ∧ dst ≠ some 22) : Beg W0 C a1 a2 c1 c2 l N (upd done i) (a.put dst v) W' := by
  obtain ⟨h2, h3, h5, h6⟩ := hi
  refine ⟨h.aft.trans ha, fun p q => ?_, fun p => ?_, fun p => ?_, fun p => ?_, fun p => ?_⟩
  · rw [upd_ne (Ne.symm h2)] at p; rw [upd_ne (Ne.symm h3)] at q
    obtain ⟨d, e, hd2⟩ := h.two p q
    exact ⟨d, by rw [eval_ne hd.1]; exact e, hd2.later ha⟩
  · rw [upd_ne (Ne.symm h3)] at p
    obtain ⟨d, r, e, e5, e6, hd2⟩ := h.three p
    refine ⟨d, r, by rw [eval_ne hd.2.1]; exact e, fun p5 => ?_, fun p6 => ?_, hd2.later ha⟩
    · rw [upd_ne (Ne.symm h5)] at p5; rw [eval_ne hd.2.2.1]; exact e5 p5
    · rw [upd_ne (Ne.symm h6)] at p6; rw [eval_ne hd.2.2.2]; exact e6 p6
  · rw [upd_ne (Ne.symm h3)] at p; rw [upd_ne (Ne.symm h2)]; exact h.o3 p
  · rw [upd_ne (Ne.symm h5)] at p; rw [upd_ne (Ne.symm h3)]; exact h.o5 p
  · rw [upd_ne (Ne.symm h6)] at p; rw [upd_ne (Ne.symm h5)]; exact h.o6 p
theorem Beg.not3 (h : Beg W0 C a1 a2 c1 c2 l N done a W) (h2 : done 2 = false) : done 3 = false := by
  cases e : done 3
  · rfl
  · rw [h.o3 e] at h2; cases h2
theorem Beg.not5 (h : Beg W0 C a1 a2 c1 c2 l N done a W) (h3 : done 3 = false) : done 5 = false := by
  cases e : done 5
  · rfl
  · rw [h.o5 e] at h3; cases h3
theorem Beg.not6 (h : Beg W0 C a1 a2 c1 c2 l N done a W) (h5 : done 5 = false) : done 6 = false := by
  cases e : done 6
  · rfl
  · rw [h.o6 e] at h5; cases h5
theorem Beg.step2 (h : Beg W0 C a1 a2 c1 c2 l N done a W) (h2 : done 2 = false) {d : Nat} (ha : Aft W W') (hd : DeskAt W0 W' d C a1 a2 c1 c2 (refL l) noS (begF (refL l)) (fun _ => 0)) (hz : 18 < a.tmps.size) : Beg W0 C a1 a2 c1 c2 l N (upd done 2) (a.put (some 18) (.pointer (some ⟨d, 0, none⟩))) W' := by
  have h3 := h.not3 h2
  have h5 := h.not5 h3
  have h6 := h.not6 h5
  refine ⟨h.aft.trans ha, fun _ _ => ⟨d, Act.eval_put_same _ _ _ hz, hd⟩, fun p => ?_, fun _ => upd_same, fun p => ?_, fun p => ?_⟩
  · rw [upd_ne (by decide), h3] at p; cases p
  · rw [upd_ne (by decide), h5] at p; cases p
  · rw [upd_ne (by decide), h6] at p; cases p
theorem Beg.step3 (h : Beg W0 C a1 a2 c1 c2 l N done a W) (h3 : done 3 = false) (h2 : done 2 = true) {d : Nat} {r : Int → Nat} (ha : Aft W0 W') (hd : DeskAt W0 W' d C a1 a2 c1 c2 (refL l) noS (award C.strikes noS N (begF (refL l))) r) (hz : 19 < a.tmps.size) : Beg W0 C a1 a2 c1 c2 l N (upd done 3) (a.put (some 19) (.pointer (some ⟨d, 0, none⟩))) W' := by
  have h5 := h.not5 h3
  have h6 := h.not6 h5
  refine ⟨ha, fun _ p => ?_, fun _ => ⟨d, r, Act.eval_put_same _ _ _ hz, fun p => ?_, fun p => ?_, hd⟩, fun _ => ?_, fun p => ?_, fun p => ?_⟩
  · rw [upd_same] at p; cases p
  · rw [upd_ne (by decide), h5] at p; cases p
  · rw [upd_ne (by decide), h6] at p; cases p
  · rw [upd_ne (by decide)]; exact h2
  · exact upd_same
  · rw [upd_ne (by decide), h6] at p; cases p
theorem Beg.step5 (h : Beg W0 C a1 a2 c1 c2 l N done a W) (h5 : done 5 = false) (h3 : done 3 = true) {d : Nat} (he : a.eval (.tmp 19) = .pointer (some ⟨d, 0, none⟩)) (hz : 21 < a.tmps.size) : Beg W0 C a1 a2 c1 c2 l N (upd done 5) (a.put (some 21) (.pointer (some ⟨d, 0, none⟩))) W := by
  have h6 := h.not6 h5
  obtain ⟨d', r, e, e5, e6, hd2⟩ := h.three h3
  rw [he] at e
  cases e
  refine ⟨h.aft, fun p q => ?_, fun _ => ⟨d, r, by rw [eval_ne (by decide)]; exact he, fun _ => Act.eval_put_same _ _ _ hz, fun p => ?_, hd2⟩, fun p => ?_, fun _ => ?_, fun p => ?_⟩
  · rw [upd_ne (by decide)] at q; rw [h3] at q; cases q
  · rw [upd_ne (by decide), h6] at p; cases p
  · rw [upd_ne (by decide)] at p ⊢; exact h.o3 p
  · rw [upd_ne (by decide)]; exact h3
  · exact upd_same
theorem Beg.step6 (h : Beg W0 C a1 a2 c1 c2 l N done a W) (h6 : done 6 = false) (h5 : done 5 = true) {d : Nat} (he : a.eval (.tmp 21) = .pointer (some ⟨d, 0, none⟩)) (hz : 22 < a.tmps.size) : Beg W0 C a1 a2 c1 c2 l N (upd done 6) (a.put (some 22) (.pointer (some ⟨d, 31, none⟩))) W := by
  have h3 := h.o5 h5
  obtain ⟨d', r, e, e5, e6, hd2⟩ := h.three h3
  rw [e5 h5] at he
  cases he
  refine ⟨h.aft, fun p q => ?_, fun _ => ⟨d, r, by rw [eval_ne (by decide)]; exact e, fun _ => by rw [eval_ne (by decide)]; exact e5 h5, fun _ => Act.eval_put_same _ _ _ hz, hd2⟩, fun p => ?_, fun p => ?_, fun _ => ?_⟩
  · rw [upd_ne (by decide)] at q; rw [h3] at q; cases q
  · rw [upd_ne (by decide)] at p ⊢; exact h.o3 p
  · rw [upd_ne (by decide)] at p ⊢; exact h.o5 p
  · rw [upd_ne (by decide)]; exact h5
end
theorem list4 {α : Type} {us : List α} (h : us.length = 4) : ∃ x y z t, us = [x, y, z, t] := by
  match us, h with
  | [x, y, z, t], _ => exact ⟨x, y, z, t, rfl⟩

set_option maxRecDepth 100000 in
set_option maxHeartbeats 2000000 in
theorem few_met (w : World) (b bC bQ N q : Nat) (C : CaseL) (a1 a2 : Option Addr) (c1 c2 : Nat) (hok : CaseOk C) (hN : C.claims = N) (hq : q < N) (n m : Nat) (l : List Int) (lv : Value) (W : World) (hl : ∀ x ∈ l, 0 ≤ x ∧ x < N) (hll : l.length ≤ n) (hnN : n ≤ N) (hm : m ≤ 1000) (hrow : W.ownsRow (b + 2) 3 1 lv l.length (l.map (Value.int .i64))) (L : List Int) (hG : FI w b bC bQ C a1 a2 c1 c2 q (some L) W) :
    Calls Tryz.prog 60 #[.int .i64 n, .int .i64 m, lv, .pointer (some ⟨b + 1, 0, none⟩), .pointer (some ⟨bC, 0, none⟩), .pointer (some ⟨bQ, 0, none⟩), .pointer (some ⟨b, 0, none⟩), .pointer (some ⟨b + 1 + 1, 0, none⟩)] W (FewR w b bC bQ C a1 a2 c1 c2 q (some L) W) := by
  obtain ⟨A, c, rfl, _, _⟩ := own_ints hrow (by have := hok.n2; omega)
  have k1 : W.cell? ⟨b + 1, 0, none⟩ = some (.bool true) := hG.b1.cell 0
  have l1 := hG.b1.lt
  have HG := Lib.hid hG
  clear hG hrow hl hq hok hN
  go_enter Tryz.func60, Tryz.ntmps60
  go_wp2_with fail
  refine bodyPost_ret (v := .tuple #[]) (by simp [results, Tryz.results60, go_sem]) rfl ?_
  exact ⟨⟨_, rfl⟩, HG.out, Kq.refl _ _⟩

set_option maxRecDepth 100000 in
set_option maxHeartbeats 4000000 in
theorem few_zero (w : World) (b bC bQ N q : Nat) (C : CaseL) (a1 a2 : Option Addr) (c1 c2 : Nat) (hok : CaseOk C) (hN : C.claims = N) (hq : q < N) (n m : Nat) (l : List Int) (lv : Value) (W : World) (hl : ∀ x ∈ l, 0 ≤ x ∧ x < N) (hll : l.length ≤ n) (hnN : n ≤ N) (hm : m ≤ 1000) (hrow : W.ownsRow (b + 2) 3 1 lv l.length (l.map (Value.int .i64))) (hm0 : m = 0) (hG : FI w b bC bQ C a1 a2 c1 c2 q none W) :
    Calls Tryz.prog 60 #[.int .i64 n, .int .i64 m, lv, .pointer (some ⟨b + 1, 0, none⟩), .pointer (some ⟨bC, 0, none⟩), .pointer (some ⟨bQ, 0, none⟩), .pointer (some ⟨b, 0, none⟩), .pointer (some ⟨b + 1 + 1, 0, none⟩)] W (FewR w b bC bQ C a1 a2 c1 c2 q (if winB C.strikes N q l then some l else none) W) := by
  subst hm0
  obtain ⟨T, hT⟩ : ∃ T, (if winB C.strikes N q l then some l else none) = T := ⟨_, rfl⟩
  rw [hT]
  have HT := Lib.hid hT
  clear hT
  obtain ⟨A, c, rfl, _, hA⟩ := own_ints hrow (by have := hok.n2; omega)
  have hN14 : N ≤ 14 := by have := hok.n2; omega
  have hN1 : 1 ≤ N := by omega
  have HS := Lib.hid (show ∀ s ∈ C.strikes, 0 ≤ s.1 ∧ s.1 < 14 from fun s hs => by have := (hok.ins s hs).1; have := hok.n2; omega)
  have k1 : W.cell? ⟨b + 1, 0, none⟩ = some (.bool false) := hG.b1.cell 0
  have l1 := hG.b1.lt
  have HRP : Hid (∀ W', Aft W W' → CRep W' C a1 a2) := Lib.hid fun W' h => hG.rep.aft (hG.aft.trans h)
  have H61 : Hid (∀ W', Aft W W' → Calls Tryz.prog 61 #[(.agg #[.int .i64 C.claims, .slice a1 C.strikes.length c1, .slice a2 C.surveys.length c2]), .slice A l.length c, .slice none 0 0] W' fun e w' => ∃ d, e = .returned (.pointer (some ⟨d, 0, none⟩)) ∧ DeskAt W' w' d C a1 a2 c1 c2 (refL l) noS (begF (refL l)) (fun _ => 0)) := Lib.hid fun W' h => by
    have := begun_any C a1 a2 c1 c2 l [] A none c 0 W' ⟨by omega, by omega⟩ (HRP.out W' h) (hA.aft h) ⟨by simp, .inl rfl⟩ (by rw [hN]; exact hl) (fun n hn => by cases hn)
    exact this
  have H62 : Hid (∀ W0 W' d, DeskAt W0 W' d C a1 a2 c1 c2 (refL l) noS (begF (refL l)) (fun _ => 0) → Calls Tryz.prog 62 #[.pointer (some ⟨d, 0, none⟩)] W' (Awarded W0 W' d C a1 a2 c1 c2 (refL l) noS N (begF (refL l)))) := Lib.hid fun W0 W' d hD => award_any W0 W' d C a1 a2 c1 c2 (refL l) noS (begF (refL l)) (begF (refL l)) (fun _ => 0) hD N hN hN14 HS.out (Court.begF_three _) (HeardS.start _ _ _ _)
  have HCL : Hid (∀ W', Aft W W' → Calls Tryz.prog 63 #[.slice A l.length c] W' (OwnInts W' l)) := Lib.hid fun W' h => clone84 A l c W' (hA.aft h)
  have HR0 : Hid (CRep W C a1 a2) := Lib.hid (HRP.out _ (Aft.refl W))
  have HG := Lib.hid hG
  have HBC : Hid (∀ W', Aft W W' → Blk W' bC 25 #[.int .i64 C.claims, .slice a1 C.strikes.length c1, .slice a2 C.surveys.length c2]) := Lib.hid fun W' h => hG.bc.aft (hG.aft.trans h)
  have HCQ : Hid (∀ W', Aft W W' → W'.cell? ⟨bQ, 0, none⟩ = some (.int .i64 q)) := Lib.hid fun W' h => (hG.bq.aft (hG.aft.trans h)).cell 0
  have HNN := Lib.hid hN
  have hge := hG.ge
  have hsz := hG.b2.lt
  have hq14 : q < 14 := by omega
  have i1 : (0 : Int) ≤ (q : Int) ∧ (q : Int) < 14 := by omega
  have HDRW := Lib.hid (Aft.drew W)
  clear hG hrow hl hok hN HRP hA
  go_enter Tryz.func60, Tryz.ntmps60
  go_upto_region 2 with (fail)
  have HHD : Hid (∀ (W' : World) (g : Nat) (r : Int → Nat), DeskAt W W' g C a1 a2 c1 c2 (refL l) noS (award C.strikes noS N (begF (refL l))) r → W'.cell? ⟨g, 31 + q, none⟩ = some (.int .i64 (award C.strikes noS N (begF (refL l)) (q : Nat) : Nat))) := Lib.hid fun W' g r h => h.found hq14
  refine wp_region_valsU (by kernel_rfl) 7 53 rfl (by kernel_rfl) (by kernel_rfl) [some ((.agg #[.int .i64 C.claims, .slice a1 C.strikes.length c1, .slice a2 C.surveys.length c2])), some (.slice A l.length c), none, none, some (.int .i64 q), none, none] (by kernel_rfl) rfl (Beg W C a1 a2 c1 c2 l N) (Beg.start) ?st1 ?fi1
  case st1 =>
    intro i o v ho hv
    match i, ho, hv with
    | 0, ho, hv =>
      cases ho; cases hv
      refine .inl ⟨rfl, fun done a W hz hd hp hk hw K hK => ?_⟩
      have e4 := hk.same 4 (by decide)
      obtain ⟨y0, y1, y2⟩ := box25 (HBC.out W hw.aft)
      exact op_val (v := (.agg #[.int .i64 C.claims, .slice a1 C.strikes.length c1, .slice a2 C.surveys.length c2])) (by simp [go_sem, ev' e4, y0, y1, y2]) (hK _ _ (fun u hu => by cases hu; rfl) (hw.keep (Aft.refl _) (by decide) (by decide)))
    | 1, ho, hv =>
      cases ho; cases hv
      refine .inl ⟨rfl, fun done a W hz hd hp hk hw K hK => ?_⟩
      have e2 := hk.same 2 (by decide)
      exact op_val (v := .slice A l.length c) (by simp [go_sem, ev' e2]) (hK _ _ (fun u hu => by cases hu; rfl) (hw.keep (Aft.refl _) (by decide) (by decide)))
    | 2, ho, hv =>
      cases ho; cases hv
      refine .inl ⟨rfl, fun done a W hz hd hp hk hw K hK => ?_⟩
      have e16 := hk.at_ 0 _ 16 _ rfl (by decide) _ rfl rfl rfl
      have e17 := hk.at_ 1 _ 17 _ rfl (by decide) _ rfl rfl rfl
      refine op_callN rfl rfl rfl _ rfl (vs := #[(.agg #[.int .i64 C.claims, .slice a1 C.strikes.length c1, .slice a2 C.surveys.length c2]), .slice A l.length c, .slice none 0 0]) (by simp [e16, e17, show ∀ v, a.eval (.const v) = v from fun _ => rfl]) (H61.out W hw.aft) fun e w' h => ?_
      obtain ⟨d, rfl, hdk⟩ := h
      exact ⟨_, rfl, hK _ _ (fun u hu => by cases hu) (hw.step2 hd hdk.aft ⟨hdk.blk, HR0.out, Nat.le_trans hw.aft.size hdk.base, hw.aft.trans hdk.aft⟩ (by rw [hz]; decide))⟩
    | 3, ho, hv =>
      cases ho; cases hv
      refine .inl ⟨rfl, fun done a W hz hd hp hk hw K hK => ?_⟩
      obtain ⟨d, e18, hdk⟩ := hw.two (hp 2 (by decide)) hd
      refine op_callN rfl rfl rfl _ rfl (vs := #[.pointer (some ⟨d, 0, none⟩)]) (by simp [e18]) (H62.out _ W d hdk) fun e w' h => ?_
      obtain ⟨rfl, hg, f, r, hdk2, hhd, hdone⟩ := h
      have hF : f = award C.strikes noS N (begF (refL l)) := Court.award_eq (Court.begF_three _) hhd.reach hdone
      rw [hF] at hdk2
      exact ⟨_, rfl, hK _ _ (fun u hu => by cases hu) (hw.step3 hd (hp 2 (by decide)) (hw.aft.grown hg (fun k e => by cases e; exact hdk.base)) hdk2 (by rw [hz]; decide))⟩
    | 4, ho, hv =>
      cases ho; cases hv
      refine .inl ⟨rfl, fun done a W hz hd hp hk hw K hK => ?_⟩
      have e5 := hk.same 5 (by decide)
      exact op_val (v := .int .i64 q) (by simp [go_sem, ev' e5, HCQ.out W hw.aft]) (hK _ _ (fun u hu => by cases hu; rfl) (hw.keep (Aft.refl _) (by decide) (by decide)))
    | 5, ho, hv =>
      cases ho; cases hv
      refine .inl ⟨rfl, fun done a W hz hd hp hk hw K hK => ?_⟩
      obtain ⟨d, r, e19, -, -, hdk⟩ := hw.three (hp 3 (by decide))
      exact op_val (v := .pointer (some ⟨d, 0, none⟩)) (by simp [go_sem, ev' e19]) (hK _ _ (fun u hu => by cases hu) (hw.step5 hd (hp 3 (by decide)) e19 (by rw [hz]; decide)))
    | 6, ho, hv =>
      cases ho; cases hv
      refine .inl ⟨rfl, fun done a W hz hd hp hk hw K hK => ?_⟩
      obtain ⟨d, r, e19, e21, -, hdk⟩ := hw.three (hw.o5 (hp 5 (by decide)))
      have e21 := e21 (hp 5 (by decide))
      exact op_val (v := .pointer (some ⟨d, 31, none⟩)) (by simp [go_sem, ev' e21]) (hK _ _ (fun u hu => by cases hu) (hw.step6 hd (hp 5 (by decide)) e21 (by rw [hz]; decide)))
    | _ + 7, _, hv => cases hv
  intro done us W hus hd hw
  obtain ⟨x1, x2, x3, x4, rfl⟩ := list4 hus
  obtain ⟨d, r, e19, e21, e22, hdk⟩ := hw.three (hd 3 (by decide))
  have e22 := e22 (hd 6 (by decide))
  have e22' : x4 = .pointer (some ⟨d, 31, none⟩) := by simpa [fill, putAll, Act.put, Act.eval] using e22
  subst e22'
  have z0 := HHD.out W d r hdk
  have z1 := hdk.lt
  have HA := Lib.hid hw.aft
  clear hw hd hus hdk e19 e21 e22 HHD
  simp only [fill, List.drop_succ_cons, List.drop_zero, List.zip_cons_cons, List.zip_nil_right, putAll]
  simp only [Act.put, List.setIfInBounds_toArray, List.set]
  have hwb : winB C.strikes N q l = (((award C.strikes noS N (begF (refL l)) (q : Nat) : Nat) : Int) == 1) := by
    unfold winB
    by_cases h : award C.strikes noS N (begF (refL l)) (q : Nat) = 1
    · rw [h]; rfl
    · rw [decide_eq_false h, (beq_eq_false_iff_ne.2 (fun e => h (Int.ofNat.inj e)) : (((award C.strikes noS N (begF (refL l)) (q : Nat) : Nat) : Int) == 1) = false)]
  generalize award C.strikes noS N (begF (refL l)) (q : Nat) = V at *
  have HGW := Lib.hid (HG.out.later HA.out)
  cases hwin : winB C.strikes N q l
  · have t1 := hwb.symm.trans hwin
    clear hwb
    go_wp2_with fail
    refine bodyPost_ret (v := .tuple #[]) (by simp [results, Tryz.results60, go_sem]) rfl ?_
    have hT : none = T := by rw [← HT.out, hwin, if_neg (by decide)]
    subst hT
    exact ⟨⟨_, rfl⟩, HGW.out, Kq.of_aft HA.out⟩
  · have t1 := hwb.symm.trans hwin
    clear hwb
    go_wp2_with (go_at_call 63; refine (HCL.out _ HA.out).mono ?_; rintro e w8 ⟨v, rfl, hv, ha⟩; obtain ⟨A8, c8, rfl, _, _⟩ := own_ints hv (by omega); have HV := Lib.hid hv; have HA8 := Lib.hid ha; obtain ⟨u0, y0, -⟩ := (HGW.out.later ha).b0; have y1 := (HGW.out.later ha).b1; have y2 := y0.cell 0; have y3 := y0.frozen 0; have y4 := y0.lt; have y5 := y1.cell 0; have y6 := y1.frozen 0; have y7 := y1.lt; clear hv ha y0 y1)
    refine bodyPost_ret (v := .tuple #[]) (by simp [results, Tryz.results60, go_sem]) rfl ?_
    have hT : some l = T := by rw [← HT.out, hwin, if_pos rfl]
    subst hT
    have hb2 : b + 2 ≤ W.heap.size := by have := HA.out.size; omega
    obtain ⟨p1, p2⟩ := FI.put (HGW.out.later HA8.out) (World.ownsRow.mono HV.out hb2)
    exact ⟨⟨_, rfl⟩, p1, (Kq.of_aft (HA.out.trans HA8.out)).trans p2⟩

set_option maxRecDepth 100000 in
set_option maxHeartbeats 2000000 in
theorem few_end (w : World) (b bC bQ N q : Nat) (C : CaseL) (a1 a2 : Option Addr) (c1 c2 : Nat) (hok : CaseOk C) (hN : C.claims = N) (hq : q < N) (n m : Nat) (l : List Int) (lv : Value) (W : World) (hl : ∀ x ∈ l, 0 ≤ x ∧ x < N) (hll : l.length ≤ n) (hnN : n ≤ N) (hm : m ≤ 1000) (hrow : W.ownsRow (b + 2) 3 1 lv l.length (l.map (Value.int .i64))) (hm0 : 0 < m) (hnN0 : N = n) (hG : FI w b bC bQ C a1 a2 c1 c2 q none W) :
    Calls Tryz.prog 60 #[.int .i64 n, .int .i64 m, lv, .pointer (some ⟨b + 1, 0, none⟩), .pointer (some ⟨bC, 0, none⟩), .pointer (some ⟨bQ, 0, none⟩), .pointer (some ⟨b, 0, none⟩), .pointer (some ⟨b + 1 + 1, 0, none⟩)] W (FewR w b bC bQ C a1 a2 c1 c2 q (none) W) := by
  obtain ⟨A, c, rfl, _, hA⟩ := own_ints hrow (by have := hok.n2; omega)
  have k1 : W.cell? ⟨b + 1, 0, none⟩ = some (.bool false) := hG.b1.cell 0
  have l1 := hG.b1.lt
  have k2 : W.cell? ⟨bC, 0, none⟩ = some (.int .i64 N) := by rw [← hN]; exact (hG.bc.aft hG.aft).cell 0
  have l2 := (hG.bc.aft hG.aft).lt
  have t1 : ((m : Int) == 0) = false := beq_eq_false_iff_ne.2 (by omega)
  have t2 : decide (n < N) = false := by simp; omega
  have hn14 : n ≤ 14 := by have := hok.n2; omega
  have HG := Lib.hid hG
  clear hG hrow hl hok hN hnN0 hnN hm0
  go_enter Tryz.func60, Tryz.ntmps60
  go_wp2_with fail
  refine bodyPost_ret (v := .tuple #[]) (by simp [results, Tryz.results60, go_sem]) rfl ?_
  exact ⟨⟨_, rfl⟩, HG.out, Kq.refl _ _⟩

set_option maxRecDepth 100000 in
set_option maxHeartbeats 8000000 in
theorem few_step (w : World) (b bC bQ N q : Nat) (C : CaseL) (a1 a2 : Option Addr) (c1 c2 : Nat) (hok : CaseOk C) (hN : C.claims = N) (hq : q < N) (n m : Nat) (l : List Int) (lv : Value) (Wy : World) (hl : ∀ x ∈ l, 0 ≤ x ∧ x < N) (hll : l.length ≤ n) (hnN : n ≤ N) (hm : m ≤ 1000) (hrow : Wy.ownsRow (b + 2) 3 1 lv l.length (l.map (Value.int .i64))) (hm0 : 0 < m) (hnN0 : n < N) (hG : FI w b bC bQ C a1 a2 c1 c2 q none Wy) (T : Nat → List Int → Option (List Int))
    (IH : ∀ (m' : Nat) (l' : List Int) (lv' : Value) (X' : Option (List Int)) (W' : World), (∀ x ∈ l', 0 ≤ x ∧ x < N) → l'.length ≤ n + 1 → m' ≤ 1000 → W'.ownsRow (b + 2) 3 1 lv' l'.length (l'.map (Value.int .i64)) → FI w b bC bQ C a1 a2 c1 c2 q X' W' → Calls Tryz.prog 60 #[.int .i64 ((n : Int) + 1), .int .i64 m', lv', .pointer (some ⟨b + 1, 0, none⟩), .pointer (some ⟨bC, 0, none⟩), .pointer (some ⟨bQ, 0, none⟩), .pointer (some ⟨b, 0, none⟩), .pointer (some ⟨b + 1 + 1, 0, none⟩)] W' (FewR w b bC bQ C a1 a2 c1 c2 q (X'.or (T m' l')) W')) :
    Calls Tryz.prog 60 #[.int .i64 n, .int .i64 m, lv, .pointer (some ⟨b + 1, 0, none⟩), .pointer (some ⟨bC, 0, none⟩), .pointer (some ⟨bQ, 0, none⟩), .pointer (some ⟨b, 0, none⟩), .pointer (some ⟨b + 1 + 1, 0, none⟩)] Wy (FewR w b bC bQ C a1 a2 c1 c2 q ((if (n : Int) ≠ q then T (m - 1) (l ++ [(n : Int)]) else none).or (T m l)) Wy) := by
  obtain ⟨R, hR⟩ : ∃ R, (if (n : Int) ≠ q then T (m - 1) (l ++ [(n : Int)]) else none).or (T m l) = R := ⟨_, rfl⟩
  rw [hR]
  have HR := Lib.hid hR
  clear hR
  have HIH := Lib.hid IH
  clear IH
  obtain ⟨A, c, rfl, _, hA⟩ := own_ints hrow (by have := hok.n2; omega)
  have k1 : Wy.cell? ⟨b + 1, 0, none⟩ = some (.bool false) := hG.b1.cell 0
  have l1 := hG.b1.lt
  have k2 : Wy.cell? ⟨bC, 0, none⟩ = some (.int .i64 N) := by rw [← hN]; exact (hG.bc.aft hG.aft).cell 0
  have l2 := (hG.bc.aft hG.aft).lt
  have k3 : Wy.cell? ⟨bQ, 0, none⟩ = some (.int .i64 q) := (hG.bq.aft hG.aft).cell 0
  have l3 := (hG.bq.aft hG.aft).lt
  have t1 : ((m : Int) == 0) = false := beq_eq_false_iff_ne.2 (by omega)
  have t2 : decide (n < N) = true := by simp; omega
  have hn14 : n < 14 := by have := hok.n2; omega
  have HG := Lib.hid hG
  have HROW := Lib.hid hrow
  have HAI := Lib.hid hA
  have HLL := Lib.hid hl
  have hge := hG.ge
  have hsz := hG.b2.lt
  clear hG hrow hl hok hN hnN hA
  have HC7 : Hid (∀ Wy', Aft Wy Wy' → Wy'.cell? ⟨b + 1 + 1, 0, none⟩ = some (.func (.func 60) #[] #[.pointer (some ⟨b + 1, 0, none⟩), .pointer (some ⟨bC, 0, none⟩), .pointer (some ⟨bQ, 0, none⟩), .pointer (some ⟨b, 0, none⟩), .pointer (some ⟨b + 1 + 1, 0, none⟩)])) := Lib.hid fun Wy' h => (HG.out.b2.aft h).cell 0
  have HCL : Hid (∀ Wy', Aft Wy Wy' → Calls Tryz.prog 63 #[.slice A l.length c] Wy' (OwnInts Wy' l)) := Lib.hid fun Wy' h => clone84 A l c Wy' (HAI.out.aft h)
  by_cases hnq : n = q
  · have t3 : ((n : Int) != (q : Int)) = false := by subst hnq; simp
    have HNQ := Lib.hid hnq
    clear hnq
    have z1 := HC7.out Wy (Aft.refl _)
    have HI := Lib.hid (HIH.out m l _ none Wy HLL.out (by omega) hm HROW.out HG.out)
    go_enter Tryz.func60, Tryz.ntmps60
    go_wp2_with (go_at_call 60; refine HI.out.mono ?_; rintro e w9 ⟨⟨v9, rfl⟩, hg9, hk9⟩; have HG9 := Lib.hid hg9; have HK9 := Lib.hid hk9; clear hg9 hk9)
    refine bodyPost_ret (v := .tuple #[]) (by simp [results, Tryz.results60, go_sem]) rfl ?_
    have eT : none.or (T m l) = R := by rw [← HR.out, if_neg (by rw [HNQ.out]; simp)]
    rw [← eT]
    exact ⟨⟨_, rfl⟩, HG9.out, HK9.out⟩
  · have t3 : ((n : Int) != (q : Int)) = true := by simp; omega
    have HNQ := Lib.hid (show (n : Int) ≠ q by omega)
    clear hnq
    go_enter Tryz.func60, Tryz.ntmps60
    go_upto_region 6 with (fail)
    refine wp_region_valsU (by kernel_rfl) 10 53 rfl (by kernel_rfl) (by kernel_rfl) [some (.func (.func 60) #[] #[.pointer (some ⟨b + 1, 0, none⟩), .pointer (some ⟨bC, 0, none⟩), .pointer (some ⟨bQ, 0, none⟩), .pointer (some ⟨b, 0, none⟩), .pointer (some ⟨b + 1 + 1, 0, none⟩)]), some (.int .i64 n), some (.int .i64 ((n : Int) + 1)), some (.int .i64 m), some (.int .i64 ((m - 1 : Nat) : Int)), some (.slice A l.length c), none, some (.int .i64 n), none, none] (by kernel_rfl) rfl (Tri Wy l n 6 8 9 42 44 45) (Tri.start) ?st2 ?fi2
    case st2 =>
      intro i o v ho hv
      match i, ho, hv with
      | 0, ho, hv =>
        cases ho; cases hv
        refine .inl ⟨rfl, fun done a W hz hd hp hk hw K hK => ?_⟩
        have e7 := hk.same 7 (by decide)
        exact op_val (v := .func (.func 60) #[] #[.pointer (some ⟨b + 1, 0, none⟩), .pointer (some ⟨bC, 0, none⟩), .pointer (some ⟨bQ, 0, none⟩), .pointer (some ⟨b, 0, none⟩), .pointer (some ⟨b + 1 + 1, 0, none⟩)]) (by simp [go_sem, ev' e7, HC7.out W hw.aft]) (hK _ _ (fun u hu => by cases hu; rfl) (hw.keep (Aft.refl _) (by decide) (by decide)))
      | 1, ho, hv =>
        cases ho; cases hv
        refine .inl ⟨rfl, fun done a W hz hd hp hk hw K hK => ?_⟩
        have e0 := hk.same 0 (by decide)
        exact op_val (v := .int .i64 n) (by simp [go_sem, ev' e0]) (hK _ _ (fun u hu => by cases hu; rfl) (hw.keep (Aft.refl _) (by decide) (by decide)))
      | 2, ho, hv =>
        cases ho; cases hv
        refine .inl ⟨rfl, fun done a W hz hd hp hk hw K hK => ?_⟩
        have e37 := hk.at_ 1 _ 37 _ rfl (by decide) _ rfl rfl rfl
        refine op_val (v := .int .i64 ((n : Int) + 1)) ?_ (hK _ _ (fun u hu => by cases hu; rfl) (hw.keep (Aft.refl _) (by decide) (by decide)))
        simp [go_sem, ev' e37]
        rw [IntKind.wrap_i64]
        omega
      | 3, ho, hv =>
        cases ho; cases hv
        refine .inl ⟨rfl, fun done a W hz hd hp hk hw K hK => ?_⟩
        have e1 := hk.same 1 (by decide)
        exact op_val (v := .int .i64 m) (by simp [go_sem, ev' e1]) (hK _ _ (fun u hu => by cases hu; rfl) (hw.keep (Aft.refl _) (by decide) (by decide)))
      | 4, ho, hv =>
        cases ho; cases hv
        refine .inl ⟨rfl, fun done a W hz hd hp hk hw K hK => ?_⟩
        have e39 := hk.at_ 3 _ 39 _ rfl (by decide) _ rfl rfl rfl
        refine op_val (v := .int .i64 ((m - 1 : Nat) : Int)) ?_ (hK _ _ (fun u hu => by cases hu; rfl) (hw.keep (Aft.refl _) (by decide) (by decide)))
        simp [go_sem, ev' e39]
        rw [IntKind.wrap_i64]
        omega
      | 5, ho, hv =>
        cases ho; cases hv
        refine .inl ⟨rfl, fun done a W hz hd hp hk hw K hK => ?_⟩
        have e2 := hk.same 2 (by decide)
        exact op_val (v := .slice A l.length c) (by simp [go_sem, ev' e2]) (hK _ _ (fun u hu => by cases hu; rfl) (hw.keep (Aft.refl _) (by decide) (by decide)))
      | 6, ho, hv =>
        cases ho; cases hv
        refine .inl ⟨rfl, fun done a W hz hd hp hk hw K hK => ?_⟩
        have e41 := hk.at_ 5 _ 41 _ rfl (by decide) _ rfl rfl rfl
        refine op_callN rfl rfl rfl _ rfl (vs := #[.slice A l.length c]) (by simp [e41]) (HCL.out W hw.aft) fun e w' h => ?_
        obtain ⟨v1, rfl, hrow, ha⟩ := h
        exact ⟨v1, rfl, hK _ _ (fun u hu => by cases hu) (hw.stepA hd ha hrow (by rw [hz]; decide) (by decide) (by decide))⟩
      | 7, ho, hv =>
        cases ho; cases hv
        refine .inl ⟨rfl, fun done a W hz hd hp hk hw K hK => ?_⟩
        have e0 := hk.same 0 (by decide)
        exact op_val (v := .int .i64 n) (by simp [go_sem, ev' e0]) (hK _ _ (fun u hu => by cases hu; rfl) (hw.keep (Aft.refl _) (by decide) (by decide)))
      | 8, ho, hv =>
        cases ho; cases hv
        refine .inl ⟨rfl, fun done a W hz hd hp hk hw K hK => ?_⟩
        have e43 := hk.at_ 7 _ 43 _ rfl (by decide) _ rfl rfl rfl
        exact op_valW (w' := W.alloc (.cells #[.int .i64 n] 3)) (v := .slice (some ⟨W.heap.size, 0, none⟩) 1 1) (by simp [go_sem, ev' e43]) (hK _ _ (fun u hu => by cases hu) (hw.stepB hd (by rw [hz]; decide) (by decide) (by decide)))
      | 9, ho, hv =>
        cases ho; cases hv
        refine .inl ⟨rfl, fun done a W hz hd hp hk hw K hK => ?_⟩
        exact hw.stepC (hp 6 (by decide)) (hp 8 (by decide)) hd (by decide) rfl rfl (by rw [hz]; decide) (by omega) (fun y w' hy => hK _ _ (fun u hu => by cases hu) hy)
      | _ + 10, _, hv => cases hv
    intro done us W hus hd hw
    obtain ⟨x1, x2, x3, rfl⟩ := list3 hus
    have hrow3 : W.ownsRow Wy.heap.size 3 1 x3 (l ++ [(n : Int)]).length ((l ++ [(n : Int)]).map (Value.int .i64)) := by
      have := hw.rowC (hd 9 (by decide))
      simpa [fill, putAll, Act.put, Act.eval] using this
    have HA := Lib.hid hw.aft
    obtain ⟨l2, hl2⟩ : ∃ l2, l ++ [(n : Int)] = l2 := ⟨_, rfl⟩
    have hlen2 : l2.length ≤ n + 1 := by rw [← hl2]; simp; omega
    have HLN2 : Hid (∀ x ∈ l2, 0 ≤ x ∧ x < N) := Lib.hid fun x hx => by
      rw [← hl2] at hx
      rcases List.mem_append.1 hx with h | h
      · exact HLL.out x h
      · rw [List.mem_singleton] at h; omega
    rw [hl2] at hrow3
    have HL2 := Lib.hid hl2
    clear hl2
    obtain ⟨A3, c3, rfl, _, _⟩ := own_ints hrow3 (by omega)
    have HI1 := Lib.hid (HIH.out (m - 1) l2 _ none W HLN2.out hlen2 (by omega) (World.ownsRow.mono hrow3 (by omega)) (HG.out.later HA.out))
    clear hw hd hus hrow3
    simp only [fill, List.drop_succ_cons, List.drop_zero, List.zip_cons_cons, List.zip_nil_right, putAll]
    simp only [Act.put, List.setIfInBounds_toArray, List.set]
    go_upto_region 7 with (go_at_call 60; refine HI1.out.mono ?_; rintro e w8 ⟨⟨v8, rfl⟩, hg8, hk8⟩; have HG8 := Lib.hid hg8; have HK8 := Lib.hid ((Kq.of_aft HA.out).trans hk8); clear hg8 hk8)
    have z1 : w8.cell? ⟨b + 1 + 1, 0, none⟩ = some (.func (.func 60) #[] #[.pointer (some ⟨b + 1, 0, none⟩), .pointer (some ⟨bC, 0, none⟩), .pointer (some ⟨bQ, 0, none⟩), .pointer (some ⟨b, 0, none⟩), .pointer (some ⟨b + 1 + 1, 0, none⟩)]) := HG8.out.b2.cell 0
    have z2 := HG8.out.b2.lt
    have HI2 := Lib.hid (HIH.out m l (.slice A l.length c) _ w8 HLL.out (by omega) hm (own_kq HROW.out HK8.out) HG8.out)
    go_wp2_with (go_at_call 60; refine HI2.out.mono ?_; rintro e w9 ⟨⟨v9, rfl⟩, hg9, hk9⟩; have HG9 := Lib.hid hg9; have HK9 := Lib.hid hk9; clear hg9 hk9)
    refine bodyPost_ret (v := .tuple #[]) (by simp [results, Tryz.results60, go_sem]) rfl ?_
    have eT : (none.or (T (m - 1) l2)).or (T m l) = R := by rw [← HR.out, if_pos HNQ.out, HL2.out, Option.none_or]
    rw [← eT]
    exact ⟨⟨_, rfl⟩, HG9.out, HK8.out.trans HK9.out⟩

theorem few_any (w : World) (b bC bQ N q : Nat) (C : CaseL) (a1 a2 : Option Addr) (c1 c2 : Nat) (hok : CaseOk C) (hN : C.claims = N) (hq : q < N) : ∀ (k n m : Nat) (l : List Int) (lv : Value) (X : Option (List Int)) (W : World), n + k = N → (∀ x ∈ l, 0 ≤ x ∧ x < N) → l.length ≤ n → m ≤ 1000 → W.ownsRow (b + 2) 3 1 lv l.length (l.map (Value.int .i64)) → FI w b bC bQ C a1 a2 c1 c2 q X W →
    Calls Tryz.prog 60 #[.int .i64 n, .int .i64 m, lv, .pointer (some ⟨b + 1, 0, none⟩), .pointer (some ⟨bC, 0, none⟩), .pointer (some ⟨bQ, 0, none⟩), .pointer (some ⟨b, 0, none⟩), .pointer (some ⟨b + 1 + 1, 0, none⟩)] W (FewR w b bC bQ C a1 a2 c1 c2 q (X.or (tryW C.strikes N q k n m l)) W)
  | k, n, m, l, lv, some L, W, hn, hl, hll, hm, hrow, hG => few_met w b bC bQ N q C a1 a2 c1 c2 hok hN hq n m l lv W hl hll (by omega) hm hrow L hG
  | k, n, 0, l, lv, none, W, hn, hl, hll, hm, hrow, hG => by
    rw [Option.none_or, Court.tryW_zero]
    exact few_zero w b bC bQ N q C a1 a2 c1 c2 hok hN hq n 0 l lv W hl hll (by omega) hm hrow rfl hG
  | 0, n, m + 1, l, lv, none, W, hn, hl, hll, hm, hrow, hG => by
    rw [Option.none_or, Court.tryW_end]
    exact few_end w b bC bQ N q C a1 a2 c1 c2 hok hN hq n (m + 1) l lv W hl hll (by omega) hm hrow (by omega) (by omega) hG
  | k + 1, n, m + 1, l, lv, none, W, hn, hl, hll, hm, hrow, hG => by
    rw [Option.none_or, Court.tryW_step]
    refine few_step w b bC bQ N q C a1 a2 c1 c2 hok hN hq n (m + 1) l lv W hl hll (by omega) hm hrow (by omega) (by omega) hG (fun m' l' => tryW C.strikes N q k (n + 1) m' l') fun m' l' lv' X' W' h1 h2 h3 h4 h5 => ?_
    have h := few_any w b bC bQ N q C a1 a2 c1 c2 hok hN hq k (n + 1) m' l' lv' X' W' (by omega) h1 h2 h3 h4 h5
    rw [show ((n : Int) + 1) = ((n + 1 : Nat) : Int) by omega]
    exact h
end Go.Proofs
end
