/- Own texts, merged: CtDl CtWo0. -/
import Derived.Test.YtbchfakfdikkjaaGreatP06
import Derived.Test.YtbchfakfdikkjaaGreatP12
import Derived.Test.YtbchfakfdikkjaaGreatP17
import Derived.Shelf.Slices.Cells
set_option linter.unusedSimpArgs false
set_option linter.unusedVariables false
set_option linter.unnecessarySimpa false
section
namespace Go.Proofs
open Go.RowKit Go.Shelf

def delRen : Go.Shelf.Ren := ⟨fun | 23 => 46 | n => n, fun | 22 => 33 | n => n, fun n => n⟩
theorem delLay : Lays2.n23 Tryz.prog delRen := {
  mixed := by kernel_rfl
  f23 := Tryz.func46.trans (congrArg some (by kernel_rfl))
  t0 := Tryz.underlying0
  a0 := Tryz.isAgg0
  z0 := Tryz.sizeOf0
  v0 := Tryz.zeroValue0
  t3 := Tryz.underlying3
  a3 := Tryz.isAgg3
  z3 := Tryz.sizeOf3
  v3 := Tryz.zeroValue3
  t4 := Tryz.underlying4
  a4 := Tryz.isAgg4
  z4 := Tryz.sizeOf4
  v4 := Tryz.zeroValue4
  t22 := Tryz.underlying33
  a22 := Tryz.isAgg33
  z22 := Tryz.sizeOf33
  v22 := Tryz.zeroValue33
  i3 := by kernel_rfl }

theorem delete_own (w : World) (base g cap : Nat) (ks : List Int) (i : Nat) (h : w.ownsRow base 3 1 (.slice (some ⟨g, 0, none⟩) ks.length cap) ks.length (ks.map (Value.int .i64))) (hi : i < ks.length) (hkl : ks.length ≤ 1000) :
    Calls Tryz.prog 46 #[.slice (some ⟨g, 0, none⟩) ks.length cap, .int .i64 i, .int .i64 (i + 1)] w fun e w' => e = .returned (.slice (some ⟨g, 0, none⟩) (ks.eraseIdx i).length cap) ∧ w.grownBy w' (some g) ∧ Ints w' (some ⟨g, 0, none⟩) (ks.eraseIdx i) := by
  rcases h.2 with ⟨h', _⟩ | ⟨g', cap', cur, h', hb, hheap, hnc, hcm, hcs, htake⟩
  · simp at h'
  cases h'
  have hm : cap ≤ 9223372036854775807 := hcm
  have hc : ∀ j, j < ks.length → w.cell? ⟨g, 0 + j, none⟩ = some (.int .i64 (ks.getD j 0)) := fun j hj => by
    have := h.cells (g := g) rfl j (.int .i64 ks[j]) (by simp [hj])
    rw [Addr.add_lit] at this
    rw [this, List.getD_eq_getElem?_getD, List.getElem?_eq_getElem hj]
    rfl
  have hf : ∀ j, j < ks.length → w.frozen? ⟨g, 0 + j, none⟩ = false := fun j _ => h.frozenAt (0 + j)
  have hd := Any.slices_Delete_int_cells delLay g 0 ks.length cap i (i + 1) ks w (Nat.le_refl _) hnc hm (by omega) hi hc hf
  have hel : (ks.eraseIdx i).length = ks.length - 1 := by rw [List.length_eraseIdx]; simp [hi]
  have el : (ks.take ks.length).take i ++ (ks.take ks.length).drop (i + 1) = ks.eraseIdx i := by rw [List.take_length, List.eraseIdx_eq_take_drop_succ]
  rw [el, show i + 1 - i = 1 by omega, ← hel] at hd
  refine Calls.mono (show Calls Tryz.prog 46 #[.slice (some ⟨g, 0, none⟩) ks.length cap, .int .i64 i, .int .i64 (i + 1)] w _ from hd) ?_
  rintro e w' ⟨rfl, q, rfl⟩
  refine ⟨rfl, World.grownBy.trans (only_of_aft (Aft.drewN w q) _) (only_setCells _ 0 _ (only_refl _ _)), ?_⟩
  generalize hV : (ks.eraseIdx i ++ List.replicate 1 0).map (Value.int .i64) = V
  have hVl : V.length = ks.length := by rw [← hV]; simp [hel]; omega
  have hVg : ∀ j, (hj : j < (ks.eraseIdx i).length) → V[j]? = some (.int .i64 (ks.eraseIdx i)[j]) := fun j hj => by
    rw [← hV, List.getElem?_map, List.getElem?_append_left hj, List.getElem?_eq_getElem hj]; rfl
  have hin := World.cell?_setCells_in g V 0 (w.drewN q) (fun j hj => by
    show (w.cell? ⟨g, 0 + j, none⟩).isSome = true
    rw [hc j (by omega)]; rfl)
  have hgl : g < w.heap.size := (Array.getElem?_eq_some_iff.1 hheap).1
  have hsz := (only_setCells V 0 (w.drewN q) (only_refl _ (some g))).size
  refine ⟨?_, .inr ⟨g, 0, rfl, Nat.lt_of_lt_of_le hgl hsz, fun j hj => ⟨[.int .i64 (ks.eraseIdx i)[j]], rfl, rfl, fun t ht => ?_⟩⟩⟩
  · rw [hel]; omega
  · have : t = 0 := by simp at ht; omega
    subst this
    have h1 := hin j (by omega)
    simp only [Nat.mul_one, Nat.add_zero, List.getElem_cons_zero]
    rw [h1, ← List.getElem?_eq_getElem, hVg j hj]
end Go.Proofs
end

section
namespace Go.Proofs
open Go.RowKit
attribute [local go_sem] Oper.semAt_some
theorem runs_48 (args : Array Value) (w : World) : (callFunc 48 args).run Tryz.prog w = .ok (.enter 48 args) w := by simp [go_sem]
theorem won1_any (x q : Int) (b : Nat) (w : World) (hb : Blk w b 3 #[.int .i64 q]) : Calls Tryz.prog 48 #[.int .i64 x, .pointer (some ⟨b, 0, none⟩)] w fun e w' => e = .returned (.bool (x == q)) ∧ Aft w w' := by
  have k0 : w.cell? ⟨b, 0, none⟩ = some (.int .i64 q) := hb.cell 0
  have k1 := hb.lt
  clear hb
  go_enter Tryz.func48, Tryz.ntmps48
  go_wp2_with fail
  go_ret
  exact ⟨rfl, Aft.refl _⟩
theorem df_none (q : Int) (b : Nat) (w : World) : Calls Tryz.prog 47 #[.slice none 0 0, .func (.func 48) #[] #[.pointer (some ⟨b, 0, none⟩)]] w fun e w' => e = .returned (.slice none 0 0) ∧ Aft w w' := by
  have HI := Lib.hid (indexFunc_int IntR 48 [.pointer (some ⟨b, 0, none⟩)] (fun _ => false) none [] 0 w ⟨by simp, .inl rfl⟩ runs_48 (fun x hx => by cases hx))
  go_enter Tryz.func47, Tryz.ntmps47
  go_wp2_with (go_at_call 95; refine HI.out.mono ?_; rintro e w1 ⟨(⟨rfl, hany⟩ | ⟨k, hkl, rfl, hpk, hany⟩), u, rfl⟩)
  go_wp2
  go_ret
  exact ⟨rfl, Aft.lat _ _⟩
theorem df_own {w : World} {base : Nat} {v : Value} {l : List Int} (h : w.ownsRow base 3 1 v l.length (l.map (Value.int .i64))) (hl : l.length ≤ 1000000) (q : Int) (b : Nat) (hb : Blk w b 3 #[.int .i64 q]) (hbb : b < base) :
    Calls Tryz.prog 47 #[v, .func (.func 48) #[] #[.pointer (some ⟨b, 0, none⟩)]] w fun e w' => ∃ A c, e = .returned (.slice A (l.filter fun x => !(x == q)).length c) ∧ Ints w' A (l.filter fun x => !(x == q)) ∧ w.grownBy w' v.ownBlock := by
  rcases h.2 with ⟨rfl, h0⟩ | ⟨g, cap, cur, rfl, hg, hh, hc, hm, hs, ht⟩
  · have : l = [] := List.eq_nil_of_length_eq_zero h0
    subst this
    exact (df_none q b w).mono fun e w' ⟨h1, h2⟩ => ⟨none, 0, h1, ⟨by simp, .inl rfl⟩, only_of_aft h2 _⟩
  · have hn : Nums cur l := ⟨by omega, fun t ht' => by
      have h1 : (cur.toList.take (l.length * 1))[t]? = (l.map (Value.int .i64))[t]? := by rw [ht]
      rw [List.getElem?_take_of_lt (by omega)] at h1
      rw [← Array.getElem?_toList, h1]
      simp [ht']⟩
    have := deleteFunc_blk (fun W => Blk W b 3 #[.int .i64 q]) g (fun W W' h h' => h.aft h') (fun W i v h => h.far (p := ⟨g, i, none⟩) (by show b ≠ g; omega) v) 48 [.pointer (some ⟨b, 0, none⟩)] (fun x => x == q) l cap cur w (by omega) hh hn hc hb runs_48 (fun x _ W hW => won1_any x q b W hW)
    refine this.mono ?_
    rintro e w' ⟨rfl, hg2, cs', _, hb2, hn2⟩
    exact ⟨_, _, rfl, Nums.ints hb2 hn2 (Nat.le_trans (List.length_filter_le _ _) (by omega)), hg2⟩

structure Ex (d : Nat) (w W : World) : Prop where
  size : w.heap.size ≤ W.heap.size
  same : ∀ k, k < w.heap.size → k ≠ d → W.heap[k]? = w.heap[k]?
theorem Ex.refl (d : Nat) (w : World) : Ex d w w := ⟨Nat.le_refl _, fun _ _ _ => rfl⟩
theorem Ex.trans {d : Nat} {w w' w'' : World} (h : Ex d w w') (k : Ex d w' w'') : Ex d w w'' := ⟨Nat.le_trans h.size k.size, fun i h1 h2 => (k.same i (Nat.lt_of_lt_of_le h1 h.size) h2).trans (h.same i h1 h2)⟩
theorem Ex.next {d : Nat} {w W W' : World} {row : Option Nat} (h : Ex d w W) (hg : W.grownBy W' row) (hr : ∀ k, row = some k → k = d ∨ w.heap.size ≤ k) : Ex d w W' :=
  ⟨Nat.le_trans h.size hg.size, fun k h1 h2 => (hg.block k (Nat.lt_of_lt_of_le h1 h.size) (fun e => by have := hr k e.symm; omega)).trans (h.same k h1 h2)⟩
theorem Ex.deal {d : Nat} {w W W' : World} (h : Ex d w W) (hg : W.grownBy W' (some d)) : Ex d w W' := h.next hg fun k e => by cases e; exact .inl rfl
theorem Ex.aft {d : Nat} {w W W' : World} (h : Ex d w W) (ha : Aft W W') : Ex d w W' := h.deal (only_of_aft ha _)
theorem Ex.sm {d b : Nat} {w W : World} (h : Ex d w W) (hd : d < b) : Sm b w W := ⟨h.size, fun k h1 h2 => h.same k h2 (by omega)⟩
theorem Sm.ex {b d : Nat} {w W W' : World} (h : Sm b w W) (hx : Ex d W W') (hd : w.heap.size ≤ d) : Sm b w W' := ⟨Nat.le_trans h.size hx.size, fun k h1 h2 => (hx.same k (Nat.lt_of_lt_of_le h2 h.size) (by omega)).trans (h.same k h1 h2)⟩
theorem own_ex {d base : Nat} {w W : World} {t : TypeId} {size : Nat} {v : Value} {n : Nat} {xs : List Value} (h : w.ownsRow base t size v n xs) (hs : Ex d w W) (hb : d < base) : W.ownsRow base t size v n xs := own_sm h (hs.sm hb) (Nat.le_refl _)
theorem blk_ex {d : Nat} {w W : World} {g : Nat} {t : TypeId} {cs : Array Value} (h : Blk w g t cs) (hs : Ex d w W) (hg : g ≠ d) : Blk W g t cs := (hs.same g h.lt hg).trans h
theorem ints_same {w W : World} {A : Option Addr} {l : List Int} (h : Ints w A l) (hs : Sm 0 w W) : Ints W A l := by
  refine ⟨h.1, ?_⟩
  rcases h.2 with h2 | ⟨b, o, rfl, hb, hc⟩
  · exact .inl h2
  · refine .inr ⟨b, o, rfl, Nat.lt_of_lt_of_le hb hs.size, fun i hi => ?_⟩
    obtain ⟨vs, h1, h2, h3⟩ := hc i hi
    exact ⟨vs, h1, h2, fun j hj => (World.cell?_of_block (hs.same b (Nat.zero_le _) hb)).trans (h3 j hj)⟩
theorem own_intsX {d base : Nat} {w : World} {v : Value} {l : List Int} (h : w.ownsRow base 3 1 v l.length (l.map (Value.int .i64))) (hl : l.length ≤ 17592186043904) (hd : d < base) : ∃ A c, v = .slice A l.length c ∧ ∀ W, Ex d w W → Ints W A l := by
  obtain ⟨A, c, e, hi⟩ := IntsS.of_own (b := base) h hl (Nat.le_refl _)
  exact ⟨A, c, e, fun W hW => hi W (hW.sm hd)⟩
open Court (refL begF noS award winB FewIs)
theorem unstruck_wins {S : List (Int × Int)} {N : Nat} {c : Int} (hc : 0 ≤ c ∧ c < N) (h : ∀ s ∈ S, s.2 ≠ c) : winB S N c [] = true := by
  have hr : refL [] c ≠ true := by simp [refL]
  have h1 := Court.award_rule (S := S) (ref := refL []) (N := N) hc hr
  have h2 : Court.rule S noS (award S noS N (begF (refL []))) c = 1 := by
    refine Court.rule_one.2 ⟨?_, ?_⟩
    · cases q : Court.struckB S noS (award S noS N (begF (refL []))) c 1 with
      | false => rfl
      | true => obtain ⟨-, s, hs, e, -⟩ := Court.struck_iff.1 q; exact absurd e (h s hs)
    · cases q : Court.struckB S noS (award S noS N (begF (refL []))) c 0 with
      | false => rfl
      | true => obtain ⟨-, s, hs, e, -⟩ := Court.struck_iff.1 q; exact absurd e (h s hs)
  unfold winB
  rw [← h1, h2]
  rfl
theorem few_len {S : List (Int × Int)} {N : Nat} {c : Int} {L : List Int} (h : FewIs S N c L) : L.length ≤ N := by
  obtain ⟨⟨h1, h2⟩, -⟩ := h.facts
  have := Court.nodup_sub_len (l := L) (m := Court.allN N) (h1.imp fun h e => by omega) (fun x hx => Court.mem_allN.2 (by have := h2 x hx; omega))
  rw [allN_len] at this
  exact this
theorem sorted_erase {l : List Int} (h : l.Pairwise (· < ·)) (i : Nat) : (l.eraseIdx i).Pairwise (· < ·) := h.sublist (List.eraseIdx_sublist _ _)
theorem mem_erase {l : List Int} {i : Nat} {x : Int} (h : x ∈ l.eraseIdx i) : x ∈ l := (List.eraseIdx_sublist _ _).subset h
theorem rises_pair : ∀ {l : List Int}, risesB l = true → l.Pairwise (· < ·)
  | [], _ => List.Pairwise.nil
  | [_], _ => List.Pairwise.cons (fun y h => by cases h) List.Pairwise.nil
  | a :: b :: r, h => by
    simp only [risesB, Bool.and_eq_true] at h
    have ih := rises_pair (l := b :: r) h.2
    have hab : a < b := by simpa using h.1
    refine List.Pairwise.cons (fun y hy => ?_) ih
    rcases List.mem_cons.1 hy with rfl | hy
    · exact hab
    · have := (List.pairwise_cons.1 ih).1 y hy; omega
end Go.Proofs
end
