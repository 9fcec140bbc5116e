/- Own texts, merged: CtCl CtEq CtL33. -/
import Derived.Test.YtbchfakfdikkjaaP05
import Derived.Test.YtbchfakfdikkjaaP08
import Derived.Test.YtbchfakfdikkjaaP09
set_option linter.unusedSimpArgs false
set_option linter.unusedVariables false
set_option linter.unnecessarySimpa false
section
namespace Go.Proofs
open Go.RowKit
attribute [local go_sem] Oper.semAt_some

theorem OwnLists.sm {b base : Nat} {w W : World} {v : Value} {ls : List (List Int)} (h : OwnLists w base v ls) (hs : Sm b w W) (hb : b ≤ base) : OwnLists W base v ls :=
  let ⟨vs, h⟩ := h; ⟨vs, own_sm h.own hs hb, fun i hi hi' => own_sm (h.rows i hi hi') hs hb, h.apart⟩
theorem lists_own {b base : Nat} {w : World} {v : Value} {ls : List (List Int)} (h : OwnLists w base v ls) (hl : ls.length ≤ 1000000) (hr : ∀ l ∈ ls, l.length ≤ 1000000) (hb : b ≤ base) : ∃ A c, v = .slice A ls.length c ∧ ∀ X, Sm b w X → Lists X A ls := by
  obtain ⟨A, c, e, _, _⟩ := h.lists (by omega) (fun l hl => by have := hr l hl; omega)
  refine ⟨A, c, e, fun X hX => ?_⟩
  obtain ⟨A', c', e', _, hi⟩ := (h.sm hX hb).lists (by omega) (fun l hl => by have := hr l hl; omega)
  rw [e] at e'
  cases e'
  exact hi
theorem strs_src {w : World} {A : Option Addr} {l : List (Int × Int)} (h : Strs w A l) : ∀ ad, A = some ad → ∀ j u, (strC l)[j]? = some u → w.cell? (ad.add j) = some u := by
  intro ad e j u hj
  have hlen : (strC l).length = 2 * l.length := by
    clear hj h
    induction l with
    | nil => rfl
    | cons s r ih =>
      have e : strC (s :: r) = .int .i64 s.1 :: .int .i64 s.2 :: strC r := rfl
      rw [e]
      simp only [List.length_cons, ih]
      omega
  have hjl := (List.getElem?_eq_some_iff.1 hj).1
  have hlt : j / 2 < l.length := by omega
  obtain ⟨b, o, e2, _, hc⟩ := h.at hlt
  rw [e] at e2; cases e2
  obtain ⟨h1, h2⟩ := hc (j / 2) hlt
  obtain ⟨g1, g2⟩ := strC_get l (j / 2) hlt
  rw [Addr.add_lit]
  by_cases ho : j % 2 = 0
  · rw [show 2 * (j / 2) = j by omega, hj] at g1
    cases g1
    rw [show o + j = o + j / 2 * 2 by omega]
    exact h1
  · rw [show 2 * (j / 2) + 1 = j by omega, hj] at g2
    cases g2
    rw [show o + j = o + j / 2 * 2 + 1 by omega]
    exact h2
theorem strs_nil {w : World} {A : Option Addr} {l : List (Int × Int)} (h : Strs w A l) (e : A = none) : l.length = 0 := by
  rcases Nat.eq_zero_or_pos l.length with h0 | h0
  · exact h0
  · obtain ⟨b, o, e2, _⟩ := h.at h0
    rw [e] at e2; cases e2
theorem strs_one (l : List (Int × Int)) : ∀ u ∈ strC l, u.oneCell' = true := by
  intro u hu
  unfold strC at hu
  rw [List.mem_flatMap] at hu
  obtain ⟨s, _, hs⟩ := hu
  simp at hs
  rcases hs with rfl | rfl <;> rfl
theorem strC_len (l : List (Int × Int)) : (strC l).length = l.length * 2 := by
  induction l with
  | nil => rfl
  | cons s r ih =>
    have e : strC (s :: r) = .int .i64 s.1 :: .int .i64 s.2 :: strC r := rfl
    rw [e]
    simp only [List.length_cons, ih]
    omega

def OwnStrs (w0 : World) (l : List (Int × Int)) (e : Ending) (w' : World) : Prop := ∃ v, e = .returned v ∧ w'.ownsRow w0.heap.size 56 2 v l.length (strC l) ∧ Aft w0 w'
theorem kitClone_str (A : Option Addr) (l : List (Int × Int)) (c : Nat) (w : World) (hA : Strs w A l) (hl : l.length ≤ 1000000) :
    Calls Try.prog 27 #[.slice A l.length c] w (OwnStrs w l) := by
  go_enter Try.func27, Try.ntmps27
  go_wp2_with (at_builtin; refine wpList_app ty22 rfl _ _ rfl (Aft.refl w) rfl (World.ownsRow_nil w _ 56 2) rfl (strC_len l) (strs_nil hA) (strs_src hA) (strs_one l) (by omega) (by decide) ?_; intro v' w1 hown' hgrow haft)
  go_ret
  exact ⟨_, rfl, by simpa using hown', haft⟩

structure Cc (W0 : World) (S : List (Int × Int)) (T : List (List Int)) (done : Nat → Bool) (a : Act) (W : World) : Prop where
  aft : Aft W0 W
  s : done 4 = true → ∃ v, a.eval (.tmp 7) = v ∧ W.ownsRow W0.heap.size 56 2 v S.length (strC S)
  t : done 7 = true → ∃ v, a.eval (.tmp 10) = v ∧ OwnLists W W0.heap.size v T
section
variable {W0 W W' : World} {S : List (Int × Int)} {T : List (List Int)} {done : Nat → Bool} {a : Act}
theorem Cc.start : Cc W0 S T (fun _ => false) a W0.drew := ⟨Aft.drew _, (fun h => by cases h), (fun h => by cases h)⟩
theorem Cc.keep (h : Cc W0 S T done a W) {i : Nat} {dst : Option Tmp} {v : Value} (hi : i ≠ 4 ∧ i ≠ 7) (hd : dst ≠ some 7 ∧ dst ≠ some 10) : Cc W0 S T (upd done i) (a.put dst v) W := by
  refine ⟨h.aft, fun p => ?_, fun p => ?_⟩
  · rw [upd_ne' (Ne.symm hi.1)] at p
    obtain ⟨v, e, hs⟩ := h.s p
    exact ⟨v, by rw [evne hd.1]; exact e, hs⟩
  · rw [upd_ne' (Ne.symm hi.2)] at p
    obtain ⟨v, e, hs⟩ := h.t p
    exact ⟨v, by rw [evne hd.2]; exact e, hs⟩
theorem Cc.stepS (h : Cc W0 S T done a W) (ha : Aft W W') {v : Value} (hs : W'.ownsRow W0.heap.size 56 2 v S.length (strC S)) (hz : 7 < a.tmps.size) : Cc W0 S T (upd done 4) (a.put (some 7) v) W' := by
  refine ⟨h.aft.trans ha, fun _ => ⟨v, Act.eval_put_same _ _ _ hz, hs⟩, fun p => ?_⟩
  rw [upd_ne' (by decide)] at p
  obtain ⟨v, e, hs⟩ := h.t p
  exact ⟨v, by rw [evne (by decide)]; exact e, hs.aft ha⟩
theorem Cc.stepT (h : Cc W0 S T done a W) (ha : Aft W W') {v : Value} (ht : OwnLists W' W0.heap.size v T) (hz : 10 < a.tmps.size) : Cc W0 S T (upd done 7) (a.put (some 10) v) W' := by
  refine ⟨h.aft.trans ha, fun p => ?_, fun _ => ⟨v, Act.eval_put_same _ _ _ hz, ht⟩⟩
  rw [upd_ne' (by decide)] at p
  obtain ⟨v, e, hs⟩ := h.s p
  exact ⟨v, by rw [evne (by decide)]; exact e, own_aft hs ha⟩
end
theorem list2 {α : Type} {us : List α} (h : us.length = 2) : ∃ x y, us = [x, y] := by
  match us, h with
  | [x, y], _ => exact ⟨x, y, rfl⟩
def CopyR (t : TypeId) (C : CaseL) (w : World) (e : Ending) (w' : World) : Prop := ∃ v1 v2, e = .returned (.agg #[.int .i64 C.claims, v1, v2]) ∧ w'.ownsRow w.heap.size t 2 v1 C.strikes.length (strC C.strikes) ∧ OwnLists w' w.heap.size v2 C.surveys ∧ Aft w w'

set_option maxRecDepth 100000 in
set_option maxHeartbeats 4000000 in
theorem cloneCase_any (C : CaseL) (a1 a2 : Option Addr) (c1 c2 : Nat) (w : World) (hC : CRep w C a1 a2) (h1 : C.strikes.length ≤ 1000) (h2 : C.surveys.length ≤ 1000) (h3 : ∀ l ∈ C.surveys, l.length ≤ 1000) :
    Calls Try.prog 6 #[(.agg #[.int .i64 C.claims, .slice a1 C.strikes.length c1, .slice a2 C.surveys.length c2])] w (CopyR 56 C w) := by
  have H0 := Lib.hid ((Aft.alloc w (.cells #[.int .i64 C.claims, .slice a1 C.strikes.length c1, .slice a2 C.surveys.length c2] 25)).then_alloc (.cells #[.int .i64 0, .slice none 0 0, .slice none 0 0] 25))
  have HB := Lib.hid ((Blk.new w 25 #[.int .i64 C.claims, .slice a1 C.strikes.length c1, .slice a2 C.surveys.length c2]).alloc (.cells #[.int .i64 0, .slice none 0 0, .slice none 0 0] 25))
  have HB2 := Lib.hid (Blk.new (w.alloc (.cells #[.int .i64 C.claims, .slice a1 C.strikes.length c1, .slice a2 C.surveys.length c2] 25)) 25 #[.int .i64 0, .slice none 0 0, .slice none 0 0])
  rw [World.size_alloc] at HB2
  have HC := Lib.hid (hC.aft H0.out)
  have hz0 : w.heap.size + 1 < ((w.alloc (.cells #[.int .i64 C.claims, .slice a1 C.strikes.length c1, .slice a2 C.surveys.length c2] 25)).alloc (.cells #[.int .i64 0, .slice none 0 0, .slice none 0 0] 25)).heap.size := by simp
  clear hC
  go_enter Try.func6, Try.ntmps6
  go_upto_region 1 with fail
  try rw [World.size_alloc]
  obtain ⟨b1, hb1⟩ : ∃ b1, w.heap.size = b1 := ⟨_, rfl⟩
  have HW := Lib.hid hb1
  rw [hb1] at HB HB2 hz0 ⊢
  clear hb1
  generalize (w.alloc (.cells #[.int .i64 C.claims, .slice a1 C.strikes.length c1, .slice a2 C.surveys.length c2] 25)).alloc (.cells #[.int .i64 0, .slice none 0 0, .slice none 0 0] 25) = W0 at *
  have HC0 : Hid (∀ W, Aft W0 W → W.cell? ⟨b1, 0, none⟩ = some (.int .i64 C.claims) ∧ W.cell? ⟨b1, 1, none⟩ = some (.slice a1 C.strikes.length c1) ∧ W.cell? ⟨b1, 2, none⟩ = some (.slice a2 C.surveys.length c2)) := Lib.hid fun W h => box25 (HB.out.aft h)
  have H52 : Hid (∀ W, Aft W0 W → Calls Try.prog 27 #[.slice a1 C.strikes.length c1] W (OwnStrs W C.strikes)) := Lib.hid fun W h => kitClone_str a1 C.strikes c1 W (HC.out.aft h).strikes (by omega)
  have H53 : Hid (∀ W, Aft W0 W → Calls Try.prog 28 #[.slice a2 C.surveys.length c2] W fun e w' => ∃ v, e = .returned v ∧ OwnLists w' W.heap.size v C.surveys ∧ Aft W w') := Lib.hid fun W h => cloneAll_any W a2 C.surveys c2 (HC.out.aft h).surveys (by omega)
  have H3 := Lib.hid h3
  clear h3
  refine wp_region_valsU (by kernel_rfl) 8 12 rfl (by kernel_rfl) (by kernel_rfl) [some (.pointer (some ⟨b1, 0, none⟩)), some (.int .i64 C.claims), some (.pointer (some ⟨b1, 1, none⟩)), some (.slice a1 C.strikes.length c1), none, some (.pointer (some ⟨b1, 2, none⟩)), some (.slice a2 C.surveys.length c2), none] (by kernel_rfl) rfl (Cc W0 C.strikes C.surveys) (Cc.start) ?st1 ?fi1
  case st1 =>
    intro i o v ho hv
    match i, ho, hv with
    | 0, ho, hv =>
      cases ho; cases hv
      refine .inl ⟨rfl, fun done a W hz hd hp hk hw K hK => ?_⟩
      have e1 := hk.same 1 (by decide)
      exact op_val (v := .pointer (some ⟨b1, 0, none⟩)) (by simp [go_sem, ev' e1]) (hK _ _ (fun u hu => by cases hu; rfl) (hw.keep (by decide) (by decide)))
    | 1, ho, hv =>
      cases ho; cases hv
      refine .inl ⟨rfl, fun done a W hz hd hp hk hw K hK => ?_⟩
      have e3 := hk.at_ 0 _ 3 _ rfl (by decide) _ rfl rfl rfl
      exact op_val (v := .int .i64 C.claims) (by simp [go_sem, ev' e3, (HC0.out W hw.aft).1]) (hK _ _ (fun u hu => by cases hu; rfl) (hw.keep (by decide) (by decide)))
    | 2, ho, hv =>
      cases ho; cases hv
      refine .inl ⟨rfl, fun done a W hz hd hp hk hw K hK => ?_⟩
      have e1 := hk.same 1 (by decide)
      exact op_val (v := .pointer (some ⟨b1, 1, none⟩)) (by simp [go_sem, ev' e1]) (hK _ _ (fun u hu => by cases hu; rfl) (hw.keep (by decide) (by decide)))
    | 3, ho, hv =>
      cases ho; cases hv
      refine .inl ⟨rfl, fun done a W hz hd hp hk hw K hK => ?_⟩
      have e5 := hk.at_ 2 _ 5 _ rfl (by decide) _ rfl rfl rfl
      exact op_val (v := .slice a1 C.strikes.length c1) (by simp [go_sem, ev' e5, (HC0.out W hw.aft).2.1]) (hK _ _ (fun u hu => by cases hu; rfl) (hw.keep (by decide) (by decide)))
    | 4, ho, hv =>
      cases ho; cases hv
      refine .inl ⟨rfl, fun done a W hz hd hp hk hw K hK => ?_⟩
      have e6 := hk.at_ 3 _ 6 _ rfl (by decide) _ rfl rfl rfl
      refine op_callN rfl rfl rfl _ rfl (vs := #[.slice a1 C.strikes.length c1]) (by simp [e6]) (H52.out W hw.aft) fun e w' h => ?_
      obtain ⟨v1, rfl, ho, ha⟩ := h
      exact ⟨_, rfl, hK _ _ (fun u hu => by cases hu) (hw.stepS ha (own_base ho hw.aft.size) (by rw [hz]; decide))⟩
    | 5, ho, hv =>
      cases ho; cases hv
      refine .inl ⟨rfl, fun done a W hz hd hp hk hw K hK => ?_⟩
      have e1 := hk.same 1 (by decide)
      exact op_val (v := .pointer (some ⟨b1, 2, none⟩)) (by simp [go_sem, ev' e1]) (hK _ _ (fun u hu => by cases hu; rfl) (hw.keep (by decide) (by decide)))
    | 6, ho, hv =>
      cases ho; cases hv
      refine .inl ⟨rfl, fun done a W hz hd hp hk hw K hK => ?_⟩
      have e8 := hk.at_ 5 _ 8 _ rfl (by decide) _ rfl rfl rfl
      exact op_val (v := .slice a2 C.surveys.length c2) (by simp [go_sem, ev' e8, (HC0.out W hw.aft).2.2]) (hK _ _ (fun u hu => by cases hu; rfl) (hw.keep (by decide) (by decide)))
    | 7, ho, hv =>
      cases ho; cases hv
      refine .inl ⟨rfl, fun done a W hz hd hp hk hw K hK => ?_⟩
      have e9 := hk.at_ 6 _ 9 _ rfl (by decide) _ rfl rfl rfl
      refine op_callN rfl rfl rfl _ rfl (vs := #[.slice a2 C.surveys.length c2]) (by simp [e9]) (H53.out W hw.aft) fun e w' h => ?_
      obtain ⟨v1, rfl, ho, ha⟩ := h
      exact ⟨_, rfl, hK _ _ (fun u hu => by cases hu) (hw.stepT ha (ho.mono hw.aft.size) (by rw [hz]; decide))⟩
    | _ + 8, _, hv => cases hv
  intro done us W hus hd hw
  obtain ⟨x1, x2, rfl⟩ := list2 hus
  obtain ⟨v1, e7, hs⟩ := hw.s (hd 4 (by decide))
  obtain ⟨v2, e10, ht⟩ := hw.t (hd 7 (by decide))
  have e7' : x1 = v1 := by simpa [fill, putAll, Act.put, Act.eval] using e7
  have e10' : x2 = v2 := by simpa [fill, putAll, Act.put, Act.eval] using e10
  subst e7'
  subst e10'
  obtain ⟨A1, k1, hv1, _, _⟩ := own_strs hs (by omega)
  obtain ⟨A2, k2, hv2, _, _⟩ := ht.lists (by omega) (fun l hl => by have := H3.out l hl; omega)
  subst hv1
  subst hv2
  have HS := Lib.hid hs
  have HT := Lib.hid ht
  have HA := Lib.hid hw.aft
  clear hw hd hus e7 e10 hs ht
  simp only [fill, List.drop_succ_cons, List.drop_zero, List.zip_cons_cons, List.zip_nil_right, putAll]
  simp only [Act.put, List.setIfInBounds_toArray, List.set]
  have hk2 := HB2.out.aft HA.out
  have HTH := Lib.hid (blk_there hk2 (rfl : 3 = (#[Value.int .i64 0, .slice none 0 0, .slice none 0 0] : Array Value).size))
  obtain ⟨W9, hW9, hl9, hg9⟩ : ∃ W9, W.setCells (b1 + 1) 0 [.int .i64 C.claims, .slice A1 C.strikes.length k1, .slice A2 C.surveys.length k2] = W9 ∧ (loadVar 25 ⟨b1 + 1, 0, none⟩).run Try.prog W9 = .ok (.agg #[.int .i64 C.claims, .slice A1 C.strikes.length k1, .slice A2 C.surveys.length k2]) W9 ∧ W.grownBy W9 (some (b1 + 1)) :=
    ⟨_, rfl, run_loadVar_mid (P := Try.prog) _ (b1 + 1) 0 25 [.int .i64 C.claims, .slice A1 C.strikes.length k1, .slice A2 C.surveys.length k2] _ (World.rangeAt_setCells_same W (b1 + 1) 0 _ (blk_there hk2 rfl)) Try.underlying25 rfl info25b, only_setCells _ _ _ (only_refl _ _)⟩
  have HG9 := Lib.hid hg9
  have hlt2 := hk2.lt
  clear hk2 hg9
  go_wp2_with (refine wpList_store_mid rfl 25 (.tmp 2) (.tmp 11) rfl (b1 + 1) 0 #[.int .i64 C.claims, .slice A1 C.strikes.length k1, .slice A2 C.surveys.length k2] rfl rfl HTH.out info25b (all_oneCell_toArray (by intro v hv; simp at hv; rcases hv with rfl | rfl | rfl <;> rfl)) ?_; rw [hW9])
  have hsm : Sm W0.heap.size W W9 := Sm.of_grown HG9.out fun k e => by cases e; exact .inl hz0
  have hww := H0.out.size
  refine bodyPost_ret (v := .agg #[.int .i64 C.claims, .slice A1 C.strikes.length k1, .slice A2 C.surveys.length k2]) (by simp [results, Try.results6, Act.put, asAddr, hl9]) rfl ⟨_, _, rfl, own_base (own_sm HS.out hsm (Nat.le_refl _)) hww, (HT.out.sm hsm (Nat.le_refl _)).mono hww, (H0.out.trans HA.out).grown HG9.out (fun k e => by cases e; have := HW.out; omega)⟩

theorem own_kept_ty {w w' : World} {base g : Nat} {e t : TypeId} {size n : Nat} {v : Value} {xs : List Value} {cs : Array Value} (h : w.ownsRow base e size v n xs) (hb : Blk w g t cs) (hne : e ≠ t) (hg : w.grownBy w' (some g)) : w'.ownsRow base e size v n xs := by
  refine h.kept hg ?_
  rcases h.2 with ⟨rfl, _⟩ | ⟨k, cap, cur, rfl, _, hh, _⟩
  · exact .inl rfl
  · refine .inr fun e2 => ?_
    have e3 : k = g := Option.some.inj e2
    subst e3
    have hb' : w.heap[k]? = some (.cells cs t (0, 0)) := hb
    rw [hh] at hb'
    cases hb'
    exact hne rfl
theorem OwnLists.kept_ty {w w' : World} {base g : Nat} {t : TypeId} {v : Value} {ls : List (List Int)} {cs : Array Value} (h : OwnLists w base v ls) (hb : Blk w g t cs) (h1 : 26 ≠ t) (h2 : 3 ≠ t) (hg : w.grownBy w' (some g)) : OwnLists w' base v ls :=
  let ⟨vs, h⟩ := h; ⟨vs, own_kept_ty h.own hb h1 hg, fun i hi hi' => own_kept_ty (h.rows i hi hi') hb h2 hg, h.apart⟩
theorem OwnLists.kept_own {w w' : World} {base base' : Nat} {e : TypeId} {size n : Nat} {v v' : Value} {xs : List Value} {ls : List (List Int)} (h : OwnLists w base v ls) (h' : w.ownsRow base' e size v' n xs) (h1 : 26 ≠ e) (h2 : 3 ≠ e) (hg : w.grownBy w' v'.ownBlock) : OwnLists w' base v ls := by
  rcases h'.2 with ⟨rfl, _⟩ | ⟨k, cap, cur, rfl, _, hh, _⟩
  · obtain ⟨vs, h⟩ := h
    have q : ∀ u : Value, u.ownBlock = none ∨ u.ownBlock ≠ (Value.slice none 0 0).ownBlock := fun u => by
      cases hu : u.ownBlock with
      | none => exact .inl rfl
      | some g => exact .inr fun e => by cases e
    exact ⟨vs, h.own.kept hg (q v), fun i hi hi' => (h.rows i hi hi').kept hg (q vs[i]), h.apart⟩
  · exact h.kept_ty (g := k) (cs := cur) hh h1 h2 hg

structure Cs (W0 : World) (N : Int) (T : List (List Int)) (done : Nat → Bool) (a : Act) (W : World) : Prop where
  aft : Aft W0 W
  t4 : done 4 = true → ∃ v, a.eval (.tmp 10) = v ∧ OwnLists W W0.heap.size v T
  t5 : done 5 = true → ∃ v, a.eval (.tmp 11) = .agg #[.int .i64 N, .slice none 0 0, v] ∧ OwnLists W W0.heap.size v T
  t6 : done 6 = true → ∃ g, a.eval (.tmp 3) = .pointer (some ⟨g, 0, none⟩) ∧ W0.heap.size ≤ g ∧ Blk W g 33 #[.int .i64 0, .slice none 0 0, .slice none 0 0]
section
variable {W0 W W' : World} {N : Int} {T : List (List Int)} {done : Nat → Bool} {a : Act}
theorem Cs.start : Cs W0 N T (fun _ => false) a W0.drew := ⟨Aft.drew _, (fun h => by cases h), (fun h => by cases h), (fun h => by cases h)⟩
theorem Cs.keep (h : Cs W0 N T done a W) {i : Nat} {dst : Option Tmp} {v : Value} (hi : i ≠ 4 ∧ i ≠ 5 ∧ i ≠ 6) (hd : dst ≠ some 10 ∧ dst ≠ some 11 ∧ dst ≠ some 3) : Cs W0 N T (upd done i) (a.put dst v) W := by
  refine ⟨h.aft, fun p => ?_, fun p => ?_, fun p => ?_⟩
  · rw [upd_ne' (Ne.symm hi.1)] at p
    obtain ⟨v, e, hs⟩ := h.t4 p
    exact ⟨v, by rw [evne hd.1]; exact e, hs⟩
  · rw [upd_ne' (Ne.symm hi.2.1)] at p
    obtain ⟨v, e, hs⟩ := h.t5 p
    exact ⟨v, by rw [evne hd.2.1]; exact e, hs⟩
  · rw [upd_ne' (Ne.symm hi.2.2)] at p
    obtain ⟨g, e, hs⟩ := h.t6 p
    exact ⟨g, by rw [evne hd.2.2]; exact e, hs⟩
theorem Cs.step4 (h : Cs W0 N T done a W) (ha : Aft W W') {v : Value} (ht : OwnLists W' W0.heap.size v T) (hz : 10 < a.tmps.size) : Cs W0 N T (upd done 4) (a.put (some 10) v) W' := by
  refine ⟨h.aft.trans ha, fun _ => ⟨v, Act.eval_put_same _ _ _ hz, ht⟩, fun p => ?_, fun p => ?_⟩
  · rw [upd_ne' (by decide)] at p
    obtain ⟨v, e, hs⟩ := h.t5 p
    exact ⟨v, by rw [evne (by decide)]; exact e, hs.aft ha⟩
  · rw [upd_ne' (by decide)] at p
    obtain ⟨g, e, hs, hb⟩ := h.t6 p
    exact ⟨g, by rw [evne (by decide)]; exact e, hs, hb.aft ha⟩
theorem Cs.step5 (h : Cs W0 N T done a W) {v : Value} (ht : OwnLists W W0.heap.size v T) (hz : 11 < a.tmps.size) : Cs W0 N T (upd done 5) (a.put (some 11) (.agg #[.int .i64 N, .slice none 0 0, v])) W := by
  refine ⟨h.aft, fun p => ?_, fun _ => ⟨v, Act.eval_put_same _ _ _ hz, ht⟩, fun p => ?_⟩
  · rw [upd_ne' (by decide)] at p
    obtain ⟨v, e, hs⟩ := h.t4 p
    exact ⟨v, by rw [evne (by decide)]; exact e, hs⟩
  · rw [upd_ne' (by decide)] at p
    obtain ⟨g, e, hs⟩ := h.t6 p
    exact ⟨g, by rw [evne (by decide)]; exact e, hs⟩
theorem Cs.step6 (h : Cs W0 N T done a W) (hz : 3 < a.tmps.size) : Cs W0 N T (upd done 6) (a.put (some 3) (.pointer (some ⟨W.heap.size, 0, none⟩))) (W.alloc (.cells #[.int .i64 0, .slice none 0 0, .slice none 0 0] 33)) := by
  refine ⟨h.aft.then_alloc _, fun p => ?_, fun p => ?_, fun _ => ⟨_, Act.eval_put_same _ _ _ hz, h.aft.size, Blk.new W 33 _⟩⟩
  · rw [upd_ne' (by decide)] at p
    obtain ⟨v, e, hs⟩ := h.t4 p
    exact ⟨v, by rw [evne (by decide)]; exact e, hs.aft (Aft.alloc _ _)⟩
  · rw [upd_ne' (by decide)] at p
    obtain ⟨v, e, hs⟩ := h.t5 p
    exact ⟨v, by rw [evne (by decide)]; exact e, hs.aft (Aft.alloc _ _)⟩
end
theorem info57c : (Try.prog.info? 56).map (·.size) = some 2 := by kernel_rfl

set_option maxRecDepth 100000 in
set_option maxHeartbeats 8000000 in
theorem caseR_any (C : CaseL) (a1 a2 : Option Addr) (c1 c2 : Nat) (w : World) (hC : CRep w C a1 a2) (h1 : C.strikes.length ≤ 1000) (h2 : C.surveys.length ≤ 1000) (h3 : ∀ l ∈ C.surveys, l.length ≤ 1000) :
    Calls Try.prog 8 #[(.agg #[.int .i64 C.claims, .slice a1 C.strikes.length c1, .slice a2 C.surveys.length c2])] w (CopyR 58 C w) := by
  have H0 := Lib.hid ((Aft.alloc w (.cells #[.int .i64 C.claims, .slice a1 C.strikes.length c1, .slice a2 C.surveys.length c2] 25)).then_alloc (.cells #[.int .i64 0, .slice none 0 0, .slice none 0 0] 33))
  have HB := Lib.hid ((Blk.new w 25 #[.int .i64 C.claims, .slice a1 C.strikes.length c1, .slice a2 C.surveys.length c2]).alloc (.cells #[.int .i64 0, .slice none 0 0, .slice none 0 0] 33))
  have HB2 := Lib.hid (Blk.new (w.alloc (.cells #[.int .i64 C.claims, .slice a1 C.strikes.length c1, .slice a2 C.surveys.length c2] 25)) 33 #[.int .i64 0, .slice none 0 0, .slice none 0 0])
  rw [World.size_alloc] at HB2
  have HC := Lib.hid (hC.aft H0.out)
  have hz0 : w.heap.size + 1 < ((w.alloc (.cells #[.int .i64 C.claims, .slice a1 C.strikes.length c1, .slice a2 C.surveys.length c2] 25)).alloc (.cells #[.int .i64 0, .slice none 0 0, .slice none 0 0] 33)).heap.size := by simp
  clear hC
  go_enter Try.func8, Try.ntmps8
  go_upto_region 1 with fail
  try rw [World.size_alloc]
  obtain ⟨b1, hb1⟩ : ∃ b1, w.heap.size = b1 := ⟨_, rfl⟩
  have HW := Lib.hid hb1
  rw [hb1] at HB HB2 hz0 ⊢
  clear hb1
  generalize (w.alloc (.cells #[.int .i64 C.claims, .slice a1 C.strikes.length c1, .slice a2 C.surveys.length c2] 25)).alloc (.cells #[.int .i64 0, .slice none 0 0, .slice none 0 0] 33) = W0 at *
  have HC0 : Hid (∀ W, Aft W0 W → W.cell? ⟨b1, 0, none⟩ = some (.int .i64 C.claims) ∧ W.cell? ⟨b1, 1, none⟩ = some (.slice a1 C.strikes.length c1) ∧ W.cell? ⟨b1, 2, none⟩ = some (.slice a2 C.surveys.length c2)) := Lib.hid fun W h => box25 (HB.out.aft h)
  have H53 : Hid (∀ W, Aft W0 W → Calls Try.prog 28 #[.slice a2 C.surveys.length c2] W fun e w' => ∃ v, e = .returned v ∧ OwnLists w' W.heap.size v C.surveys ∧ Aft W w') := Lib.hid fun W h => cloneAll_any W a2 C.surveys c2 (HC.out.aft h).surveys (by omega)
  have H3 := Lib.hid h3
  clear h3
  refine wp_region_valsU (by kernel_rfl) 7 27 rfl (by kernel_rfl) (by kernel_rfl) [some (.pointer (some ⟨b1, 0, none⟩)), some (.int .i64 C.claims), some (.pointer (some ⟨b1, 2, none⟩)), some (.slice a2 C.surveys.length c2), none, none, none] (by kernel_rfl) rfl (Cs W0 C.claims C.surveys) (Cs.start) ?st2 ?fi2
  case st2 =>
    intro i o v ho hv
    match i, ho, hv with
    | 0, ho, hv =>
      cases ho; cases hv
      refine .inl ⟨rfl, fun done a W hz hd hp hk hw K hK => ?_⟩
      have e1 := hk.same 1 (by decide)
      exact op_val (v := .pointer (some ⟨b1, 0, none⟩)) (by simp [go_sem, ev' e1]) (hK _ _ (fun u hu => by cases hu; rfl) (hw.keep (by decide) (by decide)))
    | 1, ho, hv =>
      cases ho; cases hv
      refine .inl ⟨rfl, fun done a W hz hd hp hk hw K hK => ?_⟩
      have e6 := hk.at_ 0 _ 6 _ rfl (by decide) _ rfl rfl rfl
      exact op_val (v := .int .i64 C.claims) (by simp [go_sem, ev' e6, (HC0.out W hw.aft).1]) (hK _ _ (fun u hu => by cases hu; rfl) (hw.keep (by decide) (by decide)))
    | 2, ho, hv =>
      cases ho; cases hv
      refine .inl ⟨rfl, fun done a W hz hd hp hk hw K hK => ?_⟩
      have e1 := hk.same 1 (by decide)
      exact op_val (v := .pointer (some ⟨b1, 2, none⟩)) (by simp [go_sem, ev' e1]) (hK _ _ (fun u hu => by cases hu; rfl) (hw.keep (by decide) (by decide)))
    | 3, ho, hv =>
      cases ho; cases hv
      refine .inl ⟨rfl, fun done a W hz hd hp hk hw K hK => ?_⟩
      have e8 := hk.at_ 2 _ 8 _ rfl (by decide) _ rfl rfl rfl
      exact op_val (v := .slice a2 C.surveys.length c2) (by simp [go_sem, ev' e8, (HC0.out W hw.aft).2.2]) (hK _ _ (fun u hu => by cases hu; rfl) (hw.keep (by decide) (by decide)))
    | 4, ho, hv =>
      cases ho; cases hv
      refine .inl ⟨rfl, fun done a W hz hd hp hk hw K hK => ?_⟩
      have e9 := hk.at_ 3 _ 9 _ rfl (by decide) _ rfl rfl rfl
      refine op_callN rfl rfl rfl _ rfl (vs := #[.slice a2 C.surveys.length c2]) (by simp [e9]) (H53.out W hw.aft) fun e w' h => ?_
      obtain ⟨v1, rfl, ho, ha⟩ := h
      exact ⟨_, rfl, hK _ _ (fun u hu => by cases hu) (hw.step4 ha (ho.mono hw.aft.size) (by rw [hz]; decide))⟩
    | 5, ho, hv =>
      cases ho; cases hv
      refine .inl ⟨rfl, fun done a W hz hd hp hk hw K hK => ?_⟩
      have e7 := hk.at_ 1 _ 7 _ rfl (by decide) _ rfl rfl rfl
      obtain ⟨v1, e10, hs⟩ := hw.t4 (hp 4 (by decide))
      obtain ⟨A, c, hv1, _, _⟩ := hs.lists (by omega) (fun l hl => by have := H3.out l hl; omega)
      subst hv1
      exact op_val (v := .agg #[.int .i64 C.claims, .slice none 0 0, .slice A C.surveys.length c]) (by simp [go_sem, ev' e7, ev' e10]) (hK _ _ (fun u hu => by cases hu) (hw.step5 hs (by rw [hz]; decide)))
    | 6, ho, hv =>
      cases ho; cases hv
      refine .inl ⟨rfl, fun done a W hz hd hp hk hw K hK => ?_⟩
      exact op_valW (w' := W.alloc (.cells #[.int .i64 0, .slice none 0 0, .slice none 0 0] 33)) (v := .pointer (some ⟨W.heap.size, 0, none⟩)) (by simp [go_sem]) (hK _ _ (fun u hu => by cases hu) (hw.step6 (by rw [hz]; decide)))
    | _ + 7, _, hv => cases hv
  intro done us W hus hd hw
  obtain ⟨x1, x2, x3, rfl⟩ := list3 hus
  obtain ⟨v2, e11, ht⟩ := hw.t5 (hd 5 (by decide))
  obtain ⟨g, e3, hg, hbg⟩ := hw.t6 (hd 6 (by decide))
  have e11' : x2 = .agg #[.int .i64 C.claims, .slice none 0 0, v2] := by simpa [fill, putAll, Act.put, Act.eval] using e11
  have e3' : x3 = .pointer (some ⟨g, 0, none⟩) := by simpa [fill, putAll, Act.put, Act.eval] using e3
  obtain ⟨A2, k2, hv2, _⟩ := lists_own (b := W0.heap.size) ht (by omega) (fun l hl => by have := H3.out l hl; omega) (Nat.le_refl _)
  rw [hv2] at e11' ht
  clear hv2
  subst e11'
  subst e3'
  have HT := Lib.hid ht
  have HA := Lib.hid hw.aft
  have HBG := Lib.hid hbg
  clear hw hd hus e11 e3 ht hbg
  simp only [fill, List.drop_succ_cons, List.drop_zero, List.zip_cons_cons, List.zip_nil_right, putAll]
  simp only [Act.put, List.setIfInBounds_toArray, List.set]
  go_upto_region 2 with (refine wpList_store_mid rfl 33 (.tmp 3) (.tmp 11) rfl g 0 #[.int .i64 C.claims, .slice none 0 0, .slice A2 C.surveys.length k2] rfl rfl (blk_there HBG.out rfl) info31 (all_oneCell_toArray (by intro v hv; simp at hv; rcases hv with rfl | rfl | rfl <;> rfl)) ?_)
  have hb1 : Blk (W.setCells g 0 [.int .i64 C.claims, .slice none 0 0, .slice A2 C.surveys.length k2]) g 33 #[.int .i64 C.claims, .slice none 0 0, .slice A2 C.surveys.length k2] := by
    have := ((HBG.out.store 0 (.int .i64 C.claims)).store 1 (.slice none 0 0)).store 2 (.slice A2 C.surveys.length k2)
    exact this
  have hs1 : W.grownBy (W.setCells g 0 [.int .i64 C.claims, .slice none 0 0, .slice A2 C.surveys.length k2]) (some g) := only_setCells _ _ _ (only_refl _ _)
  have HA1 := Lib.hid (HA.out.grown hs1 (fun k e => by cases e; exact hg))
  have HT1 := Lib.hid (HT.out.kept_ty HBG.out (by decide) (by decide) hs1)
  have HB1 := Lib.hid hb1
  clear hb1 hs1 HA HT HBG
  generalize W.setCells g 0 [.int .i64 C.claims, .slice none 0 0, .slice A2 C.surveys.length k2] = W1 at *
  obtain ⟨k0, k1, j2⟩ := HC0.out W1 HA1.out
  have k3 := (HB.out.aft HA1.out).lt
  go_upto_block 0 with fail
  clear k0 k1 j2 k3
  have HO0 := Lib.hid (World.ownsRow_nil W1 W1.heap.size 58 2)
  have hg1 := HB1.out.lt
  refine wp_block ?_
  go_loopw [15] (fun i wr => ∃ (k : Nat) (vS : Value) (L2 : List (Int × Int)), i = .int .i64 k ∧ k ≤ C.strikes.length ∧ Hid (L2 = C.strikes.take k) ∧ L2.length ≤ k ∧ wr.ownsRow W1.heap.size 58 2 vS L2.length (strC L2) ∧ Blk wr g 33 #[.int .i64 C.claims, vS, .slice A2 C.surveys.length k2] ∧ OwnLists wr W0.heap.size (.slice A2 C.surveys.length k2) C.surveys ∧ Aft W0 wr ∧ W1.heap.size ≤ wr.heap.size) (fun i _ => C.strikes.length - (intOf i).toNat)
  case atStart => exact ⟨0, _, [], rfl, by omega, Lib.hid rfl, by simp, HO0.out, HB1.out, HT1.out, HA1.out, Nat.le_refl _⟩
  case round =>
    obtain ⟨k, vS, L2, rfl, hk, HL2, hL2l, hown, hbk, hlt, hax, hsz⟩ := hrel
    have HOS := Lib.hid hown
    have HBK := Lib.hid hbk
    have HLT := Lib.hid hlt
    have HAX := Lib.hid hax
    clear hown hbk hlt hax
    by_cases hkL : k < C.strikes.length
    · have t3 : decide (k < C.strikes.length) = true := by simpa using hkL
      have ik : (0 : Int) ≤ (k : Int) ∧ (k : Int) < (C.strikes.length : Int) := by omega
      obtain ⟨bs, os, hbs, hlts, hcs⟩ := (HC.out.aft HAX.out).strikes.at hkL
      subst hbs
      obtain ⟨x0, x1⟩ := hcs k hkL
      have HFS : Hid (C.strikes.take (k + 1) = C.strikes.take k ++ [C.strikes[k]]) := Lib.hid (List.take_succ_eq_append_getElem hkL)
      obtain ⟨⟨y0, y1⟩, hyz⟩ : ∃ s, C.strikes[k] = s := ⟨_, rfl⟩
      rw [hyz] at x0 x1 HFS
      dsimp only at x0 x1
      rw [← HL2.out] at HFS
      clear hcs hyz
      go_upto_region 5 with (refine wpList_store_new rfl 56 (.tmp 5) (.tmp 18) rfl rfl rfl info57c rfl (all_oneCell_toArray (by intro v hv; simp at hv; rcases hv with rfl | rfl <;> rfl)) ?_)
      try simp only [Act.put]
      have HB33 := Lib.hid (Blk.new wr 56 #[.int .i64 y0, .int .i64 y1])
      have HA33 := Lib.hid (Aft.alloc wr (.cells #[.int .i64 y0, .int .i64 y1] 56))
      obtain ⟨b33, hb33⟩ : ∃ b33, wr.heap.size = b33 := ⟨_, rfl⟩
      rw [hb33] at HB33 ⊢
      replace HOS := Lib.hid (own_aft HOS.out HA33.out)
      replace HBK := Lib.hid (HBK.out.aft HA33.out)
      replace HLT := Lib.hid (HLT.out.aft HA33.out)
      replace HAX := Lib.hid (HAX.out.trans HA33.out)
      have hsz := Nat.le_trans hsz HA33.out.size
      clear hb33 HA33 x0 x1
      generalize wr.alloc (.cells #[.int .i64 y0, .int .i64 y1] 56) = W13 at *
      have j0 : W13.cell? ⟨b33, 0, none⟩ = some (.int .i64 y0) := HB33.out.cell 0
      have j1 : W13.cell? ⟨b33, 1, none⟩ = some (.int .i64 y1) := HB33.out.cell 1
      have j2 := HB33.out.lt
      have j3 := HBK.out.cell 1
      have j4 := HBK.out.lt
      obtain ⟨A8, c8, rfl, _, _⟩ := own_strs84 HOS.out (by omega)
      have HTA := Lib.hid (own_aft HOS.out (Aft.alloc W13 (.cells #[.int .i64 y0, .int .i64 y1] 58)))
      have hbase2 : W1.heap.size ≤ (W13.alloc (.cells #[.int .i64 y0, .int .i64 y1] 58)).heap.size := Nat.le_trans hsz (Aft.alloc _ _).size
      have HC00 := Lib.hid ((Blk.new W13 58 #[.int .i64 y0, .int .i64 y1]).cell 0)
      have HC01 := Lib.hid ((Blk.new W13 58 #[.int .i64 y0, .int .i64 y1]).cell 1)
      have HBK2 := Lib.hid (HBK.out.aft (Aft.alloc W13 (.cells #[.int .i64 y0, .int .i64 y1] 58)))
      have HLT2 := Lib.hid (HLT.out.aft (Aft.alloc W13 (.cells #[.int .i64 y0, .int .i64 y1] 58)))
      have HAX2 := Lib.hid (HAX.out.then_alloc (.cells #[.int .i64 y0, .int .i64 y1] 58))
      have hge := own_ge HTA.out
      clear HOS HBK HLT HAX
      go_wp2_with (at_builtin; refine wpList_push29 rfl _ _ rfl HTA.out hbase2 rfl rfl HC00.out HC01.out (by omega) ?_; intro v8 w8 ho8 hg8; obtain ⟨A80, c80, rfl, _, _⟩ := own_strs84 ho8 (by simp; omega); have HO8 := Lib.hid ho8; have HG8 := Lib.hid hg8; have y2 := HBK2.out.grown hg8 (fun e => by have := hge g e.symm; omega); have HB80 := Lib.hid y2; have y5 := y2.cell 1; have y6 := y2.frozen 1; have y7 := y2.lt; clear ho8)
      have hset : w8.grownBy (w8.setCell ⟨g, 1, none⟩ (.slice A80 (L2.length + 1) c80)) (some g) := only_setCell (only_refl w8 (some g)) (p := ⟨g, 1, none⟩) (.inl rfl) _
      have hO9 := HO8.out
      rw [show (L2 ++ [(y0, y1)]).length = L2.length + 1 by simp] at hO9
      have hO9 := own_sm hO9 (Sm.of_grown (b := g + 1) hset fun k e => by cases e; omega) (by omega)
      have hT9 := (HLT2.out.kept_own HTA.out (by decide) (by decide) HG8.out).kept_ty HB80.out (by decide) (by decide) hset
      have hA9 := (HAX2.out.grown HG8.out (fun k e => by have := hge k e; have := HA1.out.size; omega)).grown hset (fun k e => by cases e; exact hg)
      have hB9 : Blk (w8.setCell ⟨g, 1, none⟩ (.slice A80 (L2.length + 1) c80)) g 33 #[.int .i64 C.claims, .slice A80 (L2.length + 1) c80, .slice A2 C.surveys.length k2] := by
        have := HB80.out.store 1 (.slice A80 (L2.length + 1) c80)
        simpa using this
      have hO10 : (w8.setCell ⟨g, 1, none⟩ (.slice A80 (L2.length + 1) c80)).ownsRow W1.heap.size 58 2 (.slice A80 (L2.length + 1) c80) (L2 ++ [(y0, y1)]).length (strC (L2 ++ [(y0, y1)])) := by
        rw [show (L2 ++ [(y0, y1)]).length = L2.length + 1 by simp]
        exact hO9
      exact ⟨⟨k + 1, _, L2 ++ [(y0, y1)], by go_num, by omega, Lib.hid HFS.out.symm, by simp; omega, hO10, hB9, hT9, hA9, Nat.le_trans hbase2 (Nat.le_trans HG8.out.size hset.size)⟩, by simp [intOf]; omega⟩
    · have t3 : decide (k < C.strikes.length) = false := by simpa using hkL
      have hLE : L2 = C.strikes := by
        have := HL2.out
        rwa [List.take_of_length_le (by omega)] at this
      rw [hLE] at HOS
      have hLEl : L2.length = C.strikes.length := by rw [hLE]
      obtain ⟨A1, k1, hv1, _, _⟩ := own_strs84 HOS.out (by omega)
      subst hv1
      have HS := HOS
      have HT := HLT
      obtain ⟨j0, j1, j2⟩ := box31 HBK.out
      have j3 := HBK.out.lt
      clear hLE hLEl HL2 HOS HLT
      have hk2 := HB2.out.aft HAX.out
      have HTH := Lib.hid (blk_there hk2 (rfl : 3 = (#[Value.int .i64 0, .slice none 0 0, .slice none 0 0] : Array Value).size))
      obtain ⟨W9, hW9, hl9, hg9⟩ : ∃ W9, wr.setCells (b1 + 1) 0 [.int .i64 C.claims, .slice A1 C.strikes.length k1, .slice A2 C.surveys.length k2] = W9 ∧ (loadVar 33 ⟨b1 + 1, 0, none⟩).run Try.prog W9 = .ok (.agg #[.int .i64 C.claims, .slice A1 C.strikes.length k1, .slice A2 C.surveys.length k2]) W9 ∧ wr.grownBy W9 (some (b1 + 1)) :=
        ⟨_, rfl, run_loadVar_mid (P := Try.prog) _ (b1 + 1) 0 33 [.int .i64 C.claims, .slice A1 C.strikes.length k1, .slice A2 C.surveys.length k2] _ (World.rangeAt_setCells_same wr (b1 + 1) 0 _ (blk_there hk2 rfl)) Try.underlying33 rfl info31, only_setCells _ _ _ (only_refl _ _)⟩
      have HG9 := Lib.hid hg9
      have hlt2 := hk2.lt
      clear hk2 hg9
      go_wp2_with (refine wpList_store_mid rfl 33 (.tmp 2) (.tmp 26) rfl (b1 + 1) 0 #[.int .i64 C.claims, .slice A1 C.strikes.length k1, .slice A2 C.surveys.length k2] rfl rfl HTH.out info31 (all_oneCell_toArray (by intro v hv; simp at hv; rcases hv with rfl | rfl | rfl <;> rfl)) ?_; rw [hW9])
      have hsm : Sm W0.heap.size wr W9 := Sm.of_grown HG9.out fun k e => by cases e; exact .inl hz0
      have hww := H0.out.size
      refine bodyPost_ret (v := .agg #[.int .i64 C.claims, .slice A1 C.strikes.length k1, .slice A2 C.surveys.length k2]) (by simp [results, Try.results8, Act.put, asAddr, hl9]) rfl ⟨_, _, rfl, own_base (own_sm HS.out hsm HA1.out.size) (Nat.le_trans hww HA1.out.size), (HT.out.sm hsm (Nat.le_refl _)).mono hww, (H0.out.trans HAX.out).grown HG9.out (fun k e => by cases e; have := HW.out; omega)⟩
end Go.Proofs
end

section
namespace Go.Proofs
open Go.RowKit
attribute [local go_sem] Oper.semAt_some


set_option maxRecDepth 100000 in
set_option maxHeartbeats 4000000 in
theorem kitEqual_str (A A' : Option Addr) (L L' : List (Int × Int)) (c c' : Nat) (w : World) (hA : Strs w A L) (hA' : Strs w A' L') :
    Calls Try.prog 49 #[.slice A L.length c, .slice A' L'.length c'] w fun e w' => e = .returned (.bool (eqB L L')) ∧ Aft w w' := by
  have hl := hA.len
  have hl' := hA'.len
  have HA := Lib.hid hA
  have HA' := Lib.hid hA'
  clear hA hA'
  go_enter Try.func49, Try.ntmps49
  go_upto_block 0 with fail
  refine wp_block ?_
  go_loopw [8] (fun i wr => ∃ k : Nat, i = .int .i64 k ∧ k ≤ L.length ∧ k ≤ L'.length ∧ Hid (∀ j, (h : j < L.length) → (h' : j < L'.length) → j < k → L[j] = L'[j]) ∧ Aft w wr) (fun i _ => L.length - (intOf i).toNat)
  case atStart => exact ⟨0, rfl, by omega, by omega, Lib.hid fun j _ _ h => by omega, Aft.refl _⟩
  case round =>
    obtain ⟨k, rfl, hk, hk', HH, hw⟩ := hrel
    have HW := Lib.hid hw
    clear hw
    by_cases hkl : k < L.length
    · have t1 : decide (k < L.length) = true := by simpa using hkl
      have ik : (0 : Int) ≤ (k : Int) ∧ (k : Int) < (L.length : Int) := by omega
      obtain ⟨bs, os, hbs, hlts, hcs⟩ := (HA.out.aft HW.out).at hkl
      subst hbs
      obtain ⟨x1, x2⟩ := hcs k hkl
      obtain ⟨⟨y, z⟩, hyz⟩ : ∃ s, L[k] = s := ⟨_, rfl⟩
      have HYZ := Lib.hid hyz
      rw [hyz] at x1 x2
      dsimp only at x1 x2
      have HX1 : Hid (∀ W, Aft wr W → W.cell? ⟨bs, os + k * 2, none⟩ = some (.int .i64 y)) := Lib.hid fun W h => cellA x1 hlts h
      have HX2 : Hid (∀ W, Aft wr W → W.cell? ⟨bs, os + k * 2 + 1, none⟩ = some (.int .i64 z)) := Lib.hid fun W h => cellA x2 hlts h
      clear hcs hyz x1 x2
      by_cases hkl' : k < L'.length
      · have ik' : (0 : Int) ≤ (k : Int) ∧ (k : Int) < (L'.length : Int) := by omega
        have hge : decide ((L'.length : Int) ≤ (k : Int)) = false := by simp; omega
        have hgeN : decide (L'.length ≤ k) = false := by simp; omega
        obtain ⟨bt, ot, hbt, hltt, hct⟩ := (HA'.out.aft HW.out).at hkl'
        subst hbt
        obtain ⟨x3, x4⟩ := hct k hkl'
        obtain ⟨⟨y', z'⟩, hyz'⟩ : ∃ s, L'[k] = s := ⟨_, rfl⟩
        have HYZ' := Lib.hid hyz'
        rw [hyz'] at x3 x4
        dsimp only at x3 x4
        have HX3 : Hid (∀ W, Aft wr W → W.cell? ⟨bt, ot + k * 2, none⟩ = some (.int .i64 y')) := Lib.hid fun W h => cellA x3 hltt h
        have HX4 : Hid (∀ W, Aft wr W → W.cell? ⟨bt, ot + k * 2 + 1, none⟩ = some (.int .i64 z')) := Lib.hid fun W h => cellA x4 hltt h
        obtain ⟨bb, hbb⟩ : ∃ bb, (!(y == y' && z == z')) = bb := ⟨_, rfl⟩
        have HBB : Hid (bb = false ↔ (y = y' ∧ z = z')) := Lib.hid (by rw [← hbb]; simp)
        clear hct hyz' x3 x4
        go_upto_region 4 with fail
        refine wp_region_valsG (by kernel_rfl) 32 rfl (by kernel_rfl) (by kernel_rfl) [.int .i64 k, .slice (some ⟨bt, ot, none⟩) L'.length c', .int .i64 L'.length, .bool false, .bool false, .slice (some ⟨bs, os, none⟩) L.length c, .int .i64 k, .pointer (some ⟨bs, os + k * 2, none⟩), .agg #[.int .i64 y, .int .i64 z], .slice (some ⟨bt, ot, none⟩) L'.length c', .int .i64 k, .pointer (some ⟨bt, ot + k * 2, none⟩), .agg #[.int .i64 y', .int .i64 z'], .bool bb, .bool bb] rfl (fun W => Aft wr W) (Aft.drew _) ?st1 ?fi1
        case st1 =>
          intro i o v ho hv
          match i, ho, hv with
          | 0, ho, hv =>
            cases ho; cases hv
            refine .inl ⟨rfl, fun a W hk hw K hK => ?_⟩
            have e5 := hk.same 5 (by decide)
            exact op_val (by simp [go_sem, ev' e5]) (hK _ hw)
          | 1, ho, hv =>
            cases ho; cases hv
            refine .inl ⟨rfl, fun a W hk hw K hK => ?_⟩
            have e1 := hk.same 1 (by decide)
            exact op_val (by simp [go_sem, ev' e1]) (hK _ hw)
          | 2, ho, hv =>
            cases ho; cases hv
            refine .inl ⟨rfl, fun a W hk hw K hK => ?_⟩
            have e12 := hk.at_ 1 _ 12 _ rfl (by decide) _ rfl rfl rfl
            exact op_val (by simp [go_sem, ev' e12]) (hK _ hw)
          | 3, ho, hv =>
            cases ho; cases hv
            refine .inl ⟨rfl, fun a W hk hw K hK => ?_⟩
            have e11 := hk.at_ 0 _ 11 _ rfl (by decide) _ rfl rfl rfl
            have e13 := hk.at_ 2 _ 13 _ rfl (by decide) _ rfl rfl rfl
            exact op_val (by simp [go_sem, ev' e11, ev' e13, hge, hgeN]) (hK _ hw)
          | 4, ho, hv =>
            cases ho; cases hv
            refine .inl ⟨rfl, fun a W hk hw K hK => ?_⟩
            have e14 := hk.at_ 3 _ 14 _ rfl (by decide) _ rfl rfl rfl
            exact op_val (by simp [go_sem, ev' e14]) (hK _ hw)
          | 5, ho, hv =>
            cases ho; cases hv
            refine .inl ⟨rfl, fun a W hk hw K hK => ?_⟩
            have e0 := hk.same 0 (by decide)
            exact op_val (by simp [go_sem, ev' e0]) (hK _ hw)
          | 6, ho, hv =>
            cases ho; cases hv
            refine .inl ⟨rfl, fun a W hk hw K hK => ?_⟩
            have e5 := hk.same 5 (by decide)
            exact op_val (by simp [go_sem, ev' e5]) (hK _ hw)
          | 7, ho, hv =>
            cases ho; cases hv
            refine .inl ⟨rfl, fun a W hk hw K hK => ?_⟩
            have e16 := hk.at_ 5 _ 16 _ rfl (by decide) _ rfl rfl rfl
            have e17 := hk.at_ 6 _ 17 _ rfl (by decide) _ rfl rfl rfl
            exact op_val (by simp [go_sem, ev' e16, ev' e17, ik]) (hK _ hw)
          | 8, ho, hv =>
            cases ho; cases hv
            refine .inl ⟨rfl, fun a W hk hw K hK => ?_⟩
            have e18 := hk.at_ 7 _ 18 _ rfl (by decide) _ rfl rfl rfl
            exact op_val (by simp [go_sem, ev' e18, HX1.out W hw, HX2.out W hw]) (hK _ hw)
          | 9, ho, hv =>
            cases ho; cases hv
            refine .inl ⟨rfl, fun a W hk hw K hK => ?_⟩
            have e1 := hk.same 1 (by decide)
            exact op_val (by simp [go_sem, ev' e1]) (hK _ hw)
          | 10, ho, hv =>
            cases ho; cases hv
            refine .inl ⟨rfl, fun a W hk hw K hK => ?_⟩
            have e5 := hk.same 5 (by decide)
            exact op_val (by simp [go_sem, ev' e5]) (hK _ hw)
          | 11, ho, hv =>
            cases ho; cases hv
            refine .inl ⟨rfl, fun a W hk hw K hK => ?_⟩
            have e20 := hk.at_ 9 _ 20 _ rfl (by decide) _ rfl rfl rfl
            have e21 := hk.at_ 10 _ 21 _ rfl (by decide) _ rfl rfl rfl
            exact op_val (by simp [go_sem, ev' e20, ev' e21, ik']) (hK _ hw)
          | 12, ho, hv =>
            cases ho; cases hv
            refine .inl ⟨rfl, fun a W hk hw K hK => ?_⟩
            have e22 := hk.at_ 11 _ 22 _ rfl (by decide) _ rfl rfl rfl
            exact op_val (by simp [go_sem, ev' e22, HX3.out W hw, HX4.out W hw]) (hK _ hw)
          | 13, ho, hv =>
            cases ho; cases hv
            refine .inl ⟨rfl, fun a W hk hw K hK => ?_⟩
            have e19 := hk.at_ 8 _ 19 _ rfl (by decide) _ rfl rfl rfl
            have e23 := hk.at_ 12 _ 23 _ rfl (by decide) _ rfl rfl rfl
            exact op_val (v := .bool bb) (by by_cases g1 : y = y' <;> by_cases g2 : z = z' <;> simp [go_sem, ev' e19, ev' e23, g1, g2, ← hbb]) (hK _ hw)
          | 14, ho, hv =>
            cases ho; cases hv
            refine .inl ⟨rfl, fun a W hk hw K hK => ?_⟩
            have e15 := hk.at_ 4 _ 15 _ rfl (by decide) _ rfl rfl rfl
            have e24 := hk.at_ 13 _ 24 _ rfl (by decide) _ rfl rfl rfl
            exact op_val (by simp [go_sem, ev' e15, ev' e24]) (hK _ hw)
          | _ + 15, _, hv => cases hv
        intro W hw
        simp only [List.drop_succ_cons, List.drop_zero, List.zip_cons_cons, List.zip_nil_right, putAll]
        simp only [Act.put, List.setIfInBounds_toArray, List.set]
        cases bb
        · have HH2 : Hid (∀ j, (h : j < L.length) → (h' : j < L'.length) → j < k + 1 → L[j] = L'[j]) := Lib.hid fun j h h' hj => by
            by_cases e : j = k
            · subst e
              rw [HYZ.out, HYZ'.out]
              obtain ⟨h1, h2⟩ := HBB.out.1 rfl
              rw [h1, h2]
            · exact HH.out j h h' (by omega)
          go_wp2_with fail
          exact ⟨⟨k + 1, by go_num, by omega, by omega, HH2, HW.out.trans hw⟩, by simp [intOf]; omega⟩
        · have HF : Hid (eqB L L' = false) := Lib.hid (decide_eq_false fun e => by
            have h1 := HYZ.out
            have h2 := HYZ'.out
            subst e
            rw [h1] at h2
            cases h2
            have := HBB.out.2 ⟨rfl, rfl⟩
            cases this)
          go_wp2_with fail
          go_ret
          exact ⟨ret_bool HF.out.symm, HW.out.trans hw⟩
      · have hge : decide ((L'.length : Int) ≤ (k : Int)) = true := by simp; omega
        have hgeN : decide (L'.length ≤ k) = true := by simp; omega
        have HF : Hid (eqB L L' = false) := Lib.hid (decide_eq_false fun e => by rw [e] at hkl; exact hkl' hkl)
        go_upto_region 4 with fail
        refine wp_region_valsG (by kernel_rfl) 32 rfl (by kernel_rfl) (by kernel_rfl) [.int .i64 k, .slice A' L'.length c', .int .i64 L'.length, .bool true, .bool true, undef, undef, undef, undef, undef, undef, undef, undef, undef, .bool true] rfl (fun W => Aft wr W) (Aft.drew _) ?st2 ?fi2
        case st2 =>
          intro i o v ho hv
          match i, ho, hv with
          | 0, ho, hv =>
            cases ho; cases hv
            refine .inl ⟨rfl, fun a W hk hw K hK => ?_⟩
            have e5 := hk.same 5 (by decide)
            exact op_val (by simp [go_sem, ev' e5]) (hK _ hw)
          | 1, ho, hv =>
            cases ho; cases hv
            refine .inl ⟨rfl, fun a W hk hw K hK => ?_⟩
            have e1 := hk.same 1 (by decide)
            exact op_val (by simp [go_sem, ev' e1]) (hK _ hw)
          | 2, ho, hv =>
            cases ho; cases hv
            refine .inl ⟨rfl, fun a W hk hw K hK => ?_⟩
            have e12 := hk.at_ 1 _ 12 _ rfl (by decide) _ rfl rfl rfl
            exact op_val (by simp [go_sem, ev' e12]) (hK _ hw)
          | 3, ho, hv =>
            cases ho; cases hv
            refine .inl ⟨rfl, fun a W hk hw K hK => ?_⟩
            have e11 := hk.at_ 0 _ 11 _ rfl (by decide) _ rfl rfl rfl
            have e13 := hk.at_ 2 _ 13 _ rfl (by decide) _ rfl rfl rfl
            exact op_val (by simp [go_sem, ev' e11, ev' e13, hge, hgeN]) (hK _ hw)
          | 4, ho, hv =>
            cases ho; cases hv
            refine .inl ⟨rfl, fun a W hk hw K hK => ?_⟩
            have e14 := hk.at_ 3 _ 14 _ rfl (by decide) _ rfl rfl rfl
            exact op_val (by simp [go_sem, ev' e14]) (hK _ hw)
          | 5, ho, hv => cases ho; cases hv; exact .inr ⟨rfl, rfl⟩
          | 6, ho, hv => cases ho; cases hv; exact .inr ⟨rfl, rfl⟩
          | 7, ho, hv => cases ho; cases hv; exact .inr ⟨rfl, rfl⟩
          | 8, ho, hv => cases ho; cases hv; exact .inr ⟨rfl, rfl⟩
          | 9, ho, hv => cases ho; cases hv; exact .inr ⟨rfl, rfl⟩
          | 10, ho, hv => cases ho; cases hv; exact .inr ⟨rfl, rfl⟩
          | 11, ho, hv => cases ho; cases hv; exact .inr ⟨rfl, rfl⟩
          | 12, ho, hv => cases ho; cases hv; exact .inr ⟨rfl, rfl⟩
          | 13, ho, hv => cases ho; cases hv; exact .inr ⟨rfl, rfl⟩
          | 14, ho, hv =>
            cases ho; cases hv
            refine .inl ⟨rfl, fun a W hk hw K hK => ?_⟩
            have e15 := hk.at_ 4 _ 15 _ rfl (by decide) _ rfl rfl rfl
            have e24 := hk.at_ 13 _ 24 _ rfl (by decide) _ rfl rfl rfl
            exact op_val (by simp [go_sem, ev' e15, ev' e24]) (hK _ hw)
          | _ + 15, _, hv => cases hv
        intro W hw
        simp only [List.drop_succ_cons, List.drop_zero, List.zip_cons_cons, List.zip_nil_right, putAll]
        simp only [Act.put, List.setIfInBounds_toArray, List.set]
        go_wp2_with fail
        go_ret
        exact ⟨ret_bool HF.out.symm, HW.out.trans hw⟩
    · have t1 : decide (k < L.length) = false := by simpa using hkl
      have HE : Hid (((L.length : Int) == (L'.length : Int)) = eqB L L') := Lib.hid (by
        by_cases hLL : L.length = L'.length
        · have : L = L' := List.ext_getElem hLL fun i h1 h2 => HH.out i h1 h2 (by omega)
          rw [← this]
          simp [eqB]
        · have h1 : eqB L L' = false := decide_eq_false fun e => hLL (by rw [e])
          rw [h1]
          simp; omega)
      go_wp2_with fail
      go_ret
      exact ⟨ret_bool HE.out, HW.out⟩
theorem eqB_self {α : Type} [DecidableEq α] (l : List α) : eqB l l = true := by simp [eqB]

set_option maxRecDepth 100000 in
set_option maxHeartbeats 2000000 in
theorem equal_same (C : CaseL) (a1 a2 : Option Addr) (c1 c2 : Nat) (b1 b2 : Option Addr) (d1 d2 : Nat) (w : World) (hC : CRep w C a1 a2) (hC' : CRep w C b1 b2) :
    Calls Try.prog 19 #[(.agg #[.int .i64 C.claims, .slice a1 C.strikes.length c1, .slice a2 C.surveys.length c2]), .agg #[.int .i64 C.claims, .slice b1 C.strikes.length d1, .slice b2 C.surveys.length d2]] w fun e w' => e = .returned (.bool true) ∧ Aft w w' := by
  have H0 := Lib.hid ((Aft.alloc w (.cells #[.int .i64 C.claims, .slice a1 C.strikes.length c1, .slice a2 C.surveys.length c2] 25)).then_alloc (.cells #[.int .i64 C.claims, .slice b1 C.strikes.length d1, .slice b2 C.surveys.length d2] 25))
  have HB := Lib.hid ((Blk.new w 25 #[.int .i64 C.claims, .slice a1 C.strikes.length c1, .slice a2 C.surveys.length c2]).alloc (.cells #[.int .i64 C.claims, .slice b1 C.strikes.length d1, .slice b2 C.surveys.length d2] 25))
  have HB2 := Lib.hid (Blk.new (w.alloc (.cells #[.int .i64 C.claims, .slice a1 C.strikes.length c1, .slice a2 C.surveys.length c2] 25)) 25 #[.int .i64 C.claims, .slice b1 C.strikes.length d1, .slice b2 C.surveys.length d2])
  rw [World.size_alloc] at HB2
  have H67 : Hid (∀ W, Aft w W → Calls Try.prog 49 #[.slice a1 C.strikes.length c1, .slice b1 C.strikes.length d1] W fun e w' => e = .returned (.bool true) ∧ Aft W w') := Lib.hid fun W h => by
    have := kitEqual_str a1 b1 C.strikes C.strikes c1 d1 W (hC.aft h).strikes (hC'.aft h).strikes
    rwa [eqB_self] at this
  have H29 : Hid (∀ W, Aft w W → Calls Try.prog 23 #[.slice a2 C.surveys.length c2, .slice b2 C.surveys.length d2] W fun e w' => e = .returned (.bool true) ∧ Aft W w') := Lib.hid fun W h => by
    have := equalAll_any W a2 b2 C.surveys C.surveys c2 d2 (hC.aft h).surveys (hC'.aft h).surveys
    rwa [eqB_self] at this
  clear hC hC'
  go_enter Try.func19, Try.ntmps19
  go_upto_region 1 with fail
  try rw [World.size_alloc]
  obtain ⟨g1, hg1⟩ : ∃ g1, w.heap.size = g1 := ⟨_, rfl⟩
  rw [hg1] at HB HB2 ⊢
  clear hg1
  generalize (w.alloc (.cells #[.int .i64 C.claims, .slice a1 C.strikes.length c1, .slice a2 C.surveys.length c2] 25)).alloc (.cells #[.int .i64 C.claims, .slice b1 C.strikes.length d1, .slice b2 C.surveys.length d2] 25) = W0 at *
  obtain ⟨k0, k1, k2⟩ := box25 HB.out
  obtain ⟨j0, j1, j2⟩ := box25 HB2.out
  have k3 := HB.out.lt
  have j3 := HB2.out.lt
  have t1 : (C.claims == C.claims) = true := by simp
  (repeat (first | go_big_skip | go_big_want | go_big_move | go_big_op | go_step | go_upon | go_back))
  go_at_call 49
  refine (H67.out W0 H0.out).mono ?_
  rintro e W1 ⟨rfl, ha⟩
  dsimp only
  obtain ⟨k0, k1, k2⟩ := box25 (HB.out.aft ha)
  obtain ⟨j0, j1, j2⟩ := box25 (HB2.out.aft ha)
  have k3 := (HB.out.aft ha).lt
  have j3 := (HB2.out.aft ha).lt
  have HA1 := Lib.hid (H0.out.trans ha)
  clear ha
  (repeat (first | go_big_skip | go_big_want | go_big_move | go_big_op | go_step | go_upon | go_back))
  go_at_call 23
  refine (H29.out W1 HA1.out).mono ?_
  rintro e W2 ⟨rfl, ha⟩
  dsimp only
  have HA2 := Lib.hid (HA1.out.trans ha)
  clear ha
  (repeat (first | go_big_skip | go_big_want | go_big_move | go_big_op | go_step | go_upon | go_back))
  go_ret
  exact ⟨rfl, HA2.out⟩
end Go.Proofs
end

section
namespace Go.Proofs
open Go.RowKit
open Court (refL begF noS award)
attribute [local go_sem] Oper.semAt_some

structure Cy (W0 : World) (C : CaseL) (R O F Kl : List Int) (done : Nat → Bool) (a : Act) (W : World) : Prop where
  aft : Aft W0 W
  o1 : done 1 = true → ∃ v1 v2, a.eval (.tmp 50) = .agg #[.int .i64 C.claims, v1, v2] ∧ W.ownsRow W0.heap.size 56 2 v1 C.strikes.length (strC C.strikes) ∧ OwnLists W W0.heap.size v2 C.surveys
  o3 : done 3 = true → ∃ v, a.eval (.tmp 52) = v ∧ W.ownsRow W0.heap.size 3 1 v R.length (R.map (Value.int .i64))
  o5 : done 5 = true → ∃ v, a.eval (.tmp 54) = v ∧ W.ownsRow W0.heap.size 3 1 v O.length (O.map (Value.int .i64))
  o7 : done 7 = true → ∃ v, a.eval (.tmp 56) = v ∧ W.ownsRow W0.heap.size 3 1 v F.length (F.map (Value.int .i64))
  o9 : done 9 = true → ∃ v, a.eval (.tmp 58) = v ∧ W.ownsRow W0.heap.size 3 1 v Kl.length (Kl.map (Value.int .i64))
  o11 : done 11 = true → ∃ v1 v2, a.eval (.tmp 60) = .agg #[.int .i64 C.claims, v1, v2] ∧ W.ownsRow W0.heap.size 58 2 v1 C.strikes.length (strC C.strikes) ∧ OwnLists W W0.heap.size v2 C.surveys
  o12 : done 12 = true → ∃ g, a.eval (.tmp 11) = .pointer (some ⟨g, 0, none⟩) ∧ W0.heap.size ≤ g ∧ Blk W g 25 #[.int .i64 0, .slice none 0 0, .slice none 0 0]
  o13 : done 13 = true → ∃ g, a.eval (.tmp 16) = .pointer (some ⟨g, 0, none⟩) ∧ W0.heap.size ≤ g ∧ Blk W g 33 #[.int .i64 0, .slice none 0 0, .slice none 0 0]
section
variable {W0 W W' : World} {C : CaseL} {R O F Kl : List Int} {done : Nat → Bool} {a : Act}
theorem Cy.start : Cy W0 C R O F Kl (fun _ => false) a W0.drew := ⟨Aft.drew _, (fun h => by cases h), (fun h => by cases h), (fun h => by cases h), (fun h => by cases h), (fun h => by cases h), (fun h => by cases h), (fun h => by cases h), (fun h => by cases h)⟩
theorem Cy.keep (h : Cy W0 C R O F Kl done a W) {i : Nat} {dst : Option Tmp} {v : Value} (hi : i ≠ 1 ∧ i ≠ 3 ∧ i ≠ 5 ∧ i ≠ 7 ∧ i ≠ 9 ∧ i ≠ 11 ∧ i ≠ 12 ∧ i ≠ 13) (hd : dst ≠ some 50 ∧ dst ≠ some 52 ∧ dst ≠ some 54 ∧ dst ≠ some 56 ∧ dst ≠ some 58 ∧ dst ≠ some 60 ∧ dst ≠ some 11 ∧ dst ≠ some 16) : Cy W0 C R O F Kl (upd done i) (a.put dst v) W := by
  refine ⟨h.aft, fun p => ?_, fun p => ?_, fun p => ?_, fun p => ?_, fun p => ?_, fun p => ?_, fun p => ?_, fun p => ?_⟩
  · rw [upd_ne' (Ne.symm hi.1)] at p
    obtain ⟨v1, v2, e, hs⟩ := h.o1 p
    exact ⟨v1, v2, by rw [evne hd.1]; exact e, hs⟩
  · rw [upd_ne' (Ne.symm hi.2.1)] at p
    obtain ⟨v, e, hs⟩ := h.o3 p
    exact ⟨v, by rw [evne hd.2.1]; exact e, hs⟩
  · rw [upd_ne' (Ne.symm hi.2.2.1)] at p
    obtain ⟨v, e, hs⟩ := h.o5 p
    exact ⟨v, by rw [evne hd.2.2.1]; exact e, hs⟩
  · rw [upd_ne' (Ne.symm hi.2.2.2.1)] at p
    obtain ⟨v, e, hs⟩ := h.o7 p
    exact ⟨v, by rw [evne hd.2.2.2.1]; exact e, hs⟩
  · rw [upd_ne' (Ne.symm hi.2.2.2.2.1)] at p
    obtain ⟨v, e, hs⟩ := h.o9 p
    exact ⟨v, by rw [evne hd.2.2.2.2.1]; exact e, hs⟩
  · rw [upd_ne' (Ne.symm hi.2.2.2.2.2.1)] at p
    obtain ⟨v1, v2, e, hs⟩ := h.o11 p
    exact ⟨v1, v2, by rw [evne hd.2.2.2.2.2.1]; exact e, hs⟩
  · rw [upd_ne' (Ne.symm hi.2.2.2.2.2.2.1)] at p
    obtain ⟨g, e, hs⟩ := h.o12 p
    exact ⟨g, by rw [evne hd.2.2.2.2.2.2.1]; exact e, hs⟩
  · rw [upd_ne' (Ne.symm hi.2.2.2.2.2.2.2)] at p
    obtain ⟨g, e, hs⟩ := h.o13 p
    exact ⟨g, by rw [evne hd.2.2.2.2.2.2.2]; exact e, hs⟩
theorem Cy.step1 (h : Cy W0 C R O F Kl done a W) (ha : Aft W W') {v1 v2 : Value} (hs : W'.ownsRow W0.heap.size 56 2 v1 C.strikes.length (strC C.strikes) ∧ OwnLists W' W0.heap.size v2 C.surveys) (hz : 50 < a.tmps.size) : Cy W0 C R O F Kl (upd done 1) (a.put (some 50) (.agg #[.int .i64 C.claims, v1, v2])) W' := by
  refine ⟨h.aft.trans ha, fun _ => ⟨v1, v2, Act.eval_put_same _ _ _ hz, hs⟩, fun p => ?_, fun p => ?_, fun p => ?_, fun p => ?_, fun p => ?_, fun p => ?_, fun p => ?_⟩
  · rw [upd_ne' (by decide)] at p
    obtain ⟨v, e, hs⟩ := h.o3 p
    exact ⟨v, by rw [evne (by decide)]; exact e, own_aft hs ha⟩
  · rw [upd_ne' (by decide)] at p
    obtain ⟨v, e, hs⟩ := h.o5 p
    exact ⟨v, by rw [evne (by decide)]; exact e, own_aft hs ha⟩
  · rw [upd_ne' (by decide)] at p
    obtain ⟨v, e, hs⟩ := h.o7 p
    exact ⟨v, by rw [evne (by decide)]; exact e, own_aft hs ha⟩
  · rw [upd_ne' (by decide)] at p
    obtain ⟨v, e, hs⟩ := h.o9 p
    exact ⟨v, by rw [evne (by decide)]; exact e, own_aft hs ha⟩
  · rw [upd_ne' (by decide)] at p
    obtain ⟨v1, v2, e, hs⟩ := h.o11 p
    exact ⟨v1, v2, by rw [evne (by decide)]; exact e, ⟨own_aft hs.1 ha, hs.2.aft ha⟩⟩
  · rw [upd_ne' (by decide)] at p
    obtain ⟨g, e, hs⟩ := h.o12 p
    exact ⟨g, by rw [evne (by decide)]; exact e, ⟨hs.1, hs.2.aft ha⟩⟩
  · rw [upd_ne' (by decide)] at p
    obtain ⟨g, e, hs⟩ := h.o13 p
    exact ⟨g, by rw [evne (by decide)]; exact e, ⟨hs.1, hs.2.aft ha⟩⟩
theorem Cy.step3 (h : Cy W0 C R O F Kl done a W) (ha : Aft W W') {v : Value} (hs : W'.ownsRow W0.heap.size 3 1 v R.length (R.map (Value.int .i64))) (hz : 52 < a.tmps.size) : Cy W0 C R O F Kl (upd done 3) (a.put (some 52) (v)) W' := by
  refine ⟨h.aft.trans ha, fun p => ?_, fun _ => ⟨v, Act.eval_put_same _ _ _ hz, hs⟩, fun p => ?_, fun p => ?_, fun p => ?_, fun p => ?_, fun p => ?_, fun p => ?_⟩
  · rw [upd_ne' (by decide)] at p
    obtain ⟨v1, v2, e, hs⟩ := h.o1 p
    exact ⟨v1, v2, by rw [evne (by decide)]; exact e, ⟨own_aft hs.1 ha, hs.2.aft ha⟩⟩
  · rw [upd_ne' (by decide)] at p
    obtain ⟨v, e, hs⟩ := h.o5 p
    exact ⟨v, by rw [evne (by decide)]; exact e, own_aft hs ha⟩
  · rw [upd_ne' (by decide)] at p
    obtain ⟨v, e, hs⟩ := h.o7 p
    exact ⟨v, by rw [evne (by decide)]; exact e, own_aft hs ha⟩
  · rw [upd_ne' (by decide)] at p
    obtain ⟨v, e, hs⟩ := h.o9 p
    exact ⟨v, by rw [evne (by decide)]; exact e, own_aft hs ha⟩
  · rw [upd_ne' (by decide)] at p
    obtain ⟨v1, v2, e, hs⟩ := h.o11 p
    exact ⟨v1, v2, by rw [evne (by decide)]; exact e, ⟨own_aft hs.1 ha, hs.2.aft ha⟩⟩
  · rw [upd_ne' (by decide)] at p
    obtain ⟨g, e, hs⟩ := h.o12 p
    exact ⟨g, by rw [evne (by decide)]; exact e, ⟨hs.1, hs.2.aft ha⟩⟩
  · rw [upd_ne' (by decide)] at p
    obtain ⟨g, e, hs⟩ := h.o13 p
    exact ⟨g, by rw [evne (by decide)]; exact e, ⟨hs.1, hs.2.aft ha⟩⟩
theorem Cy.step5 (h : Cy W0 C R O F Kl done a W) (ha : Aft W W') {v : Value} (hs : W'.ownsRow W0.heap.size 3 1 v O.length (O.map (Value.int .i64))) (hz : 54 < a.tmps.size) : Cy W0 C R O F Kl (upd done 5) (a.put (some 54) (v)) W' := by
  refine ⟨h.aft.trans ha, fun p => ?_, fun p => ?_, fun _ => ⟨v, Act.eval_put_same _ _ _ hz, hs⟩, fun p => ?_, fun p => ?_, fun p => ?_, fun p => ?_, fun p => ?_⟩
  · rw [upd_ne' (by decide)] at p
    obtain ⟨v1, v2, e, hs⟩ := h.o1 p
    exact ⟨v1, v2, by rw [evne (by decide)]; exact e, ⟨own_aft hs.1 ha, hs.2.aft ha⟩⟩
  · rw [upd_ne' (by decide)] at p
    obtain ⟨v, e, hs⟩ := h.o3 p
    exact ⟨v, by rw [evne (by decide)]; exact e, own_aft hs ha⟩
  · rw [upd_ne' (by decide)] at p
    obtain ⟨v, e, hs⟩ := h.o7 p
    exact ⟨v, by rw [evne (by decide)]; exact e, own_aft hs ha⟩
  · rw [upd_ne' (by decide)] at p
    obtain ⟨v, e, hs⟩ := h.o9 p
    exact ⟨v, by rw [evne (by decide)]; exact e, own_aft hs ha⟩
  · rw [upd_ne' (by decide)] at p
    obtain ⟨v1, v2, e, hs⟩ := h.o11 p
    exact ⟨v1, v2, by rw [evne (by decide)]; exact e, ⟨own_aft hs.1 ha, hs.2.aft ha⟩⟩
  · rw [upd_ne' (by decide)] at p
    obtain ⟨g, e, hs⟩ := h.o12 p
    exact ⟨g, by rw [evne (by decide)]; exact e, ⟨hs.1, hs.2.aft ha⟩⟩
  · rw [upd_ne' (by decide)] at p
    obtain ⟨g, e, hs⟩ := h.o13 p
    exact ⟨g, by rw [evne (by decide)]; exact e, ⟨hs.1, hs.2.aft ha⟩⟩
theorem Cy.step7 (h : Cy W0 C R O F Kl done a W) (ha : Aft W W') {v : Value} (hs : W'.ownsRow W0.heap.size 3 1 v F.length (F.map (Value.int .i64))) (hz : 56 < a.tmps.size) : Cy W0 C R O F Kl (upd done 7) (a.put (some 56) (v)) W' := by
  refine ⟨h.aft.trans ha, fun p => ?_, fun p => ?_, fun p => ?_, fun _ => ⟨v, Act.eval_put_same _ _ _ hz, hs⟩, fun p => ?_, fun p => ?_, fun p => ?_, fun p => ?_⟩
  · rw [upd_ne' (by decide)] at p
    obtain ⟨v1, v2, e, hs⟩ := h.o1 p
    exact ⟨v1, v2, by rw [evne (by decide)]; exact e, ⟨own_aft hs.1 ha, hs.2.aft ha⟩⟩
  · rw [upd_ne' (by decide)] at p
    obtain ⟨v, e, hs⟩ := h.o3 p
    exact ⟨v, by rw [evne (by decide)]; exact e, own_aft hs ha⟩
  · rw [upd_ne' (by decide)] at p
    obtain ⟨v, e, hs⟩ := h.o5 p
    exact ⟨v, by rw [evne (by decide)]; exact e, own_aft hs ha⟩
  · rw [upd_ne' (by decide)] at p
    obtain ⟨v, e, hs⟩ := h.o9 p
    exact ⟨v, by rw [evne (by decide)]; exact e, own_aft hs ha⟩
  · rw [upd_ne' (by decide)] at p
    obtain ⟨v1, v2, e, hs⟩ := h.o11 p
    exact ⟨v1, v2, by rw [evne (by decide)]; exact e, ⟨own_aft hs.1 ha, hs.2.aft ha⟩⟩
  · rw [upd_ne' (by decide)] at p
    obtain ⟨g, e, hs⟩ := h.o12 p
    exact ⟨g, by rw [evne (by decide)]; exact e, ⟨hs.1, hs.2.aft ha⟩⟩
  · rw [upd_ne' (by decide)] at p
    obtain ⟨g, e, hs⟩ := h.o13 p
    exact ⟨g, by rw [evne (by decide)]; exact e, ⟨hs.1, hs.2.aft ha⟩⟩
theorem Cy.step9 (h : Cy W0 C R O F Kl done a W) (ha : Aft W W') {v : Value} (hs : W'.ownsRow W0.heap.size 3 1 v Kl.length (Kl.map (Value.int .i64))) (hz : 58 < a.tmps.size) : Cy W0 C R O F Kl (upd done 9) (a.put (some 58) (v)) W' := by
  refine ⟨h.aft.trans ha, fun p => ?_, fun p => ?_, fun p => ?_, fun p => ?_, fun _ => ⟨v, Act.eval_put_same _ _ _ hz, hs⟩, fun p => ?_, fun p => ?_, fun p => ?_⟩
  · rw [upd_ne' (by decide)] at p
    obtain ⟨v1, v2, e, hs⟩ := h.o1 p
    exact ⟨v1, v2, by rw [evne (by decide)]; exact e, ⟨own_aft hs.1 ha, hs.2.aft ha⟩⟩
  · rw [upd_ne' (by decide)] at p
    obtain ⟨v, e, hs⟩ := h.o3 p
    exact ⟨v, by rw [evne (by decide)]; exact e, own_aft hs ha⟩
  · rw [upd_ne' (by decide)] at p
    obtain ⟨v, e, hs⟩ := h.o5 p
    exact ⟨v, by rw [evne (by decide)]; exact e, own_aft hs ha⟩
  · rw [upd_ne' (by decide)] at p
    obtain ⟨v, e, hs⟩ := h.o7 p
    exact ⟨v, by rw [evne (by decide)]; exact e, own_aft hs ha⟩
  · rw [upd_ne' (by decide)] at p
    obtain ⟨v1, v2, e, hs⟩ := h.o11 p
    exact ⟨v1, v2, by rw [evne (by decide)]; exact e, ⟨own_aft hs.1 ha, hs.2.aft ha⟩⟩
  · rw [upd_ne' (by decide)] at p
    obtain ⟨g, e, hs⟩ := h.o12 p
    exact ⟨g, by rw [evne (by decide)]; exact e, ⟨hs.1, hs.2.aft ha⟩⟩
  · rw [upd_ne' (by decide)] at p
    obtain ⟨g, e, hs⟩ := h.o13 p
    exact ⟨g, by rw [evne (by decide)]; exact e, ⟨hs.1, hs.2.aft ha⟩⟩
theorem Cy.step11 (h : Cy W0 C R O F Kl done a W) (ha : Aft W W') {v1 v2 : Value} (hs : W'.ownsRow W0.heap.size 58 2 v1 C.strikes.length (strC C.strikes) ∧ OwnLists W' W0.heap.size v2 C.surveys) (hz : 60 < a.tmps.size) : Cy W0 C R O F Kl (upd done 11) (a.put (some 60) (.agg #[.int .i64 C.claims, v1, v2])) W' := by
  refine ⟨h.aft.trans ha, fun p => ?_, fun p => ?_, fun p => ?_, fun p => ?_, fun p => ?_, fun _ => ⟨v1, v2, Act.eval_put_same _ _ _ hz, hs⟩, fun p => ?_, fun p => ?_⟩
  · rw [upd_ne' (by decide)] at p
    obtain ⟨v1, v2, e, hs⟩ := h.o1 p
    exact ⟨v1, v2, by rw [evne (by decide)]; exact e, ⟨own_aft hs.1 ha, hs.2.aft ha⟩⟩
  · rw [upd_ne' (by decide)] at p
    obtain ⟨v, e, hs⟩ := h.o3 p
    exact ⟨v, by rw [evne (by decide)]; exact e, own_aft hs ha⟩
  · rw [upd_ne' (by decide)] at p
    obtain ⟨v, e, hs⟩ := h.o5 p
    exact ⟨v, by rw [evne (by decide)]; exact e, own_aft hs ha⟩
  · rw [upd_ne' (by decide)] at p
    obtain ⟨v, e, hs⟩ := h.o7 p
    exact ⟨v, by rw [evne (by decide)]; exact e, own_aft hs ha⟩
  · rw [upd_ne' (by decide)] at p
    obtain ⟨v, e, hs⟩ := h.o9 p
    exact ⟨v, by rw [evne (by decide)]; exact e, own_aft hs ha⟩
  · rw [upd_ne' (by decide)] at p
    obtain ⟨g, e, hs⟩ := h.o12 p
    exact ⟨g, by rw [evne (by decide)]; exact e, ⟨hs.1, hs.2.aft ha⟩⟩
  · rw [upd_ne' (by decide)] at p
    obtain ⟨g, e, hs⟩ := h.o13 p
    exact ⟨g, by rw [evne (by decide)]; exact e, ⟨hs.1, hs.2.aft ha⟩⟩
theorem Cy.step12 (h : Cy W0 C R O F Kl done a W) (ha : Aft W W') {g : Nat} (hs : W0.heap.size ≤ g ∧ Blk W' g 25 #[.int .i64 0, .slice none 0 0, .slice none 0 0]) (hz : 11 < a.tmps.size) : Cy W0 C R O F Kl (upd done 12) (a.put (some 11) (.pointer (some ⟨g, 0, none⟩))) W' := by
  refine ⟨h.aft.trans ha, fun p => ?_, fun p => ?_, fun p => ?_, fun p => ?_, fun p => ?_, fun p => ?_, fun _ => ⟨g, Act.eval_put_same _ _ _ hz, hs⟩, fun p => ?_⟩
  · rw [upd_ne' (by decide)] at p
    obtain ⟨v1, v2, e, hs⟩ := h.o1 p
    exact ⟨v1, v2, by rw [evne (by decide)]; exact e, ⟨own_aft hs.1 ha, hs.2.aft ha⟩⟩
  · rw [upd_ne' (by decide)] at p
    obtain ⟨v, e, hs⟩ := h.o3 p
    exact ⟨v, by rw [evne (by decide)]; exact e, own_aft hs ha⟩
  · rw [upd_ne' (by decide)] at p
    obtain ⟨v, e, hs⟩ := h.o5 p
    exact ⟨v, by rw [evne (by decide)]; exact e, own_aft hs ha⟩
  · rw [upd_ne' (by decide)] at p
    obtain ⟨v, e, hs⟩ := h.o7 p
    exact ⟨v, by rw [evne (by decide)]; exact e, own_aft hs ha⟩
  · rw [upd_ne' (by decide)] at p
    obtain ⟨v, e, hs⟩ := h.o9 p
    exact ⟨v, by rw [evne (by decide)]; exact e, own_aft hs ha⟩
  · rw [upd_ne' (by decide)] at p
    obtain ⟨v1, v2, e, hs⟩ := h.o11 p
    exact ⟨v1, v2, by rw [evne (by decide)]; exact e, ⟨own_aft hs.1 ha, hs.2.aft ha⟩⟩
  · rw [upd_ne' (by decide)] at p
    obtain ⟨g, e, hs⟩ := h.o13 p
    exact ⟨g, by rw [evne (by decide)]; exact e, ⟨hs.1, hs.2.aft ha⟩⟩
theorem Cy.step13 (h : Cy W0 C R O F Kl done a W) (ha : Aft W W') {g : Nat} (hs : W0.heap.size ≤ g ∧ Blk W' g 33 #[.int .i64 0, .slice none 0 0, .slice none 0 0]) (hz : 16 < a.tmps.size) : Cy W0 C R O F Kl (upd done 13) (a.put (some 16) (.pointer (some ⟨g, 0, none⟩))) W' := by
  refine ⟨h.aft.trans ha, fun p => ?_, fun p => ?_, fun p => ?_, fun p => ?_, fun p => ?_, fun p => ?_, fun p => ?_, fun _ => ⟨g, Act.eval_put_same _ _ _ hz, hs⟩⟩
  · rw [upd_ne' (by decide)] at p
    obtain ⟨v1, v2, e, hs⟩ := h.o1 p
    exact ⟨v1, v2, by rw [evne (by decide)]; exact e, ⟨own_aft hs.1 ha, hs.2.aft ha⟩⟩
  · rw [upd_ne' (by decide)] at p
    obtain ⟨v, e, hs⟩ := h.o3 p
    exact ⟨v, by rw [evne (by decide)]; exact e, own_aft hs ha⟩
  · rw [upd_ne' (by decide)] at p
    obtain ⟨v, e, hs⟩ := h.o5 p
    exact ⟨v, by rw [evne (by decide)]; exact e, own_aft hs ha⟩
  · rw [upd_ne' (by decide)] at p
    obtain ⟨v, e, hs⟩ := h.o7 p
    exact ⟨v, by rw [evne (by decide)]; exact e, own_aft hs ha⟩
  · rw [upd_ne' (by decide)] at p
    obtain ⟨v, e, hs⟩ := h.o9 p
    exact ⟨v, by rw [evne (by decide)]; exact e, own_aft hs ha⟩
  · rw [upd_ne' (by decide)] at p
    obtain ⟨v1, v2, e, hs⟩ := h.o11 p
    exact ⟨v1, v2, by rw [evne (by decide)]; exact e, ⟨own_aft hs.1 ha, hs.2.aft ha⟩⟩
  · rw [upd_ne' (by decide)] at p
    obtain ⟨g, e, hs⟩ := h.o12 p
    exact ⟨g, by rw [evne (by decide)]; exact e, ⟨hs.1, hs.2.aft ha⟩⟩
end

theorem list8 {α : Type} {us : List α} (h : us.length = 8) : ∃ x1 x2 x3 x4 x5 x6 x7 x8, us = [x1, x2, x3, x4, x5, x6, x7, x8] := by
  match us, h with
  | [x1, x2, x3, x4, x5, x6, x7, x8], _ => exact ⟨x1, x2, x3, x4, x5, x6, x7, x8, rfl⟩
structure Two8 (C : CaseL) (R O F Kl : List Int) (W : World) (g7 g8 b3 : Nat) (a1 a2 : Option Addr) (c1 c2 : Nat) (A1 A2 A3 A4 : Option Addr) (k1 k2 k3 k4 : Nat) (AR AO AF AK A5 A6 A7 A8 : Option Addr) : Prop where
  k7 : Blk W g7 25 #[.int .i64 C.claims, .slice A1 C.strikes.length k1, .slice A2 C.surveys.length k2]
  k8 : Blk W g8 33 #[.int .i64 C.claims, .slice A3 C.strikes.length k3, .slice A4 C.surveys.length k4]
  k3 : Blk W b3 25 #[.int .i64 C.claims, .slice a1 C.strikes.length c1, .slice a2 C.surveys.length c2]
  r7 : CRep W C A1 A2
  r8 : CRep W C A3 A4
  r3 : CRep W C a1 a2
  iR : Ints W AR R
  iO : Ints W AO O
  iF : Ints W AF F
  iK : Ints W AK Kl
  i5 : Ints W A5 R
  i6 : Ints W A6 O
  i7 : Ints W A7 F
  i8 : Ints W A8 Kl
theorem Two8.aft {C : CaseL} {R O F Kl : List Int} {W W' : World} {g7 g8 b3 : Nat} {a1 a2 : Option Addr} {c1 c2 : Nat} {A1 A2 A3 A4 : Option Addr} {k1 k2 k3 k4 : Nat} {AR AO AF AK A5 A6 A7 A8 : Option Addr} (h : Two8 C R O F Kl W g7 g8 b3 a1 a2 c1 c2 A1 A2 A3 A4 k1 k2 k3 k4 AR AO AF AK A5 A6 A7 A8) (ha : Aft W W') : Two8 C R O F Kl W' g7 g8 b3 a1 a2 c1 c2 A1 A2 A3 A4 k1 k2 k3 k4 AR AO AF AK A5 A6 A7 A8 :=
  ⟨h.k7.aft ha, h.k8.aft ha, h.k3.aft ha, h.r7.aft ha, h.r8.aft ha, h.r3.aft ha, h.iR.aft ha, h.iO.aft ha, h.iF.aft ha, h.iK.aft ha, h.i5.aft ha, h.i6.aft ha, h.i7.aft ha, h.i8.aft ha⟩
theorem listsQ_three {W : World} {A B D : Option Addr} {R L M : List Int} {c d e : Nat} (hR : IntsQ W A R) (hL : IntsQ W B L) (hM : IntsQ W D M) : ListsQ (W.alloc (.cells #[.slice A R.length c, .slice B L.length d, .slice D M.length e] 26)) (some ⟨W.heap.size, 0, none⟩) [R, L, M] := by
  have hb := Blk.new W 26 #[.slice A R.length c, .slice B L.length d, .slice D M.length e]
  refine ⟨by simp, .inr ⟨W.heap.size, 0, rfl, hb.lt, fun i hi => ?_⟩⟩
  match i, hi with
  | 0, _ => exact ⟨[.slice A R.length c], rfl, ⟨A, c, rfl, hR.aft (Aft.alloc _ _)⟩, fun j hj => by
      have : j = 0 := by simpa using hj
      subst this
      exact hb.cell 0⟩
  | 1, _ => exact ⟨[.slice B L.length d], rfl, ⟨B, d, rfl, hL.aft (Aft.alloc _ _)⟩, fun j hj => by
      have : j = 0 := by simpa using hj
      subst this
      exact hb.cell 1⟩
  | 2, _ => exact ⟨[.slice D M.length e], rfl, ⟨D, e, rfl, hM.aft (Aft.alloc _ _)⟩, fun j hj => by
      have : j = 0 := by simpa using hj
      subst this
      exact hb.cell 2⟩

set_option maxRecDepth 100000 in
set_option maxHeartbeats 16000000 in
theorem hearingsLaw_any (C : CaseL) (a1 a2 : Option Addr) (c1 c2 : Nat) (R : List Int) (AR : Option Addr) (cR : Nat) (O : List Int) (AO : Option Addr) (cO : Nat) (F : List Int) (AF : Option Addr) (cF : Nat) (Kl : List Int) (AK : Option Addr) (cK : Nat) (w : World) (hC : CRepQ w C a1 a2) (hR : IntsQ w AR R) (hO : IntsQ w AO O) (hF : IntsQ w AF F) (hK : IntsQ w AK Kl) :
    Calls Try.prog 3 #[(.agg #[.int .i64 C.claims, .slice a1 C.strikes.length c1, .slice a2 C.surveys.length c2]), .slice AR R.length cR, .slice AO O.length cO, .slice AF F.length cF, .slice AK Kl.length cK] w fun e w' => e = .returned (.bool true) ∧ Aft w w' := by
  have H0 := Lib.hid (Aft.alloc w (.cells #[.int .i64 C.claims, .slice a1 C.strikes.length c1, .slice a2 C.surveys.length c2] 25))
  have HB := Lib.hid (Blk.new w 25 #[.int .i64 C.claims, .slice a1 C.strikes.length c1, .slice a2 C.surveys.length c2])
  have HQ := Lib.hid (hC.aft H0.out)
  have HRQ := Lib.hid (hR.aft H0.out)
  have HOQ := Lib.hid (hO.aft H0.out)
  have HFQ := Lib.hid (hF.aft H0.out)
  have HKQ := Lib.hid (hK.aft H0.out)
  have hlo := hO.1
  clear hC hR hO hF hK
  obtain ⟨b3, hb3⟩ : ∃ b3, w.heap.size = b3 := ⟨_, rfl⟩
  rw [hb3] at HB
  have HBC := Lib.hid hb3
  clear hb3
  go_enter Try.func3, Try.ntmps3
  go_upto_region 1 with fail
  rw [HBC.out]
  generalize w.alloc (.cells #[.int .i64 C.claims, .slice a1 C.strikes.length c1, .slice a2 C.surveys.length c2] 25) = W0 at *
  obtain ⟨k0, k1, k2⟩ := box25 HB.out
  have k3 := HB.out.lt
  have HA0 := Lib.hid (Aft.alloc W0 (.cells #[.slice AR R.length cR, .slice AF F.length cF, .slice AK Kl.length cK] 26))
  have HGR : Hid (Calls Try.prog 4 #[(.agg #[.int .i64 C.claims, .slice a1 C.strikes.length c1, .slice a2 C.surveys.length c2]), .int .i64 14, .slice (some ⟨W0.heap.size, 0, none⟩) 3 3] (W0.alloc (.cells #[.slice AR R.length cR, .slice AF F.length cF, .slice AK Kl.length cK] 26)) (GreatR C [R, F, Kl] (W0.alloc (.cells #[.slice AR R.length cR, .slice AF F.length cF, .slice AK Kl.length cK] 26)))) := Lib.hid (great_any C a1 a2 c1 c2 14 [R, F, Kl] (some ⟨W0.heap.size, 0, none⟩) 3 _ (HQ.out.aft (Aft.alloc _ _)) (listsQ_three HRQ.out HFQ.out HKQ.out))
  go_cut [47] from 27 to 47 (fun s47 wx => ∃ bb, s47 = .bool bb ∧ Aft W0 wx ∧ (bb = false → Small C [R, F, Kl] ∧ O.length ≤ 420))
  case first =>
    (repeat (first | go_big_skip | go_big_want | go_big_move | go_big_op | go_step | go_upon | go_back))
    go_at_call 4
    refine HGR.out.mono ?_
    rintro e W1 ⟨b, rfl, hs, ha⟩
    dsimp only
    have HA1 := Lib.hid (HA0.out.trans ha)
    have HSM := Lib.hid hs
    clear ha hs k0 k1 k2 k3 HGR HA0
    cases b
    · have hsm := HSM.out rfl
      have HSS := Lib.hid hsm
      clear hsm HSM
      by_cases h30 : 30 < O.length
      · have t1 : decide ((30 : Int) < (O.length : Int)) = true := decide_eq_true (by omega)
        by_cases h400 : O.length ≤ 400
        · have t2 : decide ((O.length : Int) ≤ 400) = true := decide_eq_true (by omega)
          (repeat (first | go_big_skip | go_big_want | go_big_move | go_big_op | go_step | go_upon | go_back))
          go_meet
          exact ⟨_, rfl, HA1.out, fun h => by cases h⟩
        · have t2 : decide ((O.length : Int) ≤ 400) = false := decide_eq_false (by omega)
          by_cases h420 : 420 < O.length
          · have t3 : decide ((420 : Int) < (O.length : Int)) = true := decide_eq_true (by omega)
            (repeat (first | go_big_skip | go_big_want | go_big_move | go_big_op | go_step | go_upon | go_back))
            go_meet
            exact ⟨_, rfl, HA1.out, fun h => by cases h⟩
          · have t3 : decide ((420 : Int) < (O.length : Int)) = false := decide_eq_false (by omega)
            have h421 : O.length ≤ 420 := by omega
            (repeat (first | go_big_skip | go_big_want | go_big_move | go_big_op | go_step | go_upon | go_back))
            go_meet
            exact ⟨_, rfl, HA1.out, fun _ => ⟨HSS.out, h421⟩⟩
      · have t1 : decide ((30 : Int) < (O.length : Int)) = false := decide_eq_false (by omega)
        have t3 : decide ((420 : Int) < (O.length : Int)) = false := decide_eq_false (by omega)
        have h421 : O.length ≤ 420 := by omega
        (repeat (first | go_big_skip | go_big_want | go_big_move | go_big_op | go_step | go_upon | go_back))
        go_meet
        exact ⟨_, rfl, HA1.out, fun _ => ⟨HSS.out, h421⟩⟩
    · (repeat (first | go_big_skip | go_big_want | go_big_move | go_big_op | go_step | go_upon | go_back))
      go_meet
      exact ⟨_, rfl, HA1.out, fun h => by cases h⟩
  obtain ⟨bb, rfl, ha1, hbb⟩ := hcut
  obtain ⟨W1, rfl⟩ : ∃ W1, W1 = wc := ⟨_, rfl⟩
  have HA1 := Lib.hid ha1
  have HBB := Lib.hid hbb
  clear ha1 hbb HGR HA0 k0 k1 k2 k3
  cases bb
  · obtain ⟨hsm, hO420⟩ := HBB.out rfl
    have HC := Lib.hid ((HQ.out.aft HA1.out).small hsm)
    replace HB := Lib.hid (HB.out.aft HA1.out)
    have hs1 := hsm.few
    have hs2 := hsm.fews
    have hr30 : R.length ≤ 30 := hsm.lists R (by simp)
    have hf30 : F.length ≤ 30 := hsm.lists F (by simp)
    have hk30 : Kl.length ≤ 30 := hsm.lists Kl (by simp)
    have HRI := Lib.hid ((HRQ.out.aft HA1.out).small (by omega))
    have HOI := Lib.hid ((HOQ.out.aft HA1.out).small (by omega))
    have HFI := Lib.hid ((HFQ.out.aft HA1.out).small (by omega))
    have HKI := Lib.hid ((HKQ.out.aft HA1.out).small (by omega))
    have HS3 := Lib.hid hsm.surveys
    clear hsm HBB HQ HRQ HOQ HFQ HKQ
    go_upto_region 3 with fail
    have HC0 : Hid (∀ W, Aft W1 W → W.cell? ⟨b3, 0, none⟩ = some (.int .i64 C.claims) ∧ W.cell? ⟨b3, 1, none⟩ = some (.slice a1 C.strikes.length c1) ∧ W.cell? ⟨b3, 2, none⟩ = some (.slice a2 C.surveys.length c2)) := Lib.hid fun W h => box25 (HB.out.aft h)
    have H13 : Hid (∀ W, Aft W1 W → Calls Try.prog 6 #[(.agg #[.int .i64 C.claims, .slice a1 C.strikes.length c1, .slice a2 C.surveys.length c2])] W (CopyR 56 C W)) := Lib.hid fun W h => cloneCase_any C a1 a2 c1 c2 W (HC.out.aft h) (by omega) (by omega) (fun l hl => by have := HS3.out l hl; omega)
    have H14 : Hid (∀ W, Aft W1 W → Calls Try.prog 8 #[(.agg #[.int .i64 C.claims, .slice a1 C.strikes.length c1, .slice a2 C.surveys.length c2])] W (CopyR 58 C W)) := Lib.hid fun W h => caseR_any C a1 a2 c1 c2 W (HC.out.aft h) (by omega) (by omega) (fun l hl => by have := HS3.out l hl; omega)
    have H24R : Hid (∀ W, Aft W1 W → Calls Try.prog 7 #[.slice AR R.length cR] W (OwnInts W R)) := Lib.hid fun W h => kitClone_int AR R cR W (HRI.out.aft h)
    have H24O : Hid (∀ W, Aft W1 W → Calls Try.prog 7 #[.slice AO O.length cO] W (OwnInts W O)) := Lib.hid fun W h => kitClone_int AO O cO W (HOI.out.aft h)
    have H24F : Hid (∀ W, Aft W1 W → Calls Try.prog 7 #[.slice AF F.length cF] W (OwnInts W F)) := Lib.hid fun W h => kitClone_int AF F cF W (HFI.out.aft h)
    have H24K : Hid (∀ W, Aft W1 W → Calls Try.prog 7 #[.slice AK Kl.length cK] W (OwnInts W Kl)) := Lib.hid fun W h => kitClone_int AK Kl cK W (HKI.out.aft h)
    refine wp_region_valsU (by kernel_rfl) 14 198 rfl (by kernel_rfl) (by kernel_rfl) [some ((.agg #[.int .i64 C.claims, .slice a1 C.strikes.length c1, .slice a2 C.surveys.length c2])), none, some (.slice AR R.length cR), none, some (.slice AO O.length cO), none, some (.slice AF F.length cF), none, some (.slice AK Kl.length cK), none, some ((.agg #[.int .i64 C.claims, .slice a1 C.strikes.length c1, .slice a2 C.surveys.length c2])), none, none, none] (by kernel_rfl) rfl (Cy W1 C R O F Kl) (Cy.start) ?st1 ?fi1
    case st1 =>
      intro i o v ho hv
      match i, ho, hv with
      | 0, ho, hv =>
        cases ho; cases hv
        refine .inl ⟨rfl, fun done a W hz hd hp hk hw K hK => ?_⟩
        have e5 := hk.same 5 (by decide)
        obtain ⟨y0, y1, y2⟩ := HC0.out W hw.aft
        exact op_val (v := (.agg #[.int .i64 C.claims, .slice a1 C.strikes.length c1, .slice a2 C.surveys.length c2])) (by simp [go_sem, ev' e5, y0, y1, y2]) (hK _ _ (fun u hu => by cases hu; rfl) (hw.keep (by decide) (by decide)))
      | 1, ho, hv =>
        cases ho; cases hv
        refine .inl ⟨rfl, fun done a W hz hd hp hk hw K hK => ?_⟩
        have e49 := hk.at_ 0 _ 49 _ rfl (by decide) _ rfl rfl rfl
        refine op_callN rfl rfl rfl _ rfl (vs := #[(.agg #[.int .i64 C.claims, .slice a1 C.strikes.length c1, .slice a2 C.surveys.length c2])]) (by simp [e49]) (H13.out W hw.aft) fun e w' h => ?_
        obtain ⟨v1, v2, rfl, ho, hl, ha⟩ := h
        exact ⟨_, rfl, hK _ _ (fun u hu => by cases hu) (hw.step1 ha ⟨own_base ho hw.aft.size, hl.mono hw.aft.size⟩ (by rw [hz]; decide))⟩
      | 2, ho, hv =>
        cases ho; cases hv
        refine .inl ⟨rfl, fun done a W hz hd hp hk hw K hK => ?_⟩
        have e1 := hk.same 1 (by decide)
        exact op_val (v := .slice AR R.length cR) (by simp [go_sem, ev' e1]) (hK _ _ (fun u hu => by cases hu; rfl) (hw.keep (by decide) (by decide)))
      | 3, ho, hv =>
        cases ho; cases hv
        refine .inl ⟨rfl, fun done a W hz hd hp hk hw K hK => ?_⟩
        have e51 := hk.at_ 2 _ 51 _ rfl (by decide) _ rfl rfl rfl
        refine op_callN rfl rfl rfl _ rfl (vs := #[.slice AR R.length cR]) (by simp [e51]) (H24R.out W hw.aft) fun e w' h => ?_
        obtain ⟨v1, rfl, ho, ha⟩ := h
        exact ⟨_, rfl, hK _ _ (fun u hu => by cases hu) (hw.step3 ha (own_base ho hw.aft.size) (by rw [hz]; decide))⟩
      | 4, ho, hv =>
        cases ho; cases hv
        refine .inl ⟨rfl, fun done a W hz hd hp hk hw K hK => ?_⟩
        have e2 := hk.same 2 (by decide)
        exact op_val (v := .slice AO O.length cO) (by simp [go_sem, ev' e2]) (hK _ _ (fun u hu => by cases hu; rfl) (hw.keep (by decide) (by decide)))
      | 5, ho, hv =>
        cases ho; cases hv
        refine .inl ⟨rfl, fun done a W hz hd hp hk hw K hK => ?_⟩
        have e53 := hk.at_ 4 _ 53 _ rfl (by decide) _ rfl rfl rfl
        refine op_callN rfl rfl rfl _ rfl (vs := #[.slice AO O.length cO]) (by simp [e53]) (H24O.out W hw.aft) fun e w' h => ?_
        obtain ⟨v1, rfl, ho, ha⟩ := h
        exact ⟨_, rfl, hK _ _ (fun u hu => by cases hu) (hw.step5 ha (own_base ho hw.aft.size) (by rw [hz]; decide))⟩
      | 6, ho, hv =>
        cases ho; cases hv
        refine .inl ⟨rfl, fun done a W hz hd hp hk hw K hK => ?_⟩
        have e3 := hk.same 3 (by decide)
        exact op_val (v := .slice AF F.length cF) (by simp [go_sem, ev' e3]) (hK _ _ (fun u hu => by cases hu; rfl) (hw.keep (by decide) (by decide)))
      | 7, ho, hv =>
        cases ho; cases hv
        refine .inl ⟨rfl, fun done a W hz hd hp hk hw K hK => ?_⟩
        have e55 := hk.at_ 6 _ 55 _ rfl (by decide) _ rfl rfl rfl
        refine op_callN rfl rfl rfl _ rfl (vs := #[.slice AF F.length cF]) (by simp [e55]) (H24F.out W hw.aft) fun e w' h => ?_
        obtain ⟨v1, rfl, ho, ha⟩ := h
        exact ⟨_, rfl, hK _ _ (fun u hu => by cases hu) (hw.step7 ha (own_base ho hw.aft.size) (by rw [hz]; decide))⟩
      | 8, ho, hv =>
        cases ho; cases hv
        refine .inl ⟨rfl, fun done a W hz hd hp hk hw K hK => ?_⟩
        have e4 := hk.same 4 (by decide)
        exact op_val (v := .slice AK Kl.length cK) (by simp [go_sem, ev' e4]) (hK _ _ (fun u hu => by cases hu; rfl) (hw.keep (by decide) (by decide)))
      | 9, ho, hv =>
        cases ho; cases hv
        refine .inl ⟨rfl, fun done a W hz hd hp hk hw K hK => ?_⟩
        have e57 := hk.at_ 8 _ 57 _ rfl (by decide) _ rfl rfl rfl
        refine op_callN rfl rfl rfl _ rfl (vs := #[.slice AK Kl.length cK]) (by simp [e57]) (H24K.out W hw.aft) fun e w' h => ?_
        obtain ⟨v1, rfl, ho, ha⟩ := h
        exact ⟨_, rfl, hK _ _ (fun u hu => by cases hu) (hw.step9 ha (own_base ho hw.aft.size) (by rw [hz]; decide))⟩
      | 10, ho, hv =>
        cases ho; cases hv
        refine .inl ⟨rfl, fun done a W hz hd hp hk hw K hK => ?_⟩
        have e5 := hk.same 5 (by decide)
        obtain ⟨y0, y1, y2⟩ := HC0.out W hw.aft
        exact op_val (v := (.agg #[.int .i64 C.claims, .slice a1 C.strikes.length c1, .slice a2 C.surveys.length c2])) (by simp [go_sem, ev' e5, y0, y1, y2]) (hK _ _ (fun u hu => by cases hu; rfl) (hw.keep (by decide) (by decide)))
      | 11, ho, hv =>
        cases ho; cases hv
        refine .inl ⟨rfl, fun done a W hz hd hp hk hw K hK => ?_⟩
        have e59 := hk.at_ 10 _ 59 _ rfl (by decide) _ rfl rfl rfl
        refine op_callN rfl rfl rfl _ rfl (vs := #[(.agg #[.int .i64 C.claims, .slice a1 C.strikes.length c1, .slice a2 C.surveys.length c2])]) (by simp [e59]) (H14.out W hw.aft) fun e w' h => ?_
        obtain ⟨v1, v2, rfl, ho, hl, ha⟩ := h
        exact ⟨_, rfl, hK _ _ (fun u hu => by cases hu) (hw.step11 ha ⟨own_base ho hw.aft.size, hl.mono hw.aft.size⟩ (by rw [hz]; decide))⟩
      | 12, ho, hv =>
        cases ho; cases hv
        refine .inl ⟨rfl, fun done a W hz hd hp hk hw K hK => ?_⟩
        exact op_valW (w' := W.alloc (.cells #[.int .i64 0, .slice none 0 0, .slice none 0 0] 25)) (v := .pointer (some ⟨W.heap.size, 0, none⟩)) (by simp [go_sem]) (hK _ _ (fun u hu => by cases hu) (hw.step12 (Aft.alloc _ _) ⟨hw.aft.size, Blk.new W 25 _⟩ (by rw [hz]; decide)))
      | 13, ho, hv =>
        cases ho; cases hv
        refine .inl ⟨rfl, fun done a W hz hd hp hk hw K hK => ?_⟩
        exact op_valW (w' := W.alloc (.cells #[.int .i64 0, .slice none 0 0, .slice none 0 0] 33)) (v := .pointer (some ⟨W.heap.size, 0, none⟩)) (by simp [go_sem]) (hK _ _ (fun u hu => by cases hu) (hw.step13 (Aft.alloc _ _) ⟨hw.aft.size, Blk.new W 33 _⟩ (by rw [hz]; decide)))
      | _ + 14, _, hv => cases hv
    intro done us W hus hd hw
    obtain ⟨x1, x2, x3, x4, x5, x6, x7, x8, rfl⟩ := list8 hus
    obtain ⟨v1, v2, e50, ho1, hl1⟩ := hw.o1 (hd 1 (by decide))
    obtain ⟨v5, e52, ho5⟩ := hw.o3 (hd 3 (by decide))
    obtain ⟨v6, e54, ho6⟩ := hw.o5 (hd 5 (by decide))
    obtain ⟨v7, e56, ho7⟩ := hw.o7 (hd 7 (by decide))
    obtain ⟨v8, e58, ho8⟩ := hw.o9 (hd 9 (by decide))
    obtain ⟨v3, v4, e60, ho3, hl3⟩ := hw.o11 (hd 11 (by decide))
    obtain ⟨g7, e11, hg7, hb7⟩ := hw.o12 (hd 12 (by decide))
    obtain ⟨g8, e16, hg8, hb8⟩ := hw.o13 (hd 13 (by decide))
    have e50' : x1 = .agg #[.int .i64 C.claims, v1, v2] := by simpa [fill, putAll, Act.put, Act.eval] using e50
    have e52' : x2 = v5 := by simpa [fill, putAll, Act.put, Act.eval] using e52
    have e54' : x3 = v6 := by simpa [fill, putAll, Act.put, Act.eval] using e54
    have e56' : x4 = v7 := by simpa [fill, putAll, Act.put, Act.eval] using e56
    have e58' : x5 = v8 := by simpa [fill, putAll, Act.put, Act.eval] using e58
    have e60' : x6 = .agg #[.int .i64 C.claims, v3, v4] := by simpa [fill, putAll, Act.put, Act.eval] using e60
    have e11' : x7 = .pointer (some ⟨g7, 0, none⟩) := by simpa [fill, putAll, Act.put, Act.eval] using e11
    have e16' : x8 = .pointer (some ⟨g8, 0, none⟩) := by simpa [fill, putAll, Act.put, Act.eval] using e16
    subst e50'
    subst e52'
    subst e54'
    subst e56'
    subst e58'
    subst e60'
    subst e11'
    subst e16'
    obtain ⟨A1, k1, hv1, _, _⟩ := own_strs ho1 (by omega)
    obtain ⟨A2, k2, hv2, _, _⟩ := hl1.lists (by omega) (fun l hl => by have := HS3.out l hl; omega)
    obtain ⟨A3, k3, hv3, _, _⟩ := own_strs84 ho3 (by omega)
    obtain ⟨A4, k4, hv4, _, _⟩ := hl3.lists (by omega) (fun l hl => by have := HS3.out l hl; omega)
    obtain ⟨A5, k5, hv5, _, _⟩ := own_ints ho5 (by omega)
    obtain ⟨A6, k6, hv6, _, _⟩ := own_ints ho6 (by omega)
    obtain ⟨A7, k7, hv7, _, _⟩ := own_ints ho7 (by omega)
    obtain ⟨A8, k8, hv8, _, _⟩ := own_ints ho8 (by omega)
    subst hv1
    subst hv2
    subst hv3
    subst hv4
    subst hv5
    subst hv6
    subst hv7
    subst hv8
    have hne : g7 ≠ g8 := fun e => by
      subst e
      have h7 : W.heap[g7]? = some (.cells #[.int .i64 0, .slice none 0 0, .slice none 0 0] 25 (0, 0)) := hb7
      have h8 : W.heap[g7]? = some (.cells #[.int .i64 0, .slice none 0 0, .slice none 0 0] 33 (0, 0)) := hb8
      rw [h7] at h8
      cases h8
    have hs7 : W.grownBy (W.setCells g7 0 [.int .i64 C.claims, .slice A1 C.strikes.length k1, .slice A2 C.surveys.length k2]) (some g7) := only_setCells _ _ _ (only_refl _ _)
    have hb7' : Blk (W.setCells g7 0 [.int .i64 C.claims, .slice A1 C.strikes.length k1, .slice A2 C.surveys.length k2]) g7 25 #[.int .i64 C.claims, .slice A1 C.strikes.length k1, .slice A2 C.surveys.length k2] := ((hb7.store 0 (.int .i64 C.claims)).store 1 (.slice A1 C.strikes.length k1)).store 2 (.slice A2 C.surveys.length k2)
    have hb8' := hb8.grown hs7 (fun e => hne (Option.some.inj e).symm)
    have ho1 := own_kept_ty ho1 hb7 (by decide) hs7
    have ho3 := own_kept_ty ho3 hb7 (by decide) hs7
    have ho5 := own_kept_ty ho5 hb7 (by decide) hs7
    have ho6 := own_kept_ty ho6 hb7 (by decide) hs7
    have ho7 := own_kept_ty ho7 hb7 (by decide) hs7
    have ho8 := own_kept_ty ho8 hb7 (by decide) hs7
    have hl1 := hl1.kept_ty hb7 (by decide) (by decide) hs7
    have hl3 := hl3.kept_ty hb7 (by decide) (by decide) hs7
    have hA7 := hw.aft.grown hs7 (fun k e => by cases e; exact hg7)
    have HT7 := Lib.hid (blk_there hb7 (rfl : 3 = (#[Value.int .i64 0, .slice none 0 0, .slice none 0 0] : Array Value).size))
    have HT8 := Lib.hid (blk_there hb8' (rfl : 3 = (#[Value.int .i64 0, .slice none 0 0, .slice none 0 0] : Array Value).size))
    obtain ⟨W2, hW2⟩ : ∃ W2, (W.setCells g7 0 [.int .i64 C.claims, .slice A1 C.strikes.length k1, .slice A2 C.surveys.length k2]).setCells g8 0 [.int .i64 C.claims, .slice A3 C.strikes.length k3, .slice A4 C.surveys.length k4] = W2 := ⟨_, rfl⟩
    have hs8 : (W.setCells g7 0 [.int .i64 C.claims, .slice A1 C.strikes.length k1, .slice A2 C.surveys.length k2]).grownBy W2 (some g8) := by rw [← hW2]; exact only_setCells _ _ _ (only_refl _ _)
    have hb8'' : Blk W2 g8 33 #[.int .i64 C.claims, .slice A3 C.strikes.length k3, .slice A4 C.surveys.length k4] := by rw [← hW2]; exact ((hb8'.store 0 (.int .i64 C.claims)).store 1 (.slice A3 C.strikes.length k3)).store 2 (.slice A4 C.surveys.length k4)
    have hb7'' := hb7'.grown hs8 (fun e => hne (Option.some.inj e))
    have ho1 := own_kept_ty ho1 hb8' (by decide) hs8
    have ho3 := own_kept_ty ho3 hb8' (by decide) hs8
    have ho5 := own_kept_ty ho5 hb8' (by decide) hs8
    have ho6 := own_kept_ty ho6 hb8' (by decide) hs8
    have ho7 := own_kept_ty ho7 hb8' (by decide) hs8
    have ho8 := own_kept_ty ho8 hb8' (by decide) hs8
    have hl1 := hl1.kept_ty hb8' (by decide) (by decide) hs8
    have hl3 := hl3.kept_ty hb8' (by decide) (by decide) hs8
    have hA8 := hA7.grown hs8 (fun k e => by cases e; exact hg8)
    have HTW : Hid (Two8 C R O F Kl W2 g7 g8 b3 a1 a2 c1 c2 A1 A2 A3 A4 k1 k2 k3 k4 AR AO AF AK A5 A6 A7 A8) := Lib.hid (by
      obtain ⟨_, _, f1, g1, _⟩ := own_strs ho1 (by omega)
      obtain ⟨_, _, f2, _, g2⟩ := hl1.lists (by omega) (fun l hl => by have := HS3.out l hl; omega)
      obtain ⟨_, _, f3, g3, _⟩ := own_strs84 ho3 (by omega)
      obtain ⟨_, _, f4, _, g4⟩ := hl3.lists (by omega) (fun l hl => by have := HS3.out l hl; omega)
      obtain ⟨_, _, f5, _, g5⟩ := own_ints ho5 (by omega)
      obtain ⟨_, _, f6, _, g6⟩ := own_ints ho6 (by omega)
      obtain ⟨_, _, f7, _, g7⟩ := own_ints ho7 (by omega)
      obtain ⟨_, _, f8, _, g8⟩ := own_ints ho8 (by omega)
      cases f1
      cases f2
      cases f3
      cases f4
      cases f5
      cases f6
      cases f7
      cases f8
      exact ⟨hb7'', hb8'', HB.out.aft hA8, ⟨g1, g2⟩, ⟨g3, g4⟩, HC.out.aft hA8, HRI.out.aft hA8, HOI.out.aft hA8, HFI.out.aft hA8, HKI.out.aft hA8, g5, g6, g7, g8⟩)
    have HAW := Lib.hid (H0.out.trans (HA1.out.trans hA8))
    have HW2 := Lib.hid hW2
    clear hw hd hus e50 e52 e54 e56 e58 e60 e11 e16 ho1 ho3 ho5 ho6 ho7 ho8 hl1 hl3 hb7 hb8 hb7' hb8' hb8'' hb7'' hs7 hs8 hA7 hA8 hne hg7 hg8 hW2 HC0 H13 H14 H24R H24O H24F H24K HB HC HA1 H0 HRI HOI HFI HKI
    simp only [fill, List.drop_succ_cons, List.drop_zero, List.zip_cons_cons, List.zip_nil_right, putAll]
    simp only [Act.put, List.setIfInBounds_toArray, List.set]
    go_upto_region 4 with (first | (refine wpList_store_mid rfl 25 (.tmp 11) (.tmp 50) rfl g7 0 #[.int .i64 C.claims, .slice A1 C.strikes.length k1, .slice A2 C.surveys.length k2] rfl rfl HT7.out info25b (all_oneCell_toArray (by intro v hv; simp at hv; rcases hv with rfl | rfl | rfl <;> rfl)) ?_) | (refine wpList_store_mid rfl 33 (.tmp 16) (.tmp 60) rfl g8 0 #[.int .i64 C.claims, .slice A3 C.strikes.length k3, .slice A4 C.surveys.length k4] rfl rfl HT8.out info31 (all_oneCell_toArray (by intro v hv; simp at hv; rcases hv with rfl | rfl | rfl <;> rfl)) ?_; rw [HW2.out]))
    clear HT7 HT8 HW2
    obtain ⟨cE, hcE⟩ : ∃ cE, caseE C = cE := ⟨_, rfl⟩
    have H34 : Hid (∀ X, Aft W2 X → Calls Try.prog 9 #[.agg #[.int .i64 C.claims, .slice A1 C.strikes.length k1, .slice A2 C.surveys.length k2]] X fun e w' => e = .returned (.int .i64 cE) ∧ Aft X w') := Lib.hid fun X h => by rw [← hcE]; exact check_any C A1 A2 k1 k2 X (HTW.out.aft h).r7
    have H56 : Hid (∀ X, Aft W2 X → Calls Try.prog 10 #[.agg #[.int .i64 C.claims, .slice A3 C.strikes.length k3, .slice A4 C.surveys.length k4]] X fun e w' => e = .returned (.int .i64 cE) ∧ Aft X w') := Lib.hid fun X h => by rw [← hcE]; exact checkR_any C A3 A4 k3 k4 X (HTW.out.aft h).r8
    have HG7 : Hid (∀ X, Aft W2 X → X.cell? ⟨g7, 0, none⟩ = some (.int .i64 C.claims) ∧ X.cell? ⟨g7, 1, none⟩ = some (.slice A1 C.strikes.length k1) ∧ X.cell? ⟨g7, 2, none⟩ = some (.slice A2 C.surveys.length k2)) := Lib.hid fun X h => box25 (HTW.out.aft h).k7
    have HG8 : Hid (∀ X, Aft W2 X → X.cell? ⟨g8, 0, none⟩ = some (.int .i64 C.claims) ∧ X.cell? ⟨g8, 1, none⟩ = some (.slice A3 C.strikes.length k3) ∧ X.cell? ⟨g8, 2, none⟩ = some (.slice A4 C.surveys.length k4)) := Lib.hid fun X h => box31 (HTW.out.aft h).k8
    have tE : (cE != cE) = false := by simp
    clear hcE
    refine wp_region_valsG (by kernel_rfl) 198 rfl (by kernel_rfl) (by kernel_rfl) [(.agg #[.int .i64 C.claims, .slice A1 C.strikes.length k1, .slice A2 C.surveys.length k2]), .int .i64 cE, (.agg #[.int .i64 C.claims, .slice A3 C.strikes.length k3, .slice A4 C.surveys.length k4]), .int .i64 cE, .bool false] rfl (fun W => Aft W2 W) (Aft.drew _) ?st2 ?fi2
    case st2 =>
      intro i o v ho hv
      match i, ho, hv with
      | 0, ho, hv =>
        cases ho; cases hv
        refine .inl ⟨rfl, fun a W hk hw K hK => ?_⟩
        have e11 := hk.same 11 (by decide)
        obtain ⟨y0, y1, y2⟩ := HG7.out W hw
        exact op_val (v := .agg #[.int .i64 C.claims, .slice A1 C.strikes.length k1, .slice A2 C.surveys.length k2]) (by simp [go_sem, ev' e11, y0, y1, y2]) (hK _ hw)
      | 1, ho, hv =>
        cases ho; cases hv
        refine .inl ⟨rfl, fun a W hk hw K hK => ?_⟩
        have e61 := hk.at_ 0 _ 61 _ rfl (by decide) _ rfl rfl rfl
        refine op_callN rfl rfl rfl _ rfl (vs := #[.agg #[.int .i64 C.claims, .slice A1 C.strikes.length k1, .slice A2 C.surveys.length k2]]) (by simp [e61]) (H34.out W hw) fun e w' h => ?_
        obtain ⟨rfl, ha⟩ := h
        exact ⟨_, rfl, hK _ (hw.trans ha)⟩
      | 2, ho, hv =>
        cases ho; cases hv
        refine .inl ⟨rfl, fun a W hk hw K hK => ?_⟩
        have e16 := hk.same 16 (by decide)
        obtain ⟨y0, y1, y2⟩ := HG8.out W hw
        exact op_val (v := .agg #[.int .i64 C.claims, .slice A3 C.strikes.length k3, .slice A4 C.surveys.length k4]) (by simp [go_sem, ev' e16, y0, y1, y2]) (hK _ hw)
      | 3, ho, hv =>
        cases ho; cases hv
        refine .inl ⟨rfl, fun a W hk hw K hK => ?_⟩
        have e63 := hk.at_ 2 _ 63 _ rfl (by decide) _ rfl rfl rfl
        refine op_callN rfl rfl rfl _ rfl (vs := #[.agg #[.int .i64 C.claims, .slice A3 C.strikes.length k3, .slice A4 C.surveys.length k4]]) (by simp [e63]) (H56.out W hw) fun e w' h => ?_
        obtain ⟨rfl, ha⟩ := h
        exact ⟨_, rfl, hK _ (hw.trans ha)⟩
      | 4, ho, hv =>
        cases ho; cases hv
        refine .inl ⟨rfl, fun a W hk hw K hK => ?_⟩
        have e62 := hk.at_ 1 _ 62 _ rfl (by decide) _ rfl rfl rfl
        have e64 := hk.at_ 3 _ 64 _ rfl (by decide) _ rfl rfl rfl
        exact op_val (by simp [go_sem, ev' e62, ev' e64, tE]) (hK _ hw)
      | _ + 5, _, hv => cases hv
    intro W hw
    simp only [List.drop_succ_cons, List.drop_zero, List.zip_cons_cons, List.zip_nil_right, putAll]
    simp only [Act.put, List.setIfInBounds_toArray, List.set]
    replace HTW := Lib.hid (HTW.out.aft hw)
    replace HAW := Lib.hid (HAW.out.trans hw)
    clear hw H34 H56 HG7 HG8 tE
    obtain ⟨W3, rfl⟩ : ∃ W3, W3 = W := ⟨_, rfl⟩
    go_upto_region 6 with fail
    obtain ⟨L1, E1, hp, hr⟩ := heard_pair C R O
    have H35 := Lib.hid (hp A1 A2 k1 k2 A5 k5 A6 k6)
    have H81 := Lib.hid (hr A3 A4 k3 k4 AR cR AO cO)
    clear hp hr
    obtain ⟨x0, x1, x2⟩ := box25 HTW.out.k7
    have x3 := HTW.out.k7.lt
    go_upto_region 7 with (go_at_call 11; refine (H35.out _ HTW.out.r7 HTW.out.i5 HTW.out.i6).mono ?_; rintro e W4 ⟨B1, d1, rfl, hi, ha⟩; have HI1 := Lib.hid hi; replace HTW := Lib.hid (HTW.out.aft ha); replace HAW := Lib.hid (HAW.out.trans ha); clear hi ha x0 x1 x2 x3)
    obtain ⟨x0, x1, x2⟩ := box31 HTW.out.k8
    have x3 := HTW.out.k8.lt
    go_upto_region 8 with (go_at_call 12; refine (H81.out _ HTW.out.r8 HTW.out.iR HTW.out.iO).mono ?_; rintro e W5 ⟨B2, d2, rfl, hi, ha⟩; have HI2 := Lib.hid hi; replace HI1 := Lib.hid (HI1.out.aft ha); replace HTW := Lib.hid (HTW.out.aft ha); replace HAW := Lib.hid (HAW.out.trans ha); clear hi ha x0 x1 x2 x3)
    have tE : (E1 != E1) = false := by simp
    have h17 := kitEqual_int B1 B2 L1 L1 d1 d2 W5 HI1.out HI2.out
    rw [eqB_self] at h17
    have H17 := Lib.hid h17
    clear h17
    go_cut [88] from 80 to 88 (fun sv wx => sv = .bool false ∧ Aft W5 wx)
    case first =>
      (repeat (first | go_big_skip | go_big_want | go_big_move | go_big_op | go_step | go_upon | go_back))
      go_at_call 13
      refine H17.out.mono ?_
      rintro e wz ⟨rfl, ha⟩
      dsimp only
      have HZ := Lib.hid ha
      clear ha
      (repeat (first | go_big_skip | go_big_want | go_big_move | go_big_op | go_step | go_upon | go_back))
      go_meet
      exact ⟨rfl, HZ.out⟩
    obtain ⟨rfl, ha⟩ := hcut
    replace HTW := Lib.hid (HTW.out.aft ha)
    replace HAW := Lib.hid (HAW.out.trans ha)
    clear ha tE H17 HI1 HI2 H35 H81
    obtain ⟨W6, rfl⟩ : ∃ W6, W6 = wc := ⟨_, rfl⟩
    go_upto_region 10 with fail
    obtain ⟨L2, E2, hp, hr, hq⟩ := award_triple C R
    have H39 := Lib.hid (hp A1 A2 k1 k2 A5 k5)
    have H22 := Lib.hid (hr A3 A4 k3 k4 AR cR)
    have H42 := Lib.hid (hq A1 A2 k1 k2 A5 k5)
    clear hp hr hq
    obtain ⟨x0, x1, x2⟩ := box25 HTW.out.k7
    have x3 := HTW.out.k7.lt
    go_upto_region 11 with (go_at_call 14; refine (H39.out _ HTW.out.r7 HTW.out.i5).mono ?_; rintro e W7 ⟨B1, d1, rfl, hi, ha⟩; have HI1 := Lib.hid hi; replace HTW := Lib.hid (HTW.out.aft ha); replace HAW := Lib.hid (HAW.out.trans ha); clear hi ha x0 x1 x2 x3)
    obtain ⟨x0, x1, x2⟩ := box31 HTW.out.k8
    have x3 := HTW.out.k8.lt
    go_upto_region 12 with (go_at_call 15; refine (H22.out _ HTW.out.r8 HTW.out.iR).mono ?_; rintro e W8 ⟨B2, d2, rfl, hi, ha⟩; have HI2 := Lib.hid hi; replace HI1 := Lib.hid (HI1.out.aft ha); replace HTW := Lib.hid (HTW.out.aft ha); replace HAW := Lib.hid (HAW.out.trans ha); clear hi ha x0 x1 x2 x3)
    obtain ⟨x0, x1, x2⟩ := box25 HTW.out.k7
    have x3 := HTW.out.k7.lt
    go_upto_region 13 with (go_at_call 16; refine (H42.out _ HTW.out.r7 HTW.out.i5).mono ?_; rintro e W9 ⟨B3, d3, KR, rfl, hk14, hi, ha, hk0, hkc⟩; have HI3 := Lib.hid hi; have HK0 := Lib.hid hk0; have HKC := Lib.hid hkc; replace HI1 := Lib.hid (HI1.out.aft ha); replace HI2 := Lib.hid (HI2.out.aft ha); replace HTW := Lib.hid (HTW.out.aft ha); replace HAW := Lib.hid (HAW.out.trans ha); clear hi ha hk0 hkc x0 x1 x2 x3)
    have tE : (E2 != E2) = false := by simp
    have h17 := kitEqual_int B1 B2 L2 L2 d1 d2 W9 HI1.out HI2.out
    rw [eqB_self] at h17
    have H17 := Lib.hid h17
    clear h17 H39 H22 H42
    go_cut [129] from 107 to 129 (fun sv wx => sv = .bool false ∧ Aft W9 wx)
    case first =>
      by_cases hE2 : E2 = 0
      · have t0 : (E2 != 0) = false := by rw [hE2]; rfl
        (repeat (first | go_big_skip | go_big_want | go_big_move | go_big_op | go_step | go_upon | go_back))
        go_at_call 13
        refine H17.out.mono ?_
        rintro e wz ⟨rfl, ha⟩
        dsimp only
        have HZ := Lib.hid ha
        clear ha
        (repeat (first | go_big_skip | go_big_want | go_big_move | go_big_op | go_step | go_upon | go_back))
        go_meet
        exact ⟨rfl, HZ.out⟩
      · have t0 : (E2 != 0) = true := by rw [bne_iff_ne]; exact hE2
        have hk := HK0.out hE2
        have t9 : decide ((0 : Int) < (KR.length : Int)) = false := decide_eq_false (by omega)
        clear hk
        (repeat (first | go_big_skip | go_big_want | go_big_move | go_big_op | go_step | go_upon | go_back))
        go_at_call 13
        refine H17.out.mono ?_
        rintro e wz ⟨rfl, ha⟩
        dsimp only
        have HZ := Lib.hid ha
        clear ha
        (repeat (first | go_big_skip | go_big_want | go_big_move | go_big_op | go_step | go_upon | go_back))
        go_meet
        exact ⟨congrArg Value.bool (decide_eq_false (by have := HK0.out hE2; omega)), HZ.out⟩
    obtain ⟨rfl, ha⟩ := hcut
    replace HI2 := Lib.hid (HI2.out.aft ha)
    replace HI3 := Lib.hid (HI3.out.aft ha)
    replace HTW := Lib.hid (HTW.out.aft ha)
    replace HAW := Lib.hid (HAW.out.trans ha)
    clear ha tE H17 HI1 HK0
    obtain ⟨V0, rfl⟩ : ∃ V0, V0 = wc := ⟨_, rfl⟩
    go_upto_region 15 with fail
    go_upto_if 131 with fail
    go_cut [133] from 133 to 145 (fun sv wx => Aft V0 wx)
    case first =>
      by_cases hE2 : E2 = 0
      · have t0 : (E2 == 0) = true := by rw [hE2]; rfl
        have H82 := Lib.hid (HKC.out hE2 A3 A4 k3 k4 AR cR B2 d2 B3 d3 V0 HTW.out.r8 HTW.out.iR HI2.out HI3.out)
        obtain ⟨x0, x1, x2⟩ := box31 HTW.out.k8
        have x3 := HTW.out.k8.lt
        (repeat (first | go_big_skip | go_big_want | go_big_move | go_big_op | go_step | go_upon | go_back))
        go_at_call 17
        refine H82.out.mono ?_
        rintro e wz ⟨rfl, ha⟩
        dsimp only
        have HZ := Lib.hid ha
        clear ha
        (repeat (first | go_big_skip | go_big_want | go_big_move | go_big_op | go_step | go_upon | go_back))
        go_meet
        exact HZ.out
      · have t0 : (E2 == 0) = false := by rw [beq_eq_false_iff_ne]; exact hE2
        (repeat (first | go_big_skip | go_big_want | go_big_move | go_big_op | go_step | go_upon | go_back))
        go_meet
        exact Aft.refl _
    have ha := hcut
    replace HTW := Lib.hid (HTW.out.aft ha)
    replace HAW := Lib.hid (HAW.out.trans ha)
    clear ha hcut HI2 HI3 HKC
    obtain ⟨V1, rfl⟩ : ∃ V1, V1 = wc := ⟨_, rfl⟩
    go_upto_region 19 with fail
    obtain ⟨hb, hE, hp, hr⟩ := holds_pair C R F Kl
    have H43 := Lib.hid (hp A1 A2 k1 k2 A5 k5 A7 k7 A8 k8)
    have H82 := Lib.hid (hr A3 A4 k3 k4 AR cR AF cF AK cK)
    clear hp hr
    obtain ⟨x0, x1, x2⟩ := box25 HTW.out.k7
    have x3 := HTW.out.k7.lt
    go_upto_region 20 with (go_at_call 18; refine (H43.out _ HTW.out.r7 HTW.out.i5 HTW.out.i7 HTW.out.i8).mono ?_; rintro e V2 ⟨rfl, ha⟩; replace HTW := Lib.hid (HTW.out.aft ha); replace HAW := Lib.hid (HAW.out.trans ha); clear ha x0 x1 x2 x3)
    obtain ⟨x0, x1, x2⟩ := box31 HTW.out.k8
    have x3 := HTW.out.k8.lt
    go_upto_region 21 with (go_at_call 17; refine (H82.out _ HTW.out.r8 HTW.out.iR HTW.out.iF HTW.out.iK).mono ?_; rintro e V3 ⟨rfl, ha⟩; replace HTW := Lib.hid (HTW.out.aft ha); replace HAW := Lib.hid (HAW.out.trans ha); clear ha x0 x1 x2 x3)
    clear H43 H82
    have tE : (hE == hE) = true := by simp
    have tb : (hb == hb) = true := by simp
    obtain ⟨x0, x1, x2⟩ := box25 HTW.out.k7
    have x3 := HTW.out.k7.lt
    obtain ⟨y0, y1, y2⟩ := box25 HTW.out.k3
    have y3 := HTW.out.k3.lt
    have H23 := Lib.hid (equal_same C A1 A2 k1 k2 a1 a2 c1 c2 V3 HTW.out.r7 HTW.out.r3)
    have tb2 : ∀ b : Bool, (b == b) = true := fun b => by simp
    cases hb
    · skip
      (repeat (first | go_big_skip | go_big_want | go_big_move | go_big_op | go_step | go_upon | go_back))
      go_at_call 19
      refine H23.out.mono ?_
      rintro e V4 ⟨rfl, ha⟩
      dsimp only
      replace HTW := Lib.hid (HTW.out.aft ha)
      replace HAW := Lib.hid (HAW.out.trans ha)
      clear ha H23 x0 x1 x2 x3 y0 y1 y2 y3
      have h17 := kitEqual_int A5 AR R R k5 cR V4 HTW.out.i5 HTW.out.iR
      rw [eqB_self] at h17
      have H17 := Lib.hid h17
      clear h17
      (repeat (first | go_big_skip | go_big_want | go_big_move | go_big_op | go_step | go_upon | go_back))
      go_at_call 13
      refine H17.out.mono ?_
      rintro e V5 ⟨rfl, ha⟩
      dsimp only
      replace HTW := Lib.hid (HTW.out.aft ha)
      replace HAW := Lib.hid (HAW.out.trans ha)
      clear ha H17
      have h17 := kitEqual_int A6 AO O O k6 cO V5 HTW.out.i6 HTW.out.iO
      rw [eqB_self] at h17
      have H17 := Lib.hid h17
      clear h17
      (repeat (first | go_big_skip | go_big_want | go_big_move | go_big_op | go_step | go_upon | go_back))
      go_at_call 13
      refine H17.out.mono ?_
      rintro e V6 ⟨rfl, ha⟩
      dsimp only
      replace HTW := Lib.hid (HTW.out.aft ha)
      replace HAW := Lib.hid (HAW.out.trans ha)
      clear ha H17
      have h17 := kitEqual_int A7 AF F F k7 cF V6 HTW.out.i7 HTW.out.iF
      rw [eqB_self] at h17
      have H17 := Lib.hid h17
      clear h17
      (repeat (first | go_big_skip | go_big_want | go_big_move | go_big_op | go_step | go_upon | go_back))
      go_at_call 13
      refine H17.out.mono ?_
      rintro e V7 ⟨rfl, ha⟩
      dsimp only
      replace HTW := Lib.hid (HTW.out.aft ha)
      replace HAW := Lib.hid (HAW.out.trans ha)
      clear ha H17
      have h17 := kitEqual_int A8 AK Kl Kl k8 cK V7 HTW.out.i8 HTW.out.iK
      rw [eqB_self] at h17
      have H17 := Lib.hid h17
      clear h17
      (repeat (first | go_big_skip | go_big_want | go_big_move | go_big_op | go_step | go_upon | go_back))
      go_at_call 13
      refine H17.out.mono ?_
      rintro e V8 ⟨rfl, ha⟩
      dsimp only
      replace HTW := Lib.hid (HTW.out.aft ha)
      replace HAW := Lib.hid (HAW.out.trans ha)
      clear ha H17
      (repeat (first | go_big_skip | go_big_want | go_big_move | go_big_op | go_step | go_upon | go_back))
      go_at_call 5
      refine (awake_any _).mono ?_
      rintro e V9 ⟨rfl, ha⟩
      dsimp only
      have HEND := Lib.hid (HAW.out.trans ha)
      clear ha
      (repeat (first | go_big_skip | go_big_want | go_big_move | go_big_op | go_step | go_upon | go_back))
      go_ret
      exact ⟨rfl, HEND.out⟩
    · skip
      (repeat (first | go_big_skip | go_big_want | go_big_move | go_big_op | go_step | go_upon | go_back))
      go_at_call 19
      refine H23.out.mono ?_
      rintro e V4 ⟨rfl, ha⟩
      dsimp only
      replace HTW := Lib.hid (HTW.out.aft ha)
      replace HAW := Lib.hid (HAW.out.trans ha)
      clear ha H23 x0 x1 x2 x3 y0 y1 y2 y3
      have h17 := kitEqual_int A5 AR R R k5 cR V4 HTW.out.i5 HTW.out.iR
      rw [eqB_self] at h17
      have H17 := Lib.hid h17
      clear h17
      (repeat (first | go_big_skip | go_big_want | go_big_move | go_big_op | go_step | go_upon | go_back))
      go_at_call 13
      refine H17.out.mono ?_
      rintro e V5 ⟨rfl, ha⟩
      dsimp only
      replace HTW := Lib.hid (HTW.out.aft ha)
      replace HAW := Lib.hid (HAW.out.trans ha)
      clear ha H17
      have h17 := kitEqual_int A6 AO O O k6 cO V5 HTW.out.i6 HTW.out.iO
      rw [eqB_self] at h17
      have H17 := Lib.hid h17
      clear h17
      (repeat (first | go_big_skip | go_big_want | go_big_move | go_big_op | go_step | go_upon | go_back))
      go_at_call 13
      refine H17.out.mono ?_
      rintro e V6 ⟨rfl, ha⟩
      dsimp only
      replace HTW := Lib.hid (HTW.out.aft ha)
      replace HAW := Lib.hid (HAW.out.trans ha)
      clear ha H17
      have h17 := kitEqual_int A7 AF F F k7 cF V6 HTW.out.i7 HTW.out.iF
      rw [eqB_self] at h17
      have H17 := Lib.hid h17
      clear h17
      (repeat (first | go_big_skip | go_big_want | go_big_move | go_big_op | go_step | go_upon | go_back))
      go_at_call 13
      refine H17.out.mono ?_
      rintro e V7 ⟨rfl, ha⟩
      dsimp only
      replace HTW := Lib.hid (HTW.out.aft ha)
      replace HAW := Lib.hid (HAW.out.trans ha)
      clear ha H17
      have h17 := kitEqual_int A8 AK Kl Kl k8 cK V7 HTW.out.i8 HTW.out.iK
      rw [eqB_self] at h17
      have H17 := Lib.hid h17
      clear h17
      (repeat (first | go_big_skip | go_big_want | go_big_move | go_big_op | go_step | go_upon | go_back))
      go_at_call 13
      refine H17.out.mono ?_
      rintro e V8 ⟨rfl, ha⟩
      dsimp only
      replace HTW := Lib.hid (HTW.out.aft ha)
      replace HAW := Lib.hid (HAW.out.trans ha)
      clear ha H17
      (repeat (first | go_big_skip | go_big_want | go_big_move | go_big_op | go_step | go_upon | go_back))
      go_at_call 5
      refine (awake_any _).mono ?_
      rintro e V9 ⟨rfl, ha⟩
      dsimp only
      have HEND := Lib.hid (HAW.out.trans ha)
      clear ha
      (repeat (first | go_big_skip | go_big_want | go_big_move | go_big_op | go_step | go_upon | go_back))
      go_ret
      exact ⟨rfl, HEND.out⟩
  · go_wp2_with (go_at_call 5; refine (awake_any _).mono ?_; rintro e wz2 ⟨rfl, ha⟩; have HEND := Lib.hid (H0.out.trans (HA1.out.trans ha)); clear ha)
    go_ret
    exact ⟨rfl, HEND.out⟩
end Go.Proofs
end
