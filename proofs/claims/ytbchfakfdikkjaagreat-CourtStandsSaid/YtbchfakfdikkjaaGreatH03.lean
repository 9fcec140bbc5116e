/- Own texts, merged: CtCl CtRj0 CtRj. -/
import Derived.Test.YtbchfakfdikkjaaGreatH01
import Derived.Test.YtbchfakfdikkjaaGreatH02
import Derived.Test.YtbchfakfdikkjaaGreatP17
import Derived.Laws.CopyOwn
set_option linter.unusedSimpArgs false
set_option linter.unusedVariables false
set_option linter.unnecessarySimpa false
section
namespace Go.Proofs
open Go.RowKit
attribute [local go_sem] Oper.semAt_some

theorem OwnLists.sm {b base : Nat} {w W : World} {v : Value} {ls : List (List Int)} (h : OwnLists w base v ls) (hs : Sm b w W) (hb : b ≤ base) : OwnLists W base v ls :=
  let ⟨vs, h⟩ := h; ⟨vs, own_sm h.own hs hb, fun i hi hi' => own_sm (h.rows i hi hi') hs hb, h.apart⟩
theorem lists_own {b base : Nat} {w : World} {v : Value} {ls : List (List Int)} (h : OwnLists w base v ls) (hl : ls.length ≤ 1000000) (hr : ∀ l ∈ ls, l.length ≤ 1000000) (hb : b ≤ base) : ∃ A c, v = .slice A ls.length c ∧ ∀ X, Sm b w X → Lists X A ls := by
  obtain ⟨A, c, e, _, _⟩ := h.lists (by omega) (fun l hl => by have := hr l hl; omega)
  refine ⟨A, c, e, fun X hX => ?_⟩
  obtain ⟨A', c', e', _, hi⟩ := (h.sm hX hb).lists (by omega) (fun l hl => by have := hr l hl; omega)
  rw [e] at e'
  cases e'
  exact hi
theorem strs_own {b base : Nat} {w : World} {v : Value} {L : List (Int × Int)} (h : w.ownsRow base 57 2 v L.length (strC L)) (hl : L.length ≤ 1000000) (hb : b ≤ base) : ∃ A c, v = .slice A L.length c ∧ ∀ X, Sm b w X → Strs X A L := by
  obtain ⟨A, c, e, _, _⟩ := own_strs h hl
  refine ⟨A, c, e, fun X hX => ?_⟩
  obtain ⟨A', c', e', hi, _⟩ := own_strs (own_sm h hX hb) hl
  rw [e] at e'
  cases e'
  exact hi
theorem strs_own84 {b base : Nat} {w : World} {v : Value} {L : List (Int × Int)} (h : w.ownsRow base 84 2 v L.length (strC L)) (hl : L.length ≤ 1000000) (hb : b ≤ base) : ∃ A c, v = .slice A L.length c ∧ ∀ X, Sm b w X → Strs X A L := by
  obtain ⟨A, c, e, _, _⟩ := own_strs84 h hl
  refine ⟨A, c, e, fun X hX => ?_⟩
  obtain ⟨A', c', e', hi, _⟩ := own_strs84 (own_sm h hX hb) hl
  rw [e] at e'
  cases e'
  exact hi
theorem strs_src {w : World} {A : Option Addr} {l : List (Int × Int)} (h : Strs w A l) : ∀ ad, A = some ad → ∀ j u, (strC l)[j]? = some u → w.cell? (ad.add j) = some u := by
  intro ad e j u hj
  have hlen : (strC l).length = 2 * l.length := by
    clear hj h
    induction l with
    | nil => rfl
    | cons s r ih =>
      have e : strC (s :: r) = .int .i64 s.1 :: .int .i64 s.2 :: strC r := rfl
      rw [e]
      simp only [List.length_cons, ih]
      omega
  have hjl := (List.getElem?_eq_some_iff.1 hj).1
  have hlt : j / 2 < l.length := by omega
  obtain ⟨b, o, e2, _, hc⟩ := h.at hlt
  rw [e] at e2; cases e2
  obtain ⟨h1, h2⟩ := hc (j / 2) hlt
  obtain ⟨g1, g2⟩ := strC_get l (j / 2) hlt
  rw [Addr.add_lit]
  by_cases ho : j % 2 = 0
  · rw [show 2 * (j / 2) = j by omega, hj] at g1
    cases g1
    rw [show o + j = o + j / 2 * 2 by omega]
    exact h1
  · rw [show 2 * (j / 2) + 1 = j by omega, hj] at g2
    cases g2
    rw [show o + j = o + j / 2 * 2 + 1 by omega]
    exact h2
theorem strs_nil {w : World} {A : Option Addr} {l : List (Int × Int)} (h : Strs w A l) (e : A = none) : l.length = 0 := by
  rcases Nat.eq_zero_or_pos l.length with h0 | h0
  · exact h0
  · obtain ⟨b, o, e2, _⟩ := h.at h0
    rw [e] at e2; cases e2
theorem strs_one (l : List (Int × Int)) : ∀ u ∈ strC l, u.oneCell' = true := by
  intro u hu
  unfold strC at hu
  rw [List.mem_flatMap] at hu
  obtain ⟨s, _, hs⟩ := hu
  simp at hs
  rcases hs with rfl | rfl <;> rfl
theorem strC_len (l : List (Int × Int)) : (strC l).length = l.length * 2 := by
  induction l with
  | nil => rfl
  | cons s r ih =>
    have e : strC (s :: r) = .int .i64 s.1 :: .int .i64 s.2 :: strC r := rfl
    rw [e]
    simp only [List.length_cons, ih]
    omega

def OwnStrs (w0 : World) (l : List (Int × Int)) (e : Ending) (w' : World) : Prop := ∃ v, e = .returned v ∧ w'.ownsRow w0.heap.size 57 2 v l.length (strC l) ∧ Aft w0 w'
theorem kitClone_str (A : Option Addr) (l : List (Int × Int)) (c : Nat) (w : World) (hA : Strs w A l) (hl : l.length ≤ 1000000) :
    Calls Tryz.prog 52 #[.slice A l.length c] w (OwnStrs w l) := by
  go_enter Tryz.func52, Tryz.ntmps52
  go_wp2_with (at_builtin; refine wpList_app ty22 rfl _ _ rfl (Aft.refl w) rfl (World.ownsRow_nil w _ 57 2) rfl (strC_len l) (strs_nil hA) (strs_src hA) (strs_one l) (by omega) (by decide) ?_; intro v' w1 hown' hgrow haft)
  go_ret
  exact ⟨_, rfl, by simpa using hown', haft⟩

structure Cc (W0 : World) (S : List (Int × Int)) (T : List (List Int)) (done : Nat → Bool) (a : Act) (W : World) : Prop where
  aft : Aft W0 W
  s : done 4 = true → ∃ v, a.eval (.tmp 7) = v ∧ W.ownsRow W0.heap.size 57 2 v S.length (strC S)
  t : done 7 = true → ∃ v, a.eval (.tmp 10) = v ∧ OwnLists W W0.heap.size v T
section
variable {W0 W W' : World} {S : List (Int × Int)} {T : List (List Int)} {done : Nat → Bool} {a : Act}
theorem Cc.start : Cc W0 S T (fun _ => false) a W0.drew := ⟨Aft.drew _, (fun h => by cases h), (fun h => by cases h)⟩
theorem Cc.keep (h : Cc W0 S T done a W) {i : Nat} {dst : Option Tmp} {v : Value} (hi : i ≠ 4 ∧ i ≠ 7) (hd : dst ≠ some 7 ∧ dst ≠ some 10) : Cc W0 S T (upd done i) (a.put dst v) W := by
  refine ⟨h.aft, fun p => ?_, fun p => ?_⟩
  · rw [upd_ne' (Ne.symm hi.1)] at p
    obtain ⟨v, e, hs⟩ := h.s p
    exact ⟨v, by rw [evne hd.1]; exact e, hs⟩
  · rw [upd_ne' (Ne.symm hi.2)] at p
    obtain ⟨v, e, hs⟩ := h.t p
    exact ⟨v, by rw [evne hd.2]; exact e, hs⟩
theorem Cc.stepS (h : Cc W0 S T done a W) (ha : Aft W W') {v : Value} (hs : W'.ownsRow W0.heap.size 57 2 v S.length (strC S)) (hz : 7 < a.tmps.size) : Cc W0 S T (upd done 4) (a.put (some 7) v) W' := by
  refine ⟨h.aft.trans ha, fun _ => ⟨v, Act.eval_put_same _ _ _ hz, hs⟩, fun p => ?_⟩
  rw [upd_ne' (by decide)] at p
  obtain ⟨v, e, hs⟩ := h.t p
  exact ⟨v, by rw [evne (by decide)]; exact e, hs.aft ha⟩
theorem Cc.stepT (h : Cc W0 S T done a W) (ha : Aft W W') {v : Value} (ht : OwnLists W' W0.heap.size v T) (hz : 10 < a.tmps.size) : Cc W0 S T (upd done 7) (a.put (some 10) v) W' := by
  refine ⟨h.aft.trans ha, fun p => ?_, fun _ => ⟨v, Act.eval_put_same _ _ _ hz, ht⟩⟩
  rw [upd_ne' (by decide)] at p
  obtain ⟨v, e, hs⟩ := h.s p
  exact ⟨v, by rw [evne (by decide)]; exact e, own_aft hs ha⟩
end
theorem list2 {α : Type} {us : List α} (h : us.length = 2) : ∃ x y, us = [x, y] := by
  match us, h with
  | [x, y], _ => exact ⟨x, y, rfl⟩
def CopyR (t : TypeId) (C : CaseL) (w : World) (e : Ending) (w' : World) : Prop := ∃ v1 v2, e = .returned (.agg #[.int .i64 C.claims, v1, v2]) ∧ w'.ownsRow w.heap.size t 2 v1 C.strikes.length (strC C.strikes) ∧ OwnLists w' w.heap.size v2 C.surveys ∧ Aft w w'

set_option maxRecDepth 100000 in
set_option maxHeartbeats 4000000 in
theorem cloneCase_any (C : CaseL) (a1 a2 : Option Addr) (c1 c2 : Nat) (w : World) (hC : CRep w C a1 a2) (h1 : C.strikes.length ≤ 1000) (h2 : C.surveys.length ≤ 1000) (h3 : ∀ l ∈ C.surveys, l.length ≤ 1000) :
    Calls Tryz.prog 13 #[(.agg #[.int .i64 C.claims, .slice a1 C.strikes.length c1, .slice a2 C.surveys.length c2])] w (CopyR 57 C w) := by
  have H0 := Lib.hid ((Aft.alloc w (.cells #[.int .i64 C.claims, .slice a1 C.strikes.length c1, .slice a2 C.surveys.length c2] 25)).then_alloc (.cells #[.int .i64 0, .slice none 0 0, .slice none 0 0] 25))
  have HB := Lib.hid ((Blk.new w 25 #[.int .i64 C.claims, .slice a1 C.strikes.length c1, .slice a2 C.surveys.length c2]).alloc (.cells #[.int .i64 0, .slice none 0 0, .slice none 0 0] 25))
  have HB2 := Lib.hid (Blk.new (w.alloc (.cells #[.int .i64 C.claims, .slice a1 C.strikes.length c1, .slice a2 C.surveys.length c2] 25)) 25 #[.int .i64 0, .slice none 0 0, .slice none 0 0])
  rw [World.size_alloc] at HB2
  have HC := Lib.hid (hC.aft H0.out)
  have hz0 : w.heap.size + 1 < ((w.alloc (.cells #[.int .i64 C.claims, .slice a1 C.strikes.length c1, .slice a2 C.surveys.length c2] 25)).alloc (.cells #[.int .i64 0, .slice none 0 0, .slice none 0 0] 25)).heap.size := by simp
  clear hC
  go_enter Tryz.func13, Tryz.ntmps13
  go_upto_region 1 with fail
  try rw [World.size_alloc]
  obtain ⟨b1, hb1⟩ : ∃ b1, w.heap.size = b1 := ⟨_, rfl⟩
  have HW := Lib.hid hb1
  rw [hb1] at HB HB2 hz0 ⊢
  clear hb1
  generalize (w.alloc (.cells #[.int .i64 C.claims, .slice a1 C.strikes.length c1, .slice a2 C.surveys.length c2] 25)).alloc (.cells #[.int .i64 0, .slice none 0 0, .slice none 0 0] 25) = W0 at *
  have HC0 : Hid (∀ W, Aft W0 W → W.cell? ⟨b1, 0, none⟩ = some (.int .i64 C.claims) ∧ W.cell? ⟨b1, 1, none⟩ = some (.slice a1 C.strikes.length c1) ∧ W.cell? ⟨b1, 2, none⟩ = some (.slice a2 C.surveys.length c2)) := Lib.hid fun W h => box25 (HB.out.aft h)
  have H52 : Hid (∀ W, Aft W0 W → Calls Tryz.prog 52 #[.slice a1 C.strikes.length c1] W (OwnStrs W C.strikes)) := Lib.hid fun W h => kitClone_str a1 C.strikes c1 W (HC.out.aft h).strikes (by omega)
  have H53 : Hid (∀ W, Aft W0 W → Calls Tryz.prog 53 #[.slice a2 C.surveys.length c2] W fun e w' => ∃ v, e = .returned v ∧ OwnLists w' W.heap.size v C.surveys ∧ Aft W w') := Lib.hid fun W h => cloneAll_any W a2 C.surveys c2 (HC.out.aft h).surveys (by omega)
  have H3 := Lib.hid h3
  clear h3
  refine wp_region_valsU (by kernel_rfl) 8 12 rfl (by kernel_rfl) (by kernel_rfl) [some (.pointer (some ⟨b1, 0, none⟩)), some (.int .i64 C.claims), some (.pointer (some ⟨b1, 1, none⟩)), some (.slice a1 C.strikes.length c1), none, some (.pointer (some ⟨b1, 2, none⟩)), some (.slice a2 C.surveys.length c2), none] (by kernel_rfl) rfl (Cc W0 C.strikes C.surveys) (Cc.start) ?st1 ?fi1
  case st1 =>
    intro i o v ho hv
    match i, ho, hv with
    | 0, ho, hv =>
      cases ho; cases hv
      refine .inl ⟨rfl, fun done a W hz hd hp hk hw K hK => ?_⟩
      have e1 := hk.same 1 (by decide)
      exact op_val (v := .pointer (some ⟨b1, 0, none⟩)) (by simp [go_sem, ev' e1]) (hK _ _ (fun u hu => by cases hu; rfl) (hw.keep (by decide) (by decide)))
    | 1, ho, hv =>
      cases ho; cases hv
      refine .inl ⟨rfl, fun done a W hz hd hp hk hw K hK => ?_⟩
      have e3 := hk.at_ 0 _ 3 _ rfl (by decide) _ rfl rfl rfl
      exact op_val (v := .int .i64 C.claims) (by simp [go_sem, ev' e3, (HC0.out W hw.aft).1]) (hK _ _ (fun u hu => by cases hu; rfl) (hw.keep (by decide) (by decide)))
    | 2, ho, hv =>
      cases ho; cases hv
      refine .inl ⟨rfl, fun done a W hz hd hp hk hw K hK => ?_⟩
      have e1 := hk.same 1 (by decide)
      exact op_val (v := .pointer (some ⟨b1, 1, none⟩)) (by simp [go_sem, ev' e1]) (hK _ _ (fun u hu => by cases hu; rfl) (hw.keep (by decide) (by decide)))
    | 3, ho, hv =>
      cases ho; cases hv
      refine .inl ⟨rfl, fun done a W hz hd hp hk hw K hK => ?_⟩
      have e5 := hk.at_ 2 _ 5 _ rfl (by decide) _ rfl rfl rfl
      exact op_val (v := .slice a1 C.strikes.length c1) (by simp [go_sem, ev' e5, (HC0.out W hw.aft).2.1]) (hK _ _ (fun u hu => by cases hu; rfl) (hw.keep (by decide) (by decide)))
    | 4, ho, hv =>
      cases ho; cases hv
      refine .inl ⟨rfl, fun done a W hz hd hp hk hw K hK => ?_⟩
      have e6 := hk.at_ 3 _ 6 _ rfl (by decide) _ rfl rfl rfl
      refine op_callN rfl rfl rfl _ rfl (vs := #[.slice a1 C.strikes.length c1]) (by simp [e6]) (H52.out W hw.aft) fun e w' h => ?_
      obtain ⟨v1, rfl, ho, ha⟩ := h
      exact ⟨_, rfl, hK _ _ (fun u hu => by cases hu) (hw.stepS ha (own_base ho hw.aft.size) (by rw [hz]; decide))⟩
    | 5, ho, hv =>
      cases ho; cases hv
      refine .inl ⟨rfl, fun done a W hz hd hp hk hw K hK => ?_⟩
      have e1 := hk.same 1 (by decide)
      exact op_val (v := .pointer (some ⟨b1, 2, none⟩)) (by simp [go_sem, ev' e1]) (hK _ _ (fun u hu => by cases hu; rfl) (hw.keep (by decide) (by decide)))
    | 6, ho, hv =>
      cases ho; cases hv
      refine .inl ⟨rfl, fun done a W hz hd hp hk hw K hK => ?_⟩
      have e8 := hk.at_ 5 _ 8 _ rfl (by decide) _ rfl rfl rfl
      exact op_val (v := .slice a2 C.surveys.length c2) (by simp [go_sem, ev' e8, (HC0.out W hw.aft).2.2]) (hK _ _ (fun u hu => by cases hu; rfl) (hw.keep (by decide) (by decide)))
    | 7, ho, hv =>
      cases ho; cases hv
      refine .inl ⟨rfl, fun done a W hz hd hp hk hw K hK => ?_⟩
      have e9 := hk.at_ 6 _ 9 _ rfl (by decide) _ rfl rfl rfl
      refine op_callN rfl rfl rfl _ rfl (vs := #[.slice a2 C.surveys.length c2]) (by simp [e9]) (H53.out W hw.aft) fun e w' h => ?_
      obtain ⟨v1, rfl, ho, ha⟩ := h
      exact ⟨_, rfl, hK _ _ (fun u hu => by cases hu) (hw.stepT ha (ho.mono hw.aft.size) (by rw [hz]; decide))⟩
    | _ + 8, _, hv => cases hv
  intro done us W hus hd hw
  obtain ⟨x1, x2, rfl⟩ := list2 hus
  obtain ⟨v1, e7, hs⟩ := hw.s (hd 4 (by decide))
  obtain ⟨v2, e10, ht⟩ := hw.t (hd 7 (by decide))
  have e7' : x1 = v1 := by simpa [fill, putAll, Act.put, Act.eval] using e7
  have e10' : x2 = v2 := by simpa [fill, putAll, Act.put, Act.eval] using e10
  subst e7'
  subst e10'
  obtain ⟨A1, k1, hv1, _, _⟩ := own_strs hs (by omega)
  obtain ⟨A2, k2, hv2, _, _⟩ := ht.lists (by omega) (fun l hl => by have := H3.out l hl; omega)
  subst hv1
  subst hv2
  have HS := Lib.hid hs
  have HT := Lib.hid ht
  have HA := Lib.hid hw.aft
  clear hw hd hus e7 e10 hs ht
  simp only [fill, List.drop_succ_cons, List.drop_zero, List.zip_cons_cons, List.zip_nil_right, putAll]
  simp only [Act.put, List.setIfInBounds_toArray, List.set]
  have hk2 := HB2.out.aft HA.out
  have HTH := Lib.hid (blk_there hk2 (rfl : 3 = (#[Value.int .i64 0, .slice none 0 0, .slice none 0 0] : Array Value).size))
  obtain ⟨W9, hW9, hl9, hg9⟩ : ∃ W9, W.setCells (b1 + 1) 0 [.int .i64 C.claims, .slice A1 C.strikes.length k1, .slice A2 C.surveys.length k2] = W9 ∧ (loadVar 25 ⟨b1 + 1, 0, none⟩).run Tryz.prog W9 = .ok (.agg #[.int .i64 C.claims, .slice A1 C.strikes.length k1, .slice A2 C.surveys.length k2]) W9 ∧ W.grownBy W9 (some (b1 + 1)) :=
    ⟨_, rfl, run_loadVar_mid (P := Tryz.prog) _ (b1 + 1) 0 25 [.int .i64 C.claims, .slice A1 C.strikes.length k1, .slice A2 C.surveys.length k2] _ (World.rangeAt_setCells_same W (b1 + 1) 0 _ (blk_there hk2 rfl)) Tryz.underlying25 rfl info25b, only_setCells _ _ _ (only_refl _ _)⟩
  have HG9 := Lib.hid hg9
  have hlt2 := hk2.lt
  clear hk2 hg9
  go_wp2_with (refine wpList_store_mid rfl 25 (.tmp 2) (.tmp 11) rfl (b1 + 1) 0 #[.int .i64 C.claims, .slice A1 C.strikes.length k1, .slice A2 C.surveys.length k2] rfl rfl HTH.out info25b (all_oneCell_toArray (by intro v hv; simp at hv; rcases hv with rfl | rfl | rfl <;> rfl)) ?_; rw [hW9])
  have hsm : Sm W0.heap.size W W9 := Sm.of_grown HG9.out fun k e => by cases e; exact .inl hz0
  have hww := H0.out.size
  refine bodyPost_ret (v := .agg #[.int .i64 C.claims, .slice A1 C.strikes.length k1, .slice A2 C.surveys.length k2]) (by simp [results, Tryz.results13, Act.put, asAddr, hl9]) rfl ⟨_, _, rfl, own_base (own_sm HS.out hsm (Nat.le_refl _)) hww, (HT.out.sm hsm (Nat.le_refl _)).mono hww, (H0.out.trans HA.out).grown HG9.out (fun k e => by cases e; have := HW.out; omega)⟩

theorem own_kept_ty {w w' : World} {base g : Nat} {e t : TypeId} {size n : Nat} {v : Value} {xs : List Value} {cs : Array Value} (h : w.ownsRow base e size v n xs) (hb : Blk w g t cs) (hne : e ≠ t) (hg : w.grownBy w' (some g)) : w'.ownsRow base e size v n xs := by
  refine h.kept hg ?_
  rcases h.2 with ⟨rfl, _⟩ | ⟨k, cap, cur, rfl, _, hh, _⟩
  · exact .inl rfl
  · refine .inr fun e2 => ?_
    have e3 : k = g := Option.some.inj e2
    subst e3
    have hb' : w.heap[k]? = some (.cells cs t (0, 0)) := hb
    rw [hh] at hb'
    cases hb'
    exact hne rfl
theorem OwnLists.kept_ty {w w' : World} {base g : Nat} {t : TypeId} {v : Value} {ls : List (List Int)} {cs : Array Value} (h : OwnLists w base v ls) (hb : Blk w g t cs) (h1 : 33 ≠ t) (h2 : 3 ≠ t) (hg : w.grownBy w' (some g)) : OwnLists w' base v ls :=
  let ⟨vs, h⟩ := h; ⟨vs, own_kept_ty h.own hb h1 hg, fun i hi hi' => own_kept_ty (h.rows i hi hi') hb h2 hg, h.apart⟩
theorem OwnLists.kept_own {w w' : World} {base base' : Nat} {e : TypeId} {size n : Nat} {v v' : Value} {xs : List Value} {ls : List (List Int)} (h : OwnLists w base v ls) (h' : w.ownsRow base' e size v' n xs) (h1 : 33 ≠ e) (h2 : 3 ≠ e) (hg : w.grownBy w' v'.ownBlock) : OwnLists w' base v ls := by
  rcases h'.2 with ⟨rfl, _⟩ | ⟨k, cap, cur, rfl, _, hh, _⟩
  · obtain ⟨vs, h⟩ := h
    have q : ∀ u : Value, u.ownBlock = none ∨ u.ownBlock ≠ (Value.slice none 0 0).ownBlock := fun u => by
      cases hu : u.ownBlock with
      | none => exact .inl rfl
      | some g => exact .inr fun e => by cases e
    exact ⟨vs, h.own.kept hg (q v), fun i hi hi' => (h.rows i hi hi').kept hg (q vs[i]), h.apart⟩
  · exact h.kept_ty (g := k) (cs := cur) hh h1 h2 hg

structure Cs (W0 : World) (N : Int) (T : List (List Int)) (done : Nat → Bool) (a : Act) (W : World) : Prop where
  aft : Aft W0 W
  t4 : done 4 = true → ∃ v, a.eval (.tmp 10) = v ∧ OwnLists W W0.heap.size v T
  t5 : done 5 = true → ∃ v, a.eval (.tmp 11) = .agg #[.int .i64 N, .slice none 0 0, v] ∧ OwnLists W W0.heap.size v T
  t6 : done 6 = true → ∃ g, a.eval (.tmp 3) = .pointer (some ⟨g, 0, none⟩) ∧ W0.heap.size ≤ g ∧ Blk W g 31 #[.int .i64 0, .slice none 0 0, .slice none 0 0]
section
variable {W0 W W' : World} {N : Int} {T : List (List Int)} {done : Nat → Bool} {a : Act}
theorem Cs.start : Cs W0 N T (fun _ => false) a W0.drew := ⟨Aft.drew _, (fun h => by cases h), (fun h => by cases h), (fun h => by cases h)⟩
theorem Cs.keep (h : Cs W0 N T done a W) {i : Nat} {dst : Option Tmp} {v : Value} (hi : i ≠ 4 ∧ i ≠ 5 ∧ i ≠ 6) (hd : dst ≠ some 10 ∧ dst ≠ some 11 ∧ dst ≠ some 3) : Cs W0 N T (upd done i) (a.put dst v) W := by
  refine ⟨h.aft, fun p => ?_, fun p => ?_, fun p => ?_⟩
  · rw [upd_ne' (Ne.symm hi.1)] at p
    obtain ⟨v, e, hs⟩ := h.t4 p
    exact ⟨v, by rw [evne hd.1]; exact e, hs⟩
  · rw [upd_ne' (Ne.symm hi.2.1)] at p
    obtain ⟨v, e, hs⟩ := h.t5 p
    exact ⟨v, by rw [evne hd.2.1]; exact e, hs⟩
  · rw [upd_ne' (Ne.symm hi.2.2)] at p
    obtain ⟨g, e, hs⟩ := h.t6 p
    exact ⟨g, by rw [evne hd.2.2]; exact e, hs⟩
theorem Cs.step4 (h : Cs W0 N T done a W) (ha : Aft W W') {v : Value} (ht : OwnLists W' W0.heap.size v T) (hz : 10 < a.tmps.size) : Cs W0 N T (upd done 4) (a.put (some 10) v) W' := by
  refine ⟨h.aft.trans ha, fun _ => ⟨v, Act.eval_put_same _ _ _ hz, ht⟩, fun p => ?_, fun p => ?_⟩
  · rw [upd_ne' (by decide)] at p
    obtain ⟨v, e, hs⟩ := h.t5 p
    exact ⟨v, by rw [evne (by decide)]; exact e, hs.aft ha⟩
  · rw [upd_ne' (by decide)] at p
    obtain ⟨g, e, hs, hb⟩ := h.t6 p
    exact ⟨g, by rw [evne (by decide)]; exact e, hs, hb.aft ha⟩
theorem Cs.step5 (h : Cs W0 N T done a W) {v : Value} (ht : OwnLists W W0.heap.size v T) (hz : 11 < a.tmps.size) : Cs W0 N T (upd done 5) (a.put (some 11) (.agg #[.int .i64 N, .slice none 0 0, v])) W := by
  refine ⟨h.aft, fun p => ?_, fun _ => ⟨v, Act.eval_put_same _ _ _ hz, ht⟩, fun p => ?_⟩
  · rw [upd_ne' (by decide)] at p
    obtain ⟨v, e, hs⟩ := h.t4 p
    exact ⟨v, by rw [evne (by decide)]; exact e, hs⟩
  · rw [upd_ne' (by decide)] at p
    obtain ⟨g, e, hs⟩ := h.t6 p
    exact ⟨g, by rw [evne (by decide)]; exact e, hs⟩
theorem Cs.step6 (h : Cs W0 N T done a W) (hz : 3 < a.tmps.size) : Cs W0 N T (upd done 6) (a.put (some 3) (.pointer (some ⟨W.heap.size, 0, none⟩))) (W.alloc (.cells #[.int .i64 0, .slice none 0 0, .slice none 0 0] 31)) := by
  refine ⟨h.aft.then_alloc _, fun p => ?_, fun p => ?_, fun _ => ⟨_, Act.eval_put_same _ _ _ hz, h.aft.size, Blk.new W 31 _⟩⟩
  · rw [upd_ne' (by decide)] at p
    obtain ⟨v, e, hs⟩ := h.t4 p
    exact ⟨v, by rw [evne (by decide)]; exact e, hs.aft (Aft.alloc _ _)⟩
  · rw [upd_ne' (by decide)] at p
    obtain ⟨v, e, hs⟩ := h.t5 p
    exact ⟨v, by rw [evne (by decide)]; exact e, hs.aft (Aft.alloc _ _)⟩
end
theorem info57c : (Tryz.prog.info? 57).map (·.size) = some 2 := by kernel_rfl

set_option maxRecDepth 100000 in
set_option maxHeartbeats 8000000 in
theorem caseR_any (C : CaseL) (a1 a2 : Option Addr) (c1 c2 : Nat) (w : World) (hC : CRep w C a1 a2) (h1 : C.strikes.length ≤ 1000) (h2 : C.surveys.length ≤ 1000) (h3 : ∀ l ∈ C.surveys, l.length ≤ 1000) :
    Calls Tryz.prog 14 #[(.agg #[.int .i64 C.claims, .slice a1 C.strikes.length c1, .slice a2 C.surveys.length c2])] w (CopyR 84 C w) := by
  have H0 := Lib.hid ((Aft.alloc w (.cells #[.int .i64 C.claims, .slice a1 C.strikes.length c1, .slice a2 C.surveys.length c2] 25)).then_alloc (.cells #[.int .i64 0, .slice none 0 0, .slice none 0 0] 31))
  have HB := Lib.hid ((Blk.new w 25 #[.int .i64 C.claims, .slice a1 C.strikes.length c1, .slice a2 C.surveys.length c2]).alloc (.cells #[.int .i64 0, .slice none 0 0, .slice none 0 0] 31))
  have HB2 := Lib.hid (Blk.new (w.alloc (.cells #[.int .i64 C.claims, .slice a1 C.strikes.length c1, .slice a2 C.surveys.length c2] 25)) 31 #[.int .i64 0, .slice none 0 0, .slice none 0 0])
  rw [World.size_alloc] at HB2
  have HC := Lib.hid (hC.aft H0.out)
  have hz0 : w.heap.size + 1 < ((w.alloc (.cells #[.int .i64 C.claims, .slice a1 C.strikes.length c1, .slice a2 C.surveys.length c2] 25)).alloc (.cells #[.int .i64 0, .slice none 0 0, .slice none 0 0] 31)).heap.size := by simp
  clear hC
  go_enter Tryz.func14, Tryz.ntmps14
  go_upto_region 1 with fail
  try rw [World.size_alloc]
  obtain ⟨b1, hb1⟩ : ∃ b1, w.heap.size = b1 := ⟨_, rfl⟩
  have HW := Lib.hid hb1
  rw [hb1] at HB HB2 hz0 ⊢
  clear hb1
  generalize (w.alloc (.cells #[.int .i64 C.claims, .slice a1 C.strikes.length c1, .slice a2 C.surveys.length c2] 25)).alloc (.cells #[.int .i64 0, .slice none 0 0, .slice none 0 0] 31) = W0 at *
  have HC0 : Hid (∀ W, Aft W0 W → W.cell? ⟨b1, 0, none⟩ = some (.int .i64 C.claims) ∧ W.cell? ⟨b1, 1, none⟩ = some (.slice a1 C.strikes.length c1) ∧ W.cell? ⟨b1, 2, none⟩ = some (.slice a2 C.surveys.length c2)) := Lib.hid fun W h => box25 (HB.out.aft h)
  have H53 : Hid (∀ W, Aft W0 W → Calls Tryz.prog 53 #[.slice a2 C.surveys.length c2] W fun e w' => ∃ v, e = .returned v ∧ OwnLists w' W.heap.size v C.surveys ∧ Aft W w') := Lib.hid fun W h => cloneAll_any W a2 C.surveys c2 (HC.out.aft h).surveys (by omega)
  have H3 := Lib.hid h3
  clear h3
  refine wp_region_valsU (by kernel_rfl) 7 27 rfl (by kernel_rfl) (by kernel_rfl) [some (.pointer (some ⟨b1, 0, none⟩)), some (.int .i64 C.claims), some (.pointer (some ⟨b1, 2, none⟩)), some (.slice a2 C.surveys.length c2), none, none, none] (by kernel_rfl) rfl (Cs W0 C.claims C.surveys) (Cs.start) ?st2 ?fi2
  case st2 =>
    intro i o v ho hv
    match i, ho, hv with
    | 0, ho, hv =>
      cases ho; cases hv
      refine .inl ⟨rfl, fun done a W hz hd hp hk hw K hK => ?_⟩
      have e1 := hk.same 1 (by decide)
      exact op_val (v := .pointer (some ⟨b1, 0, none⟩)) (by simp [go_sem, ev' e1]) (hK _ _ (fun u hu => by cases hu; rfl) (hw.keep (by decide) (by decide)))
    | 1, ho, hv =>
      cases ho; cases hv
      refine .inl ⟨rfl, fun done a W hz hd hp hk hw K hK => ?_⟩
      have e6 := hk.at_ 0 _ 6 _ rfl (by decide) _ rfl rfl rfl
      exact op_val (v := .int .i64 C.claims) (by simp [go_sem, ev' e6, (HC0.out W hw.aft).1]) (hK _ _ (fun u hu => by cases hu; rfl) (hw.keep (by decide) (by decide)))
    | 2, ho, hv =>
      cases ho; cases hv
      refine .inl ⟨rfl, fun done a W hz hd hp hk hw K hK => ?_⟩
      have e1 := hk.same 1 (by decide)
      exact op_val (v := .pointer (some ⟨b1, 2, none⟩)) (by simp [go_sem, ev' e1]) (hK _ _ (fun u hu => by cases hu; rfl) (hw.keep (by decide) (by decide)))
    | 3, ho, hv =>
      cases ho; cases hv
      refine .inl ⟨rfl, fun done a W hz hd hp hk hw K hK => ?_⟩
      have e8 := hk.at_ 2 _ 8 _ rfl (by decide) _ rfl rfl rfl
      exact op_val (v := .slice a2 C.surveys.length c2) (by simp [go_sem, ev' e8, (HC0.out W hw.aft).2.2]) (hK _ _ (fun u hu => by cases hu; rfl) (hw.keep (by decide) (by decide)))
    | 4, ho, hv =>
      cases ho; cases hv
      refine .inl ⟨rfl, fun done a W hz hd hp hk hw K hK => ?_⟩
      have e9 := hk.at_ 3 _ 9 _ rfl (by decide) _ rfl rfl rfl
      refine op_callN rfl rfl rfl _ rfl (vs := #[.slice a2 C.surveys.length c2]) (by simp [e9]) (H53.out W hw.aft) fun e w' h => ?_
      obtain ⟨v1, rfl, ho, ha⟩ := h
      exact ⟨_, rfl, hK _ _ (fun u hu => by cases hu) (hw.step4 ha (ho.mono hw.aft.size) (by rw [hz]; decide))⟩
    | 5, ho, hv =>
      cases ho; cases hv
      refine .inl ⟨rfl, fun done a W hz hd hp hk hw K hK => ?_⟩
      have e7 := hk.at_ 1 _ 7 _ rfl (by decide) _ rfl rfl rfl
      obtain ⟨v1, e10, hs⟩ := hw.t4 (hp 4 (by decide))
      obtain ⟨A, c, hv1, _, _⟩ := hs.lists (by omega) (fun l hl => by have := H3.out l hl; omega)
      subst hv1
      exact op_val (v := .agg #[.int .i64 C.claims, .slice none 0 0, .slice A C.surveys.length c]) (by simp [go_sem, ev' e7, ev' e10]) (hK _ _ (fun u hu => by cases hu) (hw.step5 hs (by rw [hz]; decide)))
    | 6, ho, hv =>
      cases ho; cases hv
      refine .inl ⟨rfl, fun done a W hz hd hp hk hw K hK => ?_⟩
      exact op_valW (w' := W.alloc (.cells #[.int .i64 0, .slice none 0 0, .slice none 0 0] 31)) (v := .pointer (some ⟨W.heap.size, 0, none⟩)) (by simp [go_sem]) (hK _ _ (fun u hu => by cases hu) (hw.step6 (by rw [hz]; decide)))
    | _ + 7, _, hv => cases hv
  intro done us W hus hd hw
  obtain ⟨x1, x2, x3, rfl⟩ := list3 hus
  obtain ⟨v2, e11, ht⟩ := hw.t5 (hd 5 (by decide))
  obtain ⟨g, e3, hg, hbg⟩ := hw.t6 (hd 6 (by decide))
  have e11' : x2 = .agg #[.int .i64 C.claims, .slice none 0 0, v2] := by simpa [fill, putAll, Act.put, Act.eval] using e11
  have e3' : x3 = .pointer (some ⟨g, 0, none⟩) := by simpa [fill, putAll, Act.put, Act.eval] using e3
  obtain ⟨A2, k2, hv2, _⟩ := lists_own (b := W0.heap.size) ht (by omega) (fun l hl => by have := H3.out l hl; omega) (Nat.le_refl _)
  rw [hv2] at e11' ht
  clear hv2
  subst e11'
  subst e3'
  have HT := Lib.hid ht
  have HA := Lib.hid hw.aft
  have HBG := Lib.hid hbg
  clear hw hd hus e11 e3 ht hbg
  simp only [fill, List.drop_succ_cons, List.drop_zero, List.zip_cons_cons, List.zip_nil_right, putAll]
  simp only [Act.put, List.setIfInBounds_toArray, List.set]
  go_upto_region 2 with (refine wpList_store_mid rfl 31 (.tmp 3) (.tmp 11) rfl g 0 #[.int .i64 C.claims, .slice none 0 0, .slice A2 C.surveys.length k2] rfl rfl (blk_there HBG.out rfl) info31 (all_oneCell_toArray (by intro v hv; simp at hv; rcases hv with rfl | rfl | rfl <;> rfl)) ?_)
  have hb1 : Blk (W.setCells g 0 [.int .i64 C.claims, .slice none 0 0, .slice A2 C.surveys.length k2]) g 31 #[.int .i64 C.claims, .slice none 0 0, .slice A2 C.surveys.length k2] := by
    have := ((HBG.out.store 0 (.int .i64 C.claims)).store 1 (.slice none 0 0)).store 2 (.slice A2 C.surveys.length k2)
    exact this
  have hs1 : W.grownBy (W.setCells g 0 [.int .i64 C.claims, .slice none 0 0, .slice A2 C.surveys.length k2]) (some g) := only_setCells _ _ _ (only_refl _ _)
  have HA1 := Lib.hid (HA.out.grown hs1 (fun k e => by cases e; exact hg))
  have HT1 := Lib.hid (HT.out.kept_ty HBG.out (by decide) (by decide) hs1)
  have HB1 := Lib.hid hb1
  clear hb1 hs1 HA HT HBG
  generalize W.setCells g 0 [.int .i64 C.claims, .slice none 0 0, .slice A2 C.surveys.length k2] = W1 at *
  obtain ⟨k0, k1, j2⟩ := HC0.out W1 HA1.out
  have k3 := (HB.out.aft HA1.out).lt
  go_upto_block 0 with fail
  clear k0 k1 j2 k3
  have HO0 := Lib.hid (World.ownsRow_nil W1 W1.heap.size 84 2)
  have hg1 := HB1.out.lt
  refine wp_block ?_
  go_loopw [15] (fun i wr => ∃ (k : Nat) (vS : Value) (L2 : List (Int × Int)), i = .int .i64 k ∧ k ≤ C.strikes.length ∧ Hid (L2 = C.strikes.take k) ∧ L2.length ≤ k ∧ wr.ownsRow W1.heap.size 84 2 vS L2.length (strC L2) ∧ Blk wr g 31 #[.int .i64 C.claims, vS, .slice A2 C.surveys.length k2] ∧ OwnLists wr W0.heap.size (.slice A2 C.surveys.length k2) C.surveys ∧ Aft W0 wr ∧ W1.heap.size ≤ wr.heap.size) (fun i _ => C.strikes.length - (intOf i).toNat)
  case atStart => exact ⟨0, _, [], rfl, by omega, Lib.hid rfl, by simp, HO0.out, HB1.out, HT1.out, HA1.out, Nat.le_refl _⟩
  case round =>
    obtain ⟨k, vS, L2, rfl, hk, HL2, hL2l, hown, hbk, hlt, hax, hsz⟩ := hrel
    have HOS := Lib.hid hown
    have HBK := Lib.hid hbk
    have HLT := Lib.hid hlt
    have HAX := Lib.hid hax
    clear hown hbk hlt hax
    by_cases hkL : k < C.strikes.length
    · have t3 : decide (k < C.strikes.length) = true := by simpa using hkL
      have ik : (0 : Int) ≤ (k : Int) ∧ (k : Int) < (C.strikes.length : Int) := by omega
      obtain ⟨bs, os, hbs, hlts, hcs⟩ := (HC.out.aft HAX.out).strikes.at hkL
      subst hbs
      obtain ⟨x0, x1⟩ := hcs k hkL
      have HFS : Hid (C.strikes.take (k + 1) = C.strikes.take k ++ [C.strikes[k]]) := Lib.hid (List.take_succ_eq_append_getElem hkL)
      obtain ⟨⟨y0, y1⟩, hyz⟩ : ∃ s, C.strikes[k] = s := ⟨_, rfl⟩
      rw [hyz] at x0 x1 HFS
      dsimp only at x0 x1
      rw [← HL2.out] at HFS
      clear hcs hyz
      go_upto_region 5 with (refine wpList_store_new rfl 57 (.tmp 5) (.tmp 18) rfl rfl rfl info57c rfl (all_oneCell_toArray (by intro v hv; simp at hv; rcases hv with rfl | rfl <;> rfl)) ?_)
      try simp only [Act.put]
      have HB33 := Lib.hid (Blk.new wr 57 #[.int .i64 y0, .int .i64 y1])
      have HA33 := Lib.hid (Aft.alloc wr (.cells #[.int .i64 y0, .int .i64 y1] 57))
      obtain ⟨b33, hb33⟩ : ∃ b33, wr.heap.size = b33 := ⟨_, rfl⟩
      rw [hb33] at HB33 ⊢
      replace HOS := Lib.hid (own_aft HOS.out HA33.out)
      replace HBK := Lib.hid (HBK.out.aft HA33.out)
      replace HLT := Lib.hid (HLT.out.aft HA33.out)
      replace HAX := Lib.hid (HAX.out.trans HA33.out)
      have hsz := Nat.le_trans hsz HA33.out.size
      clear hb33 HA33 x0 x1
      generalize wr.alloc (.cells #[.int .i64 y0, .int .i64 y1] 57) = W13 at *
      have j0 : W13.cell? ⟨b33, 0, none⟩ = some (.int .i64 y0) := HB33.out.cell 0
      have j1 : W13.cell? ⟨b33, 1, none⟩ = some (.int .i64 y1) := HB33.out.cell 1
      have j2 := HB33.out.lt
      have j3 := HBK.out.cell 1
      have j4 := HBK.out.lt
      obtain ⟨A8, c8, rfl, _, _⟩ := own_strs84 HOS.out (by omega)
      have HTA := Lib.hid (own_aft HOS.out (Aft.alloc W13 (.cells #[.int .i64 y0, .int .i64 y1] 84)))
      have hbase2 : W1.heap.size ≤ (W13.alloc (.cells #[.int .i64 y0, .int .i64 y1] 84)).heap.size := Nat.le_trans hsz (Aft.alloc _ _).size
      have HC00 := Lib.hid ((Blk.new W13 84 #[.int .i64 y0, .int .i64 y1]).cell 0)
      have HC01 := Lib.hid ((Blk.new W13 84 #[.int .i64 y0, .int .i64 y1]).cell 1)
      have HBK2 := Lib.hid (HBK.out.aft (Aft.alloc W13 (.cells #[.int .i64 y0, .int .i64 y1] 84)))
      have HLT2 := Lib.hid (HLT.out.aft (Aft.alloc W13 (.cells #[.int .i64 y0, .int .i64 y1] 84)))
      have HAX2 := Lib.hid (HAX.out.then_alloc (.cells #[.int .i64 y0, .int .i64 y1] 84))
      have hge := own_ge HTA.out
      clear HOS HBK HLT HAX
      go_wp2_with (at_builtin; refine wpList_push29 rfl _ _ rfl HTA.out hbase2 rfl rfl HC00.out HC01.out (by omega) ?_; intro v8 w8 ho8 hg8; obtain ⟨A80, c80, rfl, _, _⟩ := own_strs84 ho8 (by simp; omega); have HO8 := Lib.hid ho8; have HG8 := Lib.hid hg8; have y2 := HBK2.out.grown hg8 (fun e => by have := hge g e.symm; omega); have HB80 := Lib.hid y2; have y5 := y2.cell 1; have y6 := y2.frozen 1; have y7 := y2.lt; clear ho8)
      have hset : w8.grownBy (w8.setCell ⟨g, 1, none⟩ (.slice A80 (L2.length + 1) c80)) (some g) := only_setCell (only_refl w8 (some g)) (p := ⟨g, 1, none⟩) (.inl rfl) _
      have hO9 := HO8.out
      rw [show (L2 ++ [(y0, y1)]).length = L2.length + 1 by simp] at hO9
      have hO9 := own_sm hO9 (Sm.of_grown (b := g + 1) hset fun k e => by cases e; omega) (by omega)
      have hT9 := (HLT2.out.kept_own HTA.out (by decide) (by decide) HG8.out).kept_ty HB80.out (by decide) (by decide) hset
      have hA9 := (HAX2.out.grown HG8.out (fun k e => by have := hge k e; have := HA1.out.size; omega)).grown hset (fun k e => by cases e; exact hg)
      have hB9 : Blk (w8.setCell ⟨g, 1, none⟩ (.slice A80 (L2.length + 1) c80)) g 31 #[.int .i64 C.claims, .slice A80 (L2.length + 1) c80, .slice A2 C.surveys.length k2] := by
        have := HB80.out.store 1 (.slice A80 (L2.length + 1) c80)
        simpa using this
      have hO10 : (w8.setCell ⟨g, 1, none⟩ (.slice A80 (L2.length + 1) c80)).ownsRow W1.heap.size 84 2 (.slice A80 (L2.length + 1) c80) (L2 ++ [(y0, y1)]).length (strC (L2 ++ [(y0, y1)])) := by
        rw [show (L2 ++ [(y0, y1)]).length = L2.length + 1 by simp]
        exact hO9
      exact ⟨⟨k + 1, _, L2 ++ [(y0, y1)], by go_num, by omega, Lib.hid HFS.out.symm, by simp; omega, hO10, hB9, hT9, hA9, Nat.le_trans hbase2 (Nat.le_trans HG8.out.size hset.size)⟩, by simp [intOf]; omega⟩
    · have t3 : decide (k < C.strikes.length) = false := by simpa using hkL
      have hLE : L2 = C.strikes := by
        have := HL2.out
        rwa [List.take_of_length_le (by omega)] at this
      rw [hLE] at HOS
      have hLEl : L2.length = C.strikes.length := by rw [hLE]
      obtain ⟨A1, k1, hv1, _, _⟩ := own_strs84 HOS.out (by omega)
      subst hv1
      have HS := HOS
      have HT := HLT
      obtain ⟨j0, j1, j2⟩ := box31 HBK.out
      have j3 := HBK.out.lt
      clear hLE hLEl HL2 HOS HLT
      have hk2 := HB2.out.aft HAX.out
      have HTH := Lib.hid (blk_there hk2 (rfl : 3 = (#[Value.int .i64 0, .slice none 0 0, .slice none 0 0] : Array Value).size))
      obtain ⟨W9, hW9, hl9, hg9⟩ : ∃ W9, wr.setCells (b1 + 1) 0 [.int .i64 C.claims, .slice A1 C.strikes.length k1, .slice A2 C.surveys.length k2] = W9 ∧ (loadVar 31 ⟨b1 + 1, 0, none⟩).run Tryz.prog W9 = .ok (.agg #[.int .i64 C.claims, .slice A1 C.strikes.length k1, .slice A2 C.surveys.length k2]) W9 ∧ wr.grownBy W9 (some (b1 + 1)) :=
        ⟨_, rfl, run_loadVar_mid (P := Tryz.prog) _ (b1 + 1) 0 31 [.int .i64 C.claims, .slice A1 C.strikes.length k1, .slice A2 C.surveys.length k2] _ (World.rangeAt_setCells_same wr (b1 + 1) 0 _ (blk_there hk2 rfl)) Tryz.underlying31 rfl info31, only_setCells _ _ _ (only_refl _ _)⟩
      have HG9 := Lib.hid hg9
      have hlt2 := hk2.lt
      clear hk2 hg9
      go_wp2_with (refine wpList_store_mid rfl 31 (.tmp 2) (.tmp 26) rfl (b1 + 1) 0 #[.int .i64 C.claims, .slice A1 C.strikes.length k1, .slice A2 C.surveys.length k2] rfl rfl HTH.out info31 (all_oneCell_toArray (by intro v hv; simp at hv; rcases hv with rfl | rfl | rfl <;> rfl)) ?_; rw [hW9])
      have hsm : Sm W0.heap.size wr W9 := Sm.of_grown HG9.out fun k e => by cases e; exact .inl hz0
      have hww := H0.out.size
      refine bodyPost_ret (v := .agg #[.int .i64 C.claims, .slice A1 C.strikes.length k1, .slice A2 C.surveys.length k2]) (by simp [results, Tryz.results14, Act.put, asAddr, hl9]) rfl ⟨_, _, rfl, own_base (own_sm HS.out hsm HA1.out.size) (Nat.le_trans hww HA1.out.size), (HT.out.sm hsm (Nat.le_refl _)).mono hww, (H0.out.trans HAX.out).grown HG9.out (fun k e => by cases e; have := HW.out; omega)⟩
end Go.Proofs
end

section
namespace Go.Proofs
open Go.RowKit

structure OutR (W : World) (base : Nat) (v : Value) (vs : List Value) (ls : List (List Int)) : Prop where
  own : W.ownsRow base 33 1 v ls.length vs
  rows : ∀ i, (h : i < ls.length) → (h' : i < vs.length) → W.ownsRow base 3 1 vs[i] ls[i].length (ls[i].map (Value.int .i64))
section
variable {W W' : World} {base : Nat} {v : Value} {vs : List Value} {ls : List (List Int)}
theorem OutR.len (h : OutR W base v vs ls) : vs.length = ls.length := by simpa using h.own.1
theorem OutR.nil : OutR W base (.slice none 0 0) [] [] := ⟨World.ownsRow_nil _ _ 33 1, fun i h => by simp at h⟩
theorem OutR.aft (h : OutR W base v vs ls) (ha : Aft W W') : OutR W' base v vs ls := ⟨own_aft h.own ha, fun i hi hi' => own_aft (h.rows i hi hi') ha⟩
theorem OutR.lists (h : OutR W base v vs ls) (hl : ls.length ≤ 17592186043904) (hr : ∀ l ∈ ls, l.length ≤ 17592186043904) : ∃ A c, v = .slice A ls.length c ∧ ls.length ≤ c ∧ Lists W A ls := by
  rcases h.own.2 with ⟨rfl, h0⟩ | ⟨g, cap, cur, rfl, hg, hh, hc, hm, hs, ht⟩
  · have : ls = [] := List.eq_nil_of_length_eq_zero h0
    subst this
    exact ⟨none, 0, rfl, Nat.le_refl _, by simp, .inl rfl⟩
  · refine ⟨_, cap, rfl, hc, by omega, .inr ⟨g, 0, rfl, (Array.getElem?_eq_some_iff.1 hh).1, fun i hi => ?_⟩⟩
    have hiv : i < vs.length := by rw [h.len]; exact hi
    obtain ⟨A, c, e, _, hi2⟩ := own_ints (h.rows i hi hiv) (hr _ (List.getElem_mem hi))
    refine ⟨[vs[i]], rfl, ⟨A, c, by rw [e], hi2⟩, fun j hj => ?_⟩
    have := h.own.cells (g := g) rfl i vs[i] (by simp [hiv])
    rw [Addr.add_lit] at this
    simp at hj
    subst hj
    simpa using this
end
theorem wpList_push_nil {w : World} {ops : Array Oper} {rest : List Oper} {o : Oper} {a : Act} {Q : Exit → Act → World → Prop}
    (hgd : o.guard = none) (s x : Operand) (ho : o.op = .call { callee := .builtin .append, args := #[s, x], argTypes := #[23, 23] })
    {base n : Nat} {v : Value} {vs : List Value} (hown : w.ownsRow base 33 1 v n vs) (hbase : base ≤ w.heap.size) (hs : a.eval s = v)
    {c : Nat} {b : Nat} (hx : a.eval x = .slice (some ⟨b, 0, none⟩) 1 c) (hb : w.cell? ⟨b, 0, none⟩ = some (.slice none 0 0)) (hl : n ≤ 1000000)
    (hn : ∀ v' w', w'.ownsRow base 33 1 v' (n + 1) (vs ++ [.slice none 0 0]) → w.grownBy w' v.ownBlock → wpList Tryz.prog ops Q rest (a.put o.dst v') w') : wpList Tryz.prog ops Q (o :: rest) a w := by
  refine wpList_app_at ty41 hgd s x ho hbase hs hown hx (news := [.slice none 0 0]) rfl (by intro h; cases h) (fun ad e j u h => ?_) (by intro u hu; rw [List.mem_singleton] at hu; subst hu; rfl) (by omega) (by decide) fun v' w' h1 h2 => hn v' w' h1 h2
  cases e
  match j, h with
  | 0, h => simp at h; subst h; rw [Addr.add_lit]; simpa using hb

theorem ins_list {α : Type} {K vs : List α} {z x : α} {n p : Nat} (hK : K.take (n + 1) = vs ++ [z]) (hn : vs.length = n) (hp : p < n) (hKl : n + 1 ≤ K.length) :
    ((K.take (p + 1) ++ (vs.drop p ++ K.drop (p + 1 + (vs.drop p).length))).set p x).take (n + 1) = vs.take p ++ x :: vs.drop p := by
  have e1 : K.take (p + 1) = vs.take p ++ [vs[p]'(by omega)] := by
    have : (K.take (n + 1)).take (p + 1) = K.take (p + 1) := by rw [List.take_take, Nat.min_eq_left (by omega)]
    rw [← this, hK, List.take_append_of_le_length (by omega), List.take_succ_eq_append_getElem (by omega)]
  have hl : (vs.take p).length = p := by rw [List.length_take]; omega
  rw [e1, List.append_assoc, List.set_append_right _ _ (by omega), hl, Nat.sub_self]
  show (vs.take p ++ (x :: (vs.drop p ++ K.drop (p + 1 + (vs.drop p).length)))).take (n + 1) = _
  rw [show vs.take p ++ (x :: (vs.drop p ++ K.drop (p + 1 + (vs.drop p).length))) = (vs.take p ++ x :: vs.drop p) ++ K.drop (p + 1 + (vs.drop p).length) by simp]
  exact List.take_left' (by rw [List.length_append, List.length_cons, hl, List.length_drop]; omega)
theorem own_ins {w : World} {base g cap p n : Nat} {vs : List Value} {x : Value} {cur : Array Value} (hb : base ≤ g) (hh : w.heap[g]? = some (.cells cur 33 (0, 0))) (hc : n + 1 ≤ cap) (hm : cap ≤ maxLen) (hs : cur.size = cap * 1) (ht : cur.toList.take ((n + 1) * 1) = vs ++ [.slice none 0 0]) (hn : vs.length = n) (hp : p < n) :
    ((w.setRow g (cur.toList.take (p + 1) ++ (vs.drop p ++ cur.toList.drop (p + 1 + (vs.drop p).length))).toArray).setCell ⟨g, p, none⟩ x).ownsRow base 33 1 (.slice (some ⟨g, 0, none⟩) (n + 1) cap) (n + 1) (vs.take p ++ x :: vs.drop p) := by
  rw [Nat.mul_one] at hs ht
  have hKl : n + 1 ≤ cur.toList.length := by rw [Array.length_toList]; omega
  have h1 : Blk (w.setRow g (cur.toList.take (p + 1) ++ (vs.drop p ++ cur.toList.drop (p + 1 + (vs.drop p).length))).toArray) g 33 (cur.toList.take (p + 1) ++ (vs.drop p ++ cur.toList.drop (p + 1 + (vs.drop p).length))).toArray := setRow_heap w g cur _ 33 (0, 0) hh
  have h2 := h1.store p x
  rw [List.setIfInBounds_toArray] at h2
  refine ⟨?_, .inr ⟨g, cap, _, rfl, hb, h2, hc, hm, ?_, ?_⟩⟩
  · rw [List.length_append, List.length_cons, List.length_take, List.length_drop]; omega
  · rw [List.size_toArray, List.length_set, List.length_append, List.length_append, List.length_take, List.length_drop, List.length_drop, Array.length_toList]; omega
  · rw [Nat.mul_one]
    exact ins_list ht hn hp hKl
theorem own_ins_end {w : World} {base g cap n : Nat} {vs : List Value} {x : Value} {cur : Array Value} (hb : base ≤ g) (hh : w.heap[g]? = some (.cells cur 33 (0, 0))) (hc : n + 1 ≤ cap) (hm : cap ≤ maxLen) (hs : cur.size = cap * 1) (ht : cur.toList.take ((n + 1) * 1) = vs ++ [.slice none 0 0]) (hn : vs.length = n) :
    (w.setCell ⟨g, n, none⟩ x).ownsRow base 33 1 (.slice (some ⟨g, 0, none⟩) (n + 1) cap) (n + 1) (vs.take n ++ x :: vs.drop n) := by
  rw [Nat.mul_one] at hs ht
  have h1 : Blk w g 33 cur := hh
  have h2 := h1.store n x
  refine ⟨?_, .inr ⟨g, cap, _, rfl, hb, h2, hc, hm, by simpa using hs, ?_⟩⟩
  · rw [List.length_append, List.length_cons, List.length_take, List.length_drop]; omega
  · rw [Nat.mul_one, Array.toList_setIfInBounds, List.take_set, ht, List.set_append_right _ _ (by omega), hn, Nat.sub_self, List.take_of_length_le (by omega), List.drop_of_length_le (by omega)]
    rfl
theorem insZ_at {l : List Int} : ∀ {ls : List (List Int)} {p : Nat}, p ≤ ls.length → (∀ i, (h : i < ls.length) → i < p → cmpZ ls[i] l < 0) → (∀ h : p < ls.length, ¬ cmpZ ls[p] l < 0) → insZ l ls = ls.take p ++ l :: ls.drop p
  | [], p, h, _, _ => by
    obtain rfl : p = 0 := by simpa using h
    rfl
  | x :: xs, 0, _, _, h2 => by
    have h3 := h2 (by simp)
    unfold insZ
    rw [List.takeWhile_cons, List.dropWhile_cons, if_neg (by simpa using h3), if_neg (by simpa using h3)]
    rfl
  | x :: xs, p + 1, h, h1, h2 => by
    have h3 := h1 0 (by simp) (by omega)
    have ih := insZ_at (l := l) (ls := xs) (p := p) (by simpa using h) (fun i hi hip => h1 (i + 1) (by simpa using hi) (by omega)) (fun hp => h2 (by simpa using hp))
    unfold insZ at ih ⊢
    rw [List.takeWhile_cons, List.dropWhile_cons, if_pos (by simpa using h3), if_pos (by simpa using h3)]
    rw [List.cons_append, ih]
    rfl
theorem getElem_ins {α : Type} {l : List α} {x : α} {p i : Nat} (hp : p ≤ l.length) (h : i < (l.take p ++ x :: l.drop p).length) : (l.take p ++ x :: l.drop p)[i] = if h1 : i < p then l[i]'(by omega) else if h2 : i = p then x else l[i - 1]'(by rw [List.length_append, List.length_cons, List.length_take, List.length_drop] at h; omega) := by
  have hl : (l.take p).length = p := by rw [List.length_take]; omega
  by_cases h1 : i < p
  · rw [dif_pos h1, List.getElem_append_left (by omega), List.getElem_take]
  · rw [dif_neg h1]
    rw [List.getElem_append_right (by omega)]
    by_cases h2 : i = p
    · rw [dif_pos h2]
      subst h2
      simp [hl]
    · rw [dif_neg h2]
      obtain ⟨j, hj⟩ : ∃ j, i - (l.take p).length = j + 1 := ⟨i - p - 1, by omega⟩
      simp only [hj, List.getElem_cons_succ, List.getElem_drop]
      congr 1
      omega
theorem OutR.ins {W' : World} {base p : Nat} {v' x : Value} {vs : List Value} {ls : List (List Int)} {l : List Int} (hlen : vs.length = ls.length) (hp : p ≤ ls.length) (hown : W'.ownsRow base 33 1 v' (ls.length + 1) (vs.take p ++ x :: vs.drop p))
    (hk : ∀ i, (h : i < ls.length) → (h' : i < vs.length) → W'.ownsRow base 3 1 vs[i] ls[i].length (ls[i].map (Value.int .i64))) (hx : W'.ownsRow base 3 1 x l.length (l.map (Value.int .i64))) : OutR W' base v' (vs.take p ++ x :: vs.drop p) (ls.take p ++ l :: ls.drop p) := by
  have e : (ls.take p ++ l :: ls.drop p).length = ls.length + 1 := by rw [List.length_append, List.length_cons, List.length_take, List.length_drop]; omega
  refine ⟨by rw [e]; exact hown, fun i hi hi' => ?_⟩
  rw [getElem_ins hp hi, getElem_ins (by omega) hi']
  rw [e] at hi
  by_cases h1 : i < p
  · rw [dif_pos h1, dif_pos h1]
    exact hk i (by omega) (by omega)
  · rw [dif_neg h1, dif_neg h1]
    by_cases h2 : i = p
    · rw [dif_pos h2, dif_pos h2]
      exact hx
    · rw [dif_neg h2, dif_neg h2]
      exact hk (i - 1) (by omega) (by omega)
end Go.Proofs
end

section
namespace Go.Proofs
open Go.RowKit
open Court (refL begF noS struckB strikeL standB coverB fullB)
attribute [local go_sem] Oper.semAt_some

theorem fullTo_le (p : List Int → Bool) (N M : Nat) : (fullTo p N M).length ≤ M := by
  rw [(fullTo_perm p N M).length_eq]
  refine Nat.le_trans (List.length_filter_le _ _) ?_
  rw [List.length_map, List.length_range]
  exact Nat.le_refl _
theorem fullTo_mem {p : List Int → Bool} {N M : Nat} {l : List Int} (h : l ∈ fullTo p N M) : ∃ m, m < M ∧ l = setL N m := by
  have h2 := ((fullTo_perm p N M).mem_iff).1 h
  obtain ⟨h3, _⟩ := List.mem_filter.1 h2
  obtain ⟨m, hm, e⟩ := List.mem_map.1 h3
  exact ⟨m, List.mem_range.1 hm, e.symm⟩
theorem own_kept_own {w w' : World} {base base' : Nat} {e e' : TypeId} {size size' n n' : Nat} {v v' : Value} {xs xs' : List Value} (h : w.ownsRow base e size v n xs) (h' : w.ownsRow base' e' size' v' n' xs') (hne : e ≠ e') (hg : w.grownBy w' v'.ownBlock) : w'.ownsRow base e size v n xs := by
  rcases h'.2 with ⟨rfl, _⟩ | ⟨k, cap, cur, rfl, _, hh, _⟩
  · refine h.kept hg ?_
    cases hu : v.ownBlock with
    | none => exact .inl rfl
    | some g => exact .inr fun e => by cases e
  · exact own_kept_ty (g := k) (cs := cur) h hh hne hg
theorem info33' : (Tryz.prog.info? 33).map (·.size) = some 1 := by kernel_rfl

set_option maxRecDepth 100000 in
set_option maxHeartbeats 16000000 in
theorem fullR_any (N : Nat) (S : List (Int × Int)) (T : List (List Int)) (a1 a2 : Option Addr) (c1 c2 : Nat) (R : List Int) (AR : Option Addr) (cR : Nat) (w : World) (hC : CRep w ⟨N, S, T⟩ a1 a2) (hN : 1 ≤ N ∧ N ≤ 14) (hS60 : S.length ≤ 60) (hin : ∀ s ∈ S, 0 ≤ s.1 ∧ s.1 < N) (hR : Ints w AR R) :
    Calls Tryz.prog 76 #[(.agg #[.int .i64 N, .slice a1 S.length c1, .slice a2 T.length c2]), .slice AR R.length cR] w fun e w' => ∃ v vs, e = .returned v ∧ OutR w' w.heap.size v vs (fullTo (fullB S (refL R) N) N (2 ^ N)) ∧ Aft w w' := by
  have H0 := Lib.hid (Aft.alloc w (.cells #[.int .i64 N, .slice a1 S.length c1, .slice a2 T.length c2] 31))
  have HB := Lib.hid (Blk.new w 31 #[.int .i64 N, .slice a1 S.length c1, .slice a2 T.length c2])
  have HC := Lib.hid (hC.aft H0.out)
  have HR := Lib.hid (hR.aft H0.out)
  obtain ⟨q, hq⟩ : ∃ q, 2 ^ N = q := ⟨_, rfl⟩
  have hq14 : q ≤ 16384 := by rw [← hq]; exact Nat.le_trans (Nat.pow_le_pow_right (by omega) (show N ≤ 14 by omega)) (by decide)
  have q0 : wrap64 ((2 : Int) ^ N) = (q : Int) := by
    have e : (2 : Int) ^ N = (q : Int) := by rw [← hq]; push_cast; rfl
    rw [e]
    unfold wrap64
    omega
  rw [hq]
  obtain ⟨pp, hpp⟩ : ∃ pp, fullB S (refL R) N = pp := ⟨_, rfl⟩
  obtain ⟨cov, hcov⟩ : ∃ cov : List Int → Nat → Bool, cov = fun l (n : Nat) => hasB l (n : Int) || refL R n || strikeL S (refL l) n := ⟨_, rfl⟩
  have HCOV : Hid (∀ l n, cov l n = (hasB l (n : Int) || refL R n || strikeL S (refL l) n)) := Lib.hid fun l n => by rw [hcov]
  have HPP : Hid (∀ l, pp l = (standB S (refL R) l && (List.range N).all (cov l))) := Lib.hid fun l => by
    rw [← hpp, ← Court.full_iff hin, hcov]
    rfl
  rw [hpp]
  clear hq hC hR hpp hcov
  obtain ⟨bC, hbC⟩ : ∃ bC, w.heap.size = bC := ⟨_, rfl⟩
  rw [hbC] at HB
  have HBC := Lib.hid hbC
  have hw0 : w.heap.size ≤ (w.alloc (.cells #[.int .i64 N, .slice a1 S.length c1, .slice a2 T.length c2] 31)).heap.size := H0.out.size
  rw [hbC] at hw0 ⊢
  clear hbC
  go_enter Tryz.func76, Tryz.ntmps76
  go_upto_block 0 with fail
  rw [HBC.out]
  generalize w.alloc (.cells #[.int .i64 N, .slice a1 S.length c1, .slice a2 T.length c2] 31) = W0 at *
  have HO00 : Hid (OutR W0 W0.heap.size (.slice none 0 0) [] (fullTo pp N 0)) := Lib.hid OutR.nil
  refine wp_block ?_
  go_loopw [5, 6] (fun v i wr => ∃ (m : Nat) (vs : List Value), i = .int .i64 m ∧ m ≤ q ∧ OutR wr W0.heap.size v vs (fullTo pp N m) ∧ Aft W0 wr) (fun _ i _ => q - (intOf i).toNat)
  case atStart => exact ⟨0, [], rfl, by omega, HO00.out, Aft.refl _⟩
  case round =>
    obtain ⟨m, vs, rfl, hm, hout, hy⟩ := hrel
    have HOUT := Lib.hid hout
    have HY := Lib.hid hy
    clear hout hy
    obtain ⟨W1, rfl⟩ : ∃ W1, W1 = wr := ⟨_, rfl⟩
    obtain ⟨k0, k1, k2⟩ := box31 (HB.out.aft HY.out)
    have k3 := (HB.out.aft HY.out).lt
    by_cases hmq : m < q
    · have t2 : decide (m < q) = true := by simpa using hmq
      have HFS := Lib.hid (fullTo_succ pp N m)
      have hfl := fullTo_le pp N m
      have HFM : Hid (∀ x ∈ fullTo pp N m, x.length ≤ 14) := Lib.hid fun x hx => by
        obtain ⟨m', _, e⟩ := fullTo_mem hx
        rw [e]
        have := idxL_len (fun i => m'.testBit i) N
        unfold setL
        omega
      obtain ⟨ls, hls⟩ : ∃ ls, fullTo pp N m = ls := ⟨_, rfl⟩
      rw [hls] at HFS hfl HFM HOUT
      clear hls
      obtain ⟨A5, c5, rfl, _, _⟩ := HOUT.out.lists (by omega) (fun x hx => by have := HFM.out x hx; omega)
      go_upto_block 2 with fail
      rw [q0]
      clear k0 k1 k2 k3
      have HO0 := Lib.hid (World.ownsRow_nil W1 W1.heap.size 3 1)
      refine wp_block ?_
      go_loopw [7, 8] (fun v i wr => ∃ k : Nat, i = .int .i64 k ∧ k ≤ N ∧ wr.ownsRow W1.heap.size 3 1 v (idxL (fun i => m.testBit i) k).length ((idxL (fun i => m.testBit i) k).map (Value.int .i64)) ∧ Aft W1 wr) (fun _ i _ => N - (intOf i).toNat)
      case atStart => exact ⟨0, rfl, by omega, HO0.out, Aft.refl _⟩
      case round =>
        obtain ⟨k, rfl, hk, hown, hz⟩ := hrel
        have HO := Lib.hid hown
        have HZ := Lib.hid hz
        clear hown hz
        obtain ⟨k0, k1, k2⟩ := box31 (HB.out.aft (HY.out.trans HZ.out))
        have k3 := (HB.out.aft (HY.out.trans HZ.out)).lt
        have hpl := idxL_len (fun i => m.testBit i) k
        by_cases hkN : k < N
        · have t3 : decide (k < N) = true := by simpa using hkN
          have ik64 : (0 : Int) ≤ (k : Int) ∧ (k : Int) ≤ 64 := by omega
          have HP := Lib.hid (idxL_succ (fun i => m.testBit i) k)
          have hbit := bits_big (m := m) (k := k) (by omega)
          cases hb : m.testBit k
          · rw [hb] at hbit HP
            clear hb
            rw [if_neg (by decide), List.append_nil] at HP
            go_wp2_with fail
            exact ⟨⟨k + 1, by go_num, by omega, by rw [HP.out]; exact HO.out, HZ.out⟩, by simp [intOf]; omega⟩
          · rw [hb] at hbit HP
            clear hb
            rw [if_pos rfl] at HP
            have HTA := Lib.hid (own_aft HO.out (Aft.alloc wr (.cells #[.int .i64 k] 3)))
            have hbase : W1.heap.size ≤ (wr.alloc (.cells #[.int .i64 k] 3)).heap.size := Nat.le_trans HZ.out.size (Aft.alloc _ _).size
            have hge := own_ge HO.out
            go_wp2_with (at_builtin; refine wpList_push rfl _ _ rfl HTA.out hbase rfl rfl (cell_new1 _ _ _) (by omega) ?_; intro v6 w6 ho6 hg6; have HO6 := Lib.hid ho6; have HG6 := Lib.hid hg6; clear ho6 hg6)
            exact ⟨⟨k + 1, by go_num, by omega, by rw [HP.out]; exact HO6.out, (HZ.out.then_alloc _).grown HG6.out hge⟩, by simp [intOf]; omega⟩
        · have t3 : decide (k < N) = false := by simpa using hkN
          obtain rfl : k = N := by omega
          have HO2 : Hid (wr.ownsRow W1.heap.size 3 1 u7 (setL k m).length ((setL k m).map (Value.int .i64))) := HO
          have hpl2 : (setL k m).length ≤ k := hpl
          obtain ⟨l, hl0⟩ : ∃ l, setL k m = l := ⟨_, rfl⟩
          rw [hl0] at HFS HO2 hpl2
          clear HO hpl hl0 hkN HO0
          obtain ⟨A7, c7, rfl, _, hi7⟩ := own_ints HO2.out (by omega)
          have HI := Lib.hid hi7
          have HO := Lib.hid (own_base HO2.out HY.out.size)
          obtain ⟨W2, rfl⟩ : ∃ W2, W2 = wr := ⟨_, rfl⟩
          have HY2 := Lib.hid (HY.out.trans HZ.out)
          replace HOUT := Lib.hid (HOUT.out.aft HZ.out)
          obtain ⟨st, hst⟩ : ∃ st, standB S (refL R) l = st := ⟨_, rfl⟩
          have H73 := Lib.hid (standsR_any ⟨k, S, T⟩ a1 a2 c1 c2 R l AR A7 cR c7 W2 (HC.out.aft HY2.out) (HR.out.aft HY2.out) HI.out)
          have HPL := Lib.hid (HPP.out l)
          dsimp only at H73
          rw [hst] at H73 HPL
          clear hi7 hst HO2 HZ HY
          go_upto_block 4 with (go_at_call 73; refine H73.out.mono ?_; rintro e W3 ⟨rfl, ha⟩; have HA3 := Lib.hid ha; clear ha k0 k1 k2 k3)
          clear H73
          replace HOUT := Lib.hid (HOUT.out.aft HA3.out)
          replace HI := Lib.hid (HI.out.aft HA3.out)
          replace HO := Lib.hid (own_aft HO.out HA3.out)
          replace HY2 := Lib.hid (HY2.out.trans HA3.out)
          clear HA3
          refine wp_block ?_
          go_loopw [9, 10] (fun b i wr => ∃ (j : Nat) (bv : Bool), i = .int .i64 j ∧ b = .bool bv ∧ j ≤ k ∧ Aft W3 wr ∧ Hid (bv = (st && (List.range j).all (cov l)))) (fun _ i _ => k - (intOf i).toNat)
          case atStart => exact ⟨0, st, rfl, rfl, by omega, Aft.refl _, Lib.hid (by simp)⟩
          case round =>
            obtain ⟨j, bv, rfl, rfl, hj, hz, HBV⟩ := hrel
            have HZ := Lib.hid hz
            clear hz
            obtain ⟨k0, k1, k2⟩ := box31 (HB.out.aft (HY2.out.trans HZ.out))
            have k3 := (HB.out.aft (HY2.out.trans HZ.out)).lt
            go_upto_region 13 with fail
            go_cut [44] from 38 to 44 (fun s44 wx => s44 = .bool (decide (j < k) && bv) ∧ wx = wr)
            case first =>
              cases htj : decide (j < k)
              · (repeat (first | go_big_skip | go_big_want | go_big_move | go_big_op | go_step | go_upon | go_back))
                go_meet
                exact ⟨by rw [htj]; rfl, rfl⟩
              · (repeat (first | go_big_skip | go_big_want | go_big_move | go_big_op | go_step | go_upon | go_back))
                go_meet
                exact ⟨by rw [htj]; rfl, rfl⟩
            obtain ⟨rfl, rfl⟩ := hcut
            obtain ⟨wr, rfl⟩ : ∃ wr, wr = wc := ⟨_, rfl⟩
            cases hbg : (decide (j < k) && bv)
            · have HBP : Hid (bv = pp l) := Lib.hid (by
                rw [HPL.out, HBV.out]
                by_cases hjk : j < k
                · rw [decide_eq_true hjk, Bool.true_and] at hbg
                  have h := HBV.out
                  rw [hbg] at h
                  cases hst : st
                  · rfl
                  · rw [hst, Bool.true_and] at h
                    rw [Bool.true_and, Bool.true_and, ← h]
                    symm
                    rw [Bool.eq_false_iff]
                    intro h'
                    have h2 := h.symm
                    rw [Bool.eq_false_iff] at h2
                    refine h2 (List.all_eq_true.2 fun x hx => List.all_eq_true.1 h' x (List.mem_range.2 ?_))
                    have := List.mem_range.1 hx
                    omega
                · obtain rfl : j = k := by omega
                  rfl)
              replace HOUT := Lib.hid (HOUT.out.aft HZ.out)
              replace HI := Lib.hid (HI.out.aft HZ.out)
              replace HO := Lib.hid (own_aft HO.out HZ.out)
              replace HY2 := Lib.hid (HY2.out.trans HZ.out)
              rw [← HBP.out] at HFS
              clear HZ HBV hbg HPL k0 k1 k2 k3
              cases bv
              · rw [if_neg (by decide)] at HFS
                go_wp2_with fail
                exact ⟨⟨m + 1, vs, by go_num, by omega, by rw [HFS.out]; exact HOUT.out, HY2.out⟩, by simp [intOf]; omega⟩
              · rw [if_pos rfl] at HFS
                obtain ⟨W4, rfl⟩ : ∃ W4, W4 = wr := ⟨_, rfl⟩
                go_upto_block 6 with fail
                refine wp_block ?_
                go_loopw [11] (fun i wr => ∃ p : Nat, i = .int .i64 p ∧ p ≤ ls.length ∧ Aft W4 wr ∧ Hid (∀ i, (h : i < ls.length) → i < p → cmpZ ls[i] l < 0)) (fun i _ => ls.length - (intOf i).toNat)
                case atStart => exact ⟨0, rfl, by omega, Aft.refl _, Lib.hid fun i _ h => by omega⟩
                case round =>
                  obtain ⟨p, rfl, hp, hz, HLT⟩ := hrel
                  have HZ := Lib.hid hz
                  clear hz
                  obtain ⟨bz, hbz⟩ : ∃ bz, (if h : p < ls.length then decide (cmpZ ls[p] l < 0) else false) = bz := ⟨_, rfl⟩
                  have HBZ := Lib.hid hbz
                  clear hbz
                  go_upto_region 18 with fail
                  go_cut [74] from 63 to 74 (fun s74 wx => s74 = .bool bz ∧ Aft wr wx)
                  case first =>
                    by_cases hpl : p < ls.length
                    · have t4 : decide (p < ls.length) = true := by simpa using hpl
                      have ip : (0 : Int) ≤ (p : Int) ∧ (p : Int) < (ls.length : Int) := by omega
                      obtain ⟨A5', c5', e5, _, hls⟩ := (HOUT.out.aft HZ.out).lists (by omega) (fun x hx => by have := HFM.out x hx; omega)
                      cases e5
                      obtain ⟨bt, ot, A', c', hbt, hltt, x1, hil⟩ := hls.row hpl
                      subst hbt
                      have h109 := beforeR_any ls[p] l A' A7 c' c7 wr hil (HI.out.aft HZ.out)
                      have hbz := HBZ.out
                      rw [dif_pos hpl] at hbz
                      rw [hbz] at h109
                      have H109 := Lib.hid h109
                      obtain ⟨r, hr⟩ : ∃ r, ls[p] = r := ⟨_, rfl⟩
                      rw [hr] at x1 H109
                      clear hls hil h109 hbz hr
                      (repeat (first | go_big_skip | go_big_want | go_big_move | go_big_op | go_step | go_upon | go_back))
                      go_at_call 109
                      refine H109.out.mono ?_
                      rintro e wz ⟨rfl, ha⟩
                      dsimp only
                      have HAZ := Lib.hid ha
                      clear ha
                      (repeat (first | go_big_skip | go_big_want | go_big_move | go_big_op | go_step | go_upon | go_back))
                      go_meet
                      exact ⟨rfl, HAZ.out⟩
                    · have t4 : decide (p < ls.length) = false := by simpa using hpl
                      have HBF : Hid (bz = false) := Lib.hid (by rw [← HBZ.out, dif_neg hpl])
                      (repeat (first | go_big_skip | go_big_want | go_big_move | go_big_op | go_step | go_upon | go_back))
                      go_meet
                      exact ⟨by rw [HBF.out], Aft.refl _⟩
                  obtain ⟨rfl, hac⟩ := hcut
                  have HZ2 := Lib.hid (HZ.out.trans hac)
                  clear hac HZ
                  cases bz
                  · have HGE : Hid (∀ h : p < ls.length, ¬ cmpZ ls[p] l < 0) := Lib.hid fun h => by
                      have := HBZ.out
                      rw [dif_pos h] at this
                      exact of_decide_eq_false this
                    have HINS := Lib.hid (insZ_at hp HLT.out HGE.out)
                    rw [HINS.out] at HFS
                    replace HOUT := Lib.hid (HOUT.out.aft HZ2.out)
                    replace HO := Lib.hid (own_aft HO.out HZ2.out)
                    replace HY2 := Lib.hid (HY2.out.trans HZ2.out)
                    obtain ⟨W5, rfl⟩ : ∃ W5, W5 = wc := ⟨_, rfl⟩
                    clear HBZ HGE HLT HINS HZ2 HI
                    have HOA := Lib.hid (HOUT.out.aft (Aft.alloc W5 (.cells #[.slice none 0 0] 33)))
                    have HOL := Lib.hid (own_aft HO.out (Aft.alloc W5 (.cells #[.slice none 0 0] 33)))
                    have hvl : vs.length = ls.length := HOUT.out.len
                    have hbase : W0.heap.size ≤ (W5.alloc (.cells #[.slice none 0 0] 33)).heap.size := Nat.le_trans HY2.out.size (Aft.alloc _ _).size
                    have hge := own_ge HOUT.out.own
                    obtain ⟨n1, hn1⟩ : ∃ n1, ls.length + 1 = n1 := ⟨_, rfl⟩
                    have HN1 := Lib.hid hn1
                    go_upto_region 21 with (at_builtin; refine wpList_push_nil rfl _ _ rfl HOA.out.own hbase rfl rfl (cell_new1 _ _ _) (by omega) ?_; intro v6 W6 ho6 hg6; rw [hn1] at ho6; have HO6 := Lib.hid ho6; have HG6 := Lib.hid hg6; clear ho6 hg6)
                    have HROWS : Hid (∀ i, (h : i < ls.length) → (h' : i < vs.length) → W6.ownsRow W0.heap.size 3 1 vs[i] ls[i].length (ls[i].map (Value.int .i64))) := Lib.hid fun i h h' => own_kept_own (HOA.out.rows i h h') HOA.out.own (by decide) HG6.out
                    have HOL6 := Lib.hid (own_kept_own HOL.out HOA.out.own (by decide) HG6.out)
                    have HY6 := Lib.hid ((HY2.out.then_alloc (.cells #[.slice none 0 0] 33)).grown HG6.out hge)
                    clear HG6 HOA HOL HOUT HO HY2 hbase hge hn1
                    obtain ⟨g, cap, cur, rfl, hbg, hh, hc, hm1, hs, ht⟩ : ∃ g cap cur, v6 = .slice (some ⟨g, 0, none⟩) n1 cap ∧ W0.heap.size ≤ g ∧ W6.heap[g]? = some (.cells cur 33 (0, 0)) ∧ n1 ≤ cap ∧ cap ≤ maxLen ∧ cur.size = cap * 1 ∧ cur.toList.take (n1 * 1) = vs ++ [.slice none 0 0] := by
                      rcases HO6.out.2 with ⟨_, h⟩ | h
                      · have := HN1.out
                        omega
                      · exact h
                    have HH : Hid (Blk W6 g 33 cur) := Lib.hid hh
                    have HT := Lib.hid ht
                    have hn1 := HN1.out
                    have hml : maxLen = 9223372036854775807 := rfl
                    have HCUR : Hid (∀ i, (h : i < vs.length) → cur[i]? = some vs[i]) := Lib.hid fun i h => by
                      have h2 := congrArg (fun L => L[i]?) HT.out
                      simp only [Nat.mul_one] at h2
                      rw [List.getElem?_take, if_pos (by omega), List.getElem?_append_left h, Array.getElem?_toList, List.getElem?_eq_getElem h] at h2
                      exact h2
                    have HONE : Hid (∀ u ∈ vs, u.oneCell' = true) := Lib.hid fun u hu => by
                      obtain ⟨i, hi, rfl⟩ := List.mem_iff_getElem.1 hu
                      exact own_cell1 (HROWS.out i (by omega) hi)
                    have HS := Lib.hid hs
                    clear HO6 hh ht hs
                    have i82 : IntKind.i64.wrap ((p : Int) + 1) = (p : Int) + 1 := by rw [IntWalk.i64_in _ (by omega)]
                    have i83 : (0 : Int) ≤ (p : Int) + 1 ∧ (p : Int) + 1 ≤ (n1 : Int) := by omega
                    have i86 : (0 : Int) ≤ (p : Int) ∧ (p : Int) ≤ (n1 : Int) := by omega
                    have e83 : ((p : Int) + 1).toNat = p + 1 := by omega
                    have c86 : ¬ cap = p := by omega
                    by_cases hpe : p < ls.length
                    · have c83 : ¬ cap = p + 1 := by omega
                      refine wp_region_valsT (by kernel_rfl) 7 93 rfl (by kernel_rfl) (by kernel_rfl) (by kernel_rfl) [.slice (some ⟨g, 0, none⟩) n1 cap, .int .i64 p, .int .i64 ((p : Int) + 1), .slice (some ⟨g, p + 1, none⟩) (n1 - (p + 1)) (cap - (p + 1)), .slice (some ⟨g, 0, none⟩) n1 cap, .int .i64 p, .slice (some ⟨g, p, none⟩) (n1 - p) (cap - p)] rfl (fun done W => Aft W6 W) (Aft.drew _) ?st1 ?fi1
                      case st1 =>
                        intro i o v ho hv
                        match i, ho, hv with
                        | 0, ho, hv =>
                          cases ho; cases hv
                          refine .inl ⟨rfl, fun done a W hd hp hk hw K hK => ?_⟩
                          have e5 := hk.same 5 (by decide)
                          exact op_val (by simp [go_sem, ev' e5]) (hK _ hw)
                        | 1, ho, hv =>
                          cases ho; cases hv
                          refine .inl ⟨rfl, fun done a W hd hp hk hw K hK => ?_⟩
                          have e11 := hk.same 11 (by decide)
                          exact op_val (by simp [go_sem, ev' e11]) (hK _ hw)
                        | 2, ho, hv =>
                          cases ho; cases hv
                          refine .inl ⟨rfl, fun done a W hd hp hk hw K hK => ?_⟩
                          have e81 := hk.at_ 1 _ 81 _ rfl (by decide) _ rfl rfl rfl
                          exact op_val (by simp [go_sem, ev' e81, i82]) (hK _ hw)
                        | 3, ho, hv =>
                          cases ho; cases hv
                          refine .inl ⟨rfl, fun done a W hd hp hk hw K hK => ?_⟩
                          have e80 := hk.at_ 0 _ 80 _ rfl (by decide) _ rfl rfl rfl
                          have e82 := hk.at_ 2 _ 82 _ rfl (by decide) _ rfl rfl rfl
                          exact op_val (by simp [go_sem, ev' e80, ev' e82, i83, e83, c83, sliced]) (hK _ hw)
                        | 4, ho, hv =>
                          cases ho; cases hv
                          refine .inl ⟨rfl, fun done a W hd hp hk hw K hK => ?_⟩
                          have e5 := hk.same 5 (by decide)
                          exact op_val (by simp [go_sem, ev' e5]) (hK _ hw)
                        | 5, ho, hv =>
                          cases ho; cases hv
                          refine .inl ⟨rfl, fun done a W hd hp hk hw K hK => ?_⟩
                          have e11 := hk.same 11 (by decide)
                          exact op_val (by simp [go_sem, ev' e11]) (hK _ hw)
                        | 6, ho, hv =>
                          cases ho; cases hv
                          refine .inl ⟨rfl, fun done a W hd hp hk hw K hK => ?_⟩
                          have e84 := hk.at_ 4 _ 84 _ rfl (by decide) _ rfl rfl rfl
                          have e85 := hk.at_ 5 _ 85 _ rfl (by decide) _ rfl rfl rfl
                          exact op_val (by simp [go_sem, ev' e84, ev' e85, i86, c86, sliced]) (hK _ hw)
                        | _ + 7, _, hv => cases hv
                      intro done W hd hw
                      simp only [List.drop_succ_cons, List.drop_zero, List.zip_cons_cons, List.zip_nil_right, putAll]
                      simp only [Act.put, List.setIfInBounds_toArray, List.set]
                      have HHW := Lib.hid (HH.out.aft hw)
                      have HAW := Lib.hid (HY6.out.trans hw)
                      have HRW : Hid (∀ i, (h : i < ls.length) → (h' : i < vs.length) → W.ownsRow W0.heap.size 3 1 vs[i] ls[i].length (ls[i].map (Value.int .i64))) := Lib.hid fun i h h' => own_aft (HROWS.out i h h') hw
                      have HXW := Lib.hid (own_aft HOL6.out hw)
                      clear hw HH HY6 HROWS HOL6 i82 i83 i86 e83 c83 c86
                      obtain ⟨arr, harr⟩ : ∃ arr, (cur.toList.take (p + 1) ++ (vs.drop p ++ cur.toList.drop (p + 1 + (vs.drop p).length))).toArray = arr := ⟨_, rfl⟩
                      have HARR := Lib.hid harr
                      have hcs : cur.size = cap := by have := HS.out; omega
                      have hlen2 : (vs.drop p).length = Nat.min (n1 - p) (n1 - (p + 1)) := by rw [List.length_drop]; show _ = min _ _; omega
                      have hfit : p + 1 + (vs.drop p).length ≤ cur.size := by rw [List.length_drop]; omega
                      have hsrc : ∀ j v, (vs.drop p)[j]? = some v → W.cell? ((⟨g, p, none⟩ : Addr).add j) = some v := fun j v hj => by
                        rw [Addr.add_lit, HHW.out.cell]
                        rw [List.getElem?_drop] at hj
                        obtain ⟨hj1, hj2⟩ := List.getElem?_eq_some_iff.1 hj
                        rw [HCUR.out _ hj1, hj2]
                      have h1c : ∀ u ∈ vs.drop p, u.oneCell' = true := fun u hu => HONE.out u (List.mem_of_mem_drop hu)
                      have HBA : Hid (Blk (W.setRow g arr) g 33 arr) := Lib.hid (setRow_heap W g cur arr 33 (0, 0) HHW.out)
                      have harl : p < arr.size := by rw [← HARR.out, List.size_toArray, List.length_append, List.length_take, Array.length_toList]; omega
                      obtain ⟨y, hy⟩ : ∃ y, arr[p]? = some y := ⟨_, Array.getElem?_eq_getElem harl⟩
                      have y0 : (W.setRow g arr).cell? ⟨g, p, none⟩ = some y := (HBA.out.cell p).trans hy
                      have y1 := HBA.out.frozen p
                      have y2 := HBA.out.lt
                      have hsr := only_setRow W g arr
                      have HSR := Lib.hid hsr
                      have H21 := Lib.hid hlen2
                      have HFT := Lib.hid hfit
                      have HSC := Lib.hid hsrc
                      have H1C := Lib.hid h1c
                      have ip : (0 : Int) ≤ (p : Int) ∧ (p : Int) < (n1 : Int) := by omega
                      clear hlen2 hfit hsrc h1c hy harr hsr
                      refine wpList_copy_own rfl (.tmp 83) (.tmp 86) 23 23 rfl 33 Tryz.underlying23 info33' g (p + 1) (n1 - (p + 1)) (cap - (p + 1)) ⟨g, p, none⟩ (n1 - p) (cap - p) rfl rfl cur 33 HHW.out (vs.drop p) H21.out HSC.out HFT.out H1C.out ?_
                      rw [HARR.out]
                      go_upto_region 22 with fail
                      go_wp2_with fail
                      have hset : (W.setRow g arr).grownBy ((W.setRow g arr).setCell ⟨g, p, none⟩ (.slice A7 l.length c7)) (some g) := only_setCell (only_refl _ (some g)) (p := ⟨g, p, none⟩) (.inl rfl) _
                      have hown := own_ins (x := .slice A7 l.length c7) hbg HHW.out (show ls.length + 1 ≤ cap by omega) hm1 HS.out (by rw [hn1]; exact HT.out) hvl hpe
                      rw [HARR.out] at hown
                      rw [hn1] at hown
                      refine ⟨⟨m + 1, vs.take p ++ .slice A7 l.length c7 :: vs.drop p, by go_num, by omega, ?_, (HAW.out.grown HSR.out (fun k e => by cases e; exact hbg)).grown hset (fun k e => by cases e; exact hbg)⟩, by simp [intOf]; omega⟩
                      rw [HFS.out]
                      exact OutR.ins hvl hp (by rw [hn1]; exact hown) (fun i h h' => own_kept_ty (own_kept_ty (HRW.out i h h') HHW.out (by decide) HSR.out) HBA.out (by decide) hset) (own_kept_ty (own_kept_ty HXW.out HHW.out (by decide) HSR.out) HBA.out (by decide) hset)
                    · obtain rfl : p = ls.length := by omega
                      obtain ⟨d83, hd83⟩ : ∃ d83 : Option Addr, (if cap = ls.length + 1 then some (⟨g, 0, none⟩ : Addr) else some ⟨g, ls.length + 1, none⟩) = d83 := ⟨_, rfl⟩
                      refine wp_region_valsT (by kernel_rfl) 7 93 rfl (by kernel_rfl) (by kernel_rfl) (by kernel_rfl) [.slice (some ⟨g, 0, none⟩) n1 cap, .int .i64 ls.length, .int .i64 ((ls.length : Int) + 1), .slice d83 (n1 - (ls.length + 1)) (cap - (ls.length + 1)), .slice (some ⟨g, 0, none⟩) n1 cap, .int .i64 ls.length, .slice (some ⟨g, ls.length, none⟩) (n1 - ls.length) (cap - ls.length)] rfl (fun done W => Aft W6 W) (Aft.drew _) ?st2 ?fi2
                      case st2 =>
                        intro i o v ho hv
                        match i, ho, hv with
                        | 0, ho, hv =>
                          cases ho; cases hv
                          refine .inl ⟨rfl, fun done a W hd hp hk hw K hK => ?_⟩
                          have e5 := hk.same 5 (by decide)
                          exact op_val (by simp [go_sem, ev' e5]) (hK _ hw)
                        | 1, ho, hv =>
                          cases ho; cases hv
                          refine .inl ⟨rfl, fun done a W hd hp hk hw K hK => ?_⟩
                          have e11 := hk.same 11 (by decide)
                          exact op_val (by simp [go_sem, ev' e11]) (hK _ hw)
                        | 2, ho, hv =>
                          cases ho; cases hv
                          refine .inl ⟨rfl, fun done a W hd hp hk hw K hK => ?_⟩
                          have e81 := hk.at_ 1 _ 81 _ rfl (by decide) _ rfl rfl rfl
                          exact op_val (by simp [go_sem, ev' e81, i82]) (hK _ hw)
                        | 3, ho, hv =>
                          cases ho; cases hv
                          refine .inl ⟨rfl, fun done a W hd hp hk hw K hK => ?_⟩
                          have e80 := hk.at_ 0 _ 80 _ rfl (by decide) _ rfl rfl rfl
                          have e82 := hk.at_ 2 _ 82 _ rfl (by decide) _ rfl rfl rfl
                          exact op_val (by simp [go_sem, ev' e80, ev' e82, i83, e83, sliced, ← hd83]) (hK _ hw)
                        | 4, ho, hv =>
                          cases ho; cases hv
                          refine .inl ⟨rfl, fun done a W hd hp hk hw K hK => ?_⟩
                          have e5 := hk.same 5 (by decide)
                          exact op_val (by simp [go_sem, ev' e5]) (hK _ hw)
                        | 5, ho, hv =>
                          cases ho; cases hv
                          refine .inl ⟨rfl, fun done a W hd hp hk hw K hK => ?_⟩
                          have e11 := hk.same 11 (by decide)
                          exact op_val (by simp [go_sem, ev' e11]) (hK _ hw)
                        | 6, ho, hv =>
                          cases ho; cases hv
                          refine .inl ⟨rfl, fun done a W hd hp hk hw K hK => ?_⟩
                          have e84 := hk.at_ 4 _ 84 _ rfl (by decide) _ rfl rfl rfl
                          have e85 := hk.at_ 5 _ 85 _ rfl (by decide) _ rfl rfl rfl
                          exact op_val (by simp [go_sem, ev' e84, ev' e85, i86, c86, sliced]) (hK _ hw)
                        | _ + 7, _, hv => cases hv
                      intro done W hd hw
                      simp only [List.drop_succ_cons, List.drop_zero, List.zip_cons_cons, List.zip_nil_right, putAll]
                      simp only [Act.put, List.setIfInBounds_toArray, List.set]
                      have HHW := Lib.hid (HH.out.aft hw)
                      have HAW := Lib.hid (HY6.out.trans hw)
                      have HRW : Hid (∀ i, (h : i < ls.length) → (h' : i < vs.length) → W.ownsRow W0.heap.size 3 1 vs[i] ls[i].length (ls[i].map (Value.int .i64))) := Lib.hid fun i h h' => own_aft (HROWS.out i h h') hw
                      have HXW := Lib.hid (own_aft HOL6.out hw)
                      clear hw HH HY6 HROWS HOL6 i82 i83 i86 e83 c86 hd83
                      have hcs : cur.size = cap := by have := HS.out; omega
                      have hmin : Nat.min (n1 - ls.length) (n1 - (ls.length + 1)) = 0 := by show min _ _ = 0; omega
                      have HMIN := Lib.hid hmin
                      obtain ⟨y, hy⟩ : ∃ y, cur[ls.length]? = some y := ⟨_, Array.getElem?_eq_getElem (by omega)⟩
                      have y0 : W.cell? ⟨g, ls.length, none⟩ = some y := (HHW.out.cell _).trans hy
                      have y1 := HHW.out.frozen ls.length
                      have y2 := HHW.out.lt
                      have ip : (0 : Int) ≤ (ls.length : Int) ∧ (ls.length : Int) < (n1 : Int) := by omega
                      clear hmin hy
                      refine wpList_copy_nothing rfl (.tmp 83) (.tmp 86) 23 23 rfl 33 Tryz.underlying23 info33' d83 (some ⟨g, ls.length, none⟩) (n1 - (ls.length + 1)) (cap - (ls.length + 1)) (n1 - ls.length) (cap - ls.length) rfl rfl HMIN.out ?_
                      go_upto_region 22 with fail
                      go_wp2_with fail
                      have hset : W.grownBy (W.setCell ⟨g, ls.length, none⟩ (.slice A7 l.length c7)) (some g) := only_setCell (only_refl _ (some g)) (p := ⟨g, ls.length, none⟩) (.inl rfl) _
                      have hown := own_ins_end (x := .slice A7 l.length c7) hbg HHW.out (show ls.length + 1 ≤ cap by omega) hm1 HS.out (by rw [hn1]; exact HT.out) hvl
                      refine ⟨⟨m + 1, vs.take ls.length ++ .slice A7 l.length c7 :: vs.drop ls.length, by go_num, by omega, ?_, HAW.out.grown hset (fun k e => by cases e; exact hbg)⟩, by simp [intOf]; omega⟩
                      rw [HFS.out]
                      rw [hn1] at hown
                      exact OutR.ins hvl hp (by rw [hn1]; exact hown) (fun i h h' => own_kept_ty (HRW.out i h h') HHW.out (by decide) hset) (own_kept_ty HXW.out HHW.out (by decide) hset)
                  · have HPLT : Hid (p < ls.length ∧ ∀ h : p < ls.length, cmpZ ls[p] l < 0) := Lib.hid (by
                      have := HBZ.out
                      by_cases h : p < ls.length
                      · rw [dif_pos h] at this
                        exact ⟨h, fun _ => of_decide_eq_true this⟩
                      · rw [dif_neg h] at this
                        cases this)
                    have hpl := HPLT.out.1
                    have HLT2 : Hid (∀ i, (h : i < ls.length) → i < p + 1 → cmpZ ls[i] l < 0) := Lib.hid fun i h h' => by
                      by_cases e : i = p
                      · subst e
                        exact HPLT.out.2 h
                      · exact HLT.out i h (by omega)
                    clear HBZ HLT HPLT
                    go_wp2_with fail
                    exact ⟨⟨p + 1, by go_num, by omega, HZ2.out, HLT2⟩, by simp [intOf]; omega⟩
            · obtain ⟨hjk, hbv⟩ := Bool.and_eq_true_iff.1 hbg
              subst hbv
              have hjk := of_decide_eq_true hjk
              obtain ⟨bl, hbl⟩ : ∃ bl, hasB l (j : Int) = bl := ⟨_, rfl⟩
              obtain ⟨br, hbr⟩ : ∃ br, refL R j = br := ⟨_, rfl⟩
              have hbr' : hasB R (j : Int) = br := hbr
              obtain ⟨bs, hbs⟩ : ∃ bs, strikeL S (refL l) j = bs := ⟨_, rfl⟩
              have H64 : Hid (Calls Tryz.prog 64 #[.slice A7 l.length c7, .int .i64 j] wr fun e w' => e = .returned (.bool bl) ∧ wr = w') := Lib.hid (by rw [← hbl]; exact hasR_any A7 l c7 j wr (HI.out.aft HZ.out))
              have H65 : Hid (Calls Tryz.prog 64 #[.slice AR R.length cR, .int .i64 j] wr fun e w' => e = .returned (.bool br) ∧ wr = w') := Lib.hid (by rw [← hbr']; exact hasR_any AR R cR j wr (HR.out.aft (HY2.out.trans HZ.out)))
              have H104 : Hid (Calls Tryz.prog 104 #[.agg #[.int .i64 k, .slice a1 S.length c1, .slice a2 T.length c2], .slice A7 l.length c7, .int .i64 j] wr fun e w' => e = .returned (.bool bs) ∧ Aft wr w') := Lib.hid (by rw [← hbs]; exact strikesR_any ⟨k, S, T⟩ a1 a2 c1 c2 l A7 c7 j wr (HC.out.aft (HY2.out.trans HZ.out)) (HI.out.aft HZ.out))
              have HCJ := Lib.hid (HCOV.out l j)
              rw [hbl, hbr, hbs] at HCJ
              have HBV2 : Hid ((st && (List.range (j + 1)).all (cov l)) = cov l j) := Lib.hid (by
                rw [all_range_succ, ← Bool.and_assoc, ← HBV.out, Bool.true_and])
              clear hbl hbr hbr' hbs HBV hbg
              go_upto_block 5 with fail
              go_cut [9] from 47 to 60 (fun s9 wx => s9 = .bool (cov l j) ∧ Aft wr wx)
              case first =>
                refine wp_block ?_
                cases bl
                · cases br
                  · (repeat (first | go_big_skip | go_big_want | go_big_move | go_big_op | go_step | go_upon | go_back))
                    go_at_call 64
                    refine H64.out.mono ?_
                    rintro e wz ⟨rfl, rfl⟩
                    dsimp only
                    (repeat (first | go_big_skip | go_big_want | go_big_move | go_big_op | go_step | go_upon | go_back))
                    go_at_call 64
                    refine H65.out.mono ?_
                    rintro e wz ⟨rfl, rfl⟩
                    dsimp only
                    (repeat (first | go_big_skip | go_big_want | go_big_move | go_big_op | go_step | go_upon | go_back))
                    go_at_call 104
                    refine H104.out.mono ?_
                    rintro e wz ⟨rfl, ha⟩
                    dsimp only
                    have HAZ := Lib.hid ha
                    clear ha
                    (repeat (first | go_big_skip | go_big_want | go_big_move | go_big_op | go_step | go_upon | go_back))
                    go_meet
                    exact ⟨by rw [HCJ.out]; rfl, HAZ.out⟩
                  · (repeat (first | go_big_skip | go_big_want | go_big_move | go_big_op | go_step | go_upon | go_back))
                    go_at_call 64
                    refine H64.out.mono ?_
                    rintro e wz ⟨rfl, rfl⟩
                    dsimp only
                    (repeat (first | go_big_skip | go_big_want | go_big_move | go_big_op | go_step | go_upon | go_back))
                    go_at_call 64
                    refine H65.out.mono ?_
                    rintro e wz ⟨rfl, rfl⟩
                    dsimp only
                    (repeat (first | go_big_skip | go_big_want | go_big_move | go_big_op | go_step | go_upon | go_back))
                    go_meet
                    exact ⟨by rw [HCJ.out]; rfl, Aft.refl _⟩
                · (repeat (first | go_big_skip | go_big_want | go_big_move | go_big_op | go_step | go_upon | go_back))
                  go_at_call 64
                  refine H64.out.mono ?_
                  rintro e wz ⟨rfl, rfl⟩
                  dsimp only
                  (repeat (first | go_big_skip | go_big_want | go_big_move | go_big_op | go_step | go_upon | go_back))
                  go_meet
                  exact ⟨by rw [HCJ.out]; rfl, Aft.refl _⟩
              obtain ⟨rfl, hac⟩ := hcut
              have HZ2 := Lib.hid (HZ.out.trans hac)
              clear hac HZ H64 H65 H104 HCJ k0 k1 k2 k3
              go_wp2_with fail
              exact ⟨⟨j + 1, cov l j, by go_num, rfl, by omega, HZ2.out, Lib.hid HBV2.out.symm⟩, by simp [intOf]; omega⟩
    · have t2 : decide (m < q) = false := by simpa using hmq
      obtain rfl : m = q := by omega
      go_wp2_with fail
      go_ret
      exact ⟨_, vs, rfl, ⟨own_base HOUT.out.own hw0, fun i h h' => own_base (HOUT.out.rows i h h') hw0⟩, H0.out.trans HY.out⟩
end Go.Proofs
end
