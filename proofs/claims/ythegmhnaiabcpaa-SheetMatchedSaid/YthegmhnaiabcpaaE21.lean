/- Own texts, merged: Yk Yl0 Rn7 Yl Ym0 Vh0. -/
import Derived.Test.YthegmhnaiabcpaaE20
import Derived.BigGuard
import Derived.OwnWalkIn
set_option linter.unusedSimpArgs false
set_option linter.unusedVariables false
set_option linter.unnecessarySimpa false
section
/- Walks: Marked 31. -/
namespace Go.Proofs
open Go.RowKit
attribute [local go_sem] Oper.semAt_some

/-- The three lists under way, over a deck. -/
structure MkS (w0 : World) (d : Nat) (A : Option Addr) (l : List Int) (c m : Nat) (w : World) (va vb vr : Value) (la lb lr : List (Int × Int)) (W : World) : Prop where
  deck : DeckAt w0 d A l c m W
  grown : w.grownBy W (some d)
  dlt : d < w.heap.size
  oa : W.ownsRow w.heap.size 54 2 va la.length (la.flatMap enc2)
  ob : W.ownsRow w.heap.size 54 2 vb lb.length (lb.flatMap enc2)
  or_ : W.ownsRow w.heap.size 57 2 vr lr.length (lr.flatMap enc2)
  ap : ∀ q, va.ownBlock = some q → vb.ownBlock ≠ some q
section
variable {w0 : World} {d : Nat} {A : Option Addr} {l : List Int} {c m : Nat} {w : World} {va vb vr : Value} {la lb lr : List (Int × Int)} {W W' : World}
theorem MkS.start (hd : DeckAt w0 d A l c m w) : MkS w0 d A l c m w (.slice none 0 0) (.slice none 0 0) (.slice none 0 0) [] [] [] w :=
  ⟨hd, only_refl _ _, hd.lt, World.ownsRow_nil _ _ 54 2, World.ownsRow_nil _ _ 54 2, World.ownsRow_nil _ _ 57 2, fun q h => by cases h⟩
theorem MkS.deal (h : MkS w0 d A l c m w va vb vr la lb lr W) {m' : Nat} (hd : DeckAt w0 d A l c m' W') (hg : W.grownBy W' (some d)) : MkS w0 d A l c m' w va vb vr la lb lr W' :=
  ⟨hd, h.grown.trans hg, h.dlt, own_low h.oa hg h.dlt, own_low h.ob hg h.dlt, own_low h.or_ hg h.dlt, h.ap⟩
theorem MkS.aft (h : MkS w0 d A l c m w va vb vr la lb lr W) (ha : Aft W W') : MkS w0 d A l c m w va vb vr la lb lr W' := h.deal (h.deck.aft ha) (only_of_aft ha _)
theorem MkS.sz (h : MkS w0 d A l c m w va vb vr la lb lr W) : w.heap.size ≤ W.heap.size := h.grown.size
theorem MkS.pushR (h : MkS w0 d A l c m w va vb vr la lb lr W) {v' : Value} {y : Int × Int} (hg : W.grownBy W' vr.ownBlock) (ho : W'.ownsRow w.heap.size 57 2 v' (lr ++ [y]).length ((lr ++ [y]).flatMap enc2)) : MkS w0 d A l c m w va vb v' la lb (lr ++ [y]) W' := by
  have hge := own_ge h.or_
  have hd := h.dlt
  exact ⟨h.deck.grown hg (fun q e => by have := hge q e; omega), only_row h.grown hg hge, hd, own_apart h.oa h.or_ (by decide) hg, own_apart h.ob h.or_ (by decide) hg, ho, h.ap⟩
theorem MkS.pushA (h : MkS w0 d A l c m w va vb vr la lb lr W) {v' : Value} {y : Int × Int} (hg : W.grownBy W' va.ownBlock) (ho : W'.ownsRow w.heap.size 54 2 v' (la ++ [y]).length ((la ++ [y]).flatMap enc2)) (hb : v'.ownBlock = va.ownBlock ∨ v'.ownBlock = some W.heap.size) : MkS w0 d A l c m w v' vb vr (la ++ [y]) lb lr W' := by
  have hge := own_ge h.oa
  have hd := h.dlt
  refine ⟨h.deck.grown hg (fun q e => by have := hge q e; omega), only_row h.grown hg hge, hd, ho, own_two h.ob hg (fun q e1 e2 => h.ap q e2 e1), own_apart h.or_ h.oa (by decide) hg, fun q e1 e2 => ?_⟩
  rcases hb with e | e
  · exact h.ap q (e ▸ e1) e2
  · rw [e1] at e
    have e : q = W.heap.size := Option.some.inj e
    have := (h.ob.lt q e2).2
    omega
theorem MkS.turn (h : MkS w0 d A l c m w va vb vr la lb lr W) : MkS w0 d A l c m w vb va vr lb la lr W := ⟨h.deck, h.grown, h.dlt, h.ob, h.oa, h.or_, fun q e1 e2 => h.ap q e2 e1⟩
end
/-- What Marked makes. -/
def MarkedR (w0 : World) (d : Nat) (play : Int) (w : World) (e : Ending) (w' : World) : Prop :=
  ∃ (va vb vr : Value) (la lb : List (Int × Int)) (lr : List (Nat × Nat)) (LA LB at_ : Int) (k : Nat), e = .returned (.tuple #[va, vb, vr]) ∧ k ≤ 14 ∧ MkP play la lb lr LA LB at_ k ∧
    w'.ownsRow w.heap.size 54 2 va la.length (la.flatMap enc2) ∧ w'.ownsRow w.heap.size 54 2 vb lb.length (lb.flatMap enc2) ∧ w'.ownsRow w.heap.size 57 2 vr (lr.map castP).length ((lr.map castP).flatMap enc2) ∧ w.grownBy w' (some d) ∧ Aft w0 w'
set_option maxRecDepth 100000 in
set_option maxHeartbeats 8000000 in
theorem marked_any (w0 : World) (d : Nat) (A : Option Addr) (l : List Int) (c m : Nat) (play : Int) (w : World) (hd : DeckAt w0 d A l c m w) (hm : m ≤ 100000) (hp1 : 0 ≤ play) (hp2 : play ≤ 9) :
    Calls Try.prog 31 #[.pointer (some ⟨d, 0, none⟩), .int .i64 14, .int .i64 play] w (MarkedR w0 d play w) := by
  have HS0 := Lib.hid (MkS.start hd)
  have HD : Hid (∀ W mm n, DeckAt w0 d A l c mm W → mm ≤ 200000 → -1000000 ≤ n → n ≤ 1000000 → Calls Try.prog 32 #[.pointer (some ⟨d, 0, none⟩), .int .i64 n] W (Dealt w0 d A l c mm n W)) := Lib.hid fun W mm n h1 h2 h3 h4 => draw_any w0 d A l c mm n W h1 (by omega) h3 h4
  have HBT : Hid (∀ W mm a b, DeckAt w0 d A l c mm W → mm ≤ 200000 → -1000 ≤ a → a ≤ b → b ≤ 1000 → Calls Try.prog 41 #[.pointer (some ⟨d, 0, none⟩), .int .i64 a, .int .i64 b] W (DealtB w0 d A l c mm a b W)) := Lib.hid fun W mm a b h1 h2 h3 h4 h5 => between_any w0 d A l c mm a b W h1 (by omega) h3 h4 h5
  have HCN : Hid (∀ W mm n, DeckAt w0 d A l c mm W → mm ≤ 200000 → -1000000 ≤ n → n ≤ 1000000 → Calls Try.prog 73 #[.pointer (some ⟨d, 0, none⟩), .int .i64 n] W (fun e w' => ∃ b : Bool, e = .returned (.bool b) ∧ DeckAt w0 d A l c (mm + 1) w' ∧ W.grownBy w' (some d))) := Lib.hid fun W mm n h1 h2 h3 h4 => coin_any w0 d A l c mm n W h1 (by omega) h3 h4
  clear hd
  go_enter Try.func31, Try.ntmps31
  go_upto_region 3 with fail
  apply wp_region_lit
  (repeat ((fail_if_success at_builtin); first | go_big_skip | go_big_want | go_big_move | go_big_op | go_step | go_upon | go_back))
  go_at_call 32
  refine (HD.out _ _ 20 HS0.out.deck (by omega) (by omega) (by omega)).mono ?_
  rintro e w2 ⟨x, rfl, hx0, hx1, hd2, hg2⟩
  dsimp only
  have HS2 := Lib.hid (HS0.out.deal hd2 hg2)
  clear hd2 hg2 HS0
  have hx20 : x ≤ 20 := by omega
  clear hx1
  go_upto_region 5 with fail
  apply wp_region_lit
  (repeat ((fail_if_success at_builtin); first | go_big_skip | go_big_want | go_big_move | go_big_op | go_step | go_upon | go_back))
  go_at_call 32
  refine (HD.out _ _ 15 HS2.out.deck (by omega) (by omega) (by omega)).mono ?_
  rintro e w3 ⟨t, rfl, ht0, ht1, hd2, hg2⟩
  dsimp only
  have HS3 := Lib.hid (HS2.out.deal hd2 hg2)
  clear hd2 hg2 HS2
  have ht14 : t ≤ 14 := by omega
  clear ht1
  obtain ⟨K, rfl⟩ := Int.eq_ofNat_of_zero_le ht0
  have hK14 : K ≤ 14 := by omega
  clear ht0 ht14
  have HP0 := Lib.hid (MkP.start (play := play) hx0 hx20)
  clear hx0 hx20
  go_upto_block 0 with fail
  refine wp_block ?_
  go_loopw [9, 10, 11, 12, 13, 14, 26] (fun va vb vr at_ xA xB i wr => ∃ (k : Nat) (la lb : List (Int × Int)) (lr : List (Nat × Nat)) (LA LB y : Int), i = .int .i64 (k : Nat) ∧ k ≤ K ∧ at_ = .int .i64 y ∧ xA = .int .i64 LA ∧ xB = .int .i64 LB ∧ Hid (MkP play la lb lr LA LB y k) ∧ MkS w0 d A l c (m + 2 + 6 * k) w va vb vr la lb (lr.map castP) wr) (fun _ _ _ _ _ _ i _ => K - (intOf i).toNat)
  case atStart => exact ⟨0, [], [], [], -100, -100, x, rfl, by omega, rfl, rfl, rfl, HP0, HS3.out⟩
  case round =>
    obtain ⟨k, la, lb, lr, LA, LB, y, rfl, hk, rfl, rfl, rfl, HP, hs⟩ := hrel
    have HT := Lib.hid hs
    clear hs HP0 HS3
    obtain ⟨A1, q1, c1, rfl, hq1⟩ := own_form HT.out.oa
    obtain ⟨A2, q2, c2, rfl, hq2⟩ := own_form HT.out.ob
    subst hq1 hq2
    by_cases hkK : k < K
    · have t1 : decide (k < K) = true := by simpa using hkK
      have hra := HP.out.ra
      have hrb := HP.out.rb
      have hat := HP.out.at0
      go_upto_region 7 with fail
      clear t1
      apply wp_region_lit
      (repeat ((fail_if_success at_builtin); first | go_big_skip | go_big_want | go_big_move | go_big_op | go_step | go_upon | go_back))
      go_at_call 32
      refine (HD.out _ _ 3 HT.out.deck (by omega) (by omega) (by omega)).mono ?_
      rintro e w4 ⟨kd, rfl, hk0, hk1, hd2, hg2⟩
      dsimp only
      have HS4 := Lib.hid (HT.out.deal hd2 hg2)
      clear hd2 hg2 HT
      have hkd : kd ≤ 2 := by omega
      clear hk1
      go_upto_region 8 with fail
      apply wp_region_lit
      (repeat ((fail_if_success at_builtin); first | go_big_skip | go_big_want | go_big_move | go_big_op | go_step | go_upon | go_back))
      go_at_call 41
      refine (HBT.out _ _ 0 play HS4.out.deck (by omega) (by omega) (by omega) (by omega)).mono ?_
      rintro e w5 ⟨p1, rfl, hp10, hp11, hd2, hg2⟩
      dsimp only
      have HS5 := Lib.hid (HS4.out.deal hd2 hg2)
      clear hd2 hg2 HS4
      obtain ⟨u, hu⟩ : ∃ u, max (LA + 1) (y + p1) = u := ⟨_, rfl⟩
      have hmu : (if LA + 1 < y + p1 then y + p1 else LA + 1) = u := by split <;> omega
      (repeat ((fail_if_success at_builtin); first | go_big_skip | go_big_want | go_big_move | go_big_op | go_step | go_upon | go_back))
      go_at_call 41
      refine (HBT.out _ _ 0 play HS5.out.deck (by omega) (by omega) (by omega) (by omega)).mono ?_
      rintro e w6 ⟨p2, rfl, hp20, hp21, hd2, hg2⟩
      dsimp only
      have HS6 := Lib.hid (HS5.out.deal hd2 hg2)
      clear hd2 hg2 HS5
      obtain ⟨v, hv⟩ : ∃ v, max (LB + 1) (y + p2) = v := ⟨_, rfl⟩
      have hmv : (if LB + 1 < y + p2 then y + p2 else LB + 1) = v := by split <;> omega
      go_upto_region 9 with fail
      apply wp_region_lit
      (repeat ((fail_if_success at_builtin); first | go_big_skip | go_big_want | go_big_move | go_big_op | go_step | go_upon | go_back))
      go_at_call 73
      refine (HCN.out _ _ 4 HS6.out.deck (by omega) (by omega) (by omega)).mono ?_
      rintro e w7 ⟨b1, rfl, hd2, hg2⟩
      dsimp only
      have HS7 := Lib.hid (HS6.out.deal hd2 hg2)
      clear hd2 hg2 HS6
      (repeat ((fail_if_success at_builtin); first | go_big_skip | go_big_want | go_big_move | go_big_op | go_step | go_upon | go_back))
      go_at_call 73
      refine (HCN.out _ _ 4 HS7.out.deck (by omega) (by omega) (by omega)).mono ?_
      rintro e w8 ⟨b2, rfl, hd2, hg2⟩
      dsimp only
      have HS8 := Lib.hid (HS7.out.deal hd2 hg2)
      clear hd2 hg2 HS7
      have hul : u ≤ 300 := by omega
      have hvl : v ≤ 300 := by omega
      have hu1 : LA < u := by omega
      have hv1 : LB < v := by omega
      have hu2 : u ≤ LA + 1 ∨ u ≤ y + play := by omega
      have hv2 : v ≤ LB + 1 ∨ v ≤ y + play := by omega
      clear hmu hmv hu hv hp10 hp11 hp20 hp21
      go_upto_region 10 with fail
      cases b1
      · cases b2
        ·
          obtain ⟨q, hq⟩ : ∃ q, max (u - v) (v - u) = q := ⟨_, rfl⟩
          have hmq : (if u - v < v - u then v - u else u - v) = q := by split <;> omega
          by_cases hqp : q ≤ play
          · have t2 : decide (q ≤ play) = true := by simpa using hqp
            have hcl : u - v ≤ play ∧ v - u ≤ play := by omega
            clear hq
            (repeat ((fail_if_success at_builtin); first | go_big_skip | go_big_want | go_big_move | go_big_op | go_step | go_upon | go_back))
            have HX9 := Lib.hid (HS8.out.aft (Aft.alloc _ (.cells #[.int .i64 (la.length : Nat), .int .i64 (lb.length : Nat)] 57)))
            obtain ⟨v9, w9, hr9, ho9, hg9, hb9⟩ := app_rec (enc := enc2) ty49 HX9.out.or_ HX9.out.sz ((la.length : Int), (lb.length : Int)) (c := 1) rfl (src_blk (Blk.new _ 57 _)) (fun u hu => by simp [enc2] at hu; rcases hu with rfl | rfl <;> rfl) (by simp; have := chain_len HP.out.ch; have := HP.out.na; omega) (by decide) (by decide)
            refine wpList_val rfl (exec_append rfl rfl rfl hr9) ?_
            have HS9 := Lib.hid (HX9.out.pushR hg9 ho9)
            clear hr9 ho9 hg9 hb9 HX9 HS8
            (repeat ((fail_if_success at_builtin); first | go_big_skip | go_big_want | go_big_move | go_big_op | go_step | go_upon | go_back))
            have HX10 := Lib.hid (HS9.out.aft (Aft.alloc _ (.cells #[.int .i64 u, .int .i64 kd] 54)))
            obtain ⟨v10, w10, hr10, ho10, hg10, hb10⟩ := app_rec (enc := enc2) ty48 HX10.out.oa HX10.out.sz (u, kd) (c := 1) rfl (src_blk (Blk.new _ 54 _)) (fun u hu => by simp [enc2] at hu; rcases hu with rfl | rfl <;> rfl) (by have := HP.out.na; have := HP.out.nb; omega) (by decide) (by decide)
            refine wpList_val rfl (exec_append rfl rfl rfl hr10) ?_
            have HS10 := Lib.hid (HX10.out.pushA hg10 ho10 hb10)
            clear hr10 ho10 hg10 hb10 HX10 HS9
            (repeat ((fail_if_success at_builtin); first | go_big_skip | go_big_want | go_big_move | go_big_op | go_step | go_upon | go_back))
            have HX11 := Lib.hid (HS10.out.aft (Aft.alloc _ (.cells #[.int .i64 v, .int .i64 kd] 54)))
            obtain ⟨v11, w11, hr11, ho11, hg11, hb11⟩ := app_rec (enc := enc2) ty48 HX11.out.turn.oa HX11.out.turn.sz (v, kd) (c := 1) rfl (src_blk (Blk.new _ 54 _)) (fun u hu => by simp [enc2] at hu; rcases hu with rfl | rfl <;> rfl) (by have := HP.out.na; have := HP.out.nb; omega) (by decide) (by decide)
            refine wpList_val rfl (exec_append rfl rfl rfl hr11) ?_
            have HS11 := Lib.hid (HX11.out.turn.pushA hg11 ho11 hb11)
            replace HS11 := Lib.hid HS11.out.turn
            clear hr11 ho11 hg11 hb11 HX11 HS10
            (repeat ((fail_if_success at_builtin); first | go_big_skip | go_big_want | go_big_move | go_big_op | go_step | go_upon | go_back))
            go_at_call 41
            refine (HBT.out _ _ 1 9 HS11.out.deck (by omega) (by omega) (by omega) (by omega)).mono ?_
            rintro e w12 ⟨dt, rfl, hdt0, hdt1, hd2, hg2⟩
            dsimp only
            have HS12 := Lib.hid (HS11.out.deal hd2 hg2)
            clear hd2 hg2 HS11
            have HN := Lib.hid (HP.out.step (one := true) (other := true) (c := true) ⟨hp1, hp2⟩ ⟨hk0, hkd⟩ hu1 hu2 hv1 hv2 ⟨hdt0, hdt1⟩ (fun _ => ⟨rfl, rfl, hcl.1, hcl.2⟩))
            go_wp2_with fail
            refine ⟨⟨k + 1, _, _, _, _, _, _, by go_num, by omega, rfl, rfl, rfl, HN, ?_⟩, by simp [intOf]; omega⟩
            have hf := HS12.out
            rw [show m + 2 + 6 * (k + 1) = m + 2 + 6 * k + 1 + 1 + 1 + 1 + 1 + 1 by omega]
            rw [if_pos rfl, List.map_append]
            exact hf
          · have t2 : decide (q ≤ play) = false := by simpa using hqp
            clear hq
            (repeat ((fail_if_success at_builtin); first | go_big_skip | go_big_want | go_big_move | go_big_op | go_step | go_upon | go_back))
            have HX13 := Lib.hid (HS8.out.aft (Aft.alloc _ (.cells #[.int .i64 u, .int .i64 kd] 54)))
            obtain ⟨v13, w13, hr13, ho13, hg13, hb13⟩ := app_rec (enc := enc2) ty48 HX13.out.oa HX13.out.sz (u, kd) (c := 1) rfl (src_blk (Blk.new _ 54 _)) (fun u hu => by simp [enc2] at hu; rcases hu with rfl | rfl <;> rfl) (by have := HP.out.na; have := HP.out.nb; omega) (by decide) (by decide)
            refine wpList_val rfl (exec_append rfl rfl rfl hr13) ?_
            have HS13 := Lib.hid (HX13.out.pushA hg13 ho13 hb13)
            clear hr13 ho13 hg13 hb13 HX13 HS8
            (repeat ((fail_if_success at_builtin); first | go_big_skip | go_big_want | go_big_move | go_big_op | go_step | go_upon | go_back))
            have HX14 := Lib.hid (HS13.out.aft (Aft.alloc _ (.cells #[.int .i64 v, .int .i64 kd] 54)))
            obtain ⟨v14, w14, hr14, ho14, hg14, hb14⟩ := app_rec (enc := enc2) ty48 HX14.out.turn.oa HX14.out.turn.sz (v, kd) (c := 1) rfl (src_blk (Blk.new _ 54 _)) (fun u hu => by simp [enc2] at hu; rcases hu with rfl | rfl <;> rfl) (by have := HP.out.na; have := HP.out.nb; omega) (by decide) (by decide)
            refine wpList_val rfl (exec_append rfl rfl rfl hr14) ?_
            have HS14 := Lib.hid (HX14.out.turn.pushA hg14 ho14 hb14)
            replace HS14 := Lib.hid HS14.out.turn
            clear hr14 ho14 hg14 hb14 HX14 HS13
            (repeat ((fail_if_success at_builtin); first | go_big_skip | go_big_want | go_big_move | go_big_op | go_step | go_upon | go_back))
            go_at_call 41
            refine (HBT.out _ _ 1 9 HS14.out.deck (by omega) (by omega) (by omega) (by omega)).mono ?_
            rintro e w15 ⟨dt, rfl, hdt0, hdt1, hd2, hg2⟩
            dsimp only
            have HS15 := Lib.hid (HS14.out.deal hd2 hg2)
            clear hd2 hg2 HS14
            have HN := Lib.hid (HP.out.step (one := true) (other := true) (c := false) ⟨hp1, hp2⟩ ⟨hk0, hkd⟩ hu1 hu2 hv1 hv2 ⟨hdt0, hdt1⟩ (fun h => Bool.noConfusion h))
            go_wp2_with fail
            refine ⟨⟨k + 1, _, _, _, _, _, _, by go_num, by omega, rfl, rfl, rfl, HN, ?_⟩, by simp [intOf]; omega⟩
            have hf := HS15.out
            rw [show m + 2 + 6 * (k + 1) = m + 2 + 6 * k + 1 + 1 + 1 + 1 + 1 + 1 by omega]
            exact hf
        ·
          (repeat ((fail_if_success at_builtin); first | go_big_skip | go_big_want | go_big_move | go_big_op | go_step | go_upon | go_back))
          have HX16 := Lib.hid (HS8.out.aft (Aft.alloc _ (.cells #[.int .i64 u, .int .i64 kd] 54)))
          obtain ⟨v16, w16, hr16, ho16, hg16, hb16⟩ := app_rec (enc := enc2) ty48 HX16.out.oa HX16.out.sz (u, kd) (c := 1) rfl (src_blk (Blk.new _ 54 _)) (fun u hu => by simp [enc2] at hu; rcases hu with rfl | rfl <;> rfl) (by have := HP.out.na; have := HP.out.nb; omega) (by decide) (by decide)
          refine wpList_val rfl (exec_append rfl rfl rfl hr16) ?_
          have HS16 := Lib.hid (HX16.out.pushA hg16 ho16 hb16)
          clear hr16 ho16 hg16 hb16 HX16 HS8
          (repeat ((fail_if_success at_builtin); first | go_big_skip | go_big_want | go_big_move | go_big_op | go_step | go_upon | go_back))
          go_at_call 41
          refine (HBT.out _ _ 1 9 HS16.out.deck (by omega) (by omega) (by omega) (by omega)).mono ?_
          rintro e w17 ⟨dt, rfl, hdt0, hdt1, hd2, hg2⟩
          dsimp only
          have HS17 := Lib.hid (HS16.out.deal hd2 hg2)
          clear hd2 hg2 HS16
          have HN := Lib.hid (HP.out.step (one := true) (other := false) (c := false) ⟨hp1, hp2⟩ ⟨hk0, hkd⟩ hu1 hu2 hv1 hv2 ⟨hdt0, hdt1⟩ (fun h => Bool.noConfusion h))
          go_wp2_with fail
          refine ⟨⟨k + 1, _, _, _, _, _, _, by go_num, by omega, rfl, rfl, rfl, HN, ?_⟩, by simp [intOf]; omega⟩
          have hf := HS17.out
          rw [show m + 2 + 6 * (k + 1) = m + 2 + 6 * k + 1 + 1 + 1 + 1 + 1 + 1 by omega]
          exact hf
      · cases b2
        ·
          (repeat ((fail_if_success at_builtin); first | go_big_skip | go_big_want | go_big_move | go_big_op | go_step | go_upon | go_back))
          have HX18 := Lib.hid (HS8.out.aft (Aft.alloc _ (.cells #[.int .i64 v, .int .i64 kd] 54)))
          obtain ⟨v18, w18, hr18, ho18, hg18, hb18⟩ := app_rec (enc := enc2) ty48 HX18.out.turn.oa HX18.out.turn.sz (v, kd) (c := 1) rfl (src_blk (Blk.new _ 54 _)) (fun u hu => by simp [enc2] at hu; rcases hu with rfl | rfl <;> rfl) (by have := HP.out.na; have := HP.out.nb; omega) (by decide) (by decide)
          refine wpList_val rfl (exec_append rfl rfl rfl hr18) ?_
          have HS18 := Lib.hid (HX18.out.turn.pushA hg18 ho18 hb18)
          replace HS18 := Lib.hid HS18.out.turn
          clear hr18 ho18 hg18 hb18 HX18 HS8
          (repeat ((fail_if_success at_builtin); first | go_big_skip | go_big_want | go_big_move | go_big_op | go_step | go_upon | go_back))
          go_at_call 41
          refine (HBT.out _ _ 1 9 HS18.out.deck (by omega) (by omega) (by omega) (by omega)).mono ?_
          rintro e w19 ⟨dt, rfl, hdt0, hdt1, hd2, hg2⟩
          dsimp only
          have HS19 := Lib.hid (HS18.out.deal hd2 hg2)
          clear hd2 hg2 HS18
          have HN := Lib.hid (HP.out.step (one := false) (other := true) (c := false) ⟨hp1, hp2⟩ ⟨hk0, hkd⟩ hu1 hu2 hv1 hv2 ⟨hdt0, hdt1⟩ (fun h => Bool.noConfusion h))
          go_wp2_with fail
          refine ⟨⟨k + 1, _, _, _, _, _, _, by go_num, by omega, rfl, rfl, rfl, HN, ?_⟩, by simp [intOf]; omega⟩
          have hf := HS19.out
          rw [show m + 2 + 6 * (k + 1) = m + 2 + 6 * k + 1 + 1 + 1 + 1 + 1 + 1 by omega]
          exact hf
        ·
          (repeat ((fail_if_success at_builtin); first | go_big_skip | go_big_want | go_big_move | go_big_op | go_step | go_upon | go_back))
          go_at_call 41
          refine (HBT.out _ _ 1 9 HS8.out.deck (by omega) (by omega) (by omega) (by omega)).mono ?_
          rintro e w20 ⟨dt, rfl, hdt0, hdt1, hd2, hg2⟩
          dsimp only
          have HS20 := Lib.hid (HS8.out.deal hd2 hg2)
          clear hd2 hg2 HS8
          have HN := Lib.hid (HP.out.step (one := false) (other := false) (c := false) ⟨hp1, hp2⟩ ⟨hk0, hkd⟩ hu1 hu2 hv1 hv2 ⟨hdt0, hdt1⟩ (fun h => Bool.noConfusion h))
          go_wp2_with fail
          refine ⟨⟨k + 1, _, _, _, _, _, _, by go_num, by omega, rfl, rfl, rfl, HN, ?_⟩, by simp [intOf]; omega⟩
          have hf := HS20.out
          rw [show m + 2 + 6 * (k + 1) = m + 2 + 6 * k + 1 + 1 + 1 + 1 + 1 + 1 by omega]
          exact hf
    · have t1 : decide (k < K) = false := by simpa using hkK
      go_wp2_with fail
      exact bodyPost_ret (v := .tuple #[.slice A1 la.length c1, .slice A2 lb.length c2, u11]) (by simp [results, Try.results31, go_sem]) rfl ⟨_, _, _, la, lb, lr, LA, LB, y, k, rfl, by omega, HP.out, HT.out.oa, HT.out.ob, HT.out.or_, HT.out.grown, HT.out.deck.aft0⟩
end Go.Proofs
end

section
/- Plain: edges that are changed, or gone the other way, match as many; levels that are changed. -/
namespace Sheet
theorem Chain.swap {S : Nat → Nat → Bool} {n m : Nat} {l : List (Nat × Nat)} (h : Chain S n m 0 0 l) : Chain (fun i k => S k i) m n 0 0 (l.map fun p => (p.2, p.1)) := by
  refine ⟨List.pairwise_map.2 (h.rise.imp fun {p q} hpq => ⟨hpq.2, hpq.1⟩), fun p hp => ?_, fun p _ => ⟨Nat.zero_le _, Nat.zero_le _⟩, fun p hp => ?_⟩
  · obtain ⟨q, hq, rfl⟩ := List.mem_map.1 hp
    exact h.same q hq
  · obtain ⟨q, hq, rfl⟩ := List.mem_map.1 hp
    have := h.high q hq
    exact ⟨this.2, this.1⟩
theorem Chain.back {S : Nat → Nat → Bool} {n m : Nat} {l : List (Nat × Nat)} (h : Chain S n m 0 0 l) : Chain (fun i k => S (n - 1 - i) (m - 1 - k)) n m 0 0 ((l.map fun p => (n - 1 - p.1, m - 1 - p.2)).reverse) := by
  refine ⟨List.pairwise_reverse.2 (List.pairwise_map.2 (h.rise.imp_of_mem fun {p q} hp hq hpq => ?_)), fun p hp => ?_, fun p _ => ⟨Nat.zero_le _, Nat.zero_le _⟩, fun p hp => ?_⟩
  · have h1 := h.high p hp
    have h2 := h.high q hq
    dsimp only
    omega
  · obtain ⟨q, hq, rfl⟩ := List.mem_map.1 (List.mem_reverse.1 hp)
    have h1 := h.high q hq
    dsimp only
    rw [show n - 1 - (n - 1 - q.1) = q.1 by omega, show m - 1 - (m - 1 - q.2) = q.2 by omega]
    exact h.same q hq
  · obtain ⟨q, hq, rfl⟩ := List.mem_map.1 (List.mem_reverse.1 hp)
    have h1 := h.high q hq
    dsimp only
    omega
theorem Chain.congr {S S' : Nat → Nat → Bool} {n m : Nat} {l : List (Nat × Nat)} (h : Chain S n m 0 0 l) (hS : ∀ i k, i < n → k < m → S i k = true → S' i k = true) : Chain S' n m 0 0 l :=
  ⟨h.rise, fun p hp => by have := h.high p hp; exact hS _ _ this.1 this.2 (h.same p hp), h.low, h.high⟩
end Sheet
namespace Go.Proofs
open Go.RowKit

theorem sameM_comm (play : Int) (x y : Int × Int) : sameM play x y = sameM play y x := by
  unfold sameM
  rw [Bool.and_comm (decide (x.1 - y.1 ≤ play)), show decide (x.2 = y.2) = decide (y.2 = x.2) from decide_eq_decide.2 eq_comm]
def negM (x : Int × Int) : Int × Int := (-x.1, x.2)
theorem sameM_neg (play : Int) (x y : Int × Int) : sameM play (negM x) (negM y) = sameM play x y := by
  unfold sameM negM
  dsimp only
  rw [show -x.1 - -y.1 = y.1 - x.1 by omega, show -y.1 - -x.1 = x.1 - y.1 by omega, Bool.and_comm (decide (y.1 - x.1 ≤ play))]
def backL (l : List (Int × Int)) : List (Int × Int) := l.reverse.map negM
theorem backL_len (l : List (Int × Int)) : (backL l).length = l.length := by unfold backL; simp
theorem backL_at {l : List (Int × Int)} {i : Nat} (h : i < l.length) : (backL l).getD i (0, 0) = negM (l.getD (l.length - 1 - i) (0, 0)) := by
  unfold backL
  rw [List.getD_eq_getElem?_getD, List.getD_eq_getElem?_getD, List.getElem?_map, List.getElem?_reverse h, List.getElem?_eq_getElem (by omega)]
  rfl
theorem long_swap {play : Int} {la lb : List (Int × Int)} {t t' : Nat} (h : Sheet.Long (sameB play la lb) la.length lb.length 0 0 t) (h' : Sheet.Long (sameB play lb la) lb.length la.length 0 0 t') : t' = t := by
  obtain ⟨l, h1, h2⟩ := h.has
  obtain ⟨l', h3, h4⟩ := h'.has
  have k1 := h'.all _ (h1.swap.congr fun i k _ _ hs => by show sameM play _ _ = true; rw [sameM_comm]; exact hs)
  have k2 := h.all _ (h3.swap.congr fun i k _ _ hs => by show sameM play _ _ = true; rw [sameM_comm]; exact hs)
  rw [List.length_map] at k1 k2
  omega
theorem sameB_back {play : Int} {la lb : List (Int × Int)} {i k : Nat} (hi : i < la.length) (hk : k < lb.length) : sameB play (backL la) (backL lb) i k = sameB play la lb (la.length - 1 - i) (lb.length - 1 - k) := by
  unfold sameB
  rw [backL_at hi, backL_at hk, sameM_neg]
theorem long_back {play : Int} {la lb : List (Int × Int)} {t t' : Nat} (h : Sheet.Long (sameB play la lb) la.length lb.length 0 0 t) (h' : Sheet.Long (sameB play (backL la) (backL lb)) (backL la).length (backL lb).length 0 0 t') : t' = t := by
  rw [backL_len, backL_len] at h'
  obtain ⟨l, h1, h2⟩ := h.has
  obtain ⟨l', h3, h4⟩ := h'.has
  have k1 := h'.all _ (h1.back.congr fun i k hi hk hs => by rw [sameB_back hi hk]; exact hs)
  have k2 := h.all _ (h3.back.congr fun i k hi hk hs => by
    rw [sameB_back (by omega) (by omega), show la.length - 1 - (la.length - 1 - i) = i by omega, show lb.length - 1 - (lb.length - 1 - k) = k by omega] at hs
    exact hs)
  rw [List.length_reverse, List.length_map] at k1 k2
  omega
theorem long_more {play : Int} {la lb : List (Int × Int)} {t t' : Nat} (h : Sheet.Long (sameB play la lb) la.length lb.length 0 0 t) (h' : Sheet.Long (sameB (play + 1) la lb) la.length lb.length 0 0 t') : t ≤ t' := by
  obtain ⟨l, h1, h2⟩ := h.has
  have k1 := h'.all _ (h1.congr fun i k _ _ hs => by
    unfold sameB sameM at hs ⊢
    simp only [Bool.and_eq_true, decide_eq_true_eq] at hs ⊢
    omega)
  omega
theorem edges_swap {la lb : List (Int × Int)} {play : Int} (h : edgesE la lb play = 0) : edgesE lb la play = 0 := by
  obtain ⟨h1, h2, h3, h4, h5, h6, h7⟩ := edgesE_ok h
  unfold edgesE
  rw [if_neg (by omega), h3, h4, h5, if_neg (by simp), h6, h7, if_neg (by simp)]
theorem backL_mark {l : List (Int × Int)} (h : l.all markB = true) : (backL l).all markB = true := List.all_eq_true.2 fun x hx => by
  unfold backL at hx
  obtain ⟨y, hy, rfl⟩ := List.mem_map.1 hx
  have := List.all_eq_true.1 h y (List.mem_reverse.1 hy)
  unfold markB at this ⊢
  unfold negM
  rw [Bool.and_eq_true, fromB_iff, fromB_iff] at this ⊢
  dsimp only
  omega
theorem backL_ord {l : List (Int × Int)} (h : ordB l = true) : ordB (backL l) = true := by
  have h' : OrdTo l l.length := of_decide_eq_true h
  refine decide_eq_true fun i h1 h2 h3 => ?_
  rw [backL_len] at h2
  rw [backL_at (by omega), backL_at h2]
  have := h' (l.length - 1 - (i - 1)) (by omega) (by omega) (by omega)
  rw [show l.length - 1 - (i - 1) - 1 = l.length - 1 - i by omega] at this
  unfold negM
  dsimp only
  omega
theorem edges_back {la lb : List (Int × Int)} {play : Int} (h : edgesE la lb play = 0) : edgesE (backL la) (backL lb) play = 0 := by
  obtain ⟨h1, h2, h3, h4, h5, h6, h7⟩ := edgesE_ok h
  unfold edgesE
  rw [backL_len, backL_len, if_neg (by omega), backL_mark h3, backL_mark h4, h5, if_neg (by simp), backL_ord h6, backL_ord h7, if_neg (by simp)]
/-- Levels that are changed prove no less. -/
theorem bars_less {play : Int} {la lb : List (Int × Int)} (he : edgesE la lb play = 0) {lv : List (List Int)} (hs : ShapeL lv la.length lb.length) (hv : ValL lv) {t : Nat} (ht : Sheet.Long (sameB play la lb) la.length lb.length 0 0 t) {v err : Int} (h : BarsW play la lb lv v err) : (err = 0 ∧ (t : Int) ≤ v) ∨ err = 9 := by
  rcases h with ⟨h1, -⟩ | ⟨-, ⟨h1, -⟩ | ⟨-, ⟨h1, -⟩ | ⟨-, ⟨-, -, rfl⟩ | ⟨hb, mx, rfl, rfl, hx⟩⟩⟩⟩
  · exact absurd he h1
  · exact absurd hs h1
  · exact absurd hv h1
  · exact .inr rfl
  · obtain ⟨l, h1, h2⟩ := ht.has
    have := hb.le (fun i k hi hk => hx.le i k hi hk (Sheet.idx_lt hi hk)) h1
    exact .inl ⟨rfl, by omega⟩
/-- One of the levels is another number. -/
def setL (lv : List (List Int)) (x y : Nat) (z : Int) : List (List Int) := lv.set x ((lv.getD x []).set y z)
theorem setL_shape {lv : List (List Int)} {n m : Nat} (h : ShapeL lv n m) {x : Nat} (hx : x < n) (y : Nat) (z : Int) : ShapeL (setL lv x y z) n m := by
  refine ⟨by unfold setL; rw [List.length_set]; exact h.n, fun r hr => ?_⟩
  unfold setL at hr
  rcases List.mem_or_eq_of_mem_set hr with hr | rfl
  · exact h.m r hr
  · rw [List.length_set]
    have hxl : x < lv.length := by rw [h.n]; exact hx
    rw [List.getD_eq_getElem?_getD, List.getElem?_eq_getElem hxl]
    exact h.m _ (List.getElem_mem hxl)
theorem setL_val {lv : List (List Int)} {n m : Nat} (hs : ShapeL lv n m) (h : ValL lv) {x : Nat} (hx : x < n) (y : Nat) {z : Int} (hz : 0 ≤ z ∧ z ≤ 30) : ValL (setL lv x y z) := fun r hr a ha => by
  unfold setL at hr
  rcases List.mem_or_eq_of_mem_set hr with hr | rfl
  · exact h r hr a ha
  · have hxl : x < lv.length := by rw [hs.n]; exact hx
    rw [List.getD_eq_getElem?_getD, List.getElem?_eq_getElem hxl] at ha
    rcases List.mem_or_eq_of_mem_set ha with ha | rfl
    · exact h _ (List.getElem_mem hxl) a ha
    · exact hz
end Go.Proofs
end

section
/- Words: a range over an iterator that gives two values, each round of which begins by laying memory. -/
namespace Go.Proofs
open Go.RowKit

def Iter7 (n : Nat) (gf : Nat) (lb : Array Value) (B N : Nat) (Gv : Nat → World → World → Value × Value → Prop) (Rep : World → Prop) : Prop :=
  ∀ (l : Nat) (J : Nat → World → Prop) (Jx : World → Prop) (W : World), W.heap.size = B + 2 → (∀ k W, J k W → Rep W) →
    (∀ k v W0 W1, k < N → J k W0 → Aft W0 W1 → B + 2 ≤ W0.heap.size → Gv k W0 W1 v → YieldAt Fence.wide (n - 1) Try.prog l #[v.1, v.2] W1 fun e W' =>
      (e = .returned (.bool true) ∧ J (k + 1) W' ∧ W1.heap.size ≤ W'.heap.size) ∨ (e = .returned (.bool false) ∧ Jx W')) →
    J 0 W →
    CallsIn Fence.wide n Try.prog gf (#[.func (.yield l) #[] #[]] ++ lb) W fun e W' => (∃ v, e = .returned v) ∧ (J N W' ∨ Jx W')

/-- 'for x := range seq' over such an iterator, where each round begins by laying memory. -/
theorem wpIn_range7 {g : Operand} {p p2 : Tmp} {assign body : Code} {Q : Exit → Act → World → Prop} {a : Act} {w : World} {n : Nat} {gf : Nat} {lb : Array Value} (hg : a.eval g = .func (.func gf) #[] lb) (eg : ∀ args w, (callFunc gf args).run Try.prog w = .ok (.enter gf args) w)
    {N : Nat} {Gv : Nat → World → World → Value × Value → Prop} {Rep : World → Prop} (hseq : Iter7 (n - 1) gf lb w.heap.size N Gv Rep)
    (I : Nat → World → Prop) (Ix : Code → World → Prop) (hI : Two w.heap.size I) (hIx : ∀ c, Two w.heap.size (fun (_ : Unit) => Ix c)) (hrep : ∀ k W, I k W → Rep W) (h0 : I 0 w) (a₁ : World → Value × Value → Act) (aw : World → Value × Value → World) (haw : ∀ W v, Aft W (aw W v))
    (hassign : ∀ (l k : Nat) (v : Value × Value) (W0 W : World) (K : Act → World → Prop), Gv k W0 W v → K (a₁ W v) (aw W v) →
      assign.wpIn (Fence.wide.inRound l) (n - 1 - 1) Try.prog (Exit.then K (fun _ _ _ => False)) { tmps := (a.tmps.setIfInBounds p v.1).setIfInBounds p2 v.2, defers := [] } W)
    (hbody : ∀ (l k : Nat) (v : Value × Value) (W0 W : World), k < N → I k W0 → Aft W0 W → w.heap.size + 2 ≤ W0.heap.size → Gv k W0 W v → ∀ X, (∃ o, X = (aw W v).putObj (w.heap.size + 1) o) → body.wpIn (Fence.wide.inRound l) (n - 1 - 1) Try.prog (post2 w.heap.size I Ix (k + 1) X) (a₁ W v) X)
    (hdone : ∀ (D : Nat) (W : World), w.heap.size = D → I N W → W.heap[D]? = some (.deferred (some [])) → Q .normal { a with defers := { target := .collected D, args := #[] } :: a.defers } W)
    (hstop : ∀ (D : Nat) (c : Code) (W : World), w.heap.size = D → Ix c W → W.heap[D]? = some (.deferred (some [])) → c.wpIn Fence.wide n Try.prog Q { a with defers := { target := .collected D, args := #[] } :: a.defers } W) :
    (Code.rangeFunc g #[p, p2] assign body).wpIn Fence.wide n Try.prog Q a w := by
  refine wpIn_rangeFunc ?_
  intro fn hfn
  obtain ⟨rec, hrec⟩ : ∃ rec : LoopState → Option Code → Loop, rec = fun st pe => { state := st, pending := pe, fn, tmps := a.tmps, params := #[p, p2], assign, body, defers := w.heap.size } := ⟨_, rfl⟩
  obtain ⟨W1, hW1⟩ : ∃ W1, (w.alloc (.deferred (some []))).alloc (.loop (rec .ready none)) = W1 := ⟨_, rfl⟩
  have hL1 : W1.heap[w.heap.size + 1]? = some (.loop (rec .ready none)) := by
    rw [← hW1]; have := World.alloc_heap_new (w.alloc (.deferred (some []))) (.loop (rec .ready none)); rwa [World.size_alloc] at this
  have hK1 : W1.heap[w.heap.size]? = some (.deferred (some [])) := by
    rw [← hW1]; exact (Below.heap_alloc _ _ _ (by simp)).trans (World.alloc_heap_new w _)
  have hs1 : W1.heap.size = w.heap.size + 2 := by rw [← hW1]; simp
  have hI1 : I 0 W1 := by
    have := only_of_aft ((Aft.alloc w (.deferred (some []))).then_alloc (.loop (rec .ready none))) (some w.heap.size)
    rw [hW1] at this
    exact hI _ _ _ _ h0 this (Nat.le_refl _) (by omega)
  refine ⟨w.heap.size + 1, [{ target := .collected w.heap.size, args := #[] }], W1, { target := .fn (.func gf) lb, args := #[.func (.yield (w.heap.size + 1)) #[] #[]] }, W1, gf,
    #[.func (.yield (w.heap.size + 1)) #[] #[]] ++ lb, W1, ?_, ?_, ?_, ?_, (fun h => by cases h), ?_⟩
  · rw [← hW1, hrec]; exact run_enterLoop_outer _ _ _ _ _
  · simp only [resolve, hg]
    simp [go_sem]
  · intro f' hf'; trivial
  · simp [invoke, go_sem, eg]
  · refine (hseq (w.heap.size + 1)
      (fun k W => I k W ∧ W.heap[w.heap.size + 1]? = some (.loop (rec .ready none)) ∧ W.heap[w.heap.size]? = some (.deferred (some [])))
      (fun W => ∃ c, Ix c W ∧ W.heap[w.heap.size + 1]? = some (.loop (rec .done (some c))) ∧ W.heap[w.heap.size]? = some (.deferred (some [])))
      W1 hs1 (fun k W h => hrep k W h.1) ?_ ⟨hI1, hL1, hK1⟩).mono ?_
    · rintro k v W0 W hkN ⟨hi, hl', hk'⟩ ha hB hgv
      have hl : W.heap[w.heap.size + 1]? = some (.loop (rec .ready none)) := (ha.below.block _ (by omega)).trans hl'
      have hk : W.heap[w.heap.size]? = some (.deferred (some [])) := (ha.below.block _ (by omega)).trans hk'
      have hlt : w.heap.size + 1 < W.heap.size := (Array.getElem?_eq_some_iff.1 hl).1
      have hy := run_yield (P := Try.prog) (args := #[v.1, v.2]) hl (by rw [hrec]; rfl)
      rw [hrec] at hy
      have hz : ((#[p, p2] : Array Tmp).zip #[v.1, v.2]).foldl (fun tmps (t, a) => tmps.setIfInBounds t a) a.tmps = (a.tmps.setIfInBounds p v.1).setIfInBounds p2 v.2 := by simp
      dsimp only at hy
      rw [hz] at hy
      refine ⟨fn, _, assign, body, hy, ?_⟩
      refine roundIn_of_wpIn hfn ?_
      refine hassign _ k v W0 W _ hgv ?_
      have hs0 := (haw W v).size
      have hl'' : (aw W v).heap[w.heap.size + 1]? = some (.loop (rec .ready none)) := ((haw W v).below.block _ hlt).trans hl
      have hk'' : (aw W v).heap[w.heap.size]? = some (.deferred (some [])) := ((haw W v).below.block _ (by omega)).trans hk
      have hbody2 := hbody (w.heap.size + 1) k v W0 W
      obtain ⟨Wa, hWa⟩ : ∃ Wa, aw W v = Wa := ⟨_, rfl⟩
      rw [hWa] at hl'' hk'' hs0 hbody2 ⊢
      have hlta : w.heap.size + 1 < Wa.heap.size := (Array.getElem?_eq_some_iff.1 hl'').1
      refine ⟨_, run_beginRound hl'' (by rw [hrec]), ?_⟩
      have hl2 : (Wa.putObj (w.heap.size + 1) (.loop { rec .ready none with state := .busy })).heap[w.heap.size + 1]? = some (.loop { rec .ready none with state := .busy }) := World.putObj_heap_same hlta
      have hk2 : (Wa.putObj (w.heap.size + 1) (.loop { rec .ready none with state := .busy })).heap[w.heap.size]? = some (.deferred (some [])) := (World.putObj_heap_other (by omega)).trans hk''
      have hsz2 : (Wa.putObj (w.heap.size + 1) (.loop { rec .ready none with state := .busy })).heap.size = Wa.heap.size := by simp [World.putObj]
      refine wpIn_mono (hbody2 hkN hi ha hB hgv _ ⟨_, rfl⟩) ?_
      have fin : ∀ (jump : Option Code) (W3 : World), Kept2 w.heap.size (Wa.putObj (w.heap.size + 1) (.loop { rec .ready none with state := .busy })) W3 →
          (Instr.endRound (w.heap.size + 1) jump).run Try.prog W3 = .ok (.bool jump.isNone) (W3.putObj (w.heap.size + 1) (.loop (rec (if jump.isNone then .ready else .done) jump))) ∧
          (W3.putObj (w.heap.size + 1) (.loop (rec (if jump.isNone then .ready else .done) jump))).heap[w.heap.size + 1]? = some (.loop (rec (if jump.isNone then .ready else .done) jump)) ∧
          (W3.putObj (w.heap.size + 1) (.loop (rec (if jump.isNone then .ready else .done) jump))).heap[w.heap.size]? = some (.deferred (some [])) ∧
          W.heap.size ≤ (W3.putObj (w.heap.size + 1) (.loop (rec (if jump.isNone then .ready else .done) jump))).heap.size := fun jump W3 hk3 => by
        have hl3 := (hk3.same _ (by omega) (by omega)).trans hl2
        have := run_endRound (P := Try.prog) jump hl3
        rw [hrec] at this ⊢
        exact ⟨this, World.putObj_heap_same (Array.getElem?_eq_some_iff.1 hl3).1, (World.putObj_heap_other (by omega)).trans ((hk3.same _ (by omega) (by omega)).trans hk2), by have := hk3.size; simp [World.putObj] at this ⊢; omega⟩
      rintro e a3 W3 hp
      cases e with
      | normal =>
        obtain ⟨hk3, hi3⟩ := hp
        obtain ⟨hr, hl4, hk4, h6⟩ := fin none W3 hk3
        exact ⟨_, _, hr, .inl ⟨rfl, ⟨hI _ _ _ _ hi3 (grownBy_putObj' _ _ _) (by omega) (by omega), hl4, hk4⟩, h6⟩⟩
      | ret =>
        obtain ⟨hk3, hi3⟩ := hp
        obtain ⟨hr, hl4, hk4, h6⟩ := fin (some .ret) W3 hk3
        exact ⟨_, _, hr, .inr ⟨rfl, .ret, hIx _ () _ _ _ hi3 (grownBy_putObj' _ _ _) (by omega) (by omega), hl4, hk4⟩⟩
      | exit id =>
        obtain ⟨hk3, hi3⟩ := hp
        obtain ⟨hr, hl4, hk4, h6⟩ := fin (some (.exit id)) W3 hk3
        exact ⟨_, _, hr, .inr ⟨rfl, .exit id, hIx _ () _ _ _ hi3 (grownBy_putObj' _ _ _) (by omega) (by omega), hl4, hk4⟩⟩
      | goto t =>
        obtain ⟨hk3, hi3⟩ := hp
        obtain ⟨hr, hl4, hk4, h6⟩ := fin (some (.goto t)) W3 hk3
        exact ⟨_, _, hr, .inr ⟨rfl, .goto t, hIx _ () _ _ _ hi3 (grownBy_putObj' _ _ _) (by omega) (by omega), hl4, hk4⟩⟩
      | panic ch => exact hp.elim
      | outgrown => exact hp.elim
    · rintro e W2 ⟨⟨v, rfl⟩, (⟨hi, hl, hk⟩ | ⟨c, hi, hl, hk⟩)⟩
      · exact ⟨none, _, by have := run_endLoop (P := Try.prog) hl (by rw [hrec]; simp); rw [hrec] at this; exact this, hdone _ _ rfl (hI _ _ _ _ hi (grownBy_putObj' _ _ _) (by omega) (by omega)) ((World.putObj_heap_other (by omega)).trans hk)⟩
      · exact ⟨some c, _, by have := run_endLoop (P := Try.prog) hl (by rw [hrec]; simp); rw [hrec] at this; exact this, hstop _ c _ rfl (hIx c () _ _ _ hi (grownBy_putObj' _ _ _) (by omega) (by omega)) ((World.putObj_heap_other (by omega)).trans hk)⟩
end Go.Proofs
end

section
/- Walks: Backward 34, its iterator 74, and what goes back over an edge (SheetMatched$1, 33). -/
namespace Go.Proofs
open Go.RowKit
attribute [local go_sem] Oper.semAt_some

theorem backward_any (A : Option Addr) (n c : Nat) (w : World) :
    Calls Try.prog 34 #[.slice A n c] w fun e w' => e = .returned (.func (.func 74) #[] #[.pointer (some ⟨w.heap.size, 0, none⟩)]) ∧ w' = w.alloc (.cells #[.slice A n c] 48) := by
  go_enter Try.func34, Try.ntmps34
  go_wp2_with fail
  go_ret
  exact ⟨rfl, rfl⟩
theorem runs_74 (args : Array Value) (w : World) : (callFunc 74 args).run Try.prog w = .ok (.enter 74 args) w := by simp [go_sem]
def RepB (b1 : Nat) (A : Option Addr) (la : List (Int × Int)) (c : Nat) (W : World) : Prop := Blk W b1 48 #[.slice A la.length c] ∧ Prs W A la
def GivesB (la : List (Int × Int)) (k : Nat) (_ _ : World) (v : Value × Value) : Prop := ∃ i, i + k + 1 = la.length ∧ v = (.int .i64 (i : Nat), .agg #[.int .i64 (la.getD i (0, 0)).1, .int .i64 (la.getD i (0, 0)).2])

set_option maxRecDepth 100000 in
set_option maxHeartbeats 4000000 in
theorem iter74 (fu : Nat) (b1 : Nat) (A : Option Addr) (la : List (Int × Int)) (c B : Nat) (hn : la.length ≤ 1000) :
    Iter7 fu 74 #[.pointer (some ⟨b1, 0, none⟩)] B la.length (GivesB la) (RepB b1 A la c) := by
  intro l J Jx W hsz hrep hY h0
  obtain ⟨r1, r2⟩ := hrep 0 W h0
  have k1 : W.cell? ⟨b1, 0, none⟩ = some (.slice A la.length c) := r1.cell 0
  have k3 := r1.lt
  have HR := Lib.hid hrep
  have HY : Hid (∀ k v W0 W1, k < la.length → J k W0 → Aft W0 W1 → B + 2 ≤ W0.heap.size → GivesB la k W0 W1 v → YieldAt Fence.wide (fu - 1) Try.prog l #[v.1, v.2] W1 (YieldP J Jx k W1)) := Lib.hid hY
  have H0 := Lib.hid h0
  clear hrep hY h0 r1 r2
  refine callsIn_wide.2 ?_
  show Calls Try.prog 74 #[.func (.yield l) #[] #[], .pointer (some ⟨b1, 0, none⟩)] W (IterP J Jx la.length)
  go_enter Try.func74, Try.ntmps74
  go_upto_block 0 with fail
  clear k1 k3
  refine wp_block ?_
  go_loopw [3] (fun x wr => ∃ (k : Nat) (z : Int), x = .int .i64 z ∧ z + 1 + (k : Int) = (la.length : Int) ∧ -1 ≤ z ∧ J k wr ∧ B + 2 ≤ wr.heap.size) (fun x _ => (intOf x + 1).toNat)
  case atStart => exact ⟨0, (la.length : Int) - 1, by go_num, by omega, by omega, H0.out, by omega⟩
  case round =>
    obtain ⟨k, z, rfl, hzk, hz1, hj, hsz2⟩ := hrel
    have HJK := Lib.hid hj
    clear hj H0
    by_cases hz : 0 ≤ z
    · obtain ⟨i, rfl⟩ : ∃ i : Nat, z = i := ⟨z.toNat, by omega⟩
      have t1 : decide ((0 : Int) ≤ (i : Int)) = true := by simp
      have hil : i < la.length := by omega
      obtain ⟨r1, r2⟩ := HR.out _ wr HJK.out
      have k1 : wr.cell? ⟨b1, 0, none⟩ = some (.slice A la.length c) := r1.cell 0
      have k3 := r1.lt
      obtain ⟨bl, ol, rfl, hbl, hcl⟩ := r2.at hil
      obtain ⟨x0, x1⟩ := hcl i hil
      have hgd : la.getD i (0, 0) = la[i] := by rw [List.getD_eq_getElem?_getD, List.getElem?_eq_getElem hil]; rfl
      obtain ⟨fn, tmps, assign, body, hy, hR⟩ := HY.out k (.int .i64 (i : Nat), .agg #[.int .i64 (la.getD i (0, 0)).1, .int .i64 (la.getD i (0, 0)).2]) wr wr (by omega) HJK.out (Aft.refl _) hsz2 ⟨i, by omega, rfl⟩
      obtain ⟨⟨p, q⟩, hp⟩ : ∃ p, la[i] = p := ⟨_, rfl⟩
      rw [hgd, hp] at hy
      rw [hp] at x0 x1
      dsimp only at x0 x1 hy
      have HRR := Lib.hid hR
      have HSZ := Lib.hid hsz2
      have hikl : (0 : Int) ≤ (i : Int) ∧ (i : Int) < (la.length : Int) := by omega
      have HZK := Lib.hid hzk
      clear hR hsz2 hcl r1 r2 hgd hp hzk hz1 hz
      go_upto_region 3 with fail
      clear t1
      refine (wpIn_wide (n := fu)).1 ?_
      gi_wp2_with fail
      refine ⟨(fun h => by cases h), HRR.out.mono ?_⟩
      rintro e W3 (⟨rfl, hJ3, hs3⟩ | ⟨rfl, hJx3⟩)
      · have hs3' : B + 2 ≤ W3.heap.size := Nat.le_trans HSZ.out hs3
        have HJ4 := Lib.hid hJ3
        clear hy HRR hJ3 hs3 k1 k3 x0 x1
        gi_wp2_with fail
        go_wp2_with fail
        exact ⟨⟨k + 1, (i : Int) - 1, by go_num, by have := HZK.out; omega, by omega, HJ4.out, by omega⟩, by simp [intOf] <;> omega⟩
      · clear hy HRR k1 k3 x0 x1
        gi_wp2_with fail
        go_wp2_with fail
        go_end0
        exact ⟨⟨_, rfl⟩, .inr hJx3⟩
    · obtain rfl : z = -1 := by omega
      obtain rfl : k = la.length := by omega
      go_wp2_with fail
      go_end0
      exact ⟨⟨_, rfl⟩, .inl HJK.out⟩
/-- A range over an edge, backward. -/
theorem wpIn_back {g : Operand} {p p2 : Tmp} {assign body : Code} {Q : Exit → Act → World → Prop} {a : Act} {w : World} {n b1 : Nat} {A : Option Addr} {la : List (Int × Int)} {c : Nat} (hl : la.length ≤ 1000)
    (hg : a.eval g = .func (.func 74) #[] #[.pointer (some ⟨b1, 0, none⟩)])
    (I : Nat → World → Prop) (hI : Two w.heap.size I) (hIa : ∀ k W W', I k W → Aft W W' → I k W') (hrep : ∀ k W, I k W → RepB b1 A la c W) (h0 : I 0 w) (a₁ : Nat → Nat → Int × Int → Act)
    (hassign : ∀ (l i : Nat) (W : World) (K : Act → World → Prop), K (a₁ W.heap.size i (la.getD i (0, 0))) (W.alloc (.cells #[.int .i64 (la.getD i (0, 0)).1, .int .i64 (la.getD i (0, 0)).2] 54)) →
      assign.wpIn (Fence.wide.inRound l) (n - 1 - 1) Try.prog (Exit.then K (fun _ _ _ => False)) { tmps := (a.tmps.setIfInBounds p (.int .i64 (i : Nat))).setIfInBounds p2 (.agg #[.int .i64 (la.getD i (0, 0)).1, .int .i64 (la.getD i (0, 0)).2]), defers := [] } W)
    (hbody : ∀ (l k i z : Nat) (W : World), i + k + 1 = la.length → I k W → w.heap.size + 2 ≤ z → z < W.heap.size → Blk W z 54 #[.int .i64 (la.getD i (0, 0)).1, .int .i64 (la.getD i (0, 0)).2] → body.wpIn (Fence.wide.inRound l) (n - 1 - 1) Try.prog (post2 w.heap.size I (fun _ _ => False) (k + 1) W) (a₁ z i (la.getD i (0, 0))) W)
    (hdone : ∀ (D : Nat) (W : World), w.heap.size = D → I la.length W → W.heap[D]? = some (.deferred (some [])) → Q .normal { a with defers := { target := .collected D, args := #[] } :: a.defers } W) :
    (Code.rangeFunc g #[p, p2] assign body).wpIn Fence.wide n Try.prog Q a w := by
  refine wpIn_range7 hg runs_74 (iter74 (n - 1) b1 A la c w.heap.size hl) I (fun _ _ => False) hI (fun _ _ _ _ _ h => h.elim) hrep h0 (fun W v => a₁ W.heap.size (unI v.1) (la.getD (unI v.1) (0, 0))) (fun W v => W.alloc (.cells #[.int .i64 (la.getD (unI v.1) (0, 0)).1, .int .i64 (la.getD (unI v.1) (0, 0)).2] 54)) (fun W v => Aft.alloc _ _)
    (fun l k v W0 W K hgv hK => ?_) (fun l k v W0 W hk hi ha hB hgv X hX => ?_) hdone (fun D c W _ h => h.elim)
  · obtain ⟨i, -, rfl⟩ := hgv
    have e : unI (.int .i64 (i : Nat)) = i := by simp [unI]
    dsimp only at hK
    rw [e] at hK
    exact hassign l i W K hK
  · obtain ⟨i, hik, rfl⟩ := hgv
    obtain ⟨o, rfl⟩ := hX
    have e : unI (.int .i64 (i : Nat)) = i := by simp [unI]
    dsimp only
    rw [e]
    have hz : w.heap.size + 2 ≤ W.heap.size := Nat.le_trans hB ha.size
    refine hbody l k i W.heap.size _ hik ?_ hz (by simp [World.putObj]) ?_
    · exact hI _ _ _ _ (hIa _ _ _ hi (ha.then_alloc _)) (grownBy_putObj' _ _ _) (by omega) (by omega)
    · exact (World.putObj_heap_other (by omega)).trans (Blk.new W 54 _)
theorem wpListIn_val {F : Fence} {n : Nat} {P : Program} {ops : Array Oper} {rest : List Oper} {o : Oper} {a : Act} {Q : Exit → Act → World → Prop} {w w' : World} {v : Value} {s x : Operand} {ty : TypeId} (hgd : o.guard = none) (hop : o.op = Op.call { callee := Callee.builtin Builtin.append, args := #[s, x], argTypes := #[ty, ty] })
    (h1 : (execOp a.eval o).run P w = .ok (.value v) w') (h : wpListIn F n P ops Q rest (a.put o.dst v) w') : wpListIn F n P ops Q (o :: rest) a w := by
  refine wpListIn_plain hgd fun K hK => ?_
  unfold Oper.wpIn
  refine ⟨?_, ?_⟩
  · simp [Oper.about, hop, resolve, Target.leads, Sem.run_pure]
  · rw [Oper.semAt_plain F _ _ (by rw [hop]; intro c hc'; cases hc'), h1]
    exact hK _ _ h
/-- While going back over an edge. -/
def BkM (w : World) (s : Nat) (A : Option Addr) (la : List (Int × Int)) (c : Nat) (k : Nat) (W : World) : Prop :=
  ∃ vo, Aft w W ∧ Blk W s 48 #[vo] ∧ W.ownsRow (s + 1 + 1 + 2) 54 2 vo ((backL la).take k).length (((backL la).take k).flatMap enc2) ∧ RepB (s + 1) A la c W

set_option maxRecDepth 100000 in
set_option maxHeartbeats 4000000 in
theorem backM_any (A : Option Addr) (la : List (Int × Int)) (c : Nat) (w : World) (hA : Prs w A la) (hm : la.all markB = true) (hl : la.length ≤ 30) :
    Calls Try.prog 33 #[.slice A la.length c] w (OwnF 54 2 enc2 w (backL la)) := by
  obtain ⟨s, hs⟩ : ∃ s, w.heap.size = s := ⟨_, rfl⟩
  have HB0 := Lib.hid (Blk.new w 48 #[.slice none 0 0])
  have HA0 := Lib.hid (Aft.alloc w (.cells #[.slice none 0 0] 48))
  rw [hs] at HB0
  have HA := Lib.hid hA
  have HM := Lib.hid hm
  clear hA hm
  refine (callsIn_wide (n := 6)).1 ?_
  refine callsIn_of_wp_marks Try.func33 rfl trivial ?_ rfl
  simp only [Try.ntmps33, List.size_toArray, List.length_cons, List.length_nil, Nat.reduceAdd, Nat.reduceSub, Array.replicate_succ, Array.replicate_zero, List.push_toArray, List.append_toArray, List.nil_append, List.cons_append]
  refine wpIn_wide.2 ?_
  go_upto_region 2 with fail
  try rw [hs]
  have hs1 : (w.alloc (.cells #[.slice none 0 0] 48)).heap.size = s + 1 := by rw [World.size_alloc, hs]
  generalize w.alloc (.cells #[.slice none 0 0] 48) = W1 at *
  go_upto_block 0 with (go_at_call 34; refine (backward_any A la.length c _).mono ?_; rintro e w' ⟨rfl, rfl⟩)
  try rw [hs1]
  have HR0 : Hid (BkM w s A la c 0 (W1.alloc (.cells #[.slice A la.length c] 48))) := Lib.hid (by
    have ha := Aft.alloc W1 (.cells #[.slice A la.length c] 48)
    refine ⟨_, HA0.out.trans ha, HB0.out.aft ha, by rw [List.take_zero]; exact World.ownsRow_nil _ _ 54 2, ?_, HA.out.aft (HA0.out.trans ha)⟩
    have := Blk.new W1 48 #[.slice A la.length c]
    rwa [hs1] at this)
  have hs2 : (W1.alloc (.cells #[.slice A la.length c] 48)).heap.size = s + 1 + 1 := by rw [World.size_alloc, hs1]
  generalize W1.alloc (.cells #[.slice A la.length c] 48) = W2 at *
  refine wp_block ?_
  refine (wpIn_wide (n := 6)).1 ?_
  have hb30 : (backL la).length ≤ 30 := by rw [backL_len]; exact hl
  refine wpIn_back (b1 := s + 1) (A := A) (la := la) (c := c) (by omega) rfl (BkM w s A la c) ?two ?aft ?rep HR0.out
    (fun z i x => { tmps := #[.slice A la.length c, undef, .slice none 0 0, .pointer (some ⟨s, 0, none⟩), undef, .pointer (some ⟨z, 0, none⟩), .slice A la.length c, .func (.func 74) #[] #[.pointer (some ⟨s + 1, 0, none⟩)], .int .i64 (i : Nat), .agg #[.int .i64 x.1, .int .i64 x.2], undef, undef, undef, undef, undef, undef, undef, undef, undef, undef], defers := [] }) ?assign ?body ?done
  case two =>
    rintro k X X' b ⟨vo, h1, h2, h3, h4, h5⟩ hg hb1 hb2
    rw [hs2] at hb1 hb2
    refine ⟨vo, ?_, h2.grown hg (fun e => by have e : s = b := Option.some.inj e; omega), own_low h3 hg (by omega), h4.grown hg (fun e => by have e : s + 1 = b := Option.some.inj e; omega), ?_⟩
    · exact h1.grown hg (fun q e => by have e : b = q := Option.some.inj e; omega)
    · exact HA.out.aft (h1.grown hg (fun q e => by have e : b = q := Option.some.inj e; omega))
  case aft =>
    rintro k X X' ⟨vo, h1, h2, h3, h4, h5⟩ ha
    exact ⟨vo, h1.trans ha, h2.aft ha, own_aft h3 ha, h4.aft ha, h5.aft ha⟩
  case rep => exact fun k X ⟨vo, h1, h2, h3, h4⟩ => h4
  case assign =>
    intro l i X K9 hK9
    gi_wp2_with fail
    exact hK9
  case body =>
    intro l k i z X hik hI hz hzs hB
    rw [hs2] at hz ⊢
    obtain ⟨vo, h1, h2, h3, h4⟩ := hI
    obtain ⟨⟨mp, mq⟩, hmp⟩ : ∃ x, la.getD i (0, 0) = x := ⟨_, rfl⟩
    have c0 := h2.cell 0
    have c1 := h2.lt
    have c2 := h2.frozen 0
    rw [hmp] at hB ⊢
    have d0 := hB.cell 0
    have d1 := hB.cell 1
    simp only [List.getElem?_toArray, List.getElem?_cons_zero, List.getElem?_cons_succ] at c0 d0 d1
    have hil : i < la.length := by omega
    have hmk := List.all_eq_true.1 HM.out _ (List.getElem_mem hil)
    have hgd : la.getD i (0, 0) = la[i] := by rw [List.getD_eq_getElem?_getD, List.getElem?_eq_getElem hil]; rfl
    have hmk2 : -1000000 ≤ mp ∧ mp ≤ 1000000 := by
      rw [← hgd, hmp] at hmk
      unfold markB at hmk
      rw [Bool.and_eq_true, fromB_iff] at hmk
      exact hmk.1
    obtain ⟨np, hnp⟩ : ∃ z, -mp = z := ⟨_, rfl⟩
    have hw1 : IntKind.i64.wrap (-mp) = np := by rw [hnp]; exact IntWalk.i64_in _ (by omega)
    have HT : Hid ((backL la).take (k + 1) = (backL la).take k ++ [(np, mq)]) := Lib.hid (by
      have hkb : k < (backL la).length := by rw [backL_len]; omega
      rw [List.take_succ_eq_append_getElem hkb]
      have e1 := backL_at (l := la) (i := k) (by omega)
      rw [List.getD_eq_getElem?_getD, List.getElem?_eq_getElem hkb, show la.length - 1 - k = i by omega, hmp] at e1
      have e2 : (backL la)[k] = negM (mp, mq) := e1
      rw [e2]
      unfold negM
      rw [hnp])
    have hln : ((backL la).take k).length = k := by rw [List.length_take, backL_len]; omega
    have HLN := Lib.hid hln
    have HOX := Lib.hid (own_aft h3 (Aft.alloc X (.cells #[.int .i64 np, .int .i64 mq] 54)))
    have HBX := Lib.hid (h2.aft (Aft.alloc X (.cells #[.int .i64 np, .int .i64 mq] 54)))
    obtain ⟨v', w', hr, ho, hg, hb⟩ := app_rec (enc := enc2) ty48 HOX.out (by rw [World.size_alloc]; omega) (np, mq) (c := 1) rfl (src_blk (Blk.new X 54 _)) (fun u hu => by simp [enc2] at hu; rcases hu with rfl | rfl <;> rfl) (by rw [hln]; omega) (by decide) (by decide)
    obtain ⟨A', q', c', rfl, hq'⟩ := own_form ho
    have HR := Lib.hid hr
    have HO := Lib.hid ho
    clear hq'
    have HG := Lib.hid hg
    have HRX := Lib.hid h4
    have H1 := Lib.hid h1
    have hge := own_ge h3
    have HGE := Lib.hid hge
    have HBW := Lib.hid (HBX.out.grown hg (fun e => by have := hge s e.symm; omega))
    have e0 := HBW.out.cell 0
    have e1 := HBW.out.lt
    have e2 := HBW.out.frozen 0
    simp only [List.getElem?_toArray, List.getElem?_cons_zero] at e0
    have HIK := Lib.hid hik
    clear hr ho hg hb hge h1 h2 h3 h4 hmk hgd hmk2 hnp hln hmp hik HOX
    refine wpIn_block ?_
    gi_wp2_with (gi_at_builtin; refine wpListIn_val rfl rfl (exec_append rfl rfl rfl HR.out) ?_)
    have hA1 := Aft.alloc X (.cells #[.int .i64 np, .int .i64 mq] 54)
    have hset : w'.grownBy (w'.setCell ⟨s, 0, none⟩ (.slice A' q' c')) (some s) := only_setCell (only_refl w' (some s)) (p := ⟨s, 0, none⟩) (.inl rfl) _
    have hs3 := hA1.size
    have hs4 := HG.out.size
    have hfin : Aft w (w'.setCell ⟨s, 0, none⟩ (.slice A' q' c')) := ((H1.out.trans hA1).grown HG.out (fun q e => by have := HGE.out q e; omega)).then_setCell (p := ⟨s, 0, none⟩) (by show w.heap.size ≤ s; omega) _
    refine ⟨((Kept2.of_aft hA1 (by omega)).trans (Kept2.of_grown HG.out (by omega) (fun q e => .inr (by have := HGE.out q e; omega)))).trans (Kept2.of_grown hset (by omega) (fun q e => .inl (by have e : s = q := Option.some.inj e; omega))), .slice A' q' c', hfin, HBW.out.store 0 _, ?_, ?_, HA.out.aft hfin⟩
    · rw [HT.out]
      exact own_low HO.out hset (by omega)
    · exact ((HRX.out.1.aft hA1).grown HG.out (fun e => by have := HGE.out (s + 1) e.symm; omega)).far (p := ⟨s, 0, none⟩) (by show s + 1 ≠ s; omega) _
  case done =>
    intro D X hD hI hd
    obtain ⟨vo, h1, h2, h3, h4⟩ := hI
    rw [hs2] at hD
    rw [List.take_of_length_le (by rw [backL_len]; exact Nat.le_refl _)] at h3
    have c0 := h2.cell 0
    have c1 := h2.lt
    simp only [List.getElem?_toArray, List.getElem?_cons_zero] at c0
    have H1 := Lib.hid h1
    have H3 := Lib.hid h3
    have HD := Lib.hid hd
    clear h1 h2 h3 h4 hd
    go_wp2_with fail
    refine leaves_marks w [D] X H1.out (fun D' hD' => by rw [List.mem_singleton] at hD'; subst hD'; exact ⟨by omega, HD.out⟩) (List.nodup_cons.2 ⟨by simp, List.nodup_nil⟩) fun w' ha hs' hk => ?_
    have ho := own_marks (Ds := [D]) H3.out (fun D' hD' => by rw [List.mem_singleton] at hD'; subst hD'; exact HD.out) hk
    exact ⟨vo, by simp [results, Try.results33, go_sem], vo, rfl, World.ownsRow.mono ho (by omega), ha⟩
end Go.Proofs
end

section
/- Words: what SheetMatched carries beside a deck. -/
namespace Go.Proofs
open Go.RowKit

theorem DeckAt.kept {w0 : World} {d e : Nat} {A : Option Addr} {l : List Int} {c m : Nat} {w w' : World} (h : DeckAt w0 d A l c m w) (hg : w.grownBy w' (some e)) (ha : Aft w0 w') (hne : d ≠ e) : DeckAt w0 d A l c m w' := by
  obtain ⟨h1, h2, h3, q, s, h4, h5, h6⟩ := h
  exact ⟨h1, h2, ha, q, s, h4.grown hg (fun e' => hne (Option.some.inj e')), h5, h6⟩
/-- A deck that was made later, seen from an older world. -/
theorem DeckAt.older {w0 w1 : World} {d : Nat} {A : Option Addr} {l : List Int} {c m : Nat} {w : World} (h : DeckAt w1 d A l c m w) (hb : Bytes w0 A l) (ha : Aft w0 w1) : DeckAt w0 d A l c m w := by
  obtain ⟨h1, h2, h3, q, s, h4, h5, h6⟩ := h
  exact ⟨hb, Nat.le_trans ha.size h2, ha.trans h3, q, s, h4, h5, h6⟩
theorem Prs.grown {w w' : World} {A : Option Addr} {l : List (Int × Int)} {d : Nat} (h : Prs w A l) (hg : w.grownBy w' (some d)) (hne : ∀ b o, A = some ⟨b, o, none⟩ → b ≠ d) : Prs w' A l := by
  refine ⟨h.1, ?_⟩
  rcases h.2 with h2 | ⟨b, o, rfl, hb, hc⟩
  · exact .inl h2
  · refine .inr ⟨b, o, rfl, Nat.lt_of_lt_of_le hb hg.size, fun i hi => ?_⟩
    obtain ⟨vs, k1, k2, k3⟩ := hc i hi
    exact ⟨vs, k1, k2, fun j hj => (cell_grown hg hb (fun e => hne b o rfl (Option.some.inj e).symm)).trans (k3 j hj)⟩
theorem OwnLs.low {W W' : World} {base : Nat} {v : Value} {vs : List Value} {ls : List (List Int)} {r : Nat} (h : OwnLs W base v vs ls) (hg : W.grownBy W' (some r)) (hr : r < base) : OwnLs W' base v vs ls :=
  ⟨own_low h.own hg hr, fun i hi hi' => own_low (h.rows i hi hi') hg hr, h.apart⟩
theorem own_set {W : World} {base g n cap : Nat} {l : List Int} (h : W.ownsRow base 3 1 (.slice (some ⟨g, 0, none⟩) n cap) l.length (l.map (Value.int .i64))) (y : Nat) (z : Int) : (W.setCell ⟨g, y, none⟩ (.int .i64 z)).ownsRow base 3 1 (.slice (some ⟨g, 0, none⟩) n cap) (l.set y z).length ((l.set y z).map (Value.int .i64)) := by
  rcases h.2 with ⟨h0, -⟩ | ⟨g', cap', cur, h0, hg, hh, hc, hm, hs, ht⟩
  · cases h0
  · cases h0
    have hb : Blk W g 3 cur := hh
    refine ⟨by simp, .inr ⟨g, cap, cur.setIfInBounds y (.int .i64 z), by rw [List.length_set], hg, hb.store y _, by rw [List.length_set]; exact hc, hm, by simpa using hs, ?_⟩⟩
    rw [List.length_set]
    rw [Array.toList_setIfInBounds, List.take_set, ht, List.map_set]
theorem setL_same {ls : List (List Int)} {x : Nat} (hx : x < ls.length) (y : Nat) (z : Int) : (setL ls x y z)[x]? = some (ls[x].set y z) := by
  unfold setL
  rw [List.getElem?_set_self hx, List.getD_eq_getElem?_getD, List.getElem?_eq_getElem hx]
  rfl
theorem setL_ne {ls : List (List Int)} {x i : Nat} (h : i ≠ x) (y : Nat) (z : Int) : (setL ls x y z)[i]? = ls[i]? := by
  unfold setL
  rw [List.getElem?_set_ne (Ne.symm h)]
theorem OwnLs.form {W : World} {base : Nat} {v : Value} {vs : List Value} {ls : List (List Int)} (h : OwnLs W base v vs ls) {x y : Nat} (hx : x < ls.length) (hy : y < ls[x].length) :
    ∃ bT cT g cap, v = .slice (some ⟨bT, 0, none⟩) ls.length cT ∧ vs[x]? = some (.slice (some ⟨g, 0, none⟩) ls[x].length cap) ∧ base ≤ bT ∧ base ≤ g := by
  have hxv : x < vs.length := by rw [h.len]; exact hx
  rcases h.own.2 with ⟨-, h0⟩ | ⟨bT, cT, cur, hv, hg, -⟩
  · omega
  rcases (h.rows x hx hxv).2 with ⟨-, h0⟩ | ⟨g, cap, cur2, hv2, hg2, -⟩
  · omega
  exact ⟨bT, cT, g, cap, hv, by rw [List.getElem?_eq_getElem hxv, hv2], hg, hg2⟩
theorem OwnLs.at {W : World} {base : Nat} {v : Value} {vs : List Value} {ls : List (List Int)} (h : OwnLs W base v vs ls) {x y : Nat} (hx : x < ls.length) (hy : y < ls[x].length) {bT cT g cap : Nat} (hv : v = .slice (some ⟨bT, 0, none⟩) ls.length cT) (hv2 : vs[x]? = some (.slice (some ⟨g, 0, none⟩) ls[x].length cap)) :
    bT < W.heap.size ∧ W.cell? ⟨bT, x, none⟩ = some (.slice (some ⟨g, 0, none⟩) ls[x].length cap) ∧ (∃ u, W.cell? ⟨g, y, none⟩ = some u) ∧ W.frozen? ⟨g, y, none⟩ = false ∧ g < W.heap.size ∧
      ∀ z, OwnLs (W.setCell ⟨g, y, none⟩ (.int .i64 z)) base v vs (setL ls x y z) := by
  have hxv : x < vs.length := by rw [h.len]; exact hx
  have hv3 : vs[x] = .slice (some ⟨g, 0, none⟩) ls[x].length cap := by
    rw [List.getElem?_eq_getElem hxv] at hv2
    exact Option.some.inj hv2
  have hrow := h.rows x hx hxv
  have hrow2 := hrow
  rw [hv3] at hrow
  rcases hrow.2 with ⟨h0, -⟩ | ⟨g', cap', cur2, h0, hg2, hh2, hc2, hm2, hs2, ht2⟩
  · cases h0
  cases h0
  have hap := h.apart x hxv g (by rw [hv3]; rfl)
  have hb2 : Blk W g 3 cur2 := hh2
  refine ⟨(h.own.lt bT (by rw [hv]; rfl)).2, ?_, ⟨_, (hb2.cell y).trans (Array.getElem?_eq_getElem (by omega))⟩, hb2.frozen y, hb2.lt, fun z => ?_⟩
  · have := h.own.cells (g := bT) (by rw [hv]; rfl) x vs[x] (by simp [hxv])
    rw [Addr.add_lit, Nat.zero_add] at this
    rw [this, hv3]
  · have hlen : (setL ls x y z).length = ls.length := by unfold setL; simp
    refine ⟨by rw [hlen]; exact ownsRow_setCell_other h.own (a := ⟨g, y, none⟩) hap.1 _, fun i hi hi' => ?_, h.apart⟩
    by_cases e : i = x
    · subst e
      have e2 : (setL ls i y z)[i] = ls[i].set y z := Option.some.inj ((List.getElem?_eq_getElem hi).symm.trans (setL_same hx y z))
      rw [e2]
      rw [hv3] at hrow2 ⊢
      exact own_set hrow2 y z
    · have hi2 : i < ls.length := by rw [hlen] at hi; exact hi
      have e2 : (setL ls x y z)[i] = ls[i] := Option.some.inj ((List.getElem?_eq_getElem hi).symm.trans ((setL_ne e y z).trans (List.getElem?_eq_getElem hi2)))
      rw [e2]
      exact ownsRow_setCell_other (h.rows i hi2 hi') (a := ⟨g, y, none⟩) (hap.2 i hi' e) _
/-- Within the region that deals one level. -/
structure Dr1 (w0 : World) (d : Nat) (A : Option Addr) (l : List Int) (c m : Nat) (W0 : World) (done : Nat → Bool) (a : Act) (W : World) : Prop where
  deck : DeckAt w0 d A l c (m + n1 (done 6)) W
  grown : W0.grownBy W (some d)
  v : done 6 = true → ∃ x, a.eval (.tmp 243) = .int .i64 x ∧ 0 ≤ x ∧ x < 4
section
variable {w0 : World} {d : Nat} {A : Option Addr} {l : List Int} {c m : Nat} {W0 W W' : World} {done : Nat → Bool} {a : Act}
theorem Dr1.start (h : DeckAt w0 d A l c m W0) : Dr1 w0 d A l c m W0 (fun _ => false) a W0.drew := ⟨h.aft (Aft.drew _), only_drew (only_refl _ _), (fun h => by cases h)⟩
theorem Dr1.keep (h : Dr1 w0 d A l c m W0 done a W) {i : Nat} {dst : Option Tmp} {v : Value} (hi : i ≠ 6) (hd : dst ≠ some 243) : Dr1 w0 d A l c m W0 (Go.upd done i) (a.put dst v) W :=
  ⟨by rw [upd_ne' (Ne.symm hi)]; exact h.deck, h.grown, fun p => by rw [upd_ne' (Ne.symm hi)] at p; rw [evne hd]; exact h.v p⟩
theorem Dr1.deal (h : Dr1 w0 d A l c m W0 done a W) {x : Int} (hx : 0 ≤ x ∧ x < 4) (hn : done 6 = false) (hd : DeckAt w0 d A l c (m + n1 (done 6) + 1) W') (hg : W.grownBy W' (some d)) (hz : 243 < a.tmps.size) : Dr1 w0 d A l c m W0 (Go.upd done 6) (a.put (some 243) (.int .i64 x)) W' :=
  ⟨by rw [upd_same', n1_t]; rw [hn, n1_f] at hd; exact hd.more (by omega), h.grown.trans hg, fun _ => ⟨x, Act.eval_put_same _ _ _ hz, hx⟩⟩
end
end Go.Proofs
end

section
/- Plain: what SheetBetween asks of a set that was made. -/
namespace Go.Proofs
open Go.RowKit
attribute [local go_sem] Oper.semAt_some

/-- Fold, where what it answers is known. -/
theorem fold_at (v : Int) (n u : Nat) (w : World) (h1 : 1 ≤ n) (h2 : n ≤ 1000000) (hu : (v.tmod n + n).tmod n = (u : Nat)) : Calls Try.prog 9 #[.int .i64 v, .int .i64 (n : Nat)] w fun e w' => e = .returned (.int .i64 (u : Nat)) ∧ w = w' := by
  have t1 : decide (n ≤ 0) = false := by simp; omega
  have t1b : decide ((n : Int) ≤ 0) = false := by simp; omega
  have hb : -(n : Int) < v.tmod n ∧ v.tmod n < n := ⟨Int.lt_tmod_of_pos v (show (0 : Int) < n by omega), Int.tmod_lt_of_pos v (show (0 : Int) < n by omega)⟩
  obtain ⟨x, hx⟩ : ∃ x, v.tmod (n : Int) = x := ⟨_, rfl⟩
  rw [hx] at hb hu
  have e2 : IntKind.i64.wrap (x + (n : Int)) = x + n := IntWalk.i64_in _ (by omega)
  have hn0 : ¬ (n = 0) := by omega
  clear hb h1 h2
  go_enter Try.func9, Try.ntmps9
  go_wp2_with fail
  go_ret
  exact ⟨rfl, rfl⟩
theorem fold_ex (v : Int) (n : Nat) (h1 : 1 ≤ n) : ∃ u : Nat, (v.tmod n + n).tmod n = (u : Nat) ∧ u < n := by
  have hb : -(n : Int) < v.tmod n := Int.lt_tmod_of_pos v (show (0 : Int) < n by omega)
  rw [Int.tmod_eq_emod_of_nonneg (by omega)]
  have hy := Int.emod_lt_of_pos (v.tmod n + (n : Int)) (show (0 : Int) < n by omega)
  have hy0 := Int.emod_nonneg (v.tmod n + (n : Int)) (show (n : Int) ≠ 0 by omega)
  obtain ⟨r, hr⟩ := Int.eq_ofNat_of_zero_le hy0
  exact ⟨r, hr, by rw [hr] at hy; omega⟩
end Go.Proofs
end
