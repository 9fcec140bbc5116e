/- Own texts, merged: PSw CtL8. -/
import Derived.Test.YtbchfakfdikkjaaGreatP05
import Derived.Test.YtbchfakfdikkjaaGreatP17
import Derived.BigGuard
set_option linter.unusedSimpArgs false
set_option linter.unusedVariables false
set_option linter.unnecessarySimpa false
section
namespace Court
section
variable {S : List (Int × Int)} {sure : Int → Bool} {f : Int → Nat} {N : Nat}
theorem hear_done (hd : Done S sure N f) {n : Int} (hn : 0 ≤ n ∧ n < N) : hear S sure f n = f := by
  funext k
  unfold hear setF heard1
  by_cases e : k = n
  · subst e
    rw [if_pos rfl]
    by_cases h0 : f k = 0
    · rw [if_pos h0, hd k hn.1 hn.2 h0, h0]
    · rw [if_neg h0]
  · rw [if_neg e]
theorem hears_done (hd : Done S sure N f) : ∀ (o : List Int), (∀ n ∈ o, 0 ≤ n ∧ n < N) → hears S sure f o = f
  | [], _ => rfl
  | n :: r, ho => by
    show hears S sure (hear S sure f n) r = f
    rw [hear_done hd (ho n List.mem_cons_self)]
    exact hears_done hd r fun k hk => ho k (List.mem_cons_of_mem _ hk)
theorem done_of_same {o : List Int} (hc : ∀ n : Int, 0 ≤ n → n < N → n ∈ o) (h : hears S sure f o = f) : Done S sure N f := fun n h1 h2 h0 => hears_same o f h n (hc n h1 h2) h0
theorem sweep_less {o : List Int} (ho : ∀ n ∈ o, 0 ≤ n ∧ n < N) (h : hears S sure f o ≠ f) : openN N (hears S sure f o) < openN N f := by
  have hh : Has f (hears S sure f o) := has_hears _ _
  have : ∃ n : Int, hears S sure f o n ≠ f n := Classical.byContradiction fun hn => h (funext fun n => Classical.byContradiction fun e => hn ⟨n, e⟩)
  obtain ⟨n, hn⟩ := this
  have h0 : f n = 0 := Classical.byContradiction fun e => hn (hh n e)
  have hr : 0 ≤ n ∧ n < N := Classical.byContradiction fun e => hn (hears_out _ _ _ fun h' => e (ho n h'))
  exact open_less hh hr h0 (by rw [h0] at hn; exact hn)
def Whole (N : Nat) (o : List Int) : Prop := (∀ n ∈ o, 0 ≤ n ∧ n < N) ∧ ∀ n : Int, 0 ≤ n → n < N → n ∈ o
theorem sweeps_done : ∀ (Os : List (List Int)) (f : Int → Nat), (∀ o ∈ Os, Whole N o) → openN N f ≤ Os.length → Done S sure N (hears S sure f Os.flatten)
  | [], f, _, h => by
    refine done_of_round (f := f) ?_
    exact Classical.byContradiction fun e => by have := round_less e; simp at h; omega
  | o :: r, f, hO, h => by
    rw [List.flatten_cons, hears_append]
    obtain ⟨h1, h2⟩ := hO o List.mem_cons_self
    have hr : ∀ o ∈ r, Whole N o := fun o ho => hO o (List.mem_cons_of_mem _ ho)
    by_cases e : hears S sure f o = f
    · have hd := done_of_same h2 e
      rw [e, hears_done hd _ fun n hn => by
        obtain ⟨o', h3, h4⟩ := List.mem_flatten.1 hn
        exact (hr o' h3).1 n h4]
      exact hd
    · exact sweeps_done r _ hr (by have := sweep_less h1 e; simp at h; omega)
theorem sweeps_award {f0 : Int → Nat} (h0 : Three f0) {Os : List (List Int)} (hO : ∀ o ∈ Os, Whole N o) (hl : N ≤ Os.length) : hears S sure f0 Os.flatten = award S sure N f0 :=
  award_eq h0 ⟨Os.flatten, fun n hn => by
    obtain ⟨o, h3, h4⟩ := List.mem_flatten.1 hn
    exact (hO o h3).1 n h4, rfl⟩ (sweeps_done Os f0 hO (Nat.le_trans (open_le N f0) hl))
theorem hears_award {f0 : Int → Nat} (h0 : Three f0) {o : List Int} (ho : ∀ n ∈ o, 0 ≤ n ∧ n < N) : Has (hears S sure f0 o) (award S sure N f0) :=
  Reach.le ⟨o, ho, rfl⟩ h0 (award_done S sure N f0) ((award_reach S sure N f0).sound h0) (award_reach S sure N f0).has
end
end Court
end

section
namespace Go.Proofs
open Go.RowKit
open Court (refL begF noS struckB nextR hears award Done HeldP Whole)

set_option maxRecDepth 100000 in
set_option maxHeartbeats 16000000 in
theorem awarded_any (w : World) (A : Option Addr) (l : List Int) (c : Nat) (Am : Option Addr) (tr : List Int) (cm : Nat) (hA : Bytes w A l) (hB : Bytes w Am tr) : Calls Tryz.prog 8 #[.slice A l.length c, .slice Am tr.length cm] w fun e w' => e = .returned (.bool true) ∧ Aft w w' := by
  have HA := Lib.hid hA
  have HB := Lib.hid hB
  clear hA hB
  go_enter Tryz.func8, Tryz.ntmps8
  (repeat (first | go_big_skip | go_big_want | go_big_move | go_big_op | go_step | go_upon | go_back))
  go_at_call 37
  refine (of_any A l c w HA.out).mono ?_
  rintro e x ⟨rfl, hdk⟩
  dsimp only
  have HDK := Lib.hid hdk
  clear hdk
  (repeat (first | go_big_skip | go_big_want | go_big_move | go_big_op | go_step | go_upon | go_back))
  go_at_call 37
  refine (of_any Am tr cm x (HB.out.aft HDK.out.2.2.1)).mono ?_
  rintro e x2 ⟨rfl, hdk⟩
  dsimp only
  have HD2 := Lib.hid (hdk.base HB.out (HDK.out.2.2.1.trans hdk.2.2.1) HDK.out.2.2.1.size)
  have HD1 := Lib.hid (HDK.out.aft hdk.2.2.1)
  have hdd : w.heap.size < x.heap.size := HDK.out.lt
  have hb2 : x.heap.size < x2.heap.size := hdk.lt
  clear hdk HDK
  (repeat (first | go_big_skip | go_big_want | go_big_move | go_big_op | go_step | go_upon | go_back))
  go_at_call 36
  refine (made_any w w.heap.size A l c 0 14 x2 HD1.out (by omega) (by omega) (by omega)).mono ?_
  rintro e y ⟨N, L, T, a1, a2, c1, c2, rfl, hN1, hN14, hdr, hT3, hrep, hd1, hg1⟩
  dsimp only
  have HD2 := Lib.hid (HD2.out.other hg1 (by omega) (Nat.le_refl _))
  have HD1 := Lib.hid hd1
  have HDR := Lib.hid hdr
  have HRP := Lib.hid hrep
  have hsz := hg1.size
  clear hd1 hdr hrep hg1
  obtain ⟨dn, hdn⟩ : ∃ dn, w.heap.size = dn := ⟨_, rfl⟩
  obtain ⟨dt, hdt⟩ : ∃ dt, x.heap.size = dt := ⟨_, rfl⟩
  obtain ⟨b, hb⟩ : ∃ b, x2.heap.size = b := ⟨_, rfl⟩
  rw [hdn] at HD1
  rw [hdt] at HD2
  rw [hb] at HRP
  rw [hdn, hdt] at hdd
  rw [hdt, hb] at hb2
  rw [hb] at hsz
  rw [hdn, hdt]
  clear hdt hb HB HA
  have HDN := Lib.hid hdn
  clear hdn
  go_upto_region 3 with (refine wpList_store_new rfl 25 (.tmp 7) (.tmp 31) rfl rfl rfl info25b rfl (all_oneCell_toArray (by intro v hv; simp at hv; rcases hv with rfl | rfl | rfl <;> rfl)) ?_)
  simp only [Act.put]
  have HY := Lib.hid (Aft.alloc y (.cells #[.int .i64 N, .slice a1 L.length c1, .slice a2 T.length c2] 25))
  have HBX : Hid (∀ X, Sm b (y.alloc (.cells #[.int .i64 N, .slice a1 L.length c1, .slice a2 T.length c2] 25)) X → Blk X y.heap.size 25 #[.int .i64 N, .slice a1 L.length c1, .slice a2 T.length c2]) := Lib.hid fun X hX => blk_sm (Blk.new y 25 _) hX hsz
  have HRP := Lib.hid (HRP.out.sm (Sm.of_aft HY.out))
  have HD1 := Lib.hid (HD1.out.aft HY.out)
  have HD2 := Lib.hid (HD2.out.aft HY.out)
  have hsy : b ≤ (y.alloc (.cells #[.int .i64 N, .slice a1 L.length c1, .slice a2 T.length c2] 25)).heap.size := Nat.le_trans hsz HY.out.size
  obtain ⟨b7, hb7⟩ : ∃ b7, y.heap.size = b7 := ⟨_, rfl⟩
  rw [hb7] at HBX ⊢
  clear HY hb7 hsz
  generalize y.alloc (.cells #[.int .i64 N, .slice a1 L.length c1, .slice a2 T.length c2] 25) = Y at *
  have hcase : caseE ⟨N, L, T⟩ = 0 := HDR.out.ok ⟨hN1, hN14⟩ (by omega)
  have HCASE := Lib.hid hcase
  have HINS := Lib.hid (show ∀ s ∈ L, 0 ≤ s.1 ∧ s.1 < N from fun s hs => (HDR.out.ins s hs).1)
  clear hcase HDR
  have hbox := HBX.out Y (Sm.refl _ _)
  have k0 : Y.cell? ⟨b7, 0, none⟩ = some (.int .i64 N) := hbox.cell 0
  have k3 := hbox.lt
  have HSO := Lib.hid (some_any w dn A l c (0 + 200) N 5 Y HD1.out (by omega) (by omega) (by omega) (by omega))
  clear hbox
  go_upto_region 4 with (go_at_call 41; refine HSO.out.mono ?_; rintro e y3 ⟨v, R, rfl, ho, hR1, hR2, hR3, -, hg⟩; obtain ⟨AR, cR, rfl, hri⟩ := IntsS.of_own (b := b) ho (by omega) hsy; have HR := Lib.hid hri; have HRI := Lib.hid hR2; have HRR := Lib.hid hR3; have HSM := Lib.hid (sm_deal hg (show dn < b by omega)); have HD2 := Lib.hid (HD2.out.other hg (by omega) (by have := HDN.out; omega)); clear ho hR2 hR3 hg hri)
  have hopen : openE ⟨N, L, T⟩ R = 0 := openE_zero HCASE.out HRI.out HRR.out
  have href := refL_in HRI.out
  have HREF := Lib.hid href
  have HOP := Lib.hid hopen
  have hS3 := Nat.le_trans hsy HSM.out.size
  have HRP := Lib.hid (HRP.out.sm HSM.out)
  have HBX := Lib.hid (fun X hX => HBX.out X (HSM.out.trans hX))
  clear hopen href HCASE HRR k0 k3 HSO HD1 hsy HRI HSM
  obtain ⟨aw, haw⟩ : ∃ aw, foundL (award L noS N (begF (refL R))) N = aw := ⟨_, rfl⟩
  have HAWE := Lib.hid haw
  have hawl : aw.length = N := by rw [← haw, foundL_len]
  have HAWL := Lib.hid hawl
  have HAW2 : Hid (∀ x ∈ aw, 0 ≤ x ∧ x ≤ 2) := Lib.hid (by rw [← haw]; exact foundL_mem (b := 2) award_three)
  clear haw hawl
  have H39 : Hid (∀ X, Sm b y3 X → Calls Tryz.prog 39 #[.agg #[.int .i64 N, .slice a1 L.length c1, .slice a2 T.length c2], .slice AR R.length cR] X (GoodL aw X)) := Lib.hid fun X hX => by
    have := award_good ⟨N, L, T⟩ a1 a2 c1 c2 R AR cR X (HRP.out X hX) (HR.out X hX) HOP.out N rfl
    rw [← HAWE.out]
    exact this
  have H42 : Hid (∀ X, Sm b y3 X → Calls Tryz.prog 42 #[.agg #[.int .i64 N, .slice a1 L.length c1, .slice a2 T.length c2], .slice AR R.length cR] X (GoodR L noS N (begF (refL R)) X)) := Lib.hid fun X hX => ranks_good ⟨N, L, T⟩ a1 a2 c1 c2 R AR cR X (HRP.out X hX) (HR.out X hX) HOP.out N rfl
  obtain ⟨hb, hhb⟩ : ∃ hb : List Int → List Int → Bool, hb = fun F K => (List.range N).all fun n => heldB L noS (refL R) (overF F (begF (refL R))) (overF K fun _ => 0) (n : Nat) := ⟨_, rfl⟩
  have HHB := Lib.hid hhb
  have H43 : Hid (∀ X AF cF (F : List Int) AK cK (K : List Int), Sm b y3 X → Ints X AF F → Ints X AK K → F.length = N → K.length = N → (∀ x ∈ F, 0 ≤ x ∧ x ≤ 2) → (∀ x ∈ K, 0 ≤ x ∧ x ≤ 14) → Calls Tryz.prog 43 #[.agg #[.int .i64 N, .slice a1 L.length c1, .slice a2 T.length c2], .slice AR R.length cR, .slice AF N cF, .slice AK N cK] X (HoldsR (hb F K) 0 X)) := Lib.hid fun X AF cF F AK cK K hX hF hK h1 h2 h3 h4 => by
    have := holds_good ⟨N, L, T⟩ a1 a2 c1 c2 R F K AR AF AK cR cF cK X (HRP.out X hX) (HR.out X hX) hF hK (holdsE_zero HOP.out (by rw [h1]) (by rw [h2]) h3 h4) N rfl
    rw [h1, h2] at this
    rw [HHB.out]
    exact this
  have H35 : Hid (∀ X AO cO (O : List Int), Sm b y3 X → Ints X AO O → O.length ≤ 400 → (∀ x ∈ O, 0 ≤ x ∧ x < N) → Calls Tryz.prog 35 #[.agg #[.int .i64 N, .slice a1 L.length c1, .slice a2 T.length c2], .slice AR R.length cR, .slice AO O.length cO] X (GoodL (foundL (hears L noS (begF (refL R)) O) N) X)) := Lib.hid fun X AO cO O hX hO h1 h2 => heard_good ⟨N, L, T⟩ a1 a2 c1 c2 R O AR AO cR cO X (HRP.out X hX) (HR.out X hX) hO (heardE_zero HOP.out h1 h2) N rfl
  have H17 : Hid (∀ X A1 k1 (l1 : List Int) A2 k2 (l2 : List Int), Ints X A1 l1 → Ints X A2 l2 → l1.length = N → l2.length = N → Calls Tryz.prog 17 #[.slice A1 N k1, .slice A2 N k2] X fun e w' => e = .returned (.bool (eqB l1 l2)) ∧ Aft X w') := Lib.hid fun X A1 k1 l1 A2 k2 l2 h1 h2 h3 h4 => by
    have := kitEqual_int A1 A2 l1 l2 k1 k2 X h1 h2
    rw [h3, h4] at this
    exact this
  have H24 : Hid (∀ X A1 k1 (l1 : List Int), Ints X A1 l1 → l1.length = N → Calls Tryz.prog 24 #[.slice A1 N k1] X (OwnInts X l1)) := Lib.hid fun X A1 k1 l1 h1 h3 => by
    have := kitClone_int A1 l1 k1 X h1
    rw [h3] at this
    exact this
  clear hhb
  obtain ⟨k0, k1, k2⟩ := box25 (HBX.out y3 (Sm.refl _ _))
  have k3 := (HBX.out y3 (Sm.refl _ _)).lt
  go_upto_region 5 with (go_at_call 39; refine (H39.out _ (Sm.refl _ _)).mono ?_; rintro e x4 ⟨v, rfl, ho, ha⟩; obtain ⟨A9, c9, rfl, hi⟩ := IntsS.of_own (b := b) ho (by have := HAWL.out; omega) hS3; have HAW := Lib.hid hi; have HSM := Lib.hid (Sm.of_aft (b := b) ha); have HD2 := Lib.hid (HD2.out.aft ha); rw [HAWL.out]; clear ho hi ha k0 k1 k2 k3)
  have hS4 := Nat.le_trans hS3 HSM.out.size
  obtain ⟨k0, k1, k2⟩ := box25 (HBX.out x4 HSM.out)
  have k3 := (HBX.out x4 HSM.out).lt
  go_upto_region 6 with (go_at_call 42; refine (H42.out _ HSM.out).mono ?_; rintro e x5 ⟨r, hhs, v, rfl, ho, ha⟩; obtain ⟨A11, c11, rfl, hi⟩ := IntsS.of_own (b := b) ho (by rw [foundL_len]; omega) hS4; have HRK := Lib.hid hi; have HHS := Lib.hid hhs; have HAW := Lib.hid (HAW.out.sm (Sm.of_aft ha)); have HSM := Lib.hid (HSM.out.trans (Sm.of_aft (b := b) ha)); have HD2 := Lib.hid (HD2.out.aft ha); rw [foundL_len]; clear ho hi ha k0 k1 k2 k3 hhs)
  have hS5 := Nat.le_trans hS3 HSM.out.size
  obtain ⟨rk, hrk⟩ : ∃ rk, foundL r N = rk := ⟨_, rfl⟩
  rw [hrk] at HRK
  have HRKE := Lib.hid hrk
  have HRKL : Hid (rk.length = N) := Lib.hid (by rw [← hrk, foundL_len])
  have HRK2 : Hid (∀ x ∈ rk, 0 ≤ x ∧ x ≤ 14) := Lib.hid fun x hx => by
    have := foundL_mem (N := N) (fun n => HHS.out.rank (Court.begF_three _) n) x (by rw [hrk]; exact hx)
    omega
  have HBT : Hid (hb aw rk = true) := Lib.hid (by
    rw [HHB.out, ← HAWE.out, ← hrk]
    exact all_held HREF.out HHS.out)
  have HBO : Hid (∀ F K : List Int, F.length = N → (∀ x ∈ F, 0 ≤ x ∧ x ≤ 2) → hb F K = true → F = aw) := Lib.hid fun F K h1 h2 h3 => by
    rw [HHB.out] at h3
    rw [← HAWE.out]
    exact held_only h1 h2 HINS.out HREF.out h3
  clear hrk HHS H39 H42
  obtain ⟨k0, k1, k2⟩ := box25 (HBX.out x5 HSM.out)
  have k3 := (HBX.out x5 HSM.out).lt
  have HC43 := Lib.hid (H43.out x5 A9 c9 aw A11 c11 rk HSM.out (HAW.out _ (Sm.refl _ _)) (HRK.out _ (Sm.refl _ _)) HAWL.out HRKL.out HAW2.out HRK2.out)
  rw [HBT.out] at HC43
  go_upto_region 7 with (go_at_call 43; refine HC43.out.mono ?_; rintro e x6 ⟨rfl, ha⟩; have HRK := Lib.hid (HRK.out.sm (Sm.of_aft ha)); have HAW := Lib.hid (HAW.out.sm (Sm.of_aft ha)); have HSM := Lib.hid (HSM.out.trans (Sm.of_aft (b := b) ha)); have HD2 := Lib.hid (HD2.out.aft ha); clear ha k0 k1 k2 k3)
  have hS6 := Nat.le_trans hS3 HSM.out.size
  have HRP := Lib.hid (HRP.out.sm HSM.out)
  have HBX := Lib.hid (fun X hX => HBX.out X (HSM.out.trans hX))
  have H43 := Lib.hid (fun X AF cF (F : List Int) AK cK (K : List Int) hX => H43.out X AF cF F AK cK K (HSM.out.trans hX))
  have H35 := Lib.hid (fun X AO cO (O : List Int) hX => H35.out X AO cO O (HSM.out.trans hX))
  clear HC43 HSM HR hS3 hS4 hS5
  obtain ⟨k0, k1, k2⟩ := box25 (HBX.out x6 (Sm.refl _ _))
  have k3 := (HBX.out x6 (Sm.refl _ _)).lt
  go_upto_block 0 with fail
  clear k0 k1 k2 k3
  refine wp_block ?_
  go_loopw [84] (fun i wr => ∃ k : Nat, i = .int .i64 k ∧ k ≤ 3 ∧ Sm b x6 wr ∧ DeckAt w dt Am tr cm (1000 * k) wr) (fun i _ => 3 - (intOf i).toNat)
  case atStart => exact ⟨0, rfl, by omega, Sm.refl _ _, HD2.out⟩
  case round =>
    obtain ⟨k, rfl, hk, hsm, hdk⟩ := hrel
    have HSM := Lib.hid hsm
    have HDK := Lib.hid hdk
    clear hsm hdk HD2
    by_cases hk3 : k < 3
    · have t1 : decide ((k : Int) < 3) = true := by simp; omega
      have HDR := Lib.hid (draw_any w dt Am tr cm (1000 * k) 25 wr HDK.out (by omega) (by omega) (by omega))
      go_upto_block 2 with (go_at_call 44; refine HDR.out.mono ?_; rintro e w1 ⟨x, rfl, hk0, hk1, hd4, hg4⟩; obtain ⟨K, rfl⟩ := Int.eq_ofNat_of_zero_le hk0; have HDK := Lib.hid hd4; have HSM := Lib.hid (HSM.out.trans (sm_deal hg4 hb2)); clear hd4 hg4)
      have hK : K ≤ 24 := by omega
      clear hk0 hk1 HDR
      have HN0 := Lib.hid (World.ownsRow_nil w1 w1.heap.size 3 1)
      have hb1 : b ≤ w1.heap.size := Nat.le_trans hS6 HSM.out.size
      refine wp_block ?_
      go_loopw [15, 88] (fun v i wr2 => ∃ (j : Nat) (O : List Int), i = .int .i64 j ∧ j ≤ K ∧ O.length = j ∧ (∀ x ∈ O, 0 ≤ x ∧ x < N) ∧ wr2.ownsRow w1.heap.size 3 1 v O.length (O.map (Value.int .i64)) ∧ Sm b w1 wr2 ∧ DeckAt w dt Am tr cm (1000 * k + 1 + j) wr2) (fun _ i _ => K - (intOf i).toNat)
      case atStart => exact ⟨0, [], rfl, by omega, rfl, by simp, HN0.out, Sm.refl _ _, HDK.out⟩
      case round =>
        obtain ⟨j, O, rfl, hj, hOl, hO, hown, hsm, hdk⟩ := hrel
        have HO := Lib.hid hO
        have HOW := Lib.hid hown
        have HSJ := Lib.hid hsm
        have HDJ := Lib.hid hdk
        clear hO hown hsm hdk
        by_cases hjK : j < K
        · have t2 : decide (j < K) = true := by simpa using hjK
          obtain ⟨k0, k1, k2⟩ := box25 (HBX.out wr (HSM.out.trans HSJ.out))
          have k3 := (HBX.out wr (HSM.out.trans HSJ.out)).lt
          have HDR := Lib.hid (draw_any w dt Am tr cm (1000 * k + 1 + j) N wr HDJ.out (by omega) (by omega) (by omega))
          go_wp2_with (first | (go_at_call 44; refine HDR.out.mono ?_; rintro e w2 ⟨x, rfl, hx0, hx1, hd4, hg4⟩; have HX0 := Lib.hid hx0; have HX1 := Lib.hid hx1; have HD4 := Lib.hid (hd4.aft (Aft.alloc w2 (.cells #[.int .i64 x] 3))); have HS4 := Lib.hid (HSJ.out.trans (sm_deal hg4 hb2)); have HO4 := Lib.hid (own_aft (own_sm HOW.out (sm_deal hg4 hb2) hb1) (Aft.alloc w2 (.cells #[.int .i64 x] 3))); clear hx0 hx1 hd4 hg4 k0 k1 k2 k3) | (at_builtin; refine wpList_push rfl _ _ rfl HO4.out (Nat.le_trans HS4.out.size (Aft.alloc _ _).size) rfl rfl (cell_new1 _ _ _) (by omega) ?_; intro v5 w5 ho5 hg5; have HO5 := Lib.hid ho5; have HG5 := Lib.hid hg5; clear ho5 hg5))
          have hxx : 0 ≤ x ∧ x < N := by have := HX0.out; have := HX1.out; omega
          have hge := own_ge HO4.out
          refine ⟨⟨j + 1, O ++ [x], by go_num, by omega, by simp; omega, fun z hz => (List.mem_append.1 hz).elim (HO.out z) fun e => by rw [List.mem_singleton] at e; subst e; exact hxx, HO5.out, (HS4.out.trans (Sm.of_aft (Aft.alloc _ _))).next HG5.out (fun g hg => .inr (hge g hg)), ?_⟩, by simp [intOf]; omega⟩
          exact HD4.out.grown HG5.out (fun g hg => by have := hge g hg; omega)
        · have t2 : decide (j < K) = false := by simpa using hjK
          have HOL := Lib.hid hOl
          obtain ⟨AO, cO, rfl, hoi⟩ := IntsS.of_own (b := b) HOW.out (by omega) hb1
          have HX := Lib.hid (HSM.out.trans HSJ.out)
          have hc := H35.out wr AO cO O HX.out (hoi _ (Sm.refl _ _)) (by omega) HO.out
          have hhas := Court.hears_award (S := L) (sure := noS) (N := N) (Court.begF_three (refL R)) HO.out
          obtain ⟨sm, hsm⟩ : ∃ sm, foundL (hears L noS (begF (refL R)) O) N = sm := ⟨_, rfl⟩
          rw [hsm] at hc
          have HC := Lib.hid hc
          have hsml : sm.length = N := by rw [← hsm, foundL_len]
          have HSE : Hid (∀ i, (h : i < N) → (h1 : i < sm.length) → (h2 : i < aw.length) → sm[i] = 0 ∨ sm[i] = aw[i]) := Lib.hid fun i h h1 h2 => by
            have e1 : sm[i] = ((hears L noS (begF (refL R)) O i : Nat) : Int) := by
              have : (foundL (hears L noS (begF (refL R)) O) N)[i]'(by rw [foundL_len]; exact h) = ((hears L noS (begF (refL R)) O i : Nat) : Int) := foundL_get _ _ _
              simpa only [hsm] using this
            have e2 : aw[i] = ((award L noS N (begF (refL R)) i : Nat) : Int) := by
              have : (foundL (award L noS N (begF (refL R))) N)[i]'(by rw [foundL_len]; exact h) = ((award L noS N (begF (refL R)) i : Nat) : Int) := foundL_get _ _ _
              simpa only [HAWE.out] using this
            rw [e1, e2]
            by_cases e : hears L noS (begF (refL R)) O i = 0
            · left; rw [e]; rfl
            · right; rw [hhas _ e]
          have HSL := Lib.hid hsml
          have hbx := HBX.out wr HX.out
          obtain ⟨k0, k1, k2⟩ := box25 hbx
          have k3 := hbx.lt
          have hSx := Nat.le_trans hS6 HX.out.size
          clear hOl hsm hc hhas hsml hbx hoi HO HOW
          go_upto_region 17 with (go_at_call 35; refine HC.out.mono ?_; rintro e x7 ⟨v, rfl, ho, ha⟩; obtain ⟨A16, c16, rfl, hi⟩ := IntsS.of_own (b := b) ho (by have := HSL.out; omega) hSx; have HI16 := Lib.hid (hi _ (Sm.refl _ _)); have HSM := Lib.hid (HX.out.trans (Sm.of_aft (b := b) ha)); have HDK := Lib.hid (HDJ.out.aft ha); rw [HSL.out]; clear ho hi ha k0 k1 k2 k3)
          obtain ⟨k0, k1, k2⟩ := box25 (HBX.out x7 HSM.out)
          have k3 := (HBX.out x7 HSM.out).lt
          go_upto_block 4 with fail
          clear k0 k1 k2 k3
          have HI9 := Lib.hid (HAW.out x7 HSM.out)
          obtain ⟨b16, o16, rfl, hb16, hx16⟩ := HI16.out.at (show 0 < sm.length by rw [HSL.out]; omega)
          obtain ⟨b9, o9, rfl, hb9, hx9⟩ := HI9.out.at (show 0 < aw.length by rw [HAWL.out]; omega)
          have HX16 := Lib.hid hx16
          have HX9 := Lib.hid hx9
          clear hx16 hx9 HC HX HSJ HDJ
          refine wp_block ?_
          go_loopw [116] (fun i wr => ∃ q : Nat, i = .int .i64 q ∧ q ≤ N ∧ wr = x7) (fun i _ => N - (intOf i).toNat)
          case atStart => exact ⟨0, rfl, by omega, rfl⟩
          case round =>
            obtain ⟨q, rfl, hq, rfl⟩ := hrel
            by_cases hqN : q < N
            · have t3 : decide (q < N) = true := by simpa using hqN
              have iq : (0 : Int) ≤ (q : Int) ∧ (q : Int) < (N : Int) := by omega
              have z1 := HX16.out q (by rw [HSL.out]; exact hqN)
              have z2 := HX9.out q (by rw [HAWL.out]; exact hqN)
              have hor := HSE.out q hqN (by rw [HSL.out]; exact hqN) (by rw [HAWL.out]; exact hqN)
              generalize sm[q]'(by rw [HSL.out]; exact hqN) = y1 at *
              generalize aw[q]'(by rw [HAWL.out]; exact hqN) = y2 at *
              by_cases h0 : y1 = 0
              · subst h0
                clear hor
                go_wp2_with fail
                exact ⟨⟨q + 1, by go_num, by omega, by first | rfl | trivial⟩, by simp [intOf]; omega⟩
              · have hyy : y1 = y2 := hor.elim (fun h => absurd h h0) id
                subst hyy
                have t4 : (y1 != 0) = true := by simpa using h0
                clear hor h0
                go_wp2_with fail
                exact ⟨⟨q + 1, by go_num, by omega, by first | rfl | trivial⟩, by simp [intOf]; omega⟩
            · have t3 : decide (q < N) = false := by simpa using hqN
              obtain ⟨W8, rfl⟩ : ∃ W8, W8 = wr := ⟨_, rfl⟩
              clear hqN HX16 HX9 HSE
              have HD8 := Lib.hid (HDK.out.more (show 1000 * k + 1 + j ≤ 1000 * k + 25 by omega))
              obtain ⟨k0, k1, k2⟩ := box25 (HBX.out W8 HSM.out)
              have k3 := (HBX.out W8 HSM.out).lt
              go_upto_block 6 with fail
              clear k0 k1 k2 k3 HDK HOL
              have HN1 := Lib.hid (World.ownsRow_nil W8 W8.heap.size 3 1)
              have hb8 : b ≤ W8.heap.size := Nat.le_trans hS6 HSM.out.size
              refine wp_block ?_
              go_loopw [15, 134] (fun v i wr2 => ∃ (j : Nat) (Os : List (List Int)) (O : List Int), i = .int .i64 j ∧ j ≤ N ∧ Hid (O = Os.flatten ∧ Os.length = j ∧ ∀ o ∈ Os, Whole N o) ∧ O.length ≤ 14 * j ∧ wr2.ownsRow W8.heap.size 3 1 v O.length (O.map (Value.int .i64)) ∧ Sm b W8 wr2 ∧ DeckAt w dt Am tr cm (1000 * k + 25 + 14 * j) wr2) (fun _ i _ => N - (intOf i).toNat)
              case atStart => exact ⟨0, [], [], rfl, by omega, Lib.hid ⟨rfl, rfl, by simp⟩, by simp, HN1.out, Sm.refl _ _, HD8.out⟩
              case round =>
                obtain ⟨j2, Os, O2, rfl, hj2, HOS, hO2l, hown, hsm, hdk⟩ := hrel
                have HOW := Lib.hid hown
                have HSJ := Lib.hid hsm
                have HDJ := Lib.hid hdk
                clear hown hsm hdk
                by_cases hjN : j2 < N
                · have t5 : decide (j2 < N) = true := by simpa using hjN
                  obtain ⟨k0, k1, k2⟩ := box25 (HBX.out wr (HSM.out.trans HSJ.out))
                  have k3 := (HBX.out wr (HSM.out.trans HSJ.out)).lt
                  have HSH := Lib.hid (shuffle_any w dt Am tr cm (1000 * k + 25 + 14 * j2) N wr HDJ.out (by omega) (by omega))
                  go_wp2_with (first | (go_at_call 40; refine HSH.out.mono ?_; rintro e w2 ⟨v, P, rfl, ho, hpm, hd4, hg4⟩; have hpl : P.length = N := by { have := hpm.length_eq; rw [allN_len] at this; exact this }; have HPL := Lib.hid hpl; rw [← hpl] at ho; obtain ⟨AP, cP, rfl, _, hpi⟩ := own_ints ho (by omega); have HPI := Lib.hid hpi; have HPM := Lib.hid hpm; have HD4 := Lib.hid hd4; have HS4 := Lib.hid (HSJ.out.trans (sm_deal hg4 hb2)); have HO4 := Lib.hid (own_sm HOW.out (sm_deal hg4 hb2) hb8); clear hpm hpi ho hpl hd4 hg4 k0 k1 k2 k3) | (at_builtin; refine wpList_pushL rfl _ _ rfl HO4.out HS4.out.size rfl rfl HPI.out (by have := HPL.out; omega) ?_; intro v5 w5 ho5 hg5; have HO5 := Lib.hid ho5; have HG5 := Lib.hid hg5; clear ho5 hg5))
                  have hge := own_ge HO4.out
                  have hww : Whole N P := ⟨fun n hn => Court.mem_allN.1 (HPM.out.subset hn), fun n h1 h2 => HPM.out.symm.subset (Court.mem_allN.2 ⟨h1, h2⟩)⟩
                  refine ⟨⟨j2 + 1, Os ++ [P], O2 ++ P, by go_num, by omega, Lib.hid ⟨by rw [HOS.out.1]; simp, by simp [HOS.out.2.1], fun o ho => (List.mem_append.1 ho).elim (HOS.out.2.2 o) fun e => by rw [List.mem_singleton] at e; subst e; exact hww⟩, by have := HPL.out; simp; omega, HO5.out, HS4.out.next HG5.out (fun g hg => .inr (hge g hg)), ?_⟩, by simp [intOf]; omega⟩
                  exact (HD4.out.grown HG5.out (fun g hg => by have := hge g hg; omega)).more (by omega)
                · have t5 : decide (j2 < N) = false := by simpa using hjN
                  obtain rfl : N = j2 := by omega
                  have hO2N : O2.length ≤ 196 := by omega
                  have hin2 : ∀ x ∈ O2, 0 ≤ x ∧ x < N := fun x hx => by
                    rw [HOS.out.1] at hx
                    obtain ⟨o, h1, h2⟩ := List.mem_flatten.1 hx
                    exact (HOS.out.2.2 o h1).1 x h2
                  have hend : hears L noS (begF (refL R)) O2 = award L noS N (begF (refL R)) := by
                    rw [HOS.out.1]
                    exact Court.sweeps_award (Court.begF_three _) HOS.out.2.2 (by rw [HOS.out.2.1]; exact Nat.le_refl _)
                  obtain ⟨AO2, cO2, rfl, hoi⟩ := IntsS.of_own (b := b) HOW.out (by omega) hb8
                  have HX := Lib.hid (HSM.out.trans HSJ.out)
                  have hc := H35.out wr AO2 cO2 O2 HX.out (hoi _ (Sm.refl _ _)) (by omega) hin2
                  rw [hend, HAWE.out] at hc
                  have HC := Lib.hid hc
                  obtain ⟨k0, k1, k2⟩ := box25 (HBX.out wr HX.out)
                  have k3 := (HBX.out wr HX.out).lt
                  have hS9 := Nat.le_trans hS6 HX.out.size
                  clear hjN hO2l hin2 hend hoi hc HOS HOW HSJ
                  go_upto_region 31 with (go_at_call 35; refine HC.out.mono ?_; rintro e x9 ⟨v, rfl, ho, ha⟩; obtain ⟨A20, c20, rfl, hi⟩ := IntsS.of_own (b := b) ho (by have := HAWL.out; omega) hS9; have HI20 := Lib.hid (hi _ (Sm.refl _ _)); have HSX := Lib.hid (HX.out.trans (Sm.of_aft (b := b) ha)); have HDX := Lib.hid (HDJ.out.aft ha); rw [HAWL.out]; clear ho hi ha k0 k1 k2 k3)
                  have hc := H17.out x9 A20 c20 aw (some ⟨b9, o9, none⟩) c9 aw HI20.out (HAW.out _ HSX.out) HAWL.out HAWL.out
                  rw [show eqB aw aw = true by simp [eqB]] at hc
                  have HC2 := Lib.hid hc
                  clear hc HC HDJ HX HI20 HD8 HSM
                  apply wp_region_lit
                  (repeat (first | go_big_skip | go_big_want | go_big_move | go_big_op | go_step | go_upon | go_back))
                  go_at_call 17
                  refine HC2.out.mono ?_
                  rintro e x10 ⟨rfl, ha⟩
                  dsimp only
                  have HSX := Lib.hid (HSX.out.trans (Sm.of_aft (b := b) ha))
                  have HDX := Lib.hid (HDX.out.aft ha)
                  clear ha HC2
                  (repeat (first | go_big_skip | go_big_want | go_big_move | go_big_op | go_step | go_upon | go_back))
                  go_at_call 24
                  refine (H24.out x10 _ _ aw (HAW.out _ HSX.out) HAWL.out).mono ?_
                  rintro e x11 ⟨v, rfl, ho, ha⟩
                  dsimp only
                  rw [HAWL.out] at ho
                  obtain ⟨g21, q21, rfl, hg21, -⟩ := ho.form hN1
                  have HO21 := Lib.hid ho
                  have hx6 : x6.heap.size ≤ x10.heap.size := HSX.out.size
                  have hb10 : b ≤ x10.heap.size := Nat.le_trans hS6 HSX.out.size
                  have HSX := Lib.hid (HSX.out.trans (Sm.of_aft (b := b) ha))
                  have HDX := Lib.hid (HDX.out.aft ha)
                  clear ho ha
                  (repeat (first | go_big_skip | go_big_want | go_big_move | go_big_op | go_step | go_upon | go_back))
                  go_at_call 24
                  refine (H24.out x11 _ _ rk (HRK.out _ HSX.out) HRKL.out).mono ?_
                  rintro e x12 ⟨v, rfl, ho, ha⟩
                  dsimp only
                  rw [HRKL.out] at ho
                  obtain ⟨g22, q22, rfl, hg22, -⟩ := ho.form hN1
                  have HO22 := Lib.hid ho
                  have hlt21 : g21 < g22 := Nat.lt_of_lt_of_le (HO21.out.lt g21 rfl).2 hg22
                  have HO21 := Lib.hid (own_aft HO21.out ha)
                  have hb11 : b ≤ x11.heap.size := Nat.le_trans hS6 HSX.out.size
                  have HSX := Lib.hid (HSX.out.trans (Sm.of_aft (b := b) ha))
                  have HDX := Lib.hid ((HDX.out.aft ha).more (show 1000 * k + 25 + 14 * N ≤ 1000 * k + 300 by omega))
                  clear ho ha
                  obtain ⟨k0, k1, k2⟩ := box25 (HBX.out x12 HSX.out)
                  have k3 := (HBX.out x12 HSX.out).lt
                  (repeat (first | go_big_skip | go_big_want | go_big_move | go_big_op | go_step | go_upon | go_back))
                  go_at_call 44
                  refine (draw_any w dt Am tr cm (1000 * k + 300) N x12 HDX.out (by omega) (by omega) (by omega)).mono ?_
                  rintro e x13 ⟨x, rfl, hx0, hx1, hd4, hg4⟩
                  obtain ⟨n0, rfl⟩ := Int.eq_ofNat_of_zero_le hx0
                  have hn0 : n0 < N := by omega
                  have in0 : (0 : Int) ≤ (n0 : Int) ∧ (n0 : Int) < (N : Int) := by omega
                  dsimp only
                  have HO21 := Lib.hid (own_sm HO21.out (sm_deal hg4 hb2) hb10)
                  have HO22 := Lib.hid (own_sm HO22.out (sm_deal hg4 hb2) hb11)
                  have HSX := Lib.hid (HSX.out.trans (sm_deal hg4 hb2))
                  have HDX := Lib.hid hd4
                  clear hd4 hg4 hx0 hx1 k0 k1 k2 k3
                  (repeat (first | go_big_skip | go_big_want | go_big_move | go_big_op | go_step | go_upon | go_back))
                  go_at_call 44
                  refine (draw_any w dt Am tr cm (1000 * k + 300 + 1) 3 x13 HDX.out (by omega) (by omega) (by omega)).mono ?_
                  rintro e x14 ⟨v0, rfl, hx0, hx1, hd4, hg4⟩
                  have hv0 : 0 ≤ v0 ∧ v0 ≤ 2 := by omega
                  dsimp only
                  have HO21 := Lib.hid (own_sm HO21.out (sm_deal hg4 hb2) hb10)
                  have HO22 := Lib.hid (own_sm HO22.out (sm_deal hg4 hb2) hb11)
                  have HSX := Lib.hid (HSX.out.trans (sm_deal hg4 hb2))
                  have HDX := Lib.hid hd4
                  clear hd4 hg4 hx0 hx1
                  obtain ⟨hst, hgs⟩ := HO21.out.stored n0 (.int .i64 v0)
                  rw [ints_set] at hst
                  have HST := Lib.hid hst
                  have HO22 := Lib.hid (HO22.out.kept hgs (.inr fun e => by have e2 : g22 = g21 := Option.some.inj e; omega))
                  have HS15 := Lib.hid (HSX.out.next hgs (fun g e => by cases e; right; omega))
                  have HD15 := Lib.hid (HDX.out.grown hgs (fun g e => by cases e; omega))
                  have y1 := HO21.out.frozenAt n0
                  have y2 := (HO21.out.lt g21 rfl).2
                  obtain ⟨pv, y3⟩ : ∃ pv, x14.cell? ⟨g21, n0, none⟩ = some pv := ⟨_, int_cell HO21.out (by rw [HAWL.out]; exact hn0)⟩
                  clear hst hgs
                  go_upto_region 36 with fail
                  clear y1 y2 y3
                  try simp only [Act.put]
                  generalize x14.setCell ⟨g21, n0, none⟩ (.int .i64 v0) = x15 at *
                  obtain ⟨F, hF⟩ : ∃ F, aw.set n0 v0 = F := ⟨_, rfl⟩
                  rw [hF] at HST
                  have HFL : Hid (F.length = N) := Lib.hid (by rw [← hF, List.length_set, HAWL.out])
                  have HF2 : Hid (∀ x ∈ F, 0 ≤ x ∧ x ≤ 2) := Lib.hid fun x hx => by
                    rw [← hF] at hx
                    rcases List.mem_or_eq_of_mem_set hx with h | rfl
                    · exact HAW2.out x h
                    · exact hv0
                  clear hF
                  obtain ⟨k0, k1, k2⟩ := box25 (HBX.out x15 HS15.out)
                  have k3 := (HBX.out x15 HS15.out).lt
                  apply wp_region_lit
                  (repeat (first | go_big_skip | go_big_want | go_big_move | go_big_op | go_step | go_upon | go_back))
                  go_at_call 44
                  refine (draw_any w dt Am tr cm (1000 * k + 300 + 1 + 1) N x15 HD15.out (by omega) (by omega) (by omega)).mono ?_
                  rintro e x16 ⟨x, rfl, hx0, hx1, hd4, hg4⟩
                  obtain ⟨i0, rfl⟩ := Int.eq_ofNat_of_zero_le hx0
                  have hi0 : i0 < N := by omega
                  have ii0 : (0 : Int) ≤ (i0 : Int) ∧ (i0 : Int) < (N : Int) := by omega
                  dsimp only
                  have HO21 := Lib.hid (own_sm HST.out (sm_deal hg4 hb2) hb10)
                  have HO22 := Lib.hid (own_sm HO22.out (sm_deal hg4 hb2) hb11)
                  have HSX := Lib.hid (HS15.out.trans (sm_deal hg4 hb2))
                  have HDX := Lib.hid hd4
                  clear hd4 hg4 hx0 hx1 k0 k1 k2 k3 HST HS15 HD15
                  (repeat (first | go_big_skip | go_big_want | go_big_move | go_big_op | go_step | go_upon | go_back))
                  go_at_call 44
                  refine (draw_any w dt Am tr cm (1000 * k + 300 + 1 + 1 + 1) 15 x16 HDX.out (by omega) (by omega) (by omega)).mono ?_
                  rintro e x17 ⟨u0, rfl, hx0, hx1, hd4, hg4⟩
                  have hu0 : 0 ≤ u0 ∧ u0 ≤ 14 := by omega
                  dsimp only
                  have HO21 := Lib.hid (own_sm HO21.out (sm_deal hg4 hb2) hb10)
                  have HO22 := Lib.hid (own_sm HO22.out (sm_deal hg4 hb2) hb11)
                  have HSX := Lib.hid (HSX.out.trans (sm_deal hg4 hb2))
                  have HDX := Lib.hid hd4
                  clear hd4 hg4 hx0 hx1
                  obtain ⟨hst, hgs⟩ := HO22.out.stored i0 (.int .i64 u0)
                  rw [ints_set] at hst
                  have HST := Lib.hid hst
                  have HO21 := Lib.hid (HO21.out.kept hgs (.inr fun e => by have e2 : g21 = g22 := Option.some.inj e; omega))
                  have HS15 := Lib.hid (HSX.out.next hgs (fun g e => by cases e; right; omega))
                  have HD15 := Lib.hid (HDX.out.grown hgs (fun g e => by cases e; omega))
                  have y1 := HO22.out.frozenAt i0
                  have y2 := (HO22.out.lt g22 rfl).2
                  obtain ⟨pv2, y3⟩ : ∃ pv, x17.cell? ⟨g22, i0, none⟩ = some pv := ⟨_, int_cell HO22.out (by rw [HRKL.out]; exact hi0)⟩
                  clear hst hgs
                  go_upto_region 37 with fail
                  clear y1 y2 y3
                  try simp only [Act.put]
                  generalize x17.setCell ⟨g22, i0, none⟩ (.int .i64 u0) = x18 at *
                  obtain ⟨G, hG⟩ : ∃ G, rk.set i0 u0 = G := ⟨_, rfl⟩
                  rw [hG] at HST
                  have HGL : Hid (G.length = N) := Lib.hid (by rw [← hG, List.length_set, HRKL.out])
                  have HG2 : Hid (∀ x ∈ G, 0 ≤ x ∧ x ≤ 14) := Lib.hid fun x hx => by
                    rw [← hG] at hx
                    rcases List.mem_or_eq_of_mem_set hx with h | rfl
                    · exact HRK2.out x h
                    · exact hu0
                  clear hG
                  have hiF : Ints x18 (some ⟨g21, 0, none⟩) F := by
                    have := HO21.out
                    rw [← HFL.out] at this
                    obtain ⟨A', c', e', _, hi⟩ := own_ints this (by have := HFL.out; omega)
                    cases e'
                    exact hi
                  have hiG : Ints x18 (some ⟨g22, 0, none⟩) G := by
                    have := HST.out
                    rw [← HGL.out] at this
                    obtain ⟨A', c', e', _, hi⟩ := own_ints this (by have := HGL.out; omega)
                    cases e'
                    exact hi
                  have HIF := Lib.hid hiF
                  have HCH := Lib.hid (H43.out x18 (some ⟨g21, 0, none⟩) q21 F (some ⟨g22, 0, none⟩) q22 G HS15.out hiF hiG HFL.out HGL.out HF2.out HG2.out)
                  clear hiF hiG
                  obtain ⟨k0, k1, k2⟩ := box25 (HBX.out x18 HS15.out)
                  have k3 := (HBX.out x18 HS15.out).lt
                  have HFA := Lib.hid (fun h => HBO.out F G HFL.out HF2.out h)
                  obtain ⟨hbv, hhv⟩ : ∃ v, hb F G = v := ⟨_, rfl⟩
                  rw [hhv] at HCH HFA
                  clear hhv
                  go_upto_region 38 with (go_at_call 43; refine HCH.out.mono ?_; rintro e x19 ⟨rfl, ha⟩; have HSX := Lib.hid (HS15.out.trans (Sm.of_aft (b := b) ha)); have HDX := Lib.hid (HD15.out.aft ha); have HIF := Lib.hid (HIF.out.aft ha); clear ha k0 k1 k2 k3)
                  cases hbv
                  · go_wp2_with fail
                    exact ⟨⟨k + 1, by go_num, by omega, HSX.out, HDX.out.more (by omega)⟩, by simp [intOf]; omega⟩
                  · have hFa : F = aw := HFA.out rfl
                    have hc := H17.out x19 (some ⟨g21, 0, none⟩) q21 F (some ⟨b9, o9, none⟩) c9 aw HIF.out (HAW.out _ HSX.out) HFL.out HAWL.out
                    rw [show eqB F aw = true by rw [hFa]; simp [eqB]] at hc
                    have HC2 := Lib.hid hc
                    clear hc hFa HFA
                    go_wp2_with (go_at_call 17; refine HC2.out.mono ?_; rintro e x20 ⟨rfl, ha⟩; have HSX := Lib.hid (HSX.out.trans (Sm.of_aft (b := b) ha)); have HDX := Lib.hid (HDX.out.aft ha); clear ha)
                    exact ⟨⟨k + 1, by go_num, by omega, HSX.out, HDX.out.more (by omega)⟩, by simp [intOf]; omega⟩
    · have t1 : decide ((k : Int) < 3) = false := by simp; omega
      have HAE := Lib.hid HDK.out.2.2.1
      go_wp2_with (go_at_call 12; refine (awake_any _).mono ?_; rintro e x21 ⟨rfl, ha⟩; have HAF := Lib.hid (HAE.out.trans ha); clear ha)
      go_ret
      exact ⟨rfl, HAF.out⟩
end Go.Proofs
end
