/- Merged by program out of the texts Ptw. -/
import Derived.Test.YtfliejmidnnggaaZ06
import Derived.Deep.CutRange
import Derived.BigGuard
section
/- Walks: TreatyParted. -/
namespace Go.Proofs
open Go.RowKit

theorem rows_take {α : Type} {w : World} {A : Option Addr} {sz : Nat} {R : World → α → List Value → Prop} {l : List α} (h : RowsP w A sz R l) (k : Nat) : RowsP w A sz R (l.take k) := by
  have hle : (l.take k).length ≤ l.length := by rw [List.length_take]; omega
  refine ⟨Nat.le_trans (Nat.mul_le_mul_right _ hle) h.1, ?_⟩
  rcases h.2 with rfl | ⟨b, o, e, hb, hc⟩
  · exact .inl (List.take_nil)
  · refine .inr ⟨b, o, e, hb, fun i hi => ?_⟩
    obtain ⟨vs, h1, h2, h3⟩ := hc i (by omega)
    exact ⟨vs, h1, by rw [List.getElem_take]; exact h2, h3⟩
theorem legs_drop {w : World} {A : Option Addr} {C k : Nat} {l : List Leg} (h : RowsP w A 2 LegR l) (hf : A = none ∧ C = 0 ∨ ∃ g, A = some ⟨g, 0, none⟩) (hc : l.length ≤ C) (hk : k ≤ l.length) : RowsP w (dropA A C k) 2 LegR (l.drop k) := by
  by_cases hCk : C = k
  · rw [List.drop_eq_nil_of_le (by omega)]; exact RowsP.nil
  · rcases hf with ⟨rfl, rfl⟩ | ⟨g, rfl⟩
    · omega
    · have hd : dropA (some ⟨g, 0, none⟩) C k = some ⟨g, 0 + k * 2, none⟩ := by simp [dropA, hCk]
      rw [hd]
      have hle : (l.drop k).length ≤ l.length := by rw [List.length_drop]; omega
      refine ⟨Nat.le_trans (Nat.mul_le_mul_right _ hle) h.1, ?_⟩
      rcases h.2 with rfl | ⟨b, o, e, hb, hc'⟩
      · exact .inl (by simp)
      · cases e
        refine .inr ⟨g, 0 + k * 2, rfl, hb, fun i hi => ?_⟩
        have hi' : k + i < l.length := by rw [List.length_drop] at hi; omega
        obtain ⟨vs, h1, h2, h3⟩ := hc' (k + i) hi'
        refine ⟨vs, h1, by rw [List.getElem_drop]; exact h2, fun j hj => ?_⟩
        rw [show 0 + k * 2 + i * 2 + j = 0 + (k + i) * 2 + j by omega]
        exact h3 j hj
theorem partA_rep {w : World} {T : Treaty} {a1 a2 a3 a4 : Option Addr} {c1 c2 c3 c4 b k : Nat} (h : TRep w T a1 a2 a3 a4) (hb : Blk w b 27 #[.int .i64 T.places, .slice a1 T.ways.length c1, .slice a2 T.words.length c2, .slice a3 T.starts.length c3, .slice a4 k c4]) (hk : k ≤ T.legs.length) :
    TRep w (partA T k) a1 a2 a3 a4 ∧ Blk w b 27 #[.int .i64 (partA T k).places, .slice a1 (partA T k).ways.length c1, .slice a2 (partA T k).words.length c2, .slice a3 (partA T k).starts.length c3, .slice a4 (partA T k).legs.length c4] := by
  have e : (partA T k).legs.length = k := by show (T.legs.take k).length = k; rw [List.length_take]; omega
  rw [e]
  exact ⟨⟨h.ways, h.words, h.starts, rows_take h.legs k⟩, hb⟩
theorem partB_rep {w : World} {T : Treaty} {a1 a2 a3 a4 v3 : Option Addr} {c1 c2 c3 c4 b k : Nat} (h : TRep w T a1 a2 a3 a4) (hs : Ints w v3 (rangeZ T.places.toNat)) (hf : a4 = none ∧ c4 = 0 ∨ ∃ g, a4 = some ⟨g, 0, none⟩) (hc : T.legs.length ≤ c4)
    (hb : Blk w b 27 #[.int .i64 T.places, .slice a1 T.ways.length c1, .slice a2 T.words.length c2, .slice v3 (rangeZ T.places.toNat).length c3, .slice (dropA a4 c4 k) (T.legs.length - k) (c4 - k)]) (hk : k ≤ T.legs.length) :
    TRep w (partB T k) a1 a2 v3 (dropA a4 c4 k) ∧ Blk w b 27 #[.int .i64 (partB T k).places, .slice a1 (partB T k).ways.length c1, .slice a2 (partB T k).words.length c2, .slice v3 (partB T k).starts.length c3, .slice (dropA a4 c4 k) (partB T k).legs.length (c4 - k)] := by
  have e : (partB T k).legs.length = T.legs.length - k := by show (T.legs.drop k).length = _; rw [List.length_drop]
  rw [e]
  exact ⟨⟨h.ways, h.words, hs, legs_drop h.legs hf hc hk⟩, hb⟩
theorem own_len' {w : World} {base : Nat} {e : TypeId} {size : Nat} {v : Value} {n : Nat} {xs : List Value} (h : w.ownsRow base e size v n xs) : ∃ A c, v = .slice A n c := by
  rcases h.2 with ⟨h1, h0⟩ | ⟨g, cap, _, e, _⟩
  · exact ⟨_, _, by rw [h0]; exact h1⟩
  · exact ⟨_, _, e⟩
theorem linesL_len {T : Treaty} {f : Nat → Nat → Nat → Bool} : ∀ l ∈ linesL T f, l.length = T.legs.length + 1 := by
  intro l hl
  unfold linesL at hl
  rw [List.mem_flatMap] at hl
  obtain ⟨s, _, h⟩ := hl
  exact linesFrom_len _ _ _ l h
theorem lines_two {w w' : World} {T : Treaty} {R : List Int} {e : Ending} (h : LinesR w T R e w') (hr : readE T R = 0) (hl : T.legs.length ≤ 10) : Aft w w' ∧ ∃ A n c E, e = .returned (.tuple #[.slice A n c, .int .i64 E]) ∧ (E = 0 ∧ n = (linesL T (leadsF T R)).length ∧ n ≤ 200 ∧ Lists w' A (linesL T (leadsF T R)) ∧ OwnLists w' w.heap.size (.slice A n c) (linesL T (leadsF T R)) ∨ E = 11) := by
  obtain ⟨ha, ⟨h1, rfl⟩ | ⟨h1, v, rfl, vs, hown⟩⟩ := h
  · refine ⟨ha, none, 0, 0, _, rfl, .inr ?_⟩
    unfold linesE at h1 ⊢
    rw [if_pos hr] at h1 ⊢
    split at h1
    · exact absurd rfl h1
    · rename_i hn; rw [if_neg hn]
  · have hn : (linesL T (leadsF T R)).length ≤ 200 := by
      unfold linesE at h1
      rw [if_pos hr] at h1
      split at h1
      · assumption
      · exact absurd h1 (by decide)
    obtain ⟨A, c, rfl, _, hli⟩ := hown.lists (by omega) (fun l hl' => by rw [linesL_len l hl']; omega)
    exact ⟨ha, A, _, c, 0, rfl, .inl ⟨rfl, rfl, hn, hli, vs, hown⟩⟩
theorem list_one {w : World} {b n c : Nat} {A : Option Addr} {x : List Int} (hb : Blk w b 24 #[.slice A n c]) (hn : n = x.length) (h : Ints w A x) : Lists w (some ⟨b, 0, none⟩) [x] :=
  ⟨by simp, .inr ⟨b, 0, rfl, hb.lt, fun i hi => by
    have : i = 0 := by simp at hi; omega
    subst this
    exact ⟨[.slice A n c], rfl, ⟨A, c, by rw [hn]; rfl, h⟩, fun j hj => by
      have : j = 0 := by simp at hj; omega
      subst this
      exact hb.cell 0⟩⟩⟩
theorem among_one {x : List Int} {L : List (List Int)} (h : x ∈ L) : amongB [x] L = true := by
  unfold amongB
  rw [List.all_eq_true]
  intro y hy
  rw [List.mem_singleton] at hy
  subst hy
  rw [List.any_eq_true]
  exact ⟨y, h, by simp [eqB]⟩
theorem ints_drop {w : World} {g : Nat} {l : List Int} (h : Ints w (some ⟨g, 0, none⟩) l) (k : Nat) : Ints w (some ⟨g, 0 + k, none⟩) (l.drop k) := by
  have hle : (l.drop k).length ≤ l.length := by rw [List.length_drop]; omega
  refine ⟨Nat.le_trans (Nat.mul_le_mul_right _ hle) h.1, ?_⟩
  rcases h.2 with rfl | ⟨b, o, e, hb, hc'⟩
  · exact .inl (by simp)
  · cases e
    refine .inr ⟨g, 0 + k, rfl, hb, fun i hi => ?_⟩
    have hi' : k + i < l.length := by rw [List.length_drop] at hi; omega
    obtain ⟨vs, h1, h2, h3⟩ := hc' (k + i) hi'
    refine ⟨vs, h1, by rw [List.getElem_drop]; exact h2, fun j hj => ?_⟩
    rw [show 0 + k + i * 1 + j = 0 + (k + i) * 1 + j by omega]
    exact h3 j hj
/-- the pairs that join, so far -/
def sumA (k : Nat) (LA LB : List (List Int)) (i : Nat) : Nat := ((LA.take i).map (joinN k LB)).sum
def cntB (k : Nat) (m : List Int) (LB : List (List Int)) (i : Nat) : Nat := (LB.take i).countP fun n => m.getD k 0 == n.getD 0 0
theorem sumA_succ {k : Nat} {LA LB : List (List Int)} {i : Nat} (h : i < LA.length) : sumA k LA LB (i + 1) = sumA k LA LB i + joinN k LB LA[i] := by
  unfold sumA; rw [List.take_succ_eq_append_getElem h, List.map_append, List.sum_append]; simp
theorem cntB_succ {k : Nat} {m : List Int} {LB : List (List Int)} {i : Nat} (h : i < LB.length) : cntB k m LB (i + 1) = cntB k m LB i + (if m.getD k 0 == LB[i].getD 0 0 then 1 else 0) := by
  unfold cntB; rw [List.take_succ_eq_append_getElem h, List.countP_append, List.countP_singleton]
theorem cntB_all (k : Nat) (m : List Int) (LB : List (List Int)) : cntB k m LB LB.length = joinN k LB m := by unfold cntB joinN; rw [List.take_length]
theorem sumA_le {k : Nat} {LA LB : List (List Int)} (i : Nat) : sumA k LA LB i ≤ (LA.map (joinN k LB)).sum := by
  unfold sumA
  conv => rhs; rw [← List.take_append_drop i LA]
  rw [List.map_append, List.sum_append]; omega
theorem cntB_le {k : Nat} {m : List Int} {LB : List (List Int)} (i : Nat) : cntB k m LB i ≤ joinN k LB m := by
  unfold cntB joinN
  conv => rhs; rw [← List.take_append_drop i LB]
  rw [List.countP_append]; omega
/-- Between two starts. -/
def MPt (X X3 : World) (b2 : Nat) (z0 z1 z2 z4 : Value) (k : Nat) (W : World) : Prop :=
  ∃ v3, Aft X W ∧ X3.grownBy W (some b2) ∧ Blk W b2 27 #[z0, z1, z2, v3, z4] ∧ W.ownsRow X3.heap.size 3 1 v3 (rangeZ k).length ((rangeZ k).map (Value.int .i64))

set_option maxRecDepth 100000 in
set_option maxHeartbeats 4000000 in
theorem parted_any (w : World) (A : Option Addr) (l : List Int) (c n8 : Nat) (h8 : n8 ≤ 255) (hA : Bytes w A l) : Calls Try.prog 4 #[.slice A l.length c, .int .u8 n8] w fun e w' => e = .returned (.bool true) ∧ Aft w w' := by
  have HA := Lib.hid hA
  clear hA
  go_enter Try.func4, Try.ntmps4
  (repeat (first | go_big_skip | go_big_want | go_big_move | go_big_op | go_step | go_upon | go_back))
  go_at_call 24
  refine (of_any A l c w HA.out).mono ?_
  rintro e x ⟨rfl, hdk⟩
  dsimp only
  have HDK := Lib.hid hdk
  clear hdk
  (repeat (first | go_big_skip | go_big_want | go_big_move | go_big_op | go_step | go_upon | go_back))
  go_at_call 25
  refine (made_any w w.heap.size A l c 0 x HDK.out (by omega) 6 (by omega)).mono ?_
  rintro e y ⟨T, a1, a2, a3, a4, c1, c2, c3, c4, rfl, hok, hdk, hgr, htr⟩
  dsimp only
  have HOK := Lib.hid hok
  have ha := Aft.alloc y (.cells #[.int .i64 T.places, .slice a1 T.ways.length c1, .slice a2 T.words.length c2, .slice a3 T.starts.length c3, .slice a4 T.legs.length c4] 27)
  have HDK := Lib.hid (hdk.aft ha)
  have HTR := Lib.hid (htr.grown (only_of_aft ha _))
  have hb := Blk.new y 27 #[.int .i64 T.places, .slice a1 T.ways.length c1, .slice a2 T.words.length c2, .slice a3 T.starts.length c3, .slice a4 T.legs.length c4]
  have hD : w.heap.size < y.heap.size := hdk.lt
  clear hok hdk hgr htr ha
  go_upto_region 3 with fail
  generalize y.alloc (.cells #[.int .i64 T.places, .slice a1 T.ways.length c1, .slice a2 T.words.length c2, .slice a3 T.starts.length c3, .slice a4 T.legs.length c4] 27) = Y at *
  generalize y.heap.size = D at *
  have hlt := hb.lt
  obtain ⟨k0, k1, k2, k3, k4⟩ := tc_cells' hb
  have HBX := Lib.hid hb
  clear hb
  (repeat (first | go_big_skip | go_big_want | go_big_move | go_big_op | go_step | go_upon | go_back))
  go_at_call 26
  have hwl : ∀ x ∈ T.words, 1 ≤ x.length ∧ x.length ≤ 1000 := fun x hx => by have := HOK.out.wlen x hx; omega
  have hnw : T.words.length ≤ 1000 := by have := HOK.out.nwords; omega
  refine (read26_any w w.heap.size A l c 1000 T a1 a2 a3 a4 c1 c2 c3 c4 Y (HDK.out.more (by omega)) HTR.out (by omega) hnw hwl).mono ?_
  rintro e X ⟨vR, R, rfl, hown, hlen, hin, hdk, hgr⟩
  dsimp only
  have hRl : R.length ≤ 17592186043904 := by omega
  obtain ⟨AR, cR, rfl, _, hri⟩ := own_ints hown hRl
  have HIN : Hid (R.length = T.words.length ∧ InWords T R) := Lib.hid ⟨hlen, hin⟩
  have HR := Lib.hid hri
  have HT := Lib.hid (HTR.out.grown hgr).rep
  have hb := HBX.out.grown hgr (fun e => by injection e with e; omega)
  have HBX := Lib.hid hb
  have HAW := Lib.hid hdk.dealt
  clear hwl hnw hown hlen hin hdk hgr hRl hri hlt k0 k1 k2 k3 k4 HDK HTR hD
  have hlt := hb.lt
  obtain ⟨k0, k1, k2, k3, k4⟩ := tc_cells' hb
  clear hb
  have hll := HOK.out.nlegs
  have hwr : wrap64 ((T.legs.length : Int) + 1) = T.legs.length + 1 := by unfold wrap64; omega
  have ht : ((n8 : Int).tmod ((T.legs.length : Int) + 1)) = ((n8 % (T.legs.length + 1) : Nat) : Int) := by
    rw [Int.tmod_eq_emod_of_nonneg (by omega)]; simp
  have hkl : n8 % (T.legs.length + 1) < T.legs.length + 1 := Nat.mod_lt _ (by omega)
  go_upto_region 5 with fail
  obtain ⟨k, hk, hkL⟩ : ∃ k : Nat, ((n8 : Int) % ((T.legs.length : Int) + 1)) = k ∧ k ≤ T.legs.length := ⟨n8 % (T.legs.length + 1), by simp, by omega⟩
  rw [hk]
  have HKK := Lib.hid hk
  clear ht hkl hk k0 k1 k2 k3 k4 hlt
  refine region5_ptlit T a1 a2 a3 a4 c1 c2 c3 c4 D X HT.out HBX.out (by have := HOK.out.nways; omega) (by have := HOK.out.nwords; omega) (by have := HOK.out.nstarts2; have := HOK.out.p2; omega) (by omega) (fun x hx => by have := HOK.out.wlen x hx; omega) _ _ _ _ _ _ _ _ _ _ _ _ _ _ _ _ _ _ _ _ _ _ _ _ _ _ _ _ _ _ _ _ _ _ _ _ _ _ _ _ _ _ _ _ _ _ _ _ _ _ _ _ _ _ _ _ _ _ _ _ _ _ _ _ _ _ _ _ _ _ _ _ _ _ _ _ _ _ _ _ _ _ _ _ _ _ _ _ _ _ _ _ _ _ _ _ _ _ _ _ _ _ _ _ _ _ _ _ _ _ _ _ _ _ _ _ _ _ _ _ _ _ _ _ _ _ _ _ _ _ _ _ _ _ _ _ _ _ _ _ _ _ _ _ _ _ _ _ _ _ _ _ _ _ _ _ _ _ _ _ _ _ _ _ _ _ _ _ _ _ _ _ _ _ _ _ _ _ _ _ _ _ _ _ _ _ _ _ _ _ _ _ _ _ _ _ _ _ _ _ _ _ _ _ _ _ _ _ _ _ _ _ _ _ _ _ _ _ _ _ _ _ _ _ _ _ _ _ _ _ _ _ _ _ _ _ _ _ _ _ ?_
  intro u9 u10 u42 u43 u44 u45 X1 b b2 e9 e10 hne hb1 hb2 hg1 hg2 ha1
  subst e9 e10
  obtain ⟨A1, A2, A3, A4, C1, C2, C3, C4, S1, hr1, ⟨hc1, hf1⟩, hs1, hn1⟩ := hg1
  obtain ⟨B1, B2, B3, B4, D1, D2, D3, D4, S2, hr2, ⟨hc2, hf2⟩, hs2, hn2⟩ := hg2
  have HR1 := Lib.hid hr1
  have HR2 := Lib.hid hr2
  have HF1 := Lib.hid hf1
  have HF2 := Lib.hid hf2
  have HA1 := Lib.hid ha1
  have HS1 := Lib.hid hs1
  have HS2 := Lib.hid hs2
  have HN1 := Lib.hid hn1
  have HN2 := Lib.hid hn2
  clear hr1 hr2 hf1 hf2 ha1 hs1 hs2 hn1 hn2
  go_upto_region 6 with fail
  refine region6_ptlit X b b2 T.legs.length k C4 D4 A4 B4 (.int .i64 T.places) (.slice A1 T.ways.length C1) (.slice A2 T.words.length C2) (.slice A3 T.starts.length C3) (.int .i64 T.places) (.slice B1 T.ways.length D1) (.slice B2 T.words.length D2) (.slice B3 T.starts.length D3) X1 HA1.out hb1 hb2 hne HR1.out HR2.out HF1.out HF2.out hc1 hc2 hkL _ _ _ _ _ _ _ _ _ _ _ _ _ _ _ _ _ _ _ _ _ _ _ _ _ _ _ _ _ _ _ _ _ _ _ _ _ _ _ _ _ _ _ _ _ _ _ _ _ _ _ _ _ _ _ _ _ _ _ _ _ _ _ _ _ _ _ _ _ _ _ _ _ _ _ _ _ _ _ _ _ _ _ _ _ _ _ _ _ _ _ _ _ _ _ _ _ _ _ _ _ _ _ _ _ _ _ _ _ _ _ _ _ _ _ _ _ _ _ _ _ _ _ _ _ _ _ _ _ _ _ _ _ _ _ _ _ _ _ _ _ _ _ _ _ _ _ _ _ _ _ _ _ _ _ _ _ _ _ _ _ _ _ _ _ _ _ _ _ _ _ _ _ _ _ _ _ _ _ _ _ _ _ _ _ _ _ _ _ _ _ _ _ _ _ _ _ _ _ _ _ _ _ _ _ _ _ _ _ _ _ _ _ _ _ _ _ _ _ _ _ _ _ _ _ _ _ _ _ _ _ _ _ _ _ _ _ _ ?_
  intro u46 u47 u48 u49 u50 u51 u52 u53 u54 u55 X2 ha2 hkeep hr1 hr2
  have HA2 := Lib.hid ha2
  have HQ1 := Lib.hid hr1
  have HQ2 := Lib.hid hr2
  have HS1o := HS1
  have HS1 := Lib.hid (HS1.out.keep (fun q hq => hkeep.2 q (HS1.out.1 q hq) (fun e => HN1.out.not HR1.out (by rw [← e]; exact hq)) (fun e => HN1.out.not HR2.out (by rw [← e]; exact hq))) hkeep.1)
  have HN1 := Lib.hid (HN1.out.keep (fun q hq => hkeep.2 q (HS1o.out.1 q hq) (fun e => HN1.out.not HR1.out (by rw [← e]; exact hq)) (fun e => HN1.out.not HR2.out (by rw [← e]; exact hq))))
  have HS2o := HS2
  have HS2 := Lib.hid (HS2.out.keep (fun q hq => hkeep.2 q (HS2.out.1 q hq) (fun e => HN2.out.not HR1.out (by rw [← e]; exact hq)) (fun e => HN2.out.not HR2.out (by rw [← e]; exact hq))) hkeep.1)
  have HN2 := Lib.hid (HN2.out.keep (fun q hq => hkeep.2 q (HS2o.out.1 q hq) (fun e => HN2.out.not HR1.out (by rw [← e]; exact hq)) (fun e => HN2.out.not HR2.out (by rw [← e]; exact hq))))
  have c3 : X2.cell? ⟨b2, 3, none⟩ = some (.slice B3 T.starts.length D3) := hr2.cell 3
  have f3 := hr2.frozen 3
  have hlt2 := hr2.lt
  clear hkeep ha2 hr1 hr2 HR1 HR2 HA1 HS1o HS2o
  go_upto_region 8 with fail
  have hgs := setc' X2 b2 3 (.slice none 0 0)
  have HQ1 := Lib.hid (HQ1.out.grown hgs (fun e => hne (by injection e)))
  have HS1 := Lib.hid (HS1.out.grown hgs (fun q e => by cases e; exact HN1.out.not HQ2.out))
  have HS2 := Lib.hid (HS2.out.grown hgs (fun q e => by cases e; exact HN2.out.not HQ2.out))
  have hq2 : Blk (X2.setCell ⟨b2, 3, none⟩ (.slice none 0 0)) b2 27 #[.int .i64 T.places, .slice B1 T.ways.length D1, .slice B2 T.words.length D2, .slice none 0 0, .slice (dropA B4 D4 k) (T.legs.length - k) (D4 - k)] := HQ2.out.store 3 _
  have haX := HA2.out.grown hgs (fun q e => by cases e; exact hb2)
  have hnb2 : ¬ S1 b2 ∧ ¬ S2 b2 := ⟨HN1.out.not HQ2.out, HN2.out.not HQ2.out⟩
  have HNB := Lib.hid hnb2
  clear hnb2 c3 f3 hlt2 HQ2 hgs HA2 HN1 HN2
  generalize X2.setCell ⟨b2, 3, none⟩ (.slice none 0 0) = X3 at *
  have HM : Hid (MPt X X3 b2 (.int .i64 T.places) (.slice B1 T.ways.length D1) (.slice B2 T.words.length D2) (.slice (dropA B4 D4 k) (T.legs.length - k) (D4 - k)) 0 X3) := Lib.hid ⟨_, haX, only_refl _ _, hq2, World.ownsRow_nil _ _ 3 1⟩
  have hXX3 := haX.size
  have hb := HBX.out.aft haX
  have hlt := hb.lt
  have k0 : X3.cell? ⟨D, 0, none⟩ = some (.int .i64 T.places) := hb.cell 0
  obtain ⟨pl, hpl⟩ := Int.eq_ofNat_of_zero_le (show 0 ≤ T.places by have := HOK.out.p1; omega)
  have hp2 : pl ≤ 8 := by have := HOK.out.p2; omega
  have hp1 : 2 ≤ pl := by have := HOK.out.p1; omega
  have HPL := Lib.hid hpl
  rw [hpl] at k0
  clear hb hq2 haX hpl
  (repeat (first | go_big_skip | go_big_want | go_big_move | go_big_op | go_step | go_upon | go_back))
  go_loopw [59] (fun i wr => ∃ j : Nat, i = .int .i64 j ∧ j ≤ pl ∧ MPt X X3 b2 (.int .i64 T.places) (.slice B1 T.ways.length D1) (.slice B2 T.words.length D2) (.slice (dropA B4 D4 k) (T.legs.length - k) (D4 - k)) j wr) (fun i _ => pl - (intOf i).toNat)
  case atStart => exact ⟨0, rfl, by omega, HM.out⟩
  case round =>
    obtain ⟨j, rfl, hj, v3, haX, hg3, hbk, hown⟩ := hrel
    have HAX := Lib.hid haX
    have HG3 := Lib.hid hg3
    have HBK := Lib.hid hbk
    have HOW := Lib.hid hown
    clear HM k0 hlt
    by_cases hjn : j < pl
    · have hdec : decide ((j : Int) < (pl : Int)) = true := by simp; omega
      have c3 : wr.cell? ⟨b2, 3, none⟩ = some v3 := hbk.cell 3
      have f3 := hbk.frozen 3
      have hlt2 := hbk.lt
      clear haX hg3 hbk hown
      go_upto_region 12 with (at_builtin; refine wpList_app1 ty24 rfl _ _ rfl (Nat.le_trans HG3.out.size (Aft.alloc _ _).size) rfl (own_aft HOW.out (Aft.alloc _ _)) rfl (Blk.new _ _ _) rfl (fun u hu => by rw [List.mem_singleton] at hu; subst hu; rfl) (by rw [rangeZ_len]; omega) (by decide) ?_; intro v' w6 hown6 hg6 hat6; obtain ⟨tA, tn, tc, rfl⟩ := own_slice' hown6; have HO6 := Lib.hid hown6; have HG6 : Hid ((wr.alloc (.cells #[.int .i64 j] 3)).grownBy w6 v3.ownBlock) := Lib.hid hg6; have HBA : Hid (Blk (wr.alloc (.cells #[.int .i64 j] 3)) b2 27 #[.int .i64 T.places, .slice B1 T.ways.length D1, .slice B2 T.words.length D2, v3, .slice (dropA B4 D4 k) (T.legs.length - k) (D4 - k)]) := Lib.hid (HBK.out.alloc _); have HOA : Hid ((wr.alloc (.cells #[.int .i64 j] 3)).ownsRow X3.heap.size 3 1 v3 (rangeZ j).length ((rangeZ j).map (Value.int .i64))) := Lib.hid (own_aft HOW.out (Aft.alloc _ _)); have HB6 := Lib.hid (HBA.out.grown HG6.out (fun e => own_ne27 HOA.out (by decide) HBA.out e.symm)); have f26 := HB6.out.frozen 3; have hlt6 := HB6.out.lt; have c26 : w6.cell? ⟨b2, 3, none⟩ = some v3 := HB6.out.cell 3; clear hown6 hg6 hat6)
      have ha := Aft.alloc wr (.cells #[.int .i64 j] 3)
      have hgs := setc' w6 b2 3 (.slice tA tn tc)
      have hv3 : ∀ q, v3.ownBlock = some q → X3.heap.size ≤ q := fun q e => (HOW.out.lt q e).1
      have hXs := hXX3
      have hm : MPt X X3 b2 (.int .i64 T.places) (.slice B1 T.ways.length D1) (.slice B2 T.words.length D2) (.slice (dropA B4 D4 k) (T.legs.length - k) (D4 - k)) (j + 1) (w6.setCell ⟨b2, 3, none⟩ (.slice tA tn tc)) :=
        ⟨.slice tA tn tc, ((HAX.out.trans ha).grown HG6.out (fun q e => Nat.le_trans hXs (hv3 q e))).grown hgs (fun q e => by cases e; exact hb2), (only_grown (only_aft HG3.out ha) HG6.out hv3).trans hgs, HB6.out.store 3 _, by rw [rangeZ_succ, List.length_append, List.map_append]; exact own_kept3 HO6.out hgs (fun q e => by cases e; exact own_ne27 HO6.out (by decide) HB6.out)⟩
      have HM' := Lib.hid hm
      clear ha hgs hv3 hXs hm f3 f26 c3 c26 hlt2 hlt6
      (repeat (first | go_big_skip | go_big_want | go_big_move | go_big_op | go_step | go_upon | go_back))
      exact ⟨⟨j + 1, by go_num, by omega, HM'.out⟩, by simp [intOf]; omega⟩
    · have hdec : decide ((j : Int) < (pl : Int)) = false := by simp; omega
      have hjp : j = T.places.toNat := by have := HPL.out; omega
      have hrep := (HS1.out.grown hg3 (fun q e => by cases e; exact HNB.out.1)).self
      have hrep2 := (HS2.out.grown hg3 (fun q e => by cases e; exact HNB.out.2)).self
      obtain ⟨V3, D3', rfl, _, hv3⟩ := own_ints hown (by rw [rangeZ_len]; omega)
      rw [hjp] at hv3 hbk
      obtain ⟨ht1, hk1⟩ := partA_rep hrep (HQ1.out.grown hg3 (fun e => hne (by injection e))) hkL
      obtain ⟨ht2, hk2⟩ := partB_rep hrep2 hv3 HF2.out hc2 hbk hkL
      have hy := parted_yield HOK.out R hkL
      have HCNT := Lib.hid (parted_count HOK.out R hkL)
      have HLIN : Hid (∀ l ∈ linesL T (leadsF T R), l.length = T.legs.length + 1 ∧ l.take (k + 1) ∈ linesL (partA T k) (leadsF (partA T k) R) ∧ l.drop k ∈ linesL (partB T k) (leadsF (partB T k) R)) := Lib.hid fun l h => parted_lines HOK.out R hkL h
      have HCK : Hid (readE T R = 0 ∧ readE (partA T k) R = 0 ∧ readE (partB T k) R = 0) := Lib.hid ⟨readE_zero.2 ⟨HOK.out.check, HIN.out⟩, readE_zero.2 ⟨(HOK.out.partA k).check, HIN.out⟩, readE_zero.2 ⟨(HOK.out.partB k).check, HIN.out⟩⟩
      have HO1 := Lib.hid (HOK.out.partA k)
      have HO2 := Lib.hid (HOK.out.partB k)
      have lA : (partA T k).legs.length = k := by show (T.legs.take k).length = k; rw [List.length_take]; omega
      have lB : (partB T k).legs.length = T.legs.length - k := by show (T.legs.drop k).length = _; rw [List.length_drop]
      have HLA := Lib.hid lA
      have HLB := Lib.hid lB
      have HHY := Lib.hid hy
      clear haX hg3 hown hrep hrep2 hv3 hbk hy lA lB HQ1 HS1 HS2 HNB HG3 HBK HOW
      generalize partA T k = TA at *
      generalize partB T k = TB at *
      have HT1 := Lib.hid ht1
      have HT2 := Lib.hid ht2
      have HK1 := Lib.hid hk1
      have HK2 := Lib.hid hk2
      have HRR := Lib.hid (HR.out.aft HAX.out)
      have HTT := Lib.hid (HT.out.aft HAX.out)
      have HBB := Lib.hid (HBX.out.aft HAX.out)
      have HAWW := Lib.hid (HAW.out.trans HAX.out)
      clear ht1 ht2 hk1 hk2 HT HR HBX HAW HAX hjp
      have hy0 := HHY.out
      have hyl : (yieldL T (leadsF T R)).length ≤ 10 := by
        unfold yieldL
        rw [List.length_reverse]
        exact Nat.le_trans (yl_le _ _ _ _) hll
      generalize wr = Z at *
      have HZ := Lib.hid (Aft.refl Z)
      obtain ⟨p0, p1, p2, p3, p4⟩ := tc_cells' (HBB.out.aft HZ.out)
      obtain ⟨q0, q1, q2, q3, q4⟩ := tc_cells' (HK1.out.aft HZ.out)
      obtain ⟨r0, r1, r2, r3, r4⟩ := tc_cells' (HK2.out.aft HZ.out)
      have lt0 := (HBB.out.aft HZ.out).lt
      have lt1 := (HK1.out.aft HZ.out).lt
      have lt2 := (HK2.out.aft HZ.out).lt
      (repeat (first | go_big_skip | go_big_want | go_big_move | go_big_op | go_step | go_upon | go_back))
      go_at_call 27
      refine (yield_any _ T _ _ _ _ _ _ _ _ R AR cR (HTT.out.aft HZ.out) (HRR.out.aft HZ.out)).mono ?_
      rintro e W1 ⟨ha, ⟨h, -⟩ | ⟨-, v, rfl, hown⟩⟩
      · exact absurd HCK.out.1 h
      dsimp only
      obtain ⟨V1, d1, rfl⟩ := own_len' hown
      have HZ := Lib.hid (HZ.out.trans ha)
      clear hown
      clear p0 p1 p2 p3 p4 q0 q1 q2 q3 q4 r0 r1 r2 r3 r4 lt0 lt1 lt2 ha
      obtain ⟨p0, p1, p2, p3, p4⟩ := tc_cells' (HBB.out.aft HZ.out)
      obtain ⟨q0, q1, q2, q3, q4⟩ := tc_cells' (HK1.out.aft HZ.out)
      obtain ⟨r0, r1, r2, r3, r4⟩ := tc_cells' (HK2.out.aft HZ.out)
      have lt0 := (HBB.out.aft HZ.out).lt
      have lt1 := (HK1.out.aft HZ.out).lt
      have lt2 := (HK2.out.aft HZ.out).lt
      (repeat (first | go_big_skip | go_big_want | go_big_move | go_big_op | go_step | go_upon | go_back))
      go_at_call 27
      refine (yield_any _ TA _ _ _ _ _ _ _ _ R AR cR (HT1.out.aft HZ.out) (HRR.out.aft HZ.out)).mono ?_
      rintro e W2 ⟨ha, ⟨h, -⟩ | ⟨-, v, rfl, hown⟩⟩
      · exact absurd HCK.out.2.1 h
      dsimp only
      obtain ⟨V2, d2, rfl⟩ := own_len' hown
      have HZ := Lib.hid (HZ.out.trans ha)
      clear hown
      clear p0 p1 p2 p3 p4 q0 q1 q2 q3 q4 r0 r1 r2 r3 r4 lt0 lt1 lt2 ha
      obtain ⟨p0, p1, p2, p3, p4⟩ := tc_cells' (HBB.out.aft HZ.out)
      obtain ⟨q0, q1, q2, q3, q4⟩ := tc_cells' (HK1.out.aft HZ.out)
      obtain ⟨r0, r1, r2, r3, r4⟩ := tc_cells' (HK2.out.aft HZ.out)
      have lt0 := (HBB.out.aft HZ.out).lt
      have lt1 := (HK1.out.aft HZ.out).lt
      have lt2 := (HK2.out.aft HZ.out).lt
      (repeat (first | go_big_skip | go_big_want | go_big_move | go_big_op | go_step | go_upon | go_back))
      go_at_call 27
      refine (yield_any _ TB _ _ _ _ _ _ _ _ R AR cR (HT2.out.aft HZ.out) (HRR.out.aft HZ.out)).mono ?_
      rintro e W3 ⟨ha, ⟨h, -⟩ | ⟨-, v, rfl, hown⟩⟩
      · exact absurd HCK.out.2.2 h
      dsimp only
      obtain ⟨V3, d3, rfl⟩ := own_len' hown
      have HZ := Lib.hid (HZ.out.trans ha)
      clear hown
      clear p0 p1 p2 p3 p4 q0 q1 q2 q3 q4 r0 r1 r2 r3 r4 lt0 lt1 lt2 ha
      obtain ⟨p0, p1, p2, p3, p4⟩ := tc_cells' (HBB.out.aft HZ.out)
      obtain ⟨q0, q1, q2, q3, q4⟩ := tc_cells' (HK1.out.aft HZ.out)
      obtain ⟨r0, r1, r2, r3, r4⟩ := tc_cells' (HK2.out.aft HZ.out)
      have lt0 := (HBB.out.aft HZ.out).lt
      have lt1 := (HK1.out.aft HZ.out).lt
      have lt2 := (HK2.out.aft HZ.out).lt
      generalize (yieldL T (leadsF T R)).length = m0 at *
      generalize (yieldL TA (leadsF TA R)).length = m1 at *
      generalize (yieldL TB (leadsF TB R)).length = m2 at *
      have hgt : decide (m0 < m1 + m2) = false := by simp; omega
      (repeat (first | go_big_skip | go_big_want | go_big_move | go_big_op | go_step | go_upon | go_back))
      go_at_call 15
      refine (lines_any _ T _ _ _ _ _ _ _ _ R AR cR (HTT.out.aft HZ.out) (HRR.out.aft HZ.out)).mono ?_
      intro e W4 hl4
      obtain ⟨ha, L4, N4, e4, E4, rfl, hE4⟩ := lines_two hl4 HCK.out.1 hll
      dsimp only
      have HZ := Lib.hid (HZ.out.trans ha)
      have HL4 := Lib.hid hE4
      clear hE4 hl4
      clear p0 p1 p2 p3 p4 q0 q1 q2 q3 q4 r0 r1 r2 r3 r4 lt0 lt1 lt2 ha
      obtain ⟨p0, p1, p2, p3, p4⟩ := tc_cells' (HBB.out.aft HZ.out)
      obtain ⟨q0, q1, q2, q3, q4⟩ := tc_cells' (HK1.out.aft HZ.out)
      obtain ⟨r0, r1, r2, r3, r4⟩ := tc_cells' (HK2.out.aft HZ.out)
      have lt0 := (HBB.out.aft HZ.out).lt
      have lt1 := (HK1.out.aft HZ.out).lt
      have lt2 := (HK2.out.aft HZ.out).lt
      (repeat (first | go_big_skip | go_big_want | go_big_move | go_big_op | go_step | go_upon | go_back))
      go_at_call 15
      refine (lines_any _ TA _ _ _ _ _ _ _ _ R AR cR (HT1.out.aft HZ.out) (HRR.out.aft HZ.out)).mono ?_
      intro e W5 hl5
      obtain ⟨ha, L5, N5, e5, E5, rfl, hE5⟩ := lines_two hl5 HCK.out.2.1 HO1.out.nlegs
      dsimp only
      have HZ := Lib.hid (HZ.out.trans ha)
      have HL5 := Lib.hid hE5
      have HA5' := Lib.hid ha
      clear hE5 hl5
      clear p0 p1 p2 p3 p4 q0 q1 q2 q3 q4 r0 r1 r2 r3 r4 lt0 lt1 lt2 ha
      obtain ⟨p0, p1, p2, p3, p4⟩ := tc_cells' (HBB.out.aft HZ.out)
      obtain ⟨q0, q1, q2, q3, q4⟩ := tc_cells' (HK1.out.aft HZ.out)
      obtain ⟨r0, r1, r2, r3, r4⟩ := tc_cells' (HK2.out.aft HZ.out)
      have lt0 := (HBB.out.aft HZ.out).lt
      have lt1 := (HK1.out.aft HZ.out).lt
      have lt2 := (HK2.out.aft HZ.out).lt
      (repeat (first | go_big_skip | go_big_want | go_big_move | go_big_op | go_step | go_upon | go_back))
      go_at_call 15
      refine (lines_any _ TB _ _ _ _ _ _ _ _ R AR cR (HT2.out.aft HZ.out) (HRR.out.aft HZ.out)).mono ?_
      intro e W6 hl6
      obtain ⟨ha, L6, N6, e6, E6, rfl, hE6⟩ := lines_two hl6 HCK.out.2.2 HO2.out.nlegs
      dsimp only
      have HZ := Lib.hid (HZ.out.trans ha)
      have HL6 := Lib.hid hE6
      have HA6' := Lib.hid ha
      clear hE6 hl6
      clear p0 p1 p2 p3 p4 q0 q1 q2 q3 q4 r0 r1 r2 r3 r4 lt0 lt1 lt2 ha
      obtain ⟨p0, p1, p2, p3, p4⟩ := tc_cells' (HBB.out.aft HZ.out)
      obtain ⟨q0, q1, q2, q3, q4⟩ := tc_cells' (HK1.out.aft HZ.out)
      obtain ⟨r0, r1, r2, r3, r4⟩ := tc_cells' (HK2.out.aft HZ.out)
      have lt0 := (HBB.out.aft HZ.out).lt
      have lt1 := (HK1.out.aft HZ.out).lt
      have lt2 := (HK2.out.aft HZ.out).lt
      by_cases hall : E4 = 0 ∧ E5 = 0 ∧ E6 = 0
      · obtain ⟨rfl, rfl, rfl⟩ := hall
        obtain ⟨-, rfl, hn4, hl4, ho4⟩ := HL4.out.resolve_right (by decide)
        obtain ⟨-, rfl, hn5, hl5, -⟩ := HL5.out.resolve_right (by decide)
        obtain ⟨-, rfl, hn6, hl6, -⟩ := HL6.out.resolve_right (by decide)
        have hna : ∀ m ∈ linesL TA (leadsF TA R), m.length = k + 1 := fun m hm => by rw [linesL_len m hm, HLA.out]
        obtain ⟨q, hq⟩ : ∃ q, T.legs.length = k + q := ⟨T.legs.length - k, by omega⟩
        have hnb : ∀ m ∈ linesL TB (leadsF TB R), m.length = q + 1 := fun m hm => by rw [linesL_len m hm, HLB.out]; omega
        have HLTT := Lib.hid (ho4.aft (HA5'.out.trans HA6'.out))
        have HLAA := Lib.hid (hl5.aft HA6'.out)
        have HLBB := Lib.hid hl6
        have HNA := Lib.hid hna
        have HNB' := Lib.hid hnb
        have HQ := Lib.hid hq
        clear HL4 HL5 HL6 hl4 ho4 hl5 hl6 hna hnb HHY hy0 hgt hyl HA5' HA6'
        generalize linesL T (leadsF T R) = LT at *
        generalize linesL TA (leadsF TA R) = LA at *
        generalize linesL TB (leadsF TB R) = LB at *
        have HJ : Hid (∀ i, sumA k LA LB i ≤ LT.length) := Lib.hid fun i => by have := HCNT.out; have := sumA_le (k := k) (LA := LA) (LB := LB) i; omega
        have hq10 : q ≤ 10 := by omega
        have hsub : (T.legs.length : Int) - (k : Int) = q := by rw [hq]; omega
        have HSUB := Lib.hid hsub
        clear hq hsub p1 p2 p3 q0 q1 q2 q3 q4 r0 r1 r2 r3 r4 lt1 lt2 p0
        generalize W6 = Z6 at *
        (repeat (first | go_big_skip | go_big_want | go_big_move | go_big_op | go_step | go_upon | go_back))
        have HZ6 : Hid (Aft Z6 Z6) := Lib.hid (Aft.refl _)
        clear p4 lt0
        go_loopw [21, 162] (fun v i wr => ∃ i1 : Nat, i = .int .i64 i1 ∧ i1 ≤ LA.length ∧ v = .int .i64 (sumA k LA LB i1) ∧ Aft Z6 wr) (fun _ i _ => LA.length - (intOf i).toNat)
        case atStart => exact ⟨0, rfl, by omega, rfl, HZ6.out⟩
        case round =>
          obtain ⟨i1, rfl, hi1, rfl, haw⟩ := hrel
          have HAW6 := Lib.hid haw
          clear haw HZ6
          by_cases hin : i1 < LA.length
          · have hdec1 : decide ((i1 : Int) < (LA.length : Int)) = true := by simp; omega
            obtain ⟨g5, o5, e5', hg5, hc5⟩ := (HLAA.out.aft HAW6.out).at hin
            obtain ⟨Am, cm, hcell, hms⟩ := hc5 i1 hin
            have hmk := HNA.out _ (List.getElem_mem hin)
            have hkm : k < LA[i1].length := by rw [hmk]; exact Nat.lt_succ_self k
            have hgd : LA[i1].getD k 0 = LA[i1][k] := by rw [List.getD_eq_getElem?_getD, List.getElem?_eq_getElem hkm]; rfl
            obtain ⟨g1, o1, rfl, hg1, hc1'⟩ := hms.at hkm
            have cX0 := hc1' k hkm
            rw [← hgd] at cX0
            have cX : wr.cell? ⟨g1, o1 + k, none⟩ = some (.int .i64 (LA[i1].getD k 0)) := cX0
            rw [hmk] at hcell
            have cM : wr.cell? ⟨g5, o5 + i1, none⟩ = some (.slice (some ⟨g1, o1, none⟩) (k + 1) cm) := hcell
            have HSA : Hid (sumA k LA LB (i1 + 1) = sumA k LA LB i1 + joinN k LB LA[i1]) := Lib.hid (sumA_succ hin)
            have hs1 := HJ.out (i1 + 1)
            have hsa := HSA.out
            rw [hsa] at hs1
            have i1' : (0 : Int) ≤ (i1 : Int) ∧ (i1 : Int) < (LA.length : Int) := by omega
            have HCX := Lib.hid cX
            have hg1w : g1 < wr.heap.size := hg1
            have HG1 := Lib.hid hg1w
            clear hcell hc5 hms hc1' cX cX0 hgd hkm hsa hg1w hg1 hmk
            generalize LA[i1] = mm at *
            generalize sumA k LA LB i1 = s0 at *
            subst e5'
            (repeat (first | go_big_skip | go_big_want | go_big_move | go_big_op | go_step | go_upon | go_back))
            generalize wr = y1 at *
            have hcl := fun i => cntB_le (k := k) (m := mm) (LB := LB) i
            have HCL := Lib.hid hcl
            clear hcl cM
            go_loopw [21, 168] (fun v i wq => ∃ i2 : Nat, i = .int .i64 i2 ∧ i2 ≤ LB.length ∧ v = .int .i64 (s0 + cntB k mm LB i2 : Nat) ∧ Aft y1 wq) (fun _ i _ => LB.length - (intOf i).toNat)
            case atStart => exact ⟨0, rfl, by omega, by simp [cntB], Aft.refl _⟩
            case round =>
              obtain ⟨i2, rfl, hi2, rfl, haw⟩ := hrel
              have HAW7 := Lib.hid haw
              clear haw
              by_cases hin2 : i2 < LB.length
              · have hdec2 : decide ((i2 : Int) < (LB.length : Int)) = true := by simp; omega
                obtain ⟨g6, o6, e6', hg6, hc6⟩ := (HLBB.out.aft (HAW6.out.trans HAW7.out)).at hin2
                obtain ⟨An, cn, hcell, hms⟩ := hc6 i2 hin2
                have hmk := HNB'.out _ (List.getElem_mem hin2)
                have hkm : 0 < LB[i2].length := by rw [hmk]; exact Nat.succ_pos q
                have hgd : LB[i2].getD 0 0 = LB[i2][0] := by rw [List.getD_eq_getElem?_getD, List.getElem?_eq_getElem hkm]; rfl
                obtain ⟨g2, o2, rfl, hg2, hc2'⟩ := hms.at hkm
                have cY0 := hc2' 0 hkm
                rw [← hgd] at cY0
                have cY : wr.cell? ⟨g2, o2, none⟩ = some (.int .i64 (LB[i2].getD 0 0)) := cY0
                rw [hmk] at hcell
                have cN : wr.cell? ⟨g6, o6 + i2, none⟩ = some (.slice (some ⟨g2, o2, none⟩) (q + 1) cn) := hcell
                have cX : wr.cell? ⟨g1, o1 + k, none⟩ = some (.int .i64 (mm.getD k 0)) := (aft_cellC HAW7.out HG1.out).trans HCX.out
                have HCB : Hid (cntB k mm LB (i2 + 1) = cntB k mm LB i2 + (if mm.getD k 0 == LB[i2].getD 0 0 then 1 else 0)) := Lib.hid (cntB_succ hin2)
                have hcb := HCL.out i2
                have HCY := Lib.hid cY
                have HCX2 := Lib.hid cX
                have i2' : (0 : Int) ≤ (i2 : Int) ∧ (i2 : Int) < (LB.length : Int) := by omega
                have p4 : wr.cell? ⟨D, 4, none⟩ = some (.slice a4 T.legs.length c4) := (HBB.out.aft ((HZ.out.trans HAW6.out).trans HAW7.out)).cell 4
                clear hc6 hms hkm hgd hc2' cY0 cY cX hcell hg6 hg2 hmk
                generalize LB[i2] = nn at *
                generalize cntB k mm LB i2 = t0 at *
                subst e6'
                go_upto_region 30 with fail
                have hne1 : ((k : Int) + 1 != (k : Int) + 1) = false := by simp
                have hne2 : ((q : Int) + 1 != (q : Int) + 1) = false := by simp
                have hsub := HSUB.out
                go_upto_region 32 with fail
                refine region32_ptlit g1 o1 (k + 1) cm g2 o2 (q + 1) cn k (mm.getD k 0) (nn.getD 0 0) wr (Nat.lt_succ_self k) (Nat.succ_pos q) HCX2.out HCY.out _ _ _ _ _ _ _ _ _ _ _ _ _ _ _ _ _ _ _ _ _ _ _ _ _ _ _ _ _ _ _ _ _ _ _ _ _ _ _ _ _ _ _ _ _ _ _ _ _ _ _ _ _ _ _ _ _ _ _ _ _ _ _ _ _ _ _ _ _ _ _ _ _ _ _ _ _ _ _ _ _ _ _ _ _ _ _ _ _ _ _ _ _ _ _ _ _ _ _ _ _ _ _ _ _ _ _ _ _ _ _ _ _ _ _ _ _ _ _ _ _ _ _ _ _ _ _ _ _ _ _ _ _ _ _ _ _ _ _ _ _ _ _ _ _ _ _ _ _ _ _ _ _ _ _ _ _ _ _ _ _ _ _ _ _ _ _ _ _ _ _ _ _ _ _ _ _ _ _ _ _ _ _ _ _ _ _ _ _ _ _ _ _ _ _ _ _ _ _ _ _ _ _ _ _ _ _ _ _ _ _ _ _ _ _ _ _ _ _ _ _ _ _ _ _ _ _ _ _ _ _ _ _ _ _ _ _ _ ?_
                intro u188 u189 u190 u191 u192 u193 u194 u195 W' e195 eW
                subst e195 eW
                have HAW8 : Hid (Aft y1 wr.drew) := Lib.hid (HAW7.out.then_drew)
                by_cases hxy : (mm.getD k 0 == nn.getD 0 0) = true
                · have HE : Hid (cntB k mm LB (i2 + 1) = t0 + 1) := Lib.hid (by have := HCB.out; rw [if_pos hxy] at this; exact this)
                  have hb1 : t0 + 1 ≤ joinN k LB mm := by have := HCL.out (i2 + 1); rw [HE.out] at this; exact this
                  rw [hxy]
                  clear hxy HCB cN
                  (repeat (first | go_big_skip | go_big_want | go_big_move | go_big_op | go_step | go_upon | go_back))
                  exact ⟨⟨i2 + 1, by go_num, by omega, by rw [HE.out]; exact congrArg (Value.int .i64) (by omega), HAW8.out⟩, by simp [intOf]; omega⟩
                · have hxf : (mm.getD k 0 == nn.getD 0 0) = false := by simpa using hxy
                  have HE : Hid (cntB k mm LB (i2 + 1) = t0) := Lib.hid (by have := HCB.out; rw [if_neg hxy] at this; exact this)
                  rw [hxf]
                  clear hxy hxf HCB cN
                  (repeat (first | go_big_skip | go_big_want | go_big_move | go_big_op | go_step | go_upon | go_back))
                  exact ⟨⟨i2 + 1, by go_num, by omega, by rw [HE.out], HAW8.out⟩, by simp [intOf]; omega⟩
              · obtain rfl : i2 = LB.length := by omega
                have hdec2 : decide ((LB.length : Int) < (LB.length : Int)) = false := by simp
                have hall2 := cntB_all k mm LB
                rw [hall2]
                have HS' : Hid (s0 + joinN k LB mm = sumA k LA LB (i1 + 1)) := Lib.hid HSA.out.symm
                rw [HS'.out]
                have HAW8 : Hid (Aft Z6 wr) := Lib.hid (HAW6.out.trans HAW7.out)
                clear hall2
                obtain ⟨s1, hs1'⟩ : ∃ s1, sumA k LA LB (i1 + 1) = s1 := ⟨_, rfl⟩
                rw [hs1']
                have HS1' := Lib.hid hs1'
                clear hs1' HS' HSA
                (repeat (first | go_big_skip | go_big_want | go_big_move | go_big_op | go_step | go_upon | go_back))
                exact ⟨⟨i1 + 1, by go_num, by omega, by rw [HS1'.out], HAW8.out⟩, by simp [intOf]; omega⟩
          · obtain rfl : i1 = LA.length := by omega
            have hdec1 : decide ((LA.length : Int) < (LA.length : Int)) = false := by simp
            have hsA : sumA k LA LB LA.length = LT.length := by unfold sumA; rw [List.take_length]; exact HCNT.out
            rw [hsA]
            clear hsA
            have hltn : LT.length ≤ 200 := hn4
            (repeat (first | go_big_skip | go_big_want | go_big_move | go_big_op | go_step | go_upon | go_back))
            have HAW9 : Hid (Aft Z6 wr) := HAW6
            go_loopw [202] (fun i wq => ∃ i3 : Nat, i = .int .i64 i3 ∧ i3 ≤ LT.length ∧ Aft Z6 wq) (fun i _ => LT.length - (intOf i).toNat)
            case atStart => exact ⟨0, rfl, by omega, HAW9.out⟩
            case round =>
              obtain ⟨i3, rfl, hi3, haw⟩ := hrel
              have HAX9 := Lib.hid haw
              clear haw HAW9
              by_cases hin3 : i3 < LT.length
              · have hdec3 : decide ((i3 : Int) < (LT.length : Int)) = true := by simp; omega
                obtain ⟨vs, how⟩ := HLTT.out.aft HAX9.out
                have hv : i3 < vs.length := by rw [how.len]; exact hin3
                obtain ⟨hll3, hlt3, hld3⟩ := HLIN.out _ (List.getElem_mem hin3)
                obtain ⟨g4, cp4, e4'⟩ := own_form how.own (by omega)
                have hrow := how.rows i3 hin3 hv
                obtain ⟨gl, cl, el⟩ := own_form hrow (by omega)
                have hcell := (show OwnLs _ _ (.slice (some ⟨g4, 0, none⟩) LT.length cp4) vs LT from by rw [← e4']; exact how).cellAt hv
                obtain ⟨Al, cl', el', hcap, hints⟩ := own_ints hrow (by omega)
                rw [el] at el'
                cases el'
                rw [el] at hcell
                have cL : wr.cell? ⟨g4, i3, none⟩ = some (.slice (some ⟨gl, 0, none⟩) (T.legs.length + 1) cl) := by rw [← hll3]; exact hcell
                have HTK := Lib.hid hlt3
                have HDR := Lib.hid hld3
                have HII := Lib.hid hints
                have HLL := Lib.hid hll3
                rw [hll3] at hcap
                have i3' : (0 : Int) ≤ (i3 : Int) ∧ (i3 : Int) < (LT.length : Int) := by omega
                have p4 : wr.cell? ⟨D, 4, none⟩ = some (.slice a4 T.legs.length c4) := (HBB.out.aft (HZ.out.trans HAX9.out)).cell 4
                clear how hv hlt3 hld3 hrow el hcell hints hll3
                generalize LT[i3] = ll at *
                cases e4'
                have hck : ¬ cl = k := by omega
                go_upto_region 39 with fail
                have hne0 : ((T.legs.length : Int) + 1 != (T.legs.length : Int) + 1) = false := by simp
                have hk1c : k + 1 ≤ cl := by omega
                have hk2c : k ≤ T.legs.length + 1 := by omega
                have hk3c : k ≤ cl := by omega
                have hk4c : T.legs.length + 1 ≤ cl := hcap
                (repeat (first | go_big_skip | go_big_want | go_big_move | go_big_op | go_step | go_upon | go_back))
                go_at_call 28
                refine (among_any _ (some ⟨wr.heap.size, 0, none⟩) L5 [ll.take (k + 1)] LA 1 e5 (list_one (Blk.new _ _ _) (by have := HLL.out; rw [List.length_take]; omega) (rows_take (HII.out.aft (Aft.alloc _ _)) (k + 1))) (HLAA.out.aft (HAX9.out.then_alloc _))).mono ?_
                rintro e z1 ⟨rfl, ha⟩
                dsimp only
                rw [among_one HTK.out]
                have ha1 := (Aft.alloc wr (.cells #[.slice (some ⟨gl, 0, none⟩) (k + 1) cl] 24)).trans ha
                have HZ1 := Lib.hid ha1
                clear ha ha1 cL p4
                (repeat (first | go_big_skip | go_big_want | go_big_move | go_big_op | go_step | go_upon | go_back))
                go_at_call 28
                have hdr : Ints wr (some ⟨gl, k, none⟩) (ll.drop k) := by have := ints_drop HII.out k; rw [Nat.zero_add] at this; exact this
                refine (among_any _ (some ⟨z1.heap.size, 0, none⟩) L6 [ll.drop k] LB 1 e6 (list_one (Blk.new _ _ _) (by have := HLL.out; rw [List.length_drop]; omega) (hdr.aft (HZ1.out.then_alloc _))) (HLBB.out.aft ((HAX9.out.trans HZ1.out).then_alloc _))).mono ?_
                rintro e z2 ⟨rfl, ha⟩
                dsimp only
                rw [among_one HDR.out]
                have HZ2 : Hid (Aft Z6 z2) := Lib.hid (((HAX9.out.trans HZ1.out).then_alloc _).trans ha)
                clear ha hdr
                (repeat (first | go_big_skip | go_big_want | go_big_move | go_big_op | go_step | go_upon | go_back))
                exact ⟨⟨i3 + 1, by go_num, by omega, HZ2.out⟩, by simp [intOf]; omega⟩
              · obtain rfl : i3 = LT.length := by omega
                have hdec3 : decide ((LT.length : Int) < (LT.length : Int)) = false := by simp
                (repeat (first | go_big_skip | go_big_want | go_big_move | go_big_op | go_step | go_upon | go_back))
                go_at_call 9
                refine (awake_any _).mono ?_
                rintro e z ⟨rfl, ha⟩
                dsimp only
                (repeat (first | go_big_skip | go_big_want | go_big_move | go_big_op | go_step | go_upon | go_back))
                go_ret
                exact ⟨rfl, (HAWW.out.trans (HZ.out.trans HAX9.out)).trans ha⟩
      · have h4 : E4 = 0 ∨ E4 = 11 := HL4.out.imp (fun h => h.1) id
        have h5 : E5 = 0 ∨ E5 = 11 := HL5.out.imp (fun h => h.1) id
        have h6 : E6 = 0 ∨ E6 = 11 := HL6.out.imp (fun h => h.1) id
        clear HL4 HL5 HL6
        rcases h4 with rfl | rfl <;> rcases h5 with rfl | rfl <;> rcases h6 with rfl | rfl <;> first | (exfalso; exact hall ⟨rfl, rfl, rfl⟩) | skip
        all_goals
          clear hall
          (repeat (first | go_big_skip | go_big_want | go_big_move | go_big_op | go_step | go_upon | go_back))
          go_at_call 9
          refine (awake_any _).mono ?_
          rintro e z ⟨rfl, ha⟩
          dsimp only
          (repeat (first | go_big_skip | go_big_want | go_big_move | go_big_op | go_step | go_upon | go_back))
          go_ret
          exact ⟨rfl, HAWW.out.trans (HZ.out.trans ha)⟩
end Go.Proofs
end
