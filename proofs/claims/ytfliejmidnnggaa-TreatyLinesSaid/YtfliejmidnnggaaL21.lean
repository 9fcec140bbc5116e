/- Own texts, merged: Rag Rae Fou Awb Awc. -/
import Derived.Test.YtfliejmidnnggaaL20
import Derived.Lib.BufferWrite
import Derived.BigGuard
section
/- Walks: the reference's Agrees, of a right treaty and a lined line. -/
namespace Go.Proofs
open Go.RowKit
attribute [local go_sem] Oper.semAt_some

theorem brk_keeps (f : Nat → Nat → Nat → Bool) (l : List Int) (n : Nat) : (brkTo f l n).length = 0 ↔ keepsTo f l n = true := by
  unfold brkTo keepsTo
  rw [List.length_map, List.length_eq_zero_iff, List.filter_eq_nil_iff, List.all_eq_true]
  simp

/-- What Agrees of the reference answers there. -/
def AgreesX (w : World) (T : Treaty) (l : List Int) (e : Ending) (w' : World) : Prop :=
  Aft w w' ∧ (((hasB T.starts (l.getD 0 0) = false ∨ agreesF T l = none) ∧ e = .returned (.tuple #[.slice none 0 0, .int .i64 7])) ∨ (hasB T.starts (l.getD 0 0) = true ∧ ∃ R A c, agreesF T l = some R ∧ e = .returned (.tuple #[.slice A R.length c, .int .i64 0]) ∧ Ints w' A R))

set_option maxRecDepth 100000 in
set_option maxHeartbeats 8000000 in
theorem agreesRef_good (w : World) (T : Treaty) (a1 a2 a3 a4 : Option Addr) (c1 c2 c3 c4 : Nat) (l : List Int) (Al : Option Addr) (cl : Nat) (hT : TRep w T a1 a2 a3 a4) (hA : Ints w Al l) (hc : checkE T = 0) (hli : linedB T l = true) :
    Calls Try.prog 22 #[.agg #[.int .i64 T.places, .slice a1 T.ways.length c1, .slice a2 T.words.length c2, .slice a3 T.starts.length c3, .slice a4 T.legs.length c4], .slice Al l.length cl] w (AgreesX w T l) := by
  have ok := checkE_ok hc
  have HCC := Lib.hid (fun (y : World) (hy : Aft w y) => checkRef_any y T a1 a2 a3 a4 c1 c2 c3 c4 (hT.aft hy))
  rw [hc] at HCC
  have HLI := Lib.hid (fun (y : World) (hy : Aft w y) => lined70 y T a1 a2 a3 a4 c1 c2 c3 c4 l Al cl (hA.aft hy) ok.p1 ok.p2 ok.nlegs)
  rw [hli] at HLI
  have HEV := Lib.hid (fun (y : World) (hy : Aft w y) => everyRef_any y T a1 a2 a3 a4 c1 c2 c3 c4 (hT.aft hy) ok)
  have HBK := Lib.hid (fun (y : World) (hy : Aft w y) (R : List Int) (AR : Option Addr) (cR : Nat) (hR : Ints y AR R) (hro : ReadOk T R) => brokenRef_any y T a1 a2 a3 a4 c1 c2 c3 c4 R AR cR l Al cl (hT.aft hy) hR (hA.aft hy) ok hro hli)
  have HST := Lib.hid hT.starts
  have HL := Lib.hid hA
  have HOK := Lib.hid ok
  have hl0 : 0 < l.length := by have := (linedB_iff.1 hli).1; omega
  have hgd : l.getD 0 0 = l[0] := by rw [List.getD_eq_getElem?_getD, List.getElem?_eq_getElem hl0]; rfl
  have HGD := Lib.hid hgd
  have hrm := (readings_many ok).1
  clear hT hA hc hli ok hgd
  go_enter Try.func22, Try.ntmps22
  go_upto_region 1 with fail
  have hb := Blk.new w 36 #[.int .i64 T.places, .slice a1 T.ways.length c1, .slice a2 T.words.length c2, .slice a3 T.starts.length c3, .slice a4 T.legs.length c4]
  have ha := Aft.alloc w (.cells #[.int .i64 T.places, .slice a1 T.ways.length c1, .slice a2 T.words.length c2, .slice a3 T.starts.length c3, .slice a4 T.legs.length c4] 36)
  generalize w.alloc (.cells #[.int .i64 T.places, .slice a1 T.ways.length c1, .slice a2 T.words.length c2, .slice a3 T.starts.length c3, .slice a4 T.legs.length c4] 36) = X at *
  have HB := Lib.hid hb
  have HA := Lib.hid ha
  have k0 : X.cell? ⟨w.heap.size, 0, none⟩ = some (.int .i64 T.places) := hb.cell 0
  have k1 : X.cell? ⟨w.heap.size, 1, none⟩ = some (.slice a1 T.ways.length c1) := hb.cell 1
  have k2 : X.cell? ⟨w.heap.size, 2, none⟩ = some (.slice a2 T.words.length c2) := hb.cell 2
  have k3 : X.cell? ⟨w.heap.size, 3, none⟩ = some (.slice a3 T.starts.length c3) := hb.cell 3
  have k4 : X.cell? ⟨w.heap.size, 4, none⟩ = some (.slice a4 T.legs.length c4) := hb.cell 4
  have d0 : ((0 : Int) != 0) = false := by decide
  clear hb ha
  (repeat (first | go_big_skip | go_big_want | go_big_move | go_big_op | go_step | go_upon | go_back))
  go_at_call 14
  refine (HCC.out X HA.out).mono ?_
  rintro e Y ⟨rfl, haY⟩
  dsimp only
  have HAY := Lib.hid (HA.out.trans haY)
  have hBw := HB.out.aft haY
  have HBY := Lib.hid hBw
  clear k0 k1 k2 k3 k4 haY
  have k0 : Y.cell? ⟨w.heap.size, 0, none⟩ = some (.int .i64 T.places) := hBw.cell 0
  have k1 : Y.cell? ⟨w.heap.size, 1, none⟩ = some (.slice a1 T.ways.length c1) := hBw.cell 1
  have k2 : Y.cell? ⟨w.heap.size, 2, none⟩ = some (.slice a2 T.words.length c2) := hBw.cell 2
  have k3 : Y.cell? ⟨w.heap.size, 3, none⟩ = some (.slice a3 T.starts.length c3) := hBw.cell 3
  have k4 : Y.cell? ⟨w.heap.size, 4, none⟩ = some (.slice a4 T.legs.length c4) := hBw.cell 4
  clear hBw
  (repeat (first | go_big_skip | go_big_want | go_big_move | go_big_op | go_step | go_upon | go_back))
  go_at_call 70
  refine (HLI.out Y HAY.out).mono ?_
  rintro e Z ⟨rfl, haZ⟩
  dsimp only
  have HAZ := Lib.hid (HAY.out.trans haZ)
  have hBw := HBY.out.aft haZ
  have HBZ := Lib.hid hBw
  clear k0 k1 k2 k3 k4 haZ
  have k0 : Z.cell? ⟨w.heap.size, 0, none⟩ = some (.int .i64 T.places) := hBw.cell 0
  have k1 : Z.cell? ⟨w.heap.size, 1, none⟩ = some (.slice a1 T.ways.length c1) := hBw.cell 1
  have k2 : Z.cell? ⟨w.heap.size, 2, none⟩ = some (.slice a2 T.words.length c2) := hBw.cell 2
  have k3 : Z.cell? ⟨w.heap.size, 3, none⟩ = some (.slice a3 T.starts.length c3) := hBw.cell 3
  have k4 : Z.cell? ⟨w.heap.size, 4, none⟩ = some (.slice a4 T.legs.length c4) := hBw.cell 4
  clear hBw
  (repeat (first | go_big_skip | go_big_want | go_big_move | go_big_op | go_step | go_upon | go_back))
  go_at_call 75
  refine (HEV.out Z HAZ.out).mono ?_
  rintro e V ⟨v, rfl, haV, ⟨vs, hls⟩⟩
  obtain ⟨vA, vc, rfl⟩ := own_slice2 hls.own
  dsimp only
  have hLS : Lists V vA (readingsL T) := by
    obtain ⟨A, c, e, -, h⟩ := hls.lists (by omega) (fun r hr => by have := ((mem_readings HOK.out).1 hr).1; have := HOK.out.nwords; omega)
    cases e
    exact h
  have HLS := Lib.hid hLS
  have HAV := Lib.hid (HAZ.out.trans haV)
  have HBV := Lib.hid (HBZ.out.aft haV)
  clear k0 k1 k2 k3 k4 haV hls hLS
  have HX0 : Hid (Aft V V) := Lib.hid (Aft.refl _)
  generalize hN : (readingsL T).length = N at *
  have HN := Lib.hid hN
  clear hN
  (repeat (first | go_big_skip | go_big_want | go_big_move | go_big_op | go_step | go_upon | go_back))
  go_loopw [8] (fun i wr => ∃ k : Nat, i = .int .i64 k ∧ k ≤ N ∧ (∀ j, j < k → (h : j < (readingsL T).length) → (hasB T.starts (l.getD 0 0) && keepsR T l (readingsL T)[j]) = false) ∧ Aft V wr) (fun i _ => N - (intOf i).toNat)
  case atStart => exact ⟨0, rfl, by omega, fun j h => absurd h (Nat.not_lt_zero _), HX0.out⟩
  case round =>
    obtain ⟨k, rfl, hk, hall, haX⟩ := hrel
    have HAX := Lib.hid haX
    have HALL := Lib.hid hall
    have hBw := HBV.out.aft haX
    clear hall HX0 haX
    by_cases hkn : k < N
    · have hdec : decide (k < N) = true := decide_eq_true hkn
      have hkr : k < (readingsL T).length := by have := HN.out; omega
      obtain ⟨bA, oA, rfl, hbA, hcA⟩ := (HLS.out.aft HAX.out).at hkr
      obtain ⟨Ak, ck, cA, hik⟩ := hcA k hkr
      obtain ⟨bl, ol, rfl, hbl, hcl⟩ := (HL.out.aft (HAV.out.trans HAX.out)).at hl0
      have g0 : wr.cell? ⟨bl, ol, none⟩ = some (.int .i64 l[0]) := by have := hcl 0 hl0; simpa using this
      have k0 : wr.cell? ⟨w.heap.size, 0, none⟩ = some (.int .i64 T.places) := hBw.cell 0
      have k1 : wr.cell? ⟨w.heap.size, 1, none⟩ = some (.slice a1 T.ways.length c1) := hBw.cell 1
      have k2 : wr.cell? ⟨w.heap.size, 2, none⟩ = some (.slice a2 T.words.length c2) := hBw.cell 2
      have k3 : wr.cell? ⟨w.heap.size, 3, none⟩ = some (.slice a3 T.starts.length c3) := hBw.cell 3
      have k4 : wr.cell? ⟨w.heap.size, 4, none⟩ = some (.slice a4 T.legs.length c4) := hBw.cell 4
      have i1 : (0 : Int) ≤ (0 : Int) ∧ (0 : Int) < (l.length : Int) := by omega
      have i2 : (0 : Int) ≤ (k : Int) ∧ (k : Int) < (N : Int) := by omega
      have hro := (mem_readings HOK.out).1 (List.getElem_mem hkr)
      have HRO := Lib.hid hro
      have HIK := Lib.hid hik
      have CA := Lib.hid cA
      have hnx : (hasB T.starts (l.getD 0 0) && keepsR T l (readingsL T)[k]) = false → ∀ j, j < k + 1 → (h : j < (readingsL T).length) → (hasB T.starts (l.getD 0 0) && keepsR T l (readingsL T)[j]) = false := fun h j hj h1 => by
        by_cases e : j < k
        · exact HALL.out j e h1
        · have e2 : j = k := by omega
          subst e2; exact h
      have hfd : hasB T.starts (l.getD 0 0) = true → keepsR T l (readingsL T)[k] = true → agreesF T l = some (readingsL T)[k] := fun h1 h2 => by
        unfold agreesF
        rw [List.find?_eq_some_iff_getElem]
        refine ⟨h2, k, hkr, rfl, fun j hj => ?_⟩
        have := HALL.out j hj (by omega)
        rw [h1, Bool.true_and] at this
        rw [this]; rfl
      have HNX := Lib.hid hnx
      have HFD := Lib.hid hfd
      have hq0 := (has_any a3 T.starts c3 l[0] wr.drew (HST.out.aft ((HAV.out.trans HAX.out).then_drew)))
      have HBR := Lib.hid hBw
      clear hcA hcl hnx hfd hro hik hBw
      generalize (readingsL T)[k] = rk at *
      rw [HGD.out] at HNX HFD
      generalize l[0] = l0 at *
      cases hst : hasB T.starts l0 with
      | false =>
        rw [hst] at hq0 HNX
        have HQ := Lib.hid (hq0.mono (R' := fun e w'' => e = .returned (.bool false) ∧ w'' = wr.drew) fun _ _ h => h)
        have HR := Lib.hid (HNX.out (Bool.false_and _))
        have HSF := Lib.hid hst
        clear hq0 hst HNX HFD
        (repeat (first | go_big_skip | go_big_want | go_big_move | go_big_op | go_step | go_upon | go_back))
        refine wp_region_tail 13 (by kernel_rfl) (by kernel_rfl) ?_
        simp only [List.take_succ_cons, List.take_zero, List.drop_succ_cons, List.drop_zero]
        repeat (first | go_big_quiet_skip | (go_big_quiet_want; go_big_quiet_op; go_big_quiet_on))
        (go_big_quiet_want; go_big_quiet_op; refine ⟨_, HQ.out, ?_⟩; go_big_quiet_on)
        repeat (first | go_big_quiet_skip | (go_big_quiet_want; go_big_quiet_op; go_big_quiet_on))
        refine wpQuiet_nil ?_
        (repeat (first | go_big_skip | go_big_want | go_big_move | go_big_op | go_step | go_upon | go_back))
        exact ⟨⟨k + 1, by go_num, by omega, by rw [HGD.out, HSF.out]; exact HR.out, HAX.out.then_drew⟩, by simp [intOf] <;> omega⟩
      | true =>
        rw [hst] at hq0 HNX HFD
        have HQ := Lib.hid (hq0.mono (R' := fun e w'' => e = .returned (.bool true) ∧ w'' = wr.drew) fun _ _ h => h)
        have HSTT := Lib.hid hst
        clear hq0 hst
        (repeat (first | go_big_skip | go_big_want | go_big_move | go_big_op | go_step | go_upon | go_back))
        refine wp_region_tail 13 (by kernel_rfl) (by kernel_rfl) ?_
        simp only [List.take_succ_cons, List.take_zero, List.drop_succ_cons, List.drop_zero]
        repeat (first | go_big_quiet_skip | (go_big_quiet_want; go_big_quiet_op; go_big_quiet_on))
        (go_big_quiet_want; go_big_quiet_op; refine ⟨_, HQ.out, ?_⟩; go_big_quiet_on)
        repeat (first | go_big_quiet_skip | (go_big_quiet_want; go_big_quiet_op; go_big_quiet_on))
        refine wpQuiet_nil ?_
        clear k0 k1 k2 k3 k4 g0 cA
        have HAU := Lib.hid (HAX.out.then_drew)
        have HBU := Lib.hid (HBR.out.drew)
        have HIU := Lib.hid (HIK.out.aft (Aft.drew wr))
        have CU := Lib.hid (cells_aft (Aft.drew wr) CA.out)
        generalize wr.drew = u at *
        (repeat (first | go_big_skip | go_big_want | go_big_move | go_big_op | go_step | go_upon | go_back))
        go_at_call 72
        refine (HBK.out u (HAV.out.trans HAU.out) rk _ _ HIU.out HRO.out).mono ?_
        rintro e z ⟨v, rfl, haz, hown⟩
        obtain ⟨sA, sc, rfl⟩ := own_slice2 hown
        dsimp only
        have HAZ2 := Lib.hid (HAU.out.trans haz)
        have cz := cells_aft haz CU.out
        have HIZ := Lib.hid (HIU.out.aft haz)
        have hbk := brk_keeps (leadsF T rk) l T.legs.length
        clear haz hown
        generalize brkTo (leadsF T rk) l T.legs.length = bk at *
        cases hkp : keepsR T l rk with
        | true =>
          have h0 : bk.length = 0 := hbk.2 hkp
          have q1 : ((bk.length : Int) == 0) = true := by rw [h0]; rfl
          have HR := Lib.hid (HFD.out rfl hkp)
          clear hkp hbk h0
          generalize bk.length = nb at *
          (repeat (first | go_big_skip | go_big_want | go_big_move | go_big_op | go_step | go_upon | go_back))
          go_ret2
          exact ⟨HAV.out.trans HAZ2.out, .inr ⟨by rw [HGD.out]; exact HSTT.out, _, _, _, HR.out, rfl, HIZ.out⟩⟩
        | false =>
          have h0 : bk.length ≠ 0 := fun h => by have : keepsR T l rk = true := hbk.1 h; rw [hkp] at this; cases this
          have q1 : ((bk.length : Int) == 0) = false := by rw [beq_eq_false_iff_ne]; omega
          have HR := Lib.hid (HNX.out (by rw [hkp]; rfl))
          clear hkp hbk h0
          generalize bk.length = nb at *
          (repeat (first | go_big_skip | go_big_want | go_big_move | go_big_op | go_step | go_upon | go_back))
          exact ⟨⟨k + 1, by go_num, by omega, by rw [HGD.out, HSTT.out]; exact HR.out, HAZ2.out⟩, by simp [intOf] <;> omega⟩
    · have hdec : decide (k < N) = false := decide_eq_false hkn
      clear hBw
      have HF : Hid (hasB T.starts (l.getD 0 0) = false ∨ agreesF T l = none) := Lib.hid (by
        cases hs : hasB T.starts (l.getD 0 0) with
        | false => exact .inl rfl
        | true =>
          right
          unfold agreesF
          rw [List.find?_eq_none]
          intro x hx
          obtain ⟨j, hj, rfl⟩ := List.getElem_of_mem hx
          have := HALL.out j (by have := HN.out; omega) hj
          rw [hs, Bool.true_and] at this
          rw [this]; decide)
      (repeat (first | go_big_skip | go_big_want | go_big_move | go_big_op | go_step | go_upon | go_back))
      go_ret2
      exact ⟨HAV.out.trans HAX.out, .inl ⟨HF.out, rfl⟩⟩
end Go.Proofs
end

section
/- Walks: the errors of the reference's Agrees. -/
namespace Go.Proofs
open Go.RowKit

set_option maxRecDepth 100000 in
set_option maxHeartbeats 4000000 in
theorem agreesRef_bad (w : World) (T : Treaty) (a1 a2 a3 a4 : Option Addr) (c1 c2 c3 c4 : Nat) (l : List Int) (Al : Option Addr) (cl : Nat) (hT : TRep w T a1 a2 a3 a4) (hA : Ints w Al l) (h : checkE T ≠ 0 ∨ linedB T l = false) :
    Calls Try.prog 22 #[.agg #[.int .i64 T.places, .slice a1 T.ways.length c1, .slice a2 T.words.length c2, .slice a3 T.starts.length c3, .slice a4 T.legs.length c4], .slice Al l.length cl] w fun e w' => e = .returned (.tuple #[.slice none 0 0, .int .i64 (if checkE T = 0 then 2 else checkE T)]) ∧ Aft w w' := by
  have HCC := Lib.hid (fun (y : World) (hy : Aft w y) => checkRef_any y T a1 a2 a3 a4 c1 c2 c3 c4 (hT.aft hy))
  have HLI := Lib.hid (fun (y : World) (hy : Aft w y) (hc : checkE T = 0) => lined70 y T a1 a2 a3 a4 c1 c2 c3 c4 l Al cl (hA.aft hy) (checkE_ok hc).p1 (checkE_ok hc).p2 (checkE_ok hc).nlegs)
  have H := Lib.hid h
  obtain ⟨E, hE⟩ : ∃ E, (if checkE T = 0 then 2 else checkE T) = E := ⟨_, rfl⟩
  rw [hE]
  have HE := Lib.hid hE
  clear hT hA h hE
  go_enter Try.func22, Try.ntmps22
  go_upto_region 1 with fail
  have hb := Blk.new w 36 #[.int .i64 T.places, .slice a1 T.ways.length c1, .slice a2 T.words.length c2, .slice a3 T.starts.length c3, .slice a4 T.legs.length c4]
  have ha := Aft.alloc w (.cells #[.int .i64 T.places, .slice a1 T.ways.length c1, .slice a2 T.words.length c2, .slice a3 T.starts.length c3, .slice a4 T.legs.length c4] 36)
  generalize w.alloc (.cells #[.int .i64 T.places, .slice a1 T.ways.length c1, .slice a2 T.words.length c2, .slice a3 T.starts.length c3, .slice a4 T.legs.length c4] 36) = X at *
  have HB := Lib.hid hb
  have HA := Lib.hid ha
  have k0 : X.cell? ⟨w.heap.size, 0, none⟩ = some (.int .i64 T.places) := hb.cell 0
  have k1 : X.cell? ⟨w.heap.size, 1, none⟩ = some (.slice a1 T.ways.length c1) := hb.cell 1
  have k2 : X.cell? ⟨w.heap.size, 2, none⟩ = some (.slice a2 T.words.length c2) := hb.cell 2
  have k3 : X.cell? ⟨w.heap.size, 3, none⟩ = some (.slice a3 T.starts.length c3) := hb.cell 3
  have k4 : X.cell? ⟨w.heap.size, 4, none⟩ = some (.slice a4 T.legs.length c4) := hb.cell 4
  clear hb ha
  (repeat (first | go_big_skip | go_big_want | go_big_move | go_big_op | go_step | go_upon | go_back))
  go_at_call 14
  refine (HCC.out X HA.out).mono ?_
  rintro e Y ⟨rfl, haY⟩
  dsimp only
  have HAY := Lib.hid (HA.out.trans haY)
  have hBw := HB.out.aft haY
  clear k0 k1 k2 k3 k4 haY
  by_cases hc : checkE T = 0
  · have HC := Lib.hid hc
    have d0 : ((0 : Int) != 0) = false := by decide
    have k0 : Y.cell? ⟨w.heap.size, 0, none⟩ = some (.int .i64 T.places) := hBw.cell 0
    have k1 : Y.cell? ⟨w.heap.size, 1, none⟩ = some (.slice a1 T.ways.length c1) := hBw.cell 1
    have k2 : Y.cell? ⟨w.heap.size, 2, none⟩ = some (.slice a2 T.words.length c2) := hBw.cell 2
    have k3 : Y.cell? ⟨w.heap.size, 3, none⟩ = some (.slice a3 T.starts.length c3) := hBw.cell 3
    have k4 : Y.cell? ⟨w.heap.size, 4, none⟩ = some (.slice a4 T.legs.length c4) := hBw.cell 4
    have HE2 : Hid (E = 2) := Lib.hid (by have := HE.out; rw [if_pos hc] at this; exact this.symm)
    rw [hc]
    clear hBw hc
    (repeat (first | go_big_skip | go_big_want | go_big_move | go_big_op | go_step | go_upon | go_back))
    go_at_call 70
    refine (HLI.out Y HAY.out HC.out).mono ?_
    rintro e Z ⟨rfl, haZ⟩
    rw [H.out.resolve_left (fun h => h HC.out)]
    dsimp only
    have HAZ := Lib.hid (HAY.out.trans haZ)
    clear k0 k1 k2 k3 k4 haZ
    (repeat (first | go_big_skip | go_big_want | go_big_move | go_big_op | go_step | go_upon | go_back))
    go_ret2
    exact ⟨by rw [HE2.out]; rfl, HAZ.out⟩
  · have hz : (checkE T != 0) = true := by rw [bne_iff_ne]; exact hc
    have HE2 : Hid (E = checkE T) := Lib.hid (by have := HE.out; rw [if_neg hc] at this; exact this.symm)
    clear hBw hc
    generalize checkE T = ce at *
    (repeat (first | go_big_skip | go_big_want | go_big_move | go_big_op | go_step | go_upon | go_back))
    go_ret2
    exact ⟨by rw [HE2.out]; rfl, HAY.out⟩
end Go.Proofs
end

section
/- Walks: the treaty of example 1. -/
namespace Go.Proofs
open Go.RowKit

theorem rows_blk {α : Type} {R : World → α → List Value → Prop} {w : World} {b : Nat} {t : TypeId} {cs : Array Value} {sz : Nat} {l : List α} (hb : Blk w b t cs) (hl : l.length * sz ≤ 17592186043904)
    (h : ∀ i, (hi : i < l.length) → ∃ vs : List Value, vs.length = sz ∧ R w l[i] vs ∧ ∀ j, (hj : j < vs.length) → cs[i * sz + j]? = some vs[j]) : RowsP w (some ⟨b, 0, none⟩) sz R l := by
  refine ⟨hl, .inr ⟨b, 0, rfl, hb.lt, fun i hi => ?_⟩⟩
  obtain ⟨vs, h1, h2, h3⟩ := h i hi
  refine ⟨vs, h1, h2, fun j hj => ?_⟩
  rw [Nat.zero_add]
  exact (hb.cell _).trans (h3 j hj)
theorem ints_blk {w : World} {b : Nat} {t : TypeId} {l : List Int} (hb : Blk w b t (l.map (Value.int .i64)).toArray) (hl : l.length ≤ 17592186043904) : Ints w (some ⟨b, 0, none⟩) l :=
  rows_blk hb (by omega) fun i hi => ⟨[.int .i64 l[i]], rfl, rfl, fun j hj => by
    have : j = 0 := by simp at hj; omega
    subst this
    simp [hi]⟩

/-- What Four answers: the treaty; its legs in a block that can be written apart from the rest. -/
def FourR (w : World) (e : Ending) (w' : World) : Prop :=
  ∃ b1 b2 b3 L c1 c2 c3 c4, e = .returned (.agg #[.int .i64 4, .slice (some ⟨b1, 0, none⟩) 4 c1, .slice (some ⟨b2, 0, none⟩) 2 c2, .slice (some ⟨b3, 0, none⟩) 1 c3, .slice (some ⟨L, 0, none⟩) 2 c4]) ∧ Aft w w' ∧ w.heap.size ≤ L ∧
    Blk w' L 83 #[.int .i64 0, .int .i64 (-1), .int .i64 1, .int .i64 (-1)] ∧
    ∀ w'', w'.grownBy w'' (some L) → RowsP w'' (some ⟨b1, 0, none⟩) 3 WayR T4.ways ∧ RowsP w'' (some ⟨b2, 0, none⟩) 1 WordR T4.words ∧ Ints w'' (some ⟨b3, 0, none⟩) T4.starts

theorem four_final (w X : World) (hX : X = (((((((((((((w.alloc (.cells #[.int .i64 4, .slice (some ⟨w.heap.size + 1, 0, none⟩) 4 4, .slice (some ⟨w.heap.size + 1 + 1 + 1 + 1 + 1 + 1 + 1 + 1 + 1 + 1, 0, none⟩) 2 2, .slice (some ⟨w.heap.size + 1 + 1 + 1 + 1 + 1 + 1 + 1 + 1 + 1 + 1 + 1, 0, none⟩) 1 1, .slice (some ⟨w.heap.size + 1 + 1 + 1 + 1 + 1 + 1 + 1 + 1 + 1 + 1 + 1 + 1, 0, none⟩) 2 2] 27)).alloc (.cells #[.int .i64 0, .int .i64 1, .int .i64 0, .int .i64 1, .int .i64 2, .int .i64 0, .int .i64 1, .int .i64 3, .int .i64 1, .int .i64 2, .int .i64 3, .int .i64 2] 86)).alloc (.cells #[.int .i64 0] 3)).alloc (.cells #[.int .i64 1, .int .i64 2] 3)).alloc (.cells #[.int .i64 1] 3)).alloc (.cells #[.int .i64 3] 3)).alloc (.cells #[.slice (some ⟨w.heap.size + 1 + 1, 0, none⟩) 1 1, .slice (some ⟨w.heap.size + 1 + 1 + 1, 0, none⟩) 2 2, .slice (some ⟨w.heap.size + 1 + 1 + 1 + 1, 0, none⟩) 1 1, .slice (some ⟨w.heap.size + 1 + 1 + 1 + 1 + 1, 0, none⟩) 1 1] 80)).alloc (.cells #[.int .i64 1, .int .i64 2] 3)).alloc (.cells #[.int .i64 3] 3)).alloc (.cells #[.slice (some ⟨w.heap.size + 1 + 1 + 1 + 1 + 1 + 1 + 1, 0, none⟩) 2 2, .slice (some ⟨w.heap.size + 1 + 1 + 1 + 1 + 1 + 1 + 1 + 1, 0, none⟩) 1 1] 80)).alloc (.cells #[.slice (some ⟨w.heap.size + 1 + 1 + 1 + 1 + 1 + 1, 0, none⟩) 2 2, .slice (some ⟨w.heap.size + 1 + 1 + 1 + 1 + 1 + 1 + 1 + 1 + 1, 0, none⟩) 1 1] 78)).alloc (.cells #[.int .i64 0] 3)).alloc (.cells #[.int .i64 0, .int .i64 (-1), .int .i64 1, .int .i64 (-1)] 83))) : FourR w (.returned (.agg #[.int .i64 4, .slice (some ⟨w.heap.size + 1, 0, none⟩) 4 4, .slice (some ⟨w.heap.size + 1 + 1 + 1 + 1 + 1 + 1 + 1 + 1 + 1 + 1, 0, none⟩) 2 2, .slice (some ⟨w.heap.size + 1 + 1 + 1 + 1 + 1 + 1 + 1 + 1 + 1 + 1 + 1, 0, none⟩) 1 1, .slice (some ⟨w.heap.size + 1 + 1 + 1 + 1 + 1 + 1 + 1 + 1 + 1 + 1 + 1 + 1, 0, none⟩) 2 2])) X := by
  have hsz : X.heap.size = w.heap.size + 13 := by rw [hX]; simp
  have hA : Aft w X := by
    rw [hX]
    exact (((((((((((((Aft.alloc w _).then_alloc _).then_alloc _).then_alloc _).then_alloc _).then_alloc _).then_alloc _).then_alloc _).then_alloc _).then_alloc _).then_alloc _).then_alloc _).then_alloc _)
  have B1 : Blk X (w.heap.size + 1) 86 #[.int .i64 0, .int .i64 1, .int .i64 0, .int .i64 1, .int .i64 2, .int .i64 0, .int .i64 1, .int .i64 3, .int .i64 1, .int .i64 2, .int .i64 3, .int .i64 2] := by
    have h := Blk.new (w.alloc (.cells #[.int .i64 4, .slice (some ⟨w.heap.size + 1, 0, none⟩) 4 4, .slice (some ⟨w.heap.size + 1 + 1 + 1 + 1 + 1 + 1 + 1 + 1 + 1 + 1, 0, none⟩) 2 2, .slice (some ⟨w.heap.size + 1 + 1 + 1 + 1 + 1 + 1 + 1 + 1 + 1 + 1 + 1, 0, none⟩) 1 1, .slice (some ⟨w.heap.size + 1 + 1 + 1 + 1 + 1 + 1 + 1 + 1 + 1 + 1 + 1 + 1, 0, none⟩) 2 2] 27)) 86 #[.int .i64 0, .int .i64 1, .int .i64 0, .int .i64 1, .int .i64 2, .int .i64 0, .int .i64 1, .int .i64 3, .int .i64 1, .int .i64 2, .int .i64 3, .int .i64 2]
    simp only [World.size_alloc] at h
    rw [hX]
    exact (((((((((((h.alloc _).alloc _).alloc _).alloc _).alloc _).alloc _).alloc _).alloc _).alloc _).alloc _).alloc _)
  have B2 : Blk X (w.heap.size + 2) 3 #[.int .i64 0] := by
    have h := Blk.new ((w.alloc (.cells #[.int .i64 4, .slice (some ⟨w.heap.size + 1, 0, none⟩) 4 4, .slice (some ⟨w.heap.size + 1 + 1 + 1 + 1 + 1 + 1 + 1 + 1 + 1 + 1, 0, none⟩) 2 2, .slice (some ⟨w.heap.size + 1 + 1 + 1 + 1 + 1 + 1 + 1 + 1 + 1 + 1 + 1, 0, none⟩) 1 1, .slice (some ⟨w.heap.size + 1 + 1 + 1 + 1 + 1 + 1 + 1 + 1 + 1 + 1 + 1 + 1, 0, none⟩) 2 2] 27)).alloc (.cells #[.int .i64 0, .int .i64 1, .int .i64 0, .int .i64 1, .int .i64 2, .int .i64 0, .int .i64 1, .int .i64 3, .int .i64 1, .int .i64 2, .int .i64 3, .int .i64 2] 86)) 3 #[.int .i64 0]
    simp only [World.size_alloc] at h
    rw [hX]
    exact ((((((((((h.alloc _).alloc _).alloc _).alloc _).alloc _).alloc _).alloc _).alloc _).alloc _).alloc _)
  have B3 : Blk X (w.heap.size + 3) 3 #[.int .i64 1, .int .i64 2] := by
    have h := Blk.new (((w.alloc (.cells #[.int .i64 4, .slice (some ⟨w.heap.size + 1, 0, none⟩) 4 4, .slice (some ⟨w.heap.size + 1 + 1 + 1 + 1 + 1 + 1 + 1 + 1 + 1 + 1, 0, none⟩) 2 2, .slice (some ⟨w.heap.size + 1 + 1 + 1 + 1 + 1 + 1 + 1 + 1 + 1 + 1 + 1, 0, none⟩) 1 1, .slice (some ⟨w.heap.size + 1 + 1 + 1 + 1 + 1 + 1 + 1 + 1 + 1 + 1 + 1 + 1, 0, none⟩) 2 2] 27)).alloc (.cells #[.int .i64 0, .int .i64 1, .int .i64 0, .int .i64 1, .int .i64 2, .int .i64 0, .int .i64 1, .int .i64 3, .int .i64 1, .int .i64 2, .int .i64 3, .int .i64 2] 86)).alloc (.cells #[.int .i64 0] 3)) 3 #[.int .i64 1, .int .i64 2]
    simp only [World.size_alloc] at h
    rw [hX]
    exact (((((((((h.alloc _).alloc _).alloc _).alloc _).alloc _).alloc _).alloc _).alloc _).alloc _)
  have B4 : Blk X (w.heap.size + 4) 3 #[.int .i64 1] := by
    have h := Blk.new ((((w.alloc (.cells #[.int .i64 4, .slice (some ⟨w.heap.size + 1, 0, none⟩) 4 4, .slice (some ⟨w.heap.size + 1 + 1 + 1 + 1 + 1 + 1 + 1 + 1 + 1 + 1, 0, none⟩) 2 2, .slice (some ⟨w.heap.size + 1 + 1 + 1 + 1 + 1 + 1 + 1 + 1 + 1 + 1 + 1, 0, none⟩) 1 1, .slice (some ⟨w.heap.size + 1 + 1 + 1 + 1 + 1 + 1 + 1 + 1 + 1 + 1 + 1 + 1, 0, none⟩) 2 2] 27)).alloc (.cells #[.int .i64 0, .int .i64 1, .int .i64 0, .int .i64 1, .int .i64 2, .int .i64 0, .int .i64 1, .int .i64 3, .int .i64 1, .int .i64 2, .int .i64 3, .int .i64 2] 86)).alloc (.cells #[.int .i64 0] 3)).alloc (.cells #[.int .i64 1, .int .i64 2] 3)) 3 #[.int .i64 1]
    simp only [World.size_alloc] at h
    rw [hX]
    exact ((((((((h.alloc _).alloc _).alloc _).alloc _).alloc _).alloc _).alloc _).alloc _)
  have B5 : Blk X (w.heap.size + 5) 3 #[.int .i64 3] := by
    have h := Blk.new (((((w.alloc (.cells #[.int .i64 4, .slice (some ⟨w.heap.size + 1, 0, none⟩) 4 4, .slice (some ⟨w.heap.size + 1 + 1 + 1 + 1 + 1 + 1 + 1 + 1 + 1 + 1, 0, none⟩) 2 2, .slice (some ⟨w.heap.size + 1 + 1 + 1 + 1 + 1 + 1 + 1 + 1 + 1 + 1 + 1, 0, none⟩) 1 1, .slice (some ⟨w.heap.size + 1 + 1 + 1 + 1 + 1 + 1 + 1 + 1 + 1 + 1 + 1 + 1, 0, none⟩) 2 2] 27)).alloc (.cells #[.int .i64 0, .int .i64 1, .int .i64 0, .int .i64 1, .int .i64 2, .int .i64 0, .int .i64 1, .int .i64 3, .int .i64 1, .int .i64 2, .int .i64 3, .int .i64 2] 86)).alloc (.cells #[.int .i64 0] 3)).alloc (.cells #[.int .i64 1, .int .i64 2] 3)).alloc (.cells #[.int .i64 1] 3)) 3 #[.int .i64 3]
    simp only [World.size_alloc] at h
    rw [hX]
    exact (((((((h.alloc _).alloc _).alloc _).alloc _).alloc _).alloc _).alloc _)
  have B6 : Blk X (w.heap.size + 6) 80 #[.slice (some ⟨w.heap.size + 1 + 1, 0, none⟩) 1 1, .slice (some ⟨w.heap.size + 1 + 1 + 1, 0, none⟩) 2 2, .slice (some ⟨w.heap.size + 1 + 1 + 1 + 1, 0, none⟩) 1 1, .slice (some ⟨w.heap.size + 1 + 1 + 1 + 1 + 1, 0, none⟩) 1 1] := by
    have h := Blk.new ((((((w.alloc (.cells #[.int .i64 4, .slice (some ⟨w.heap.size + 1, 0, none⟩) 4 4, .slice (some ⟨w.heap.size + 1 + 1 + 1 + 1 + 1 + 1 + 1 + 1 + 1 + 1, 0, none⟩) 2 2, .slice (some ⟨w.heap.size + 1 + 1 + 1 + 1 + 1 + 1 + 1 + 1 + 1 + 1 + 1, 0, none⟩) 1 1, .slice (some ⟨w.heap.size + 1 + 1 + 1 + 1 + 1 + 1 + 1 + 1 + 1 + 1 + 1 + 1, 0, none⟩) 2 2] 27)).alloc (.cells #[.int .i64 0, .int .i64 1, .int .i64 0, .int .i64 1, .int .i64 2, .int .i64 0, .int .i64 1, .int .i64 3, .int .i64 1, .int .i64 2, .int .i64 3, .int .i64 2] 86)).alloc (.cells #[.int .i64 0] 3)).alloc (.cells #[.int .i64 1, .int .i64 2] 3)).alloc (.cells #[.int .i64 1] 3)).alloc (.cells #[.int .i64 3] 3)) 80 #[.slice (some ⟨w.heap.size + 1 + 1, 0, none⟩) 1 1, .slice (some ⟨w.heap.size + 1 + 1 + 1, 0, none⟩) 2 2, .slice (some ⟨w.heap.size + 1 + 1 + 1 + 1, 0, none⟩) 1 1, .slice (some ⟨w.heap.size + 1 + 1 + 1 + 1 + 1, 0, none⟩) 1 1]
    simp only [World.size_alloc] at h
    rw [hX]
    exact ((((((h.alloc _).alloc _).alloc _).alloc _).alloc _).alloc _)
  have B7 : Blk X (w.heap.size + 7) 3 #[.int .i64 1, .int .i64 2] := by
    have h := Blk.new (((((((w.alloc (.cells #[.int .i64 4, .slice (some ⟨w.heap.size + 1, 0, none⟩) 4 4, .slice (some ⟨w.heap.size + 1 + 1 + 1 + 1 + 1 + 1 + 1 + 1 + 1 + 1, 0, none⟩) 2 2, .slice (some ⟨w.heap.size + 1 + 1 + 1 + 1 + 1 + 1 + 1 + 1 + 1 + 1 + 1, 0, none⟩) 1 1, .slice (some ⟨w.heap.size + 1 + 1 + 1 + 1 + 1 + 1 + 1 + 1 + 1 + 1 + 1 + 1, 0, none⟩) 2 2] 27)).alloc (.cells #[.int .i64 0, .int .i64 1, .int .i64 0, .int .i64 1, .int .i64 2, .int .i64 0, .int .i64 1, .int .i64 3, .int .i64 1, .int .i64 2, .int .i64 3, .int .i64 2] 86)).alloc (.cells #[.int .i64 0] 3)).alloc (.cells #[.int .i64 1, .int .i64 2] 3)).alloc (.cells #[.int .i64 1] 3)).alloc (.cells #[.int .i64 3] 3)).alloc (.cells #[.slice (some ⟨w.heap.size + 1 + 1, 0, none⟩) 1 1, .slice (some ⟨w.heap.size + 1 + 1 + 1, 0, none⟩) 2 2, .slice (some ⟨w.heap.size + 1 + 1 + 1 + 1, 0, none⟩) 1 1, .slice (some ⟨w.heap.size + 1 + 1 + 1 + 1 + 1, 0, none⟩) 1 1] 80)) 3 #[.int .i64 1, .int .i64 2]
    simp only [World.size_alloc] at h
    rw [hX]
    exact (((((h.alloc _).alloc _).alloc _).alloc _).alloc _)
  have B8 : Blk X (w.heap.size + 8) 3 #[.int .i64 3] := by
    have h := Blk.new ((((((((w.alloc (.cells #[.int .i64 4, .slice (some ⟨w.heap.size + 1, 0, none⟩) 4 4, .slice (some ⟨w.heap.size + 1 + 1 + 1 + 1 + 1 + 1 + 1 + 1 + 1 + 1, 0, none⟩) 2 2, .slice (some ⟨w.heap.size + 1 + 1 + 1 + 1 + 1 + 1 + 1 + 1 + 1 + 1 + 1, 0, none⟩) 1 1, .slice (some ⟨w.heap.size + 1 + 1 + 1 + 1 + 1 + 1 + 1 + 1 + 1 + 1 + 1 + 1, 0, none⟩) 2 2] 27)).alloc (.cells #[.int .i64 0, .int .i64 1, .int .i64 0, .int .i64 1, .int .i64 2, .int .i64 0, .int .i64 1, .int .i64 3, .int .i64 1, .int .i64 2, .int .i64 3, .int .i64 2] 86)).alloc (.cells #[.int .i64 0] 3)).alloc (.cells #[.int .i64 1, .int .i64 2] 3)).alloc (.cells #[.int .i64 1] 3)).alloc (.cells #[.int .i64 3] 3)).alloc (.cells #[.slice (some ⟨w.heap.size + 1 + 1, 0, none⟩) 1 1, .slice (some ⟨w.heap.size + 1 + 1 + 1, 0, none⟩) 2 2, .slice (some ⟨w.heap.size + 1 + 1 + 1 + 1, 0, none⟩) 1 1, .slice (some ⟨w.heap.size + 1 + 1 + 1 + 1 + 1, 0, none⟩) 1 1] 80)).alloc (.cells #[.int .i64 1, .int .i64 2] 3)) 3 #[.int .i64 3]
    simp only [World.size_alloc] at h
    rw [hX]
    exact ((((h.alloc _).alloc _).alloc _).alloc _)
  have B9 : Blk X (w.heap.size + 9) 80 #[.slice (some ⟨w.heap.size + 1 + 1 + 1 + 1 + 1 + 1 + 1, 0, none⟩) 2 2, .slice (some ⟨w.heap.size + 1 + 1 + 1 + 1 + 1 + 1 + 1 + 1, 0, none⟩) 1 1] := by
    have h := Blk.new (((((((((w.alloc (.cells #[.int .i64 4, .slice (some ⟨w.heap.size + 1, 0, none⟩) 4 4, .slice (some ⟨w.heap.size + 1 + 1 + 1 + 1 + 1 + 1 + 1 + 1 + 1 + 1, 0, none⟩) 2 2, .slice (some ⟨w.heap.size + 1 + 1 + 1 + 1 + 1 + 1 + 1 + 1 + 1 + 1 + 1, 0, none⟩) 1 1, .slice (some ⟨w.heap.size + 1 + 1 + 1 + 1 + 1 + 1 + 1 + 1 + 1 + 1 + 1 + 1, 0, none⟩) 2 2] 27)).alloc (.cells #[.int .i64 0, .int .i64 1, .int .i64 0, .int .i64 1, .int .i64 2, .int .i64 0, .int .i64 1, .int .i64 3, .int .i64 1, .int .i64 2, .int .i64 3, .int .i64 2] 86)).alloc (.cells #[.int .i64 0] 3)).alloc (.cells #[.int .i64 1, .int .i64 2] 3)).alloc (.cells #[.int .i64 1] 3)).alloc (.cells #[.int .i64 3] 3)).alloc (.cells #[.slice (some ⟨w.heap.size + 1 + 1, 0, none⟩) 1 1, .slice (some ⟨w.heap.size + 1 + 1 + 1, 0, none⟩) 2 2, .slice (some ⟨w.heap.size + 1 + 1 + 1 + 1, 0, none⟩) 1 1, .slice (some ⟨w.heap.size + 1 + 1 + 1 + 1 + 1, 0, none⟩) 1 1] 80)).alloc (.cells #[.int .i64 1, .int .i64 2] 3)).alloc (.cells #[.int .i64 3] 3)) 80 #[.slice (some ⟨w.heap.size + 1 + 1 + 1 + 1 + 1 + 1 + 1, 0, none⟩) 2 2, .slice (some ⟨w.heap.size + 1 + 1 + 1 + 1 + 1 + 1 + 1 + 1, 0, none⟩) 1 1]
    simp only [World.size_alloc] at h
    rw [hX]
    exact (((h.alloc _).alloc _).alloc _)
  have B10 : Blk X (w.heap.size + 10) 78 #[.slice (some ⟨w.heap.size + 1 + 1 + 1 + 1 + 1 + 1, 0, none⟩) 2 2, .slice (some ⟨w.heap.size + 1 + 1 + 1 + 1 + 1 + 1 + 1 + 1 + 1, 0, none⟩) 1 1] := by
    have h := Blk.new ((((((((((w.alloc (.cells #[.int .i64 4, .slice (some ⟨w.heap.size + 1, 0, none⟩) 4 4, .slice (some ⟨w.heap.size + 1 + 1 + 1 + 1 + 1 + 1 + 1 + 1 + 1 + 1, 0, none⟩) 2 2, .slice (some ⟨w.heap.size + 1 + 1 + 1 + 1 + 1 + 1 + 1 + 1 + 1 + 1 + 1, 0, none⟩) 1 1, .slice (some ⟨w.heap.size + 1 + 1 + 1 + 1 + 1 + 1 + 1 + 1 + 1 + 1 + 1 + 1, 0, none⟩) 2 2] 27)).alloc (.cells #[.int .i64 0, .int .i64 1, .int .i64 0, .int .i64 1, .int .i64 2, .int .i64 0, .int .i64 1, .int .i64 3, .int .i64 1, .int .i64 2, .int .i64 3, .int .i64 2] 86)).alloc (.cells #[.int .i64 0] 3)).alloc (.cells #[.int .i64 1, .int .i64 2] 3)).alloc (.cells #[.int .i64 1] 3)).alloc (.cells #[.int .i64 3] 3)).alloc (.cells #[.slice (some ⟨w.heap.size + 1 + 1, 0, none⟩) 1 1, .slice (some ⟨w.heap.size + 1 + 1 + 1, 0, none⟩) 2 2, .slice (some ⟨w.heap.size + 1 + 1 + 1 + 1, 0, none⟩) 1 1, .slice (some ⟨w.heap.size + 1 + 1 + 1 + 1 + 1, 0, none⟩) 1 1] 80)).alloc (.cells #[.int .i64 1, .int .i64 2] 3)).alloc (.cells #[.int .i64 3] 3)).alloc (.cells #[.slice (some ⟨w.heap.size + 1 + 1 + 1 + 1 + 1 + 1 + 1, 0, none⟩) 2 2, .slice (some ⟨w.heap.size + 1 + 1 + 1 + 1 + 1 + 1 + 1 + 1, 0, none⟩) 1 1] 80)) 78 #[.slice (some ⟨w.heap.size + 1 + 1 + 1 + 1 + 1 + 1, 0, none⟩) 2 2, .slice (some ⟨w.heap.size + 1 + 1 + 1 + 1 + 1 + 1 + 1 + 1 + 1, 0, none⟩) 1 1]
    simp only [World.size_alloc] at h
    rw [hX]
    exact ((h.alloc _).alloc _)
  have B11 : Blk X (w.heap.size + 11) 3 #[.int .i64 0] := by
    have h := Blk.new (((((((((((w.alloc (.cells #[.int .i64 4, .slice (some ⟨w.heap.size + 1, 0, none⟩) 4 4, .slice (some ⟨w.heap.size + 1 + 1 + 1 + 1 + 1 + 1 + 1 + 1 + 1 + 1, 0, none⟩) 2 2, .slice (some ⟨w.heap.size + 1 + 1 + 1 + 1 + 1 + 1 + 1 + 1 + 1 + 1 + 1, 0, none⟩) 1 1, .slice (some ⟨w.heap.size + 1 + 1 + 1 + 1 + 1 + 1 + 1 + 1 + 1 + 1 + 1 + 1, 0, none⟩) 2 2] 27)).alloc (.cells #[.int .i64 0, .int .i64 1, .int .i64 0, .int .i64 1, .int .i64 2, .int .i64 0, .int .i64 1, .int .i64 3, .int .i64 1, .int .i64 2, .int .i64 3, .int .i64 2] 86)).alloc (.cells #[.int .i64 0] 3)).alloc (.cells #[.int .i64 1, .int .i64 2] 3)).alloc (.cells #[.int .i64 1] 3)).alloc (.cells #[.int .i64 3] 3)).alloc (.cells #[.slice (some ⟨w.heap.size + 1 + 1, 0, none⟩) 1 1, .slice (some ⟨w.heap.size + 1 + 1 + 1, 0, none⟩) 2 2, .slice (some ⟨w.heap.size + 1 + 1 + 1 + 1, 0, none⟩) 1 1, .slice (some ⟨w.heap.size + 1 + 1 + 1 + 1 + 1, 0, none⟩) 1 1] 80)).alloc (.cells #[.int .i64 1, .int .i64 2] 3)).alloc (.cells #[.int .i64 3] 3)).alloc (.cells #[.slice (some ⟨w.heap.size + 1 + 1 + 1 + 1 + 1 + 1 + 1, 0, none⟩) 2 2, .slice (some ⟨w.heap.size + 1 + 1 + 1 + 1 + 1 + 1 + 1 + 1, 0, none⟩) 1 1] 80)).alloc (.cells #[.slice (some ⟨w.heap.size + 1 + 1 + 1 + 1 + 1 + 1, 0, none⟩) 2 2, .slice (some ⟨w.heap.size + 1 + 1 + 1 + 1 + 1 + 1 + 1 + 1 + 1, 0, none⟩) 1 1] 78)) 3 #[.int .i64 0]
    simp only [World.size_alloc] at h
    rw [hX]
    exact (h.alloc _)
  have B12 : Blk X (w.heap.size + 12) 83 #[.int .i64 0, .int .i64 (-1), .int .i64 1, .int .i64 (-1)] := by
    have h := Blk.new ((((((((((((w.alloc (.cells #[.int .i64 4, .slice (some ⟨w.heap.size + 1, 0, none⟩) 4 4, .slice (some ⟨w.heap.size + 1 + 1 + 1 + 1 + 1 + 1 + 1 + 1 + 1 + 1, 0, none⟩) 2 2, .slice (some ⟨w.heap.size + 1 + 1 + 1 + 1 + 1 + 1 + 1 + 1 + 1 + 1 + 1, 0, none⟩) 1 1, .slice (some ⟨w.heap.size + 1 + 1 + 1 + 1 + 1 + 1 + 1 + 1 + 1 + 1 + 1 + 1, 0, none⟩) 2 2] 27)).alloc (.cells #[.int .i64 0, .int .i64 1, .int .i64 0, .int .i64 1, .int .i64 2, .int .i64 0, .int .i64 1, .int .i64 3, .int .i64 1, .int .i64 2, .int .i64 3, .int .i64 2] 86)).alloc (.cells #[.int .i64 0] 3)).alloc (.cells #[.int .i64 1, .int .i64 2] 3)).alloc (.cells #[.int .i64 1] 3)).alloc (.cells #[.int .i64 3] 3)).alloc (.cells #[.slice (some ⟨w.heap.size + 1 + 1, 0, none⟩) 1 1, .slice (some ⟨w.heap.size + 1 + 1 + 1, 0, none⟩) 2 2, .slice (some ⟨w.heap.size + 1 + 1 + 1 + 1, 0, none⟩) 1 1, .slice (some ⟨w.heap.size + 1 + 1 + 1 + 1 + 1, 0, none⟩) 1 1] 80)).alloc (.cells #[.int .i64 1, .int .i64 2] 3)).alloc (.cells #[.int .i64 3] 3)).alloc (.cells #[.slice (some ⟨w.heap.size + 1 + 1 + 1 + 1 + 1 + 1 + 1, 0, none⟩) 2 2, .slice (some ⟨w.heap.size + 1 + 1 + 1 + 1 + 1 + 1 + 1 + 1, 0, none⟩) 1 1] 80)).alloc (.cells #[.slice (some ⟨w.heap.size + 1 + 1 + 1 + 1 + 1 + 1, 0, none⟩) 2 2, .slice (some ⟨w.heap.size + 1 + 1 + 1 + 1 + 1 + 1 + 1 + 1 + 1, 0, none⟩) 1 1] 78)).alloc (.cells #[.int .i64 0] 3)) 83 #[.int .i64 0, .int .i64 (-1), .int .i64 1, .int .i64 (-1)]
    simp only [World.size_alloc] at h
    rw [hX]
    exact h
  clear hX
  refine ⟨w.heap.size + 1, w.heap.size + 10, w.heap.size + 11, w.heap.size + 12, _, _, _, _, rfl, hA, by omega, B12, fun w2 hg => ?_⟩
  have C1 := B1.grown hg (fun e => by injection e with e; omega)
  have C2 := B2.grown hg (fun e => by injection e with e; omega)
  have C3 := B3.grown hg (fun e => by injection e with e; omega)
  have C4 := B4.grown hg (fun e => by injection e with e; omega)
  have C5 := B5.grown hg (fun e => by injection e with e; omega)
  have C6 := B6.grown hg (fun e => by injection e with e; omega)
  have C7 := B7.grown hg (fun e => by injection e with e; omega)
  have C8 := B8.grown hg (fun e => by injection e with e; omega)
  have C9 := B9.grown hg (fun e => by injection e with e; omega)
  have C10 := B10.grown hg (fun e => by injection e with e; omega)
  have C11 := B11.grown hg (fun e => by injection e with e; omega)
  have I2 : Ints w2 (some ⟨w.heap.size + 2, 0, none⟩) [0] := ints_blk (t := 3) (by exact C2) (by decide)
  have I3 : Ints w2 (some ⟨w.heap.size + 3, 0, none⟩) [1, 2] := ints_blk (t := 3) (by exact C3) (by decide)
  have I4 : Ints w2 (some ⟨w.heap.size + 4, 0, none⟩) [1] := ints_blk (t := 3) (by exact C4) (by decide)
  have I5 : Ints w2 (some ⟨w.heap.size + 5, 0, none⟩) [3] := ints_blk (t := 3) (by exact C5) (by decide)
  have I7 : Ints w2 (some ⟨w.heap.size + 7, 0, none⟩) [1, 2] := ints_blk (t := 3) (by exact C7) (by decide)
  have I8 : Ints w2 (some ⟨w.heap.size + 8, 0, none⟩) [3] := ints_blk (t := 3) (by exact C8) (by decide)
  have M6 : RowsP w2 (some ⟨w.heap.size + 6, 0, none⟩) 2 MeanR [⟨[0], [1, 2]⟩, ⟨[1], [3]⟩] := rows_blk C6 (by decide) fun i hi => by
    match i, hi with
    | 0, _ => exact ⟨[.slice (some ⟨w.heap.size + 2, 0, none⟩) 1 1, .slice (some ⟨w.heap.size + 3, 0, none⟩) 2 2], rfl, ⟨_, 1, _, 2, rfl, I2, I3⟩, fun j hj => by match j, hj with | 0, _ => rfl | 1, _ => rfl⟩
    | 1, _ => exact ⟨[.slice (some ⟨w.heap.size + 4, 0, none⟩) 1 1, .slice (some ⟨w.heap.size + 5, 0, none⟩) 1 1], rfl, ⟨_, 1, _, 1, rfl, I4, I5⟩, fun j hj => by match j, hj with | 0, _ => rfl | 1, _ => rfl⟩
  have M9 : RowsP w2 (some ⟨w.heap.size + 9, 0, none⟩) 2 MeanR [⟨[1, 2], [3]⟩] := rows_blk C9 (by decide) fun i hi => by
    match i, hi with
    | 0, _ => exact ⟨[.slice (some ⟨w.heap.size + 7, 0, none⟩) 2 2, .slice (some ⟨w.heap.size + 8, 0, none⟩) 1 1], rfl, ⟨_, 2, _, 1, rfl, I7, I8⟩, fun j hj => by match j, hj with | 0, _ => rfl | 1, _ => rfl⟩
  refine ⟨rows_blk C1 (by decide) fun i hi => ?_, rows_blk C10 (by decide) fun i hi => ?_, ints_blk (t := 3) (by exact C11) (by decide)⟩
  · match i, hi with
    | 0, _ => exact ⟨[.int .i64 0, .int .i64 1, .int .i64 0], rfl, rfl, fun j hj => by match j, hj with | 0, _ => rfl | 1, _ => rfl | 2, _ => rfl⟩
    | 1, _ => exact ⟨[.int .i64 1, .int .i64 2, .int .i64 0], rfl, rfl, fun j hj => by match j, hj with | 0, _ => rfl | 1, _ => rfl | 2, _ => rfl⟩
    | 2, _ => exact ⟨[.int .i64 1, .int .i64 3, .int .i64 1], rfl, rfl, fun j hj => by match j, hj with | 0, _ => rfl | 1, _ => rfl | 2, _ => rfl⟩
    | 3, _ => exact ⟨[.int .i64 2, .int .i64 3, .int .i64 2], rfl, rfl, fun j hj => by match j, hj with | 0, _ => rfl | 1, _ => rfl | 2, _ => rfl⟩
  · match i, hi with
    | 0, _ => exact ⟨[.slice (some ⟨w.heap.size + 6, 0, none⟩) 2 2], rfl, ⟨_, 2, rfl, M6⟩, fun j hj => by match j, hj with | 0, _ => rfl⟩
    | 1, _ => exact ⟨[.slice (some ⟨w.heap.size + 9, 0, none⟩) 1 1], rfl, ⟨_, 1, rfl, M9⟩, fun j hj => by match j, hj with | 0, _ => rfl⟩

set_option maxRecDepth 100000 in
set_option maxHeartbeats 2000000 in
theorem four_any (w : World) : Calls Try.prog 44 #[] w (FourR w) := by
  go_enter Try.func44, Try.ntmps44
  go_wp2_with fail
  refine bodyPost_ret (v := .agg #[.int .i64 4, .slice (some ⟨w.heap.size + 1, 0, none⟩) 4 4, .slice (some ⟨w.heap.size + 1 + 1 + 1 + 1 + 1 + 1 + 1 + 1 + 1 + 1, 0, none⟩) 2 2, .slice (some ⟨w.heap.size + 1 + 1 + 1 + 1 + 1 + 1 + 1 + 1 + 1 + 1 + 1, 0, none⟩) 1 1, .slice (some ⟨w.heap.size + 1 + 1 + 1 + 1 + 1 + 1 + 1 + 1 + 1 + 1 + 1 + 1, 0, none⟩) 2 2]) (by simp [results, Try.results44, go_sem]) rfl ?_
  exact four_final w _ rfl
end Go.Proofs
end

section
/- Walks: what the program asks of itself before it holds anything: the contracts. -/
namespace Go.Proofs
open Go.RowKit

theorem al1 (w : World) (t : TypeId) (cs : Array Value) : Blk (w.alloc (.cells cs t)) w.heap.size t cs := Blk.new w t cs
theorem al2 (w : World) (x : Obj) (t : TypeId) (cs : Array Value) : Blk ((w.alloc x).alloc (.cells cs t)) (w.heap.size + 1) t cs := by
  have h := Blk.new (w.alloc x) t cs
  rwa [World.size_alloc] at h
theorem al3 (w : World) (x y : Obj) (t : TypeId) (cs : Array Value) : Blk (((w.alloc x).alloc y).alloc (.cells cs t)) (w.heap.size + 1 + 1) t cs := by
  have h := al2 (w.alloc x) y t cs
  rwa [World.size_alloc] at h
theorem al4 (w : World) (x y z : Obj) (t : TypeId) (cs : Array Value) : Blk ((((w.alloc x).alloc y).alloc z).alloc (.cells cs t)) (w.heap.size + 1 + 1 + 1) t cs := by
  have h := al3 (w.alloc x) y z t cs
  rwa [World.size_alloc] at h
theorem al5 (w : World) (x y z u : Obj) (t : TypeId) (cs : Array Value) : Blk (((((w.alloc x).alloc y).alloc z).alloc u).alloc (.cells cs t)) (w.heap.size + 1 + 1 + 1 + 1) t cs := by
  have h := al4 (w.alloc x) y z u t cs
  rwa [World.size_alloc] at h
theorem lists_blk {w : World} {b : Nat} {cs : Array Value} {l : List (List Int)} (hb : Blk w b 24 cs) (hl : l.length ≤ 17592186043904)
    (h : ∀ i, (hi : i < l.length) → ∃ A c, cs[i]? = some (.slice A l[i].length c) ∧ Ints w A l[i]) : Lists w (some ⟨b, 0, none⟩) l := by
  refine rows_blk hb (by omega) fun i hi => ?_
  obtain ⟨A, c, h1, h2⟩ := h i hi
  refine ⟨[.slice A l[i].length c], rfl, ⟨A, c, rfl, h2⟩, fun j hj => ?_⟩
  have : j = 0 := by simp at hj; omega
  subst this
  simpa using h1

section
variable {W : World} {b1 b2 b3 L c1 c2 c3 c4 : Nat}
theorem aw15 (hT : TRep W T4 (some ⟨b1, 0, none⟩) (some ⟨b2, 0, none⟩) (some ⟨b3, 0, none⟩) (some ⟨L, 0, none⟩)) {g : Nat} (hg : Blk W g 3 #[.int .i64 0, .int .i64 0]) : Calls Try.prog 15 #[.agg #[.int .i64 4, .slice (some ⟨b1, 0, none⟩) 4 c1, .slice (some ⟨b2, 0, none⟩) 2 c2, .slice (some ⟨b3, 0, none⟩) 1 c3, .slice (some ⟨L, 0, none⟩) 2 c4], .slice (some ⟨g, 0, none⟩) 2 2] W fun e w' => Aft W w' ∧ ∃ A c, e = .returned (.tuple #[.slice A 2 c, .int .i64 0]) ∧ Lists w' A [[0, 1, 3], [0, 2, 3]] := by
  refine (lines_any W T4 _ _ _ _ c1 c2 c3 c4 [0, 0] _ 2 hT (ints_blk (t := 3) (l := [0, 0]) (by exact hg) (by decide))).mono ?_
  rintro e w' ⟨ha, h | h⟩
  · exact (h.1 linesE400).elim
  · obtain ⟨_, v, rfl, hv⟩ := h
    rw [lines400] at hv
    obtain ⟨A, c, rfl, _, hl⟩ := hv.lists (by decide) (by decide)
    exact ⟨ha, A, c, rfl, hl⟩
theorem aw15b (hT : TRep W T4 (some ⟨b1, 0, none⟩) (some ⟨b2, 0, none⟩) (some ⟨b3, 0, none⟩) (some ⟨L, 0, none⟩)) {g : Nat} (hg : Blk W g 3 #[.int .i64 1, .int .i64 0]) : Calls Try.prog 15 #[.agg #[.int .i64 4, .slice (some ⟨b1, 0, none⟩) 4 c1, .slice (some ⟨b2, 0, none⟩) 2 c2, .slice (some ⟨b3, 0, none⟩) 1 c3, .slice (some ⟨L, 0, none⟩) 2 c4], .slice (some ⟨g, 0, none⟩) 2 2] W fun e w' => Aft W w' ∧ ∃ A c, e = .returned (.tuple #[.slice A 0 c, .int .i64 0]) := by
  refine (lines_any W T4 _ _ _ _ c1 c2 c3 c4 [1, 0] _ 2 hT (ints_blk (t := 3) (l := [1, 0]) (by exact hg) (by decide))).mono ?_
  rintro e w' ⟨ha, h | h⟩
  · exact (h.1 linesE410).elim
  · obtain ⟨_, v, rfl, hv⟩ := h
    rw [lines410] at hv
    obtain ⟨A, c, rfl, _, hl⟩ := hv.lists (by decide) (by decide)
    exact ⟨ha, A, c, rfl⟩
theorem aw43 (hT : TRep W T4 (some ⟨b1, 0, none⟩) (some ⟨b2, 0, none⟩) (some ⟨b3, 0, none⟩) (some ⟨L, 0, none⟩))  : Calls Try.prog 43 #[.agg #[.int .i64 4, .slice (some ⟨b1, 0, none⟩) 4 c1, .slice (some ⟨b2, 0, none⟩) 2 c2, .slice (some ⟨b3, 0, none⟩) 1 c3, .slice (some ⟨L, 0, none⟩) 2 c4]] W fun e w' => Aft W w' ∧ ∃ A c, e = .returned (.tuple #[.slice A 1 c, .int .i64 0]) ∧ Lists w' A [[0, 0]] := by
  refine (readingsX_any W T4 _ _ _ _ c1 c2 c3 c4 hT).mono ?_
  rintro e w' ⟨ha, h | h⟩
  · exact (h.1 chk4).elim
  · obtain ⟨_, v, rfl, hv⟩ := h
    rw [read4] at hv
    obtain ⟨A, c, rfl, _, hl⟩ := hv.lists (by decide) (by decide)
    exact ⟨ha, A, c, rfl, hl⟩
theorem aw45 (hT : TRep W T4 (some ⟨b1, 0, none⟩) (some ⟨b2, 0, none⟩) (some ⟨b3, 0, none⟩) (some ⟨L, 0, none⟩))  : Calls Try.prog 45 #[.agg #[.int .i64 4, .slice (some ⟨b1, 0, none⟩) 4 c1, .slice (some ⟨b2, 0, none⟩) 2 c2, .slice (some ⟨b3, 0, none⟩) 1 c3, .slice (some ⟨L, 0, none⟩) 2 c4]] W fun e w' => Aft W w' ∧ ∃ A c, e = .returned (.tuple #[.slice A 3 c, .int .i64 0]) ∧ Lists w' A [[0], [1, 2], [3]] := by
  refine (ends_good W T4 _ _ _ _ c1 c2 c3 c4 hT chk4).mono ?_
  rintro e w' ⟨ha, h | h⟩
  · exact (h.1 endsOk4).elim
  · obtain ⟨_, v, rfl, hv⟩ := h
    rw [ends4] at hv
    obtain ⟨A, c, rfl, _, hl⟩ := hv.lists (by decide) (by decide)
    exact ⟨ha, A, c, rfl, hl⟩
theorem aw21 (hT : TRep W T4 (some ⟨b1, 0, none⟩) (some ⟨b2, 0, none⟩) (some ⟨b3, 0, none⟩) (some ⟨L, 0, none⟩)) {g : Nat} (hg : Blk W g 3 #[.int .i64 0, .int .i64 1, .int .i64 3]) : Calls Try.prog 21 #[.agg #[.int .i64 4, .slice (some ⟨b1, 0, none⟩) 4 c1, .slice (some ⟨b2, 0, none⟩) 2 c2, .slice (some ⟨b3, 0, none⟩) 1 c3, .slice (some ⟨L, 0, none⟩) 2 c4], .slice (some ⟨g, 0, none⟩) 3 3] W fun e w' => Aft W w' ∧ ∃ A c, e = .returned (.tuple #[.slice A 2 c, .int .i64 0]) ∧ Ints w' A [0, 0] := by
  refine (agrees_good W T4 _ _ _ _ c1 c2 c3 c4 [0, 1, 3] _ 3 hT (ints_blk (t := 3) (l := [0, 1, 3]) (by exact hg) (by decide)) chk4 lin4 st4).mono ?_
  rintro e w' ⟨ha, h | ⟨R, v, h, rfl, hv⟩⟩
  · rw [agr4] at h; cases h.1
  · rw [agr4] at h
    cases h
    obtain ⟨A, c, rfl, _, hl⟩ := own_ints hv (by decide)
    exact ⟨ha, A, c, rfl, hl⟩
theorem aw18 (hT : TRep W T4 (some ⟨b1, 0, none⟩) (some ⟨b2, 0, none⟩) (some ⟨b3, 0, none⟩) (some ⟨L, 0, none⟩)) {g k : Nat} (hg : Blk W g 3 #[.int .i64 1, .int .i64 0]) (hk : Blk W k 3 #[.int .i64 0, .int .i64 1, .int .i64 3]) : Calls Try.prog 18 #[.agg #[.int .i64 4, .slice (some ⟨b1, 0, none⟩) 4 c1, .slice (some ⟨b2, 0, none⟩) 2 c2, .slice (some ⟨b3, 0, none⟩) 1 c3, .slice (some ⟨L, 0, none⟩) 2 c4], .slice (some ⟨g, 0, none⟩) 2 2, .slice (some ⟨k, 0, none⟩) 3 3] W fun e w' => Aft W w' ∧ ∃ A c, e = .returned (.tuple #[.slice A 1 c, .int .i64 0]) ∧ Ints w' A [0] := by
  refine (breaks_any W T4 _ _ _ _ c1 c2 c3 c4 [1, 0] _ 2 [0, 1, 3] _ 3 hT (ints_blk (t := 3) (l := [1, 0]) (by exact hg) (by decide)) (ints_blk (t := 3) (l := [0, 1, 3]) (by exact hk) (by decide))).mono ?_
  rintro e w' ⟨ha, h | h⟩
  · exact (h.1 brkE4).elim
  · obtain ⟨_, v, rfl, hv⟩ := h
    rw [brk4] at hv
    obtain ⟨A, c, rfl, _, hl⟩ := own_ints hv (by decide)
    exact ⟨ha, A, c, rfl, hl⟩
theorem aw27 (hT : TRep W T4 (some ⟨b1, 0, none⟩) (some ⟨b2, 0, none⟩) (some ⟨b3, 0, none⟩) (some ⟨L, 0, none⟩)) {g : Nat} (hg : Blk W g 3 #[.int .i64 1, .int .i64 0]) : Calls Try.prog 27 #[.agg #[.int .i64 4, .slice (some ⟨b1, 0, none⟩) 4 c1, .slice (some ⟨b2, 0, none⟩) 2 c2, .slice (some ⟨b3, 0, none⟩) 1 c3, .slice (some ⟨L, 0, none⟩) 2 c4], .slice (some ⟨g, 0, none⟩) 2 2] W fun e w' => Aft W w' ∧ ∃ A c, e = .returned (.tuple #[.slice A 1 c, .int .i64 0]) ∧ Ints w' A [0] ∧ ∀ b o, A = some ⟨b, o, none⟩ → W.heap.size ≤ b := by
  refine (yield_any W T4 _ _ _ _ c1 c2 c3 c4 [1, 0] _ 2 hT (ints_blk (t := 3) (l := [1, 0]) (by exact hg) (by decide))).mono ?_
  rintro e w' ⟨ha, h | h⟩
  · exact (h.1 rE410).elim
  · obtain ⟨_, v, rfl, hv⟩ := h
    rw [yl4] at hv
    obtain ⟨A, c, rfl, _, hl⟩ := own_ints hv (by decide)
    exact ⟨ha, A, c, rfl, hl, fun b o e => by subst e; exact (hv.lt b rfl).1⟩
theorem aw30 (hT : TRep W T4 (some ⟨b1, 0, none⟩) (some ⟨b2, 0, none⟩) (some ⟨b3, 0, none⟩) (some ⟨L, 0, none⟩)) {g k1 k2 k3 k : Nat} (hg : Blk W g 3 #[.int .i64 1, .int .i64 0]) (h1 : Blk W k1 3 #[.int .i64 0, .int .i64 3, .int .i64 3, .int .i64 3]) (h2 : Blk W k2 3 #[.int .i64 1, .int .i64 1, .int .i64 1, .int .i64 1]) (h3 : Blk W k3 3 #[.int .i64 2, .int .i64 2, .int .i64 2, .int .i64 1]) (hk : Blk W k 24 #[.slice (some ⟨k1, 0, none⟩) 4 4, .slice (some ⟨k2, 0, none⟩) 4 4, .slice (some ⟨k3, 0, none⟩) 4 4]) :
    Calls Try.prog 30 #[.agg #[.int .i64 4, .slice (some ⟨b1, 0, none⟩) 4 c1, .slice (some ⟨b2, 0, none⟩) 2 c2, .slice (some ⟨b3, 0, none⟩) 1 c3, .slice (some ⟨L, 0, none⟩) 2 c4], .slice (some ⟨g, 0, none⟩) 2 2, .slice (some ⟨k, 0, none⟩) 3 3] W fun e w' => Aft W w' ∧ e = .returned (.tuple #[.int .i64 1, .int .i64 0]) := by
  have hF : Lists W (some ⟨k, 0, none⟩) F4 := lists_blk hk (by decide) fun i hi => by
    match i, hi with
    | 0, _ => exact ⟨_, 4, rfl, ints_blk (t := 3) (l := [0, 3, 3, 3]) (by exact h1) (by decide)⟩
    | 1, _ => exact ⟨_, 4, rfl, ints_blk (t := 3) (l := [1, 1, 1, 1]) (by exact h2) (by decide)⟩
    | 2, _ => exact ⟨_, 4, rfl, ints_blk (t := 3) (l := [2, 2, 2, 1]) (by exact h3) (by decide)⟩
  refine (proves_any W T4 _ _ _ _ c1 c2 c3 c4 [1, 0] _ 2 F4 _ 3 hT (ints_blk (t := 3) (l := [1, 0]) (by exact hg) (by decide)) hF).mono ?_
  rintro e w' ⟨ha, h⟩
  rw [prN4, prE4] at h
  exact ⟨ha, h⟩
theorem aw38 (hT : TRep W T5 (some ⟨b1, 0, none⟩) (some ⟨b2, 0, none⟩) (some ⟨b3, 0, none⟩) (some ⟨L, 0, none⟩)) : Calls Try.prog 38 #[.agg #[.int .i64 4, .slice (some ⟨b1, 0, none⟩) 4 c1, .slice (some ⟨b2, 0, none⟩) 2 c2, .slice (some ⟨b3, 0, none⟩) 1 c3, .slice (some ⟨L, 0, none⟩) 2 c4]] W fun e w' => Aft W w' ∧ ∃ A c, e = .returned (.tuple #[.slice A 2 c, .int .i64 1, .int .i64 0]) ∧ Ints w' A [0, 0] := by
  refine (fewest_any W T5 _ _ _ _ c1 c2 c3 c4 hT).mono ?_
  rintro e w' ⟨ha, h | h⟩
  · exact (h.1 chk5).elim
  · obtain ⟨_, v, rfl, hv⟩ := h
    rw [few5] at hv ⊢
    obtain ⟨A, c, rfl, _, hl⟩ := own_ints hv (by decide)
    exact ⟨ha, A, c, rfl, hl⟩
theorem aw17a {A : Option Addr} {c k1 k2 k : Nat} (hA : Lists W A [[0, 1, 3], [0, 2, 3]]) (h1 : Blk W k1 3 #[.int .i64 0, .int .i64 1, .int .i64 3]) (h2 : Blk W k2 3 #[.int .i64 0, .int .i64 2, .int .i64 3]) (hk : Blk W k 24 #[.slice (some ⟨k1, 0, none⟩) 3 3, .slice (some ⟨k2, 0, none⟩) 3 3]) :
    Calls Try.prog 17 #[.slice A 2 c, .slice (some ⟨k, 0, none⟩) 2 2] W fun e w' => e = .returned (.bool true) ∧ Aft W w' :=
  equalAll_any W A _ [[0, 1, 3], [0, 2, 3]] [[0, 1, 3], [0, 2, 3]] c 2 hA (lists_blk hk (by decide) fun i hi => by
    match i, hi with
    | 0, _ => exact ⟨_, 3, rfl, ints_blk (t := 3) (l := [0, 1, 3]) (by exact h1) (by decide)⟩
    | 1, _ => exact ⟨_, 3, rfl, ints_blk (t := 3) (l := [0, 2, 3]) (by exact h2) (by decide)⟩)
theorem aw17b {A : Option Addr} {c k1 k : Nat} (hA : Lists W A [[0, 0]]) (h1 : Blk W k1 3 #[.int .i64 0, .int .i64 0]) (hk : Blk W k 24 #[.slice (some ⟨k1, 0, none⟩) 2 2]) :
    Calls Try.prog 17 #[.slice A 1 c, .slice (some ⟨k, 0, none⟩) 1 1] W fun e w' => e = .returned (.bool true) ∧ Aft W w' :=
  equalAll_any W A _ [[0, 0]] [[0, 0]] c 1 hA (lists_blk hk (by decide) fun i hi => by
    match i, hi with
    | 0, _ => exact ⟨_, 2, rfl, ints_blk (t := 3) (l := [0, 0]) (by exact h1) (by decide)⟩)
theorem aw17c {A : Option Addr} {c k1 k2 k3 k : Nat} (hA : Lists W A [[0], [1, 2], [3]]) (h1 : Blk W k1 3 #[.int .i64 0]) (h2 : Blk W k2 3 #[.int .i64 1, .int .i64 2]) (h3 : Blk W k3 3 #[.int .i64 3]) (hk : Blk W k 24 #[.slice (some ⟨k1, 0, none⟩) 1 1, .slice (some ⟨k2, 0, none⟩) 2 2, .slice (some ⟨k3, 0, none⟩) 1 1]) :
    Calls Try.prog 17 #[.slice A 3 c, .slice (some ⟨k, 0, none⟩) 3 3] W fun e w' => e = .returned (.bool true) ∧ Aft W w' :=
  equalAll_any W A _ [[0], [1, 2], [3]] [[0], [1, 2], [3]] c 3 hA (lists_blk hk (by decide) fun i hi => by
    match i, hi with
    | 0, _ => exact ⟨_, 1, rfl, ints_blk (t := 3) (l := [0]) (by exact h1) (by decide)⟩
    | 1, _ => exact ⟨_, 2, rfl, ints_blk (t := 3) (l := [1, 2]) (by exact h2) (by decide)⟩
    | 2, _ => exact ⟨_, 1, rfl, ints_blk (t := 3) (l := [3]) (by exact h3) (by decide)⟩)
end
end Go.Proofs
end

section
/- Walks: what the program asks of itself before it holds anything. -/
namespace Go.Proofs
open Go.RowKit

structure Aw (w : World) (b1 b2 b3 L c1 c2 c3 c4 D : Nat) (X : World) : Prop where
  aft : Aft w X
  base : w.heap.size ≤ L
  far : L < D
  rows : ∀ Z, X.grownBy Z (some L) → RowsP Z (some ⟨b1, 0, none⟩) 3 WayR T4.ways ∧ RowsP Z (some ⟨b2, 0, none⟩) 1 WordR T4.words ∧ Ints Z (some ⟨b3, 0, none⟩) T4.starts
  legs : Blk X L 83 #[.int .i64 0, .int .i64 (-1), .int .i64 1, .int .i64 (-1)]
  box : Blk X D 27 #[.int .i64 4, .slice (some ⟨b1, 0, none⟩) 4 c1, .slice (some ⟨b2, 0, none⟩) 2 c2, .slice (some ⟨b3, 0, none⟩) 1 c3, .slice (some ⟨L, 0, none⟩) 2 c4]
section
variable {w X Y : World} {b1 b2 b3 L c1 c2 c3 c4 D : Nat}
theorem Aw.start (h : Aft w X) (h2 : w.heap.size ≤ L) (h3 : Blk X L 83 #[.int .i64 0, .int .i64 (-1), .int .i64 1, .int .i64 (-1)]) (h4 : ∀ Z, X.grownBy Z (some L) → RowsP Z (some ⟨b1, 0, none⟩) 3 WayR T4.ways ∧ RowsP Z (some ⟨b2, 0, none⟩) 1 WordR T4.words ∧ Ints Z (some ⟨b3, 0, none⟩) T4.starts) :
    Aw w b1 b2 b3 L c1 c2 c3 c4 X.heap.size (X.alloc (.cells #[.int .i64 4, .slice (some ⟨b1, 0, none⟩) 4 c1, .slice (some ⟨b2, 0, none⟩) 2 c2, .slice (some ⟨b3, 0, none⟩) 1 c3, .slice (some ⟨L, 0, none⟩) 2 c4] 27)) :=
  ⟨h.then_alloc _, h2, h3.lt, fun Z hz => h4 Z ((only_of_aft (Aft.alloc _ _) _).trans hz), h3.alloc _, Blk.new _ _ _⟩
theorem Aw.next (h : Aw w b1 b2 b3 L c1 c2 c3 c4 D X) (ha : Aft X Y) : Aw w b1 b2 b3 L c1 c2 c3 c4 D Y := ⟨h.aft.trans ha, h.base, h.far, fun Z hz => h.rows Z ((only_of_aft ha _).trans hz), h.legs.aft ha, h.box.aft ha⟩
theorem legs_blk {l : List Leg} {b : Nat} {cs : Array Value} (hb : Blk X b 83 cs) (hl : l.length * 2 ≤ 17592186043904) (h : ∀ i, (hi : i < l.length) → cs[i * 2]? = some (.int .i64 l[i].word) ∧ cs[i * 2 + 1]? = some (.int .i64 l[i].other)) : RowsP X (some ⟨b, 0, none⟩) 2 LegR l :=
  rows_blk hb hl fun i hi => ⟨[.int .i64 l[i].word, .int .i64 l[i].other], rfl, rfl, fun j hj => by match j, hj with | 0, _ => exact (h i hi).1 | 1, _ => exact (h i hi).2⟩
theorem Aw.rep (h : Aw w b1 b2 b3 L c1 c2 c3 c4 D X) : TRep X T4 (some ⟨b1, 0, none⟩) (some ⟨b2, 0, none⟩) (some ⟨b3, 0, none⟩) (some ⟨L, 0, none⟩) :=
  ⟨(h.rows X (only_refl _ _)).1, (h.rows X (only_refl _ _)).2.1, (h.rows X (only_refl _ _)).2.2, legs_blk h.legs (by decide) fun i hi => by match i, hi with | 0, _ => exact ⟨rfl, rfl⟩ | 1, _ => exact ⟨rfl, rfl⟩⟩
theorem setc (X : World) (L i : Nat) (v : Value) : X.grownBy (X.setCell ⟨L, i, none⟩ v) (some L) := Go.Lib.grownBy_setCell X L i v
theorem Aw.rep5 (h : Aw w b1 b2 b3 L c1 c2 c3 c4 D X) : TRep (X.setCell ⟨L, 1, none⟩ (.int .i64 1)) T5 (some ⟨b1, 0, none⟩) (some ⟨b2, 0, none⟩) (some ⟨b3, 0, none⟩) (some ⟨L, 0, none⟩) :=
  ⟨(h.rows _ (setc X L 1 _)).1, (h.rows _ (setc X L 1 _)).2.1, (h.rows _ (setc X L 1 _)).2.2, legs_blk (h.legs.store 1 _) (by decide) fun i hi => by match i, hi with | 0, _ => exact ⟨rfl, rfl⟩ | 1, _ => exact ⟨rfl, rfl⟩⟩
theorem Aw.aft5 (h : Aw w b1 b2 b3 L c1 c2 c3 c4 D X) (v : Value) : Aft w (X.setCell ⟨L, 1, none⟩ v) := h.aft.then_setCell (by exact h.base) v
theorem Aw.cells (h : Blk X D 27 #[.int .i64 4, .slice (some ⟨b1, 0, none⟩) 4 c1, .slice (some ⟨b2, 0, none⟩) 2 c2, .slice (some ⟨b3, 0, none⟩) 1 c3, .slice (some ⟨L, 0, none⟩) 2 c4]) :
    X.cell? ⟨D, 0, none⟩ = some (.int .i64 4) ∧ X.cell? ⟨D, 1, none⟩ = some (.slice (some ⟨b1, 0, none⟩) 4 c1) ∧ X.cell? ⟨D, 2, none⟩ = some (.slice (some ⟨b2, 0, none⟩) 2 c2) ∧ X.cell? ⟨D, 3, none⟩ = some (.slice (some ⟨b3, 0, none⟩) 1 c3) ∧ X.cell? ⟨D, 4, none⟩ = some (.slice (some ⟨L, 0, none⟩) 2 c4) :=
  ⟨h.cell 0, h.cell 1, h.cell 2, h.cell 3, h.cell 4⟩
theorem hwL {A : Option Addr} {n : Nat} (h : L < n) (hf : ∀ b o, A = some ⟨b, o, none⟩ → n ≤ b) : ∀ b o, A = some ⟨b, o, none⟩ → some b ≠ some L := fun b o e h2 => by have := hf b o e; cases h2; omega
theorem aw20 {A A' : Option Addr} {c c' : Nat} (l : List Int) (hA : Ints X A l) (hA' : Ints X A' l) :
    Calls Try.prog 20 #[.slice A l.length c, .slice A' l.length c'] X fun e w' => e = .returned (.bool true) ∧ Aft X w' := by
  refine (kitEqual_int A A' l l c c' X hA hA').mono ?_
  rintro e w' ⟨rfl, ha⟩
  exact ⟨by simp [eqB], ha⟩
end

set_option maxRecDepth 100000 in
set_option maxHeartbeats 4000000 in
theorem awake_any (w : World) : Calls Try.prog 9 #[] w fun e w' => e = .returned (.bool true) ∧ Aft w w' := by
  go_enter Try.func9, Try.ntmps9
  go_upto_region 2 with (first
    | (go_at_call 44; refine (four_any _).mono ?_; rintro e x ⟨b1, b2, b3, L, c1, c2, c3, c4, rfl, ha1, hL, hbL, hst⟩; have HS := Lib.hid (Aw.start (c1 := c1) (c2 := c2) (c3 := c3) (c4 := c4) ha1 hL hbL hst); clear ha1 hL hbL hst))
  have hb := HS.out.box
  generalize hx2 : (x.alloc (Obj.cells #[Value.int IntKind.i64 4, Value.slice (some { block := b1, off := 0 }) 4 c1, Value.slice (some { block := b2, off := 0 }) 2 c2, Value.slice (some { block := b3, off := 0 }) 1 c3, Value.slice (some { block := L, off := 0 }) 2 c4] 27)) = x2 at *
  clear hx2
  generalize x.heap.size = D at *
  have hlt := hb.lt
  obtain ⟨k0, k1, k2, k3, k4⟩ := Aw.cells hb
  clear hb
  go_upto_region 8 with (first
    | (go_at_call 15; refine (aw15 (HS.out.next (Aft.alloc _ _)).rep (al1 _ _ _)).mono ?_; rintro e x ⟨ha, A1, d1, rfl, hl⟩; have HL1 := Lib.hid hl; clear hl; have HS := Lib.hid (HS.out.next ((Aft.alloc _ _).trans ha)); have hb := HS.out.box; clear hlt k0 k1 k2 k3 k4; have hlt := hb.lt; obtain ⟨k0, k1, k2, k3, k4⟩ := Aw.cells hb; clear hb ha)
    | (go_at_call 15; refine (aw15b (HS.out.next (Aft.alloc _ _)).rep (al1 _ _ _)).mono ?_; rintro e x ⟨ha, A2, d2, rfl⟩; have HL1 := Lib.hid (HL1.out.aft ((Aft.alloc _ _).trans ha)); have HS := Lib.hid (HS.out.next ((Aft.alloc _ _).trans ha)); have hb := HS.out.box; clear hlt k0 k1 k2 k3 k4; have hlt := hb.lt; obtain ⟨k0, k1, k2, k3, k4⟩ := Aw.cells hb; clear hb ha)
    | (go_at_call 43; refine (aw43 HS.out.rep).mono ?_; rintro e x ⟨ha, A3, d3, rfl, hl⟩; have HL3 := Lib.hid hl; clear hl;have HL1 := Lib.hid (HL1.out.aft ha); have HS := Lib.hid (HS.out.next ha); have hb := HS.out.box; clear hlt k0 k1 k2 k3 k4; have hlt := hb.lt; obtain ⟨k0, k1, k2, k3, k4⟩ := Aw.cells hb; clear hb ha)
    | (go_at_call 45; refine (aw45 HS.out.rep).mono ?_; rintro e x ⟨ha, A4, d4, rfl, hl⟩; have HL4 := Lib.hid hl; clear hl;have HL1 := Lib.hid (HL1.out.aft ha); have HL3 := Lib.hid (HL3.out.aft ha); have HS := Lib.hid (HS.out.next ha); have hb := HS.out.box; clear hlt k0 k1 k2 k3 k4; have hlt := hb.lt; obtain ⟨k0, k1, k2, k3, k4⟩ := Aw.cells hb; clear hb ha)
    | (go_at_call 21; refine (aw21 (HS.out.next (Aft.alloc _ _)).rep (al1 _ _ _)).mono ?_; rintro e x ⟨ha, A5, d5, rfl, hl⟩; have HL5 := Lib.hid hl; clear hl;have HL1 := Lib.hid (HL1.out.aft ((Aft.alloc _ _).trans ha)); have HL3 := Lib.hid (HL3.out.aft ((Aft.alloc _ _).trans ha)); have HL4 := Lib.hid (HL4.out.aft ((Aft.alloc _ _).trans ha)); have HS := Lib.hid (HS.out.next ((Aft.alloc _ _).trans ha)); have hb := HS.out.box; clear hlt k0 k1 k2 k3 k4; have hlt := hb.lt; obtain ⟨k0, k1, k2, k3, k4⟩ := Aw.cells hb; clear hb ha)
    | (go_at_call 18; refine (aw18 (HS.out.next (Aft.then_alloc (Aft.alloc _ _) _)).rep ((al1 _ _ _).alloc _) (al2 _ _ _ _)).mono ?_; rintro e x ⟨ha, A6, d6, rfl, hl⟩; have HL6 := Lib.hid hl; clear hl;have HL1 := Lib.hid (HL1.out.aft ((Aft.then_alloc (Aft.alloc _ _) _).trans ha)); have HL3 := Lib.hid (HL3.out.aft ((Aft.then_alloc (Aft.alloc _ _) _).trans ha)); have HL4 := Lib.hid (HL4.out.aft ((Aft.then_alloc (Aft.alloc _ _) _).trans ha)); have HL5 := Lib.hid (HL5.out.aft ((Aft.then_alloc (Aft.alloc _ _) _).trans ha)); have HS := Lib.hid (HS.out.next ((Aft.then_alloc (Aft.alloc _ _) _).trans ha)); have hb := HS.out.box; clear hlt k0 k1 k2 k3 k4; have hlt := hb.lt; obtain ⟨k0, k1, k2, k3, k4⟩ := Aw.cells hb; clear hb ha))
  clear hlt k0 k1 k2 k3 k4
  apply wp_region_lit
  (repeat (first | go_big_skip | go_big_want | go_big_move | go_big_op | go_step | go_upon | go_back))
  go_at_call 17
  refine (aw17a (HL1.out.aft (Aft.then_alloc (Aft.then_alloc (Aft.alloc _ _) _) _)) (((al1 _ _ _).alloc _).alloc _) ((al2 _ _ _ _).alloc _) (al3 _ _ _ _ _)).mono ?_
  rintro e x ⟨rfl, ha⟩
  dsimp only
  have HL3 := Lib.hid (HL3.out.aft ((Aft.then_alloc (Aft.then_alloc (Aft.alloc _ _) _) _).trans ha))
  have HL4 := Lib.hid (HL4.out.aft ((Aft.then_alloc (Aft.then_alloc (Aft.alloc _ _) _) _).trans ha))
  have HL5 := Lib.hid (HL5.out.aft ((Aft.then_alloc (Aft.then_alloc (Aft.alloc _ _) _) _).trans ha))
  have HL6 := Lib.hid (HL6.out.aft ((Aft.then_alloc (Aft.then_alloc (Aft.alloc _ _) _) _).trans ha))
  have HS := Lib.hid (HS.out.next ((Aft.then_alloc (Aft.then_alloc (Aft.alloc _ _) _) _).trans ha))
  clear ha
  (repeat (first | go_big_skip | go_big_want | go_big_move | go_big_op | go_step | go_upon | go_back))
  go_at_call 17
  refine (aw17b (HL3.out.aft (Aft.then_alloc (Aft.alloc _ _) _)) ((al1 _ _ _).alloc _) (al2 _ _ _ _)).mono ?_
  rintro e x ⟨rfl, ha⟩
  dsimp only
  have HL4 := Lib.hid (HL4.out.aft ((Aft.then_alloc (Aft.alloc _ _) _).trans ha))
  have HL5 := Lib.hid (HL5.out.aft ((Aft.then_alloc (Aft.alloc _ _) _).trans ha))
  have HL6 := Lib.hid (HL6.out.aft ((Aft.then_alloc (Aft.alloc _ _) _).trans ha))
  have HS := Lib.hid (HS.out.next ((Aft.then_alloc (Aft.alloc _ _) _).trans ha))
  clear ha
  (repeat (first | go_big_skip | go_big_want | go_big_move | go_big_op | go_step | go_upon | go_back))
  go_at_call 17
  refine (aw17c (HL4.out.aft (Aft.then_alloc (Aft.then_alloc (Aft.then_alloc (Aft.alloc _ _) _) _) _)) ((((al1 _ _ _).alloc _).alloc _).alloc _) (((al2 _ _ _ _).alloc _).alloc _) ((al3 _ _ _ _ _).alloc _) (al4 _ _ _ _ _ _)).mono ?_
  rintro e x ⟨rfl, ha⟩
  dsimp only
  have HL5 := Lib.hid (HL5.out.aft ((Aft.then_alloc (Aft.then_alloc (Aft.then_alloc (Aft.alloc _ _) _) _) _).trans ha))
  have HL6 := Lib.hid (HL6.out.aft ((Aft.then_alloc (Aft.then_alloc (Aft.then_alloc (Aft.alloc _ _) _) _) _).trans ha))
  have HS := Lib.hid (HS.out.next ((Aft.then_alloc (Aft.then_alloc (Aft.then_alloc (Aft.alloc _ _) _) _) _).trans ha))
  clear ha
  (repeat (first | go_big_skip | go_big_want | go_big_move | go_big_op | go_step | go_upon | go_back))
  go_at_call 20
  refine (aw20 [0, 0] (HL5.out.aft (Aft.alloc _ _)) (ints_blk (l := [0, 0]) (t := 3) (by exact (al1 _ _ _)) (by decide))).mono ?_
  rintro e x ⟨rfl, ha⟩
  dsimp only
  have HL6 := Lib.hid (HL6.out.aft ((Aft.alloc _ _).trans ha))
  have HS := Lib.hid (HS.out.next ((Aft.alloc _ _).trans ha))
  clear ha
  (repeat (first | go_big_skip | go_big_want | go_big_move | go_big_op | go_step | go_upon | go_back))
  go_at_call 20
  refine (aw20 [0] (HL6.out.aft (Aft.alloc _ _)) (ints_blk (l := [0]) (t := 3) (by exact (al1 _ _ _)) (by decide))).mono ?_
  rintro e x ⟨rfl, ha⟩
  dsimp only
  have HS := Lib.hid (HS.out.next ((Aft.alloc _ _).trans ha))
  clear ha
  have hb := HS.out.box
  have hlt := hb.lt
  obtain ⟨k0, k1, k2, k3, k4⟩ := Aw.cells hb
  clear hb
  (repeat (first | go_big_skip | go_big_want | go_big_move | go_big_op | go_step | go_upon | go_back))
  go_at_call 27
  refine (aw27 (HS.out.next (Aft.alloc _ _)).rep (al1 _ _ _)).mono ?_
  rintro e x ⟨ha, A7, d7, rfl, hl, hfar⟩
  dsimp only
  have HL7 := Lib.hid hl
  have HF7 := Lib.hid (hwL (Nat.lt_of_lt_of_le HS.out.legs.lt (Aft.alloc _ _).size) hfar)
  have HS := Lib.hid (HS.out.next ((Aft.alloc _ _).trans ha))
  clear hl hfar ha hlt k0 k1 k2 k3 k4
  have hb := HS.out.box
  have hlt := hb.lt
  obtain ⟨k0, k1, k2, k3, k4⟩ := Aw.cells hb
  clear hb
  (repeat (first | go_big_skip | go_big_want | go_big_move | go_big_op | go_step | go_upon | go_back))
  go_at_call 30
  refine (aw30 (HS.out.next (Aft.then_alloc (Aft.then_alloc (Aft.then_alloc (Aft.then_alloc (Aft.alloc _ _) _) _) _) _)).rep (((((al1 _ _ _).alloc _).alloc _).alloc _).alloc _) ((((al2 _ _ _ _).alloc _).alloc _).alloc _) (((al3 _ _ _ _ _).alloc _).alloc _) ((al4 _ _ _ _ _ _).alloc _) (al5 _ _ _ _ _ _ _)).mono ?_
  rintro e x ⟨ha, rfl⟩
  dsimp only
  have HL7 := Lib.hid (HL7.out.aft ((Aft.then_alloc (Aft.then_alloc (Aft.then_alloc (Aft.then_alloc (Aft.alloc _ _) _) _) _) _).trans ha))
  have HS := Lib.hid (HS.out.next ((Aft.then_alloc (Aft.then_alloc (Aft.then_alloc (Aft.then_alloc (Aft.alloc _ _) _) _) _) _).trans ha))
  clear ha hlt k0 k1 k2 k3 k4
  have hb := HS.out.box
  have hlt := hb.lt
  obtain ⟨k0, k1, k2, k3, k4⟩ := Aw.cells hb
  clear hb
  have hf := HS.out.legs.frozen 1
  have hc1 : x.cell? ⟨L, 1, none⟩ = some (.int .i64 (-1)) := HS.out.legs.cell 1
  have hl2 := HS.out.legs.lt
  have hn1 : ¬ L = D := by have := HS.out.far; omega
  have hn2 : ¬ D = L := fun e => hn1 e.symm
  (repeat (first | go_big_skip | go_big_want | go_big_move | go_big_op | go_step | go_upon | go_back))
  go_at_call 38
  refine (aw38 HS.out.rep5).mono ?_
  rintro e y ⟨ha, A9, d9, rfl, hl⟩
  dsimp only
  have HL9 := Lib.hid hl
  have HL7 := Lib.hid ((Go.Proofs.Ints.grown HL7.out (setc x L 1 (.int .i64 1)) HF7.out).aft ha)
  have HA := Lib.hid ((HS.out.aft5 (.int .i64 1)).trans ha)
  clear hl ha hlt k0 k1 k2 k3 k4 hf hc1 hl2 hn1 hn2
  (repeat (first | go_big_skip | go_big_want | go_big_move | go_big_op | go_step | go_upon | go_back))
  go_at_call 20
  refine (aw20 [0] (HL7.out.aft (Aft.alloc _ _)) (ints_blk (l := [0]) (t := 3) (by exact (al1 _ _ _)) (by decide))).mono ?_
  rintro e z ⟨rfl, ha⟩
  dsimp only
  have HL9 := Lib.hid (HL9.out.aft ((Aft.alloc _ _).trans ha))
  have HA := Lib.hid (HA.out.trans ((Aft.alloc _ _).trans ha))
  clear ha
  (repeat (first | go_big_skip | go_big_want | go_big_move | go_big_op | go_step | go_upon | go_back))
  go_at_call 20
  refine (aw20 [0, 0] (HL9.out.aft (Aft.alloc _ _)) (ints_blk (l := [0, 0]) (t := 3) (by exact (al1 _ _ _)) (by decide))).mono ?_
  rintro e z2 ⟨rfl, ha⟩
  dsimp only
  have HA := Lib.hid (HA.out.trans ((Aft.alloc _ _).trans ha))
  clear ha
  (repeat (first | go_big_skip | go_big_want | go_big_move | go_big_op | go_step | go_upon | go_back))
  refine bodyPost_ret (v := .bool true) (by simp [results, Try.results9, go_sem]) rfl ?_
  exact ⟨rfl, HA.out⟩
end Go.Proofs
end
