/- Own texts, merged: Rpr Rpb Rfs Lyp. -/
import Derived.Test.YtfliejmidnnggaaY21
section
/- Walks: the reference's Proves. -/
namespace Go.Proofs
open Go.RowKit
attribute [local go_sem] Oper.semAt_some

theorem minTo_one' {l : List Int} (h : 0 < l.length) : minTo l 1 = l.getD 0 0 := by
  unfold minTo
  match l, h with
  | x :: r, _ => simp
theorem minTo_succ' {l : List Int} {k : Nat} (h : k < l.length) : minTo l (k + 1) = if l.getD k 0 < minTo l k then l.getD k 0 else minTo l k := by
  unfold minTo
  rw [List.take_succ_eq_append_getElem h, List.foldl_append]
  have e : l.getD k 0 = l[k] := by rw [List.getD_eq_getElem?_getD, List.getElem?_eq_getElem h]; rfl
  rw [e]
  show min _ _ = _
  split <;> omega
theorem rows_of {F : List (List Int)} {n P : Nat} (hl : F.length = n + 1) (h : ∀ l ∈ F, (l.length : Int) = P) : ∀ i, i ≤ n → (F.getD i []).length = P := fun i hi => by
  have hi' : i < F.length := by omega
  have e : F.getD i [] = F[i] := by rw [List.getD_eq_getElem?_getD, List.getElem?_eq_getElem hi']; rfl
  rw [e]
  have := h _ (List.getElem_mem hi')
  omega
theorem cell_of {F : List (List Int)} {n P : Nat} (hl : F.length = n + 1) (h : ∀ l ∈ F, (l.length : Int) = P) (hv : ∀ l ∈ F, ∀ x ∈ l, 0 ≤ x ∧ x ≤ 11) : ∀ i j, i ≤ n → j < P → 0 ≤ cellF F i j ∧ cellF F i j ≤ 11 := fun i j hi hj => by
  have hi' : i < F.length := by omega
  have hlen := h _ (List.getElem_mem hi')
  have hj' : j < F[i].length := by omega
  rw [cellF_eq hi' hj']
  exact hv _ (List.getElem_mem hi') _ (List.getElem_mem hj')

set_option maxRecDepth 100000 in
set_option maxHeartbeats 8000000 in
theorem provesRef_good (w : World) (T : Treaty) (a1 a2 a3 a4 : Option Addr) (c1 c2 c3 c4 : Nat) (R : List Int) (AR : Option Addr) (cR : Nat) (F : List (List Int)) (AF : Option Addr) (cF : Nat) (hT : TRep w T a1 a2 a3 a4) (hR : Ints w AR R) (hF : Lists w AF F) (hz : readE T R = 0) :
    Calls Try.prog 36 #[.agg #[.int .i64 T.places, .slice a1 T.ways.length c1, .slice a2 T.words.length c2, .slice a3 T.starts.length c3, .slice a4 T.legs.length c4], .slice AR R.length cR, .slice AF F.length cF] w (ProvesR w T R F) := by
  have ok := checkE_ok (readE_zero.1 hz).1
  have HRD := Lib.hid (fun (y : World) (hy : Aft w y) => readingRef_any checkC y T a1 a2 a3 a4 c1 c2 c3 c4 R AR cR (hT.aft hy) (hR.aft hy))
  have HLG := Lib.hid (fun (y : World) (hy : Aft w y) => legsRef_any y T a1 a2 a3 a4 c1 c2 c3 c4 R AR cR (hT.aft hy) (hR.aft hy) ok (readE_zero.1 hz).2)
  have HFI := Lib.hid hF
  have HST := Lib.hid hT.starts
  have hsl := hT.starts.len
  have hfl := hF.len
  have hpe : provesE T R F = (if shapeB T F then (if valuesB F then (if zerosB T F then (if holdsB T (leadsF T R) F then 0 else 9) else 9) else 4) else 3) := by unfold provesE; rw [if_pos hz]
  have hpn : provesN T R F = if provesE T R F = 0 then minTo (F.getD T.legs.length []) (F.getD T.legs.length []).length else 0 := rfl
  unfold ProvesR
  obtain ⟨E2, hE2⟩ : ∃ E, provesE T R F = E := ⟨_, rfl⟩
  obtain ⟨N, hN⟩ : ∃ N, provesN T R F = N := ⟨_, rfl⟩
  rw [hE2, hN] at hpn
  rw [hE2] at hpe
  rw [hE2, hN]
  rw [hz] at HRD
  obtain ⟨P, hP⟩ := Int.eq_ofNat_of_zero_le (show 0 ≤ T.places from by have := ok.p1; omega)
  have hP1 : 1 ≤ P := by have := ok.p1; omega
  have hP2 : P ≤ 12 := by have := ok.p2; omega
  have hn10 := ok.nlegs
  have HSR : Hid (∀ x ∈ T.starts, ∃ n : Nat, x = n ∧ n < P) := Lib.hid fun x hx => by have := ok.starts x hx; exact ⟨x.toNat, by omega, by omega⟩
  obtain ⟨n, hn⟩ : ∃ n, T.legs.length = n := ⟨_, rfl⟩
  have hsh : shapeB T F = (decide (F.length = n + 1) && F.all fun l => (l.length : Int) == P) := by unfold shapeB; rw [hn, hP]
  have hho : holdsB T (leadsF T R) F = true ↔ ∀ i, i < n → ∀ a, a < P → ∀ b, b < P → cellF F (i + 1) b ≤ cellF F i a + brk (leadsF T R) i a b := by
    rw [holdsB_iff, hn, hP]; rfl
  have H3 : Hid (shapeB T F = false → E2 = 3 ∧ N = 0) := Lib.hid fun h => by rw [h] at hpe; have e : E2 = 3 := hpe; exact ⟨e, by rw [hpn, if_neg (by rw [e]; decide)]⟩
  have H4 : Hid (shapeB T F = true → valuesB F = false → E2 = 4 ∧ N = 0) := Lib.hid fun h1 h => by rw [h1, h] at hpe; have e : E2 = 4 := hpe; exact ⟨e, by rw [hpn, if_neg (by rw [e]; decide)]⟩
  have H9 : Hid (shapeB T F = true → valuesB F = true → zerosB T F = false → E2 = 9 ∧ N = 0) := Lib.hid fun h1 h2 h => by rw [h1, h2, h] at hpe; have e : E2 = 9 := hpe; exact ⟨e, by rw [hpn, if_neg (by rw [e]; decide)]⟩
  have H9' : Hid (shapeB T F = true → valuesB F = true → zerosB T F = true → holdsB T (leadsF T R) F = false → E2 = 9 ∧ N = 0) := Lib.hid fun h1 h2 h3 h => by rw [h1, h2, h3, h] at hpe; have e : E2 = 9 := hpe; exact ⟨e, by rw [hpn, if_neg (by rw [e]; decide)]⟩
  have H0 : Hid (shapeB T F = true → valuesB F = true → zerosB T F = true → holdsB T (leadsF T R) F = true → E2 = 0 ∧ N = minTo (F.getD n []) (F.getD n []).length) := Lib.hid fun h1 h2 h3 h => by rw [h1, h2, h3, h] at hpe; have e : E2 = 0 := hpe; exact ⟨e, by rw [hpn, if_pos e, hn]⟩
  have HSH := Lib.hid hsh
  have HHO := Lib.hid hho
  rw [hn] at HRD HLG hn10
  rw [hP] at HRD HLG
  rw [hn, hP]
  clear hT hR hF hz ok hpe hpn hE2 hN hsh hho hn hP
  go_enter Try.func36, Try.ntmps36
  go_upto_region 1 with fail
  have hb := Blk.new w 36 #[.int .i64 P, .slice a1 T.ways.length c1, .slice a2 T.words.length c2, .slice a3 T.starts.length c3, .slice a4 n c4]
  have ha := Aft.alloc w (.cells #[.int .i64 P, .slice a1 T.ways.length c1, .slice a2 T.words.length c2, .slice a3 T.starts.length c3, .slice a4 n c4] 36)
  generalize w.alloc (.cells #[.int .i64 P, .slice a1 T.ways.length c1, .slice a2 T.words.length c2, .slice a3 T.starts.length c3, .slice a4 n c4] 36) = X at *
  generalize w.heap.size = B0 at *
  have HB := Lib.hid hb
  have HA := Lib.hid ha
  obtain ⟨k0, k1, k2', k3, k4⟩ := boxC hb
  clear hb ha
  (repeat (first | go_big_skip | go_big_want | go_big_move | go_big_op | go_step | go_upon | go_back))
  go_at_call 65
  refine (HRD.out X HA.out).mono ?_
  rintro e Y ⟨rfl, haY⟩
  dsimp only
  have HAY := Lib.hid (HA.out.trans haY)
  have HB := Lib.hid (HB.out.aft haY)
  clear haY k0 k1 k2' k3 k4 HRD
  obtain ⟨k0, k1, k2', k3, k4⟩ := boxC HB.out
  by_cases hcount : F.length = n + 1
  · have hq : ((F.length : Int) != (n : Int) + 1) = false := by simp; omega
    have HCN := Lib.hid hcount
    clear hcount
    (repeat (first | go_big_skip | go_big_want | go_big_move | go_big_op | go_step | go_upon | go_back))
    clear k0 k1 k2' k3 k4 hq
    go_loopw [9] (fun i wr => ∃ k : Nat, i = .int .i64 k ∧ k ≤ F.length ∧ Aft Y wr ∧ ∀ l ∈ F.take k, (l.length : Int) = P) (fun i _ => F.length - (intOf i).toNat)
    case atStart => exact ⟨0, rfl, by omega, Aft.refl _, by simp⟩
    case round =>
      obtain ⟨k, rfl, hk, haw, hall⟩ := hrel
      have HAW := Lib.hid haw
      have HALL := Lib.hid hall
      obtain ⟨k0, k1, k2', k3, k4⟩ := boxC (HB.out.aft haw)
      clear haw hall
      by_cases hkn : k < F.length
      · have hdec : decide (k < F.length) = true := decide_eq_true hkn
        have i1 : (0 : Int) ≤ (k : Int) ∧ (k : Int) < (F.length : Int) := by omega
        obtain ⟨bF, oF, rfl, hbF, hcF⟩ := (HFI.out.aft (HAY.out.trans HAW.out)).at hkn
        obtain ⟨Ai, ci, x0, -⟩ := hcF k hkn
        have HTK := Lib.hid (List.take_succ_eq_append_getElem hkn)
        have HME := Lib.hid (List.getElem_mem hkn)
        clear hcF
        generalize F[k] = l at *
        obtain ⟨q, hq⟩ : ∃ q, l.length = q := ⟨_, rfl⟩
        have HQ := Lib.hid hq
        rw [hq] at x0
        clear hq
        by_cases hl : (q : Int) = P
        · have HL := Lib.hid hl
          have hq : ((q : Int) != (P : Int)) = false := by simp [hl]
          have HAL : Hid (∀ m ∈ F.take (k + 1), (m.length : Int) = P) := Lib.hid (by
            intro m hm
            rw [HTK.out] at hm
            rcases List.mem_append.1 hm with h | h
            · exact HALL.out m h
            · rw [List.mem_singleton] at h; subst h; rw [HQ.out]; exact hl)
          clear hl
          (repeat (first | go_big_skip | go_big_want | go_big_move | go_big_op | go_step | go_upon | go_back))
          go_quiet (fail)
          (repeat (first | go_big_skip | go_big_want | go_big_move | go_big_op | go_step | go_upon | go_back))
          exact ⟨⟨k + 1, by go_num, by omega, HAW.out.then_drewN _, HAL.out⟩, by simp [intOf]; omega⟩
        · have hq : ((q : Int) != (P : Int)) = true := by simpa using hl
          obtain ⟨rfl, rfl⟩ := H3.out (by
            rw [HSH.out, decide_eq_true HCN.out, Bool.true_and, List.all_eq_false]
            exact ⟨l, HME.out, by rw [HQ.out]; simpa using hl⟩)
          clear hl
          (repeat (first | go_big_skip | go_big_want | go_big_move | go_big_op | go_step | go_upon | go_back))
          go_quiet (fail)
          (repeat (first | go_big_skip | go_big_want | go_big_move | go_big_op | go_step | go_upon | go_back))
          go_ret2
          exact ⟨(HAY.out.trans HAW.out).then_drewN _, rfl⟩
      · have hdec : decide (k < F.length) = false := decide_eq_false hkn
        have HLEN : Hid (∀ l ∈ F, (l.length : Int) = P) := Lib.hid (by have := HALL.out; rw [List.take_of_length_le (by omega)] at this; exact this)
        have hshape : shapeB T F = true := by
          rw [HSH.out, decide_eq_true HCN.out, Bool.true_and, List.all_eq_true]
          intro l hl
          simpa using HLEN.out l hl
        have HSHT := Lib.hid hshape
        clear hshape HALL H3
        (repeat (first | go_big_skip | go_big_want | go_big_move | go_big_op | go_step | go_upon | go_back))
        clear k0 k1 k2' k3 k4
        have HAW2 := Lib.hid (HAY.out.trans HAW.out)
        have HB2 := Lib.hid (HB.out.aft HAW.out)
        clear HAY HB HAW
        generalize wr = Y2 at *
        go_loopw [10] (fun i wr => ∃ k : Nat, i = .int .i64 k ∧ k ≤ F.length ∧ wr = Y2 ∧ ∀ l ∈ F.take k, (l.all fun x => fromB x 0 11) = true) (fun i _ => F.length - (intOf i).toNat)
        case atStart => exact ⟨0, rfl, by omega, rfl, by simp⟩
        case round =>
          obtain ⟨k2, rfl, hk2, rfl, hall⟩ := hrel
          have HALL := Lib.hid hall
          clear hall
          by_cases hkn2 : k2 < F.length
          · have hdec2 : decide (k2 < F.length) = true := decide_eq_true hkn2
            have i1 : (0 : Int) ≤ (k2 : Int) ∧ (k2 : Int) < (F.length : Int) := by omega
            obtain ⟨bF, oF, rfl, hbF, hcF⟩ := (HFI.out.aft HAW2.out).at hkn2
            obtain ⟨Ai, ci, x0, hAi⟩ := hcF k2 hkn2
            have HAI := Lib.hid hAi
            have HTK := Lib.hid (List.take_succ_eq_append_getElem hkn2)
            have HME := Lib.hid (List.getElem_mem hkn2)
            clear hcF hAi
            generalize F[k2] = l at *
            (repeat (first | go_big_skip | go_big_want | go_big_move | go_big_op | go_step | go_upon | go_back))
            go_at_call 61
            refine (anyBeside_any Ai l ci 0 11 wr HAI.out).mono ?_
            rintro e Y3 ⟨rfl, rfl⟩
            dsimp only
            cases hal : (l.all fun n => fromB n 0 11) with
            | true =>
              have HAL : Hid (∀ m ∈ F.take (k2 + 1), (m.all fun x => fromB x 0 11) = true) := Lib.hid (by
                intro m hm
                rw [HTK.out] at hm
                rcases List.mem_append.1 hm with h | h
                · exact HALL.out m h
                · rw [List.mem_singleton] at h; subst h; exact hal)
              clear hal
              (repeat (first | go_big_skip | go_big_want | go_big_move | go_big_op | go_step | go_upon | go_back))
              exact ⟨⟨k2 + 1, by go_num, by omega, by trivial, HAL.out⟩, by simp [intOf]; omega⟩
            | false =>
              obtain ⟨rfl, rfl⟩ := H4.out HSHT.out (by
                unfold valuesB
                rw [List.all_eq_false]
                exact ⟨l, HME.out, by show ¬ (l.all fun x => fromB x 0 11) = true; rw [hal]; decide⟩)
              clear hal
              (repeat (first | go_big_skip | go_big_want | go_big_move | go_big_op | go_step | go_upon | go_back))
              go_ret2
              exact ⟨HAW2.out, rfl⟩
          · have hdec2 : decide (k2 < F.length) = false := decide_eq_false hkn2
            have hval : valuesB F = true := by
              have := HALL.out
              rw [List.take_of_length_le (by omega)] at this
              unfold valuesB
              rw [List.all_eq_true]
              exact this
            have HVAL := Lib.hid hval
            have HCELL : Hid (∀ i j, i ≤ n → j < P → 0 ≤ cellF F i j ∧ cellF F i j ≤ 11) := Lib.hid (cell_of HCN.out HLEN.out (fun l hl x hx => by
              have := HALL.out
              rw [List.take_of_length_le (by omega)] at this
              exact fromB_iff.1 (List.all_eq_true.1 (this l hl) x hx)))
            have HROW : Hid (∀ i, i ≤ n → (F.getD i []).length = P) := Lib.hid (rows_of HCN.out HLEN.out)
            obtain ⟨bF, oF, rfl, -, -⟩ := HFI.out.at (k := 0) (by have := HCN.out; omega)
            clear hval HALL H4
            (repeat (first | go_big_skip | go_big_want | go_big_move | go_big_op | go_step | go_upon | go_back))
            generalize wr = Y3 at *
            go_loopw [11] (fun i wr => ∃ k : Nat, i = .int .i64 k ∧ k ≤ T.starts.length ∧ Aft Y3 wr ∧ ∀ s ∈ T.starts.take k, cellF F 0 s.toNat = 0) (fun i _ => T.starts.length - (intOf i).toNat)
            case atStart => exact ⟨0, rfl, by omega, Aft.refl _, by simp⟩
            case round =>
              obtain ⟨k3', rfl, hk3, haw, hall⟩ := hrel
              have HAW := Lib.hid haw
              have HALL := Lib.hid hall
              obtain ⟨k0, k1, k2', k3, k4⟩ := boxC (HB2.out.aft haw)
              clear haw hall
              by_cases hkn3 : k3' < T.starts.length
              · have hdec3 : decide (k3' < T.starts.length) = true := decide_eq_true hkn3
                have i1 : (0 : Int) ≤ (k3' : Int) ∧ (k3' : Int) < (T.starts.length : Int) := by omega
                have i0 : (0 : Int) < (F.length : Int) := by have := HCN.out; omega
                obtain ⟨b3, o3, rfl, hb3, hc3⟩ := (HST.out.aft (HAW2.out.trans HAW.out)).at hkn3
                have x0 := hc3 k3' hkn3
                obtain ⟨s, hs, hsP⟩ := HSR.out _ (List.getElem_mem hkn3)
                rw [hs] at x0
                obtain ⟨br, or, cr, q0, -, q1⟩ := row_at (HFI.out.aft (HAW2.out.trans HAW.out)) (i := 0) (by have := HCN.out; omega) (HROW.out 0 (by omega)) hP1
                have y0 : wr.cell? ⟨bF, oF, none⟩ = some (.slice (some ⟨br, or, none⟩) P cr) := q0 bF oF rfl
                have y1 := q1 s hsP
                have i2 : (0 : Int) ≤ (s : Int) ∧ (s : Int) < (P : Int) := by omega
                have HTK : Hid (T.starts.take (k3' + 1) = T.starts.take k3' ++ [(s : Int)]) := Lib.hid (by rw [List.take_succ_eq_append_getElem hkn3, hs])
                have HME : Hid ((s : Int) ∈ T.starts) := Lib.hid (by rw [← hs]; exact List.getElem_mem hkn3)
                have hcs : cellF F 0 ((s : Int).toNat) = cellF F 0 s := rfl
                obtain ⟨v, hv⟩ : ∃ v, cellF F 0 s = v := ⟨_, rfl⟩
                rw [hv] at y1 hcs
                have HCS := Lib.hid hcs
                clear hc3 hs hv hcs q0 q1
                by_cases hz : v = 0
                · have hq : (v != 0) = false := by simp [hz]
                  have HAL : Hid (∀ m ∈ T.starts.take (k3' + 1), cellF F 0 m.toNat = 0) := Lib.hid (by
                    intro m hm
                    rw [HTK.out] at hm
                    rcases List.mem_append.1 hm with h | h
                    · exact HALL.out m h
                    · rw [List.mem_singleton] at h; subst h; rw [HCS.out]; exact hz)
                  clear hz
                  (repeat (first | go_big_skip | go_big_want | go_big_move | go_big_op | go_step | go_upon | go_back))
                  go_quiet (fail)
                  (repeat (first | go_big_skip | go_big_want | go_big_move | go_big_op | go_step | go_upon | go_back))
                  exact ⟨⟨k3' + 1, by go_num, by omega, HAW.out.then_drewN _, HAL.out⟩, by simp [intOf]; omega⟩
                · have hq : (v != 0) = true := by simpa using hz
                  obtain ⟨rfl, rfl⟩ := H9.out HSHT.out HVAL.out (by
                    unfold zerosB
                    rw [List.all_eq_false]
                    exact ⟨_, HME.out, by rw [HCS.out]; simpa using hz⟩)
                  clear hz
                  (repeat (first | go_big_skip | go_big_want | go_big_move | go_big_op | go_step | go_upon | go_back))
                  go_quiet (fail)
                  (repeat (first | go_big_skip | go_big_want | go_big_move | go_big_op | go_step | go_upon | go_back))
                  go_ret2
                  exact ⟨(HAW2.out.trans HAW.out).then_drewN _, rfl⟩
              · have hdec3 : decide (k3' < T.starts.length) = false := decide_eq_false hkn3
                have hzer : zerosB T F = true := by
                  have := HALL.out
                  rw [List.take_of_length_le (by omega)] at this
                  unfold zerosB
                  rw [List.all_eq_true]
                  intro s hs
                  simpa using this s hs
                have HZER := Lib.hid hzer
                clear hzer HALL H9
                (repeat (first | go_big_skip | go_big_want | go_big_move | go_big_op | go_step | go_upon | go_back))
                go_at_call 92
                refine (HLG.out _ (HAW2.out.trans HAW.out)).mono ?_
                rintro e Z ⟨v, rfl, haZ, hL⟩
                obtain ⟨vs, hown, -⟩ := hL.ex
                obtain ⟨vA, vc, rfl⟩ := own_slice2 hown
                dsimp only
                rw [Int.toNat_natCast] at hL
                have HL := Lib.hid hL
                have HAZ := Lib.hid ((HAW2.out.trans HAW.out).trans haZ)
                have HBZ := Lib.hid (HB2.out.aft (HAW.out.trans haZ))
                clear k0 k1 k2' k3 k4 haZ hL hown HB2 HLG HAW HAW2
                obtain ⟨k0, k1, k2', k3, k4⟩ := boxC HBZ.out
                (repeat (first | go_big_skip | go_big_want | go_big_move | go_big_op | go_step | go_upon | go_back))
                go_loopw [13] (fun i wr => ∃ i0 : Nat, i = .int .i64 i0 ∧ i0 ≤ n ∧ wr = Z ∧ ∀ i, i < i0 → ∀ a, a < P → ∀ b, b < P → cellF F (i + 1) b ≤ cellF F i a + brk (leadsF T R) i a b) (fun i _ => n - (intOf i).toNat)
                case atStart => exact ⟨0, rfl, by omega, rfl, fun i hi => absurd hi (Nat.not_lt_zero _)⟩
                case round =>
                  obtain ⟨i0, rfl, hi0, rfl, hall⟩ := hrel
                  have HALL := Lib.hid hall
                  clear hall
                  by_cases hin : i0 < n
                  · have hdec4 : decide (i0 < n) = true := decide_eq_true hin
                    have HA0 : Hid (∀ a, a < 0 → ∀ b, b < P → cellF F (i0 + 1) b ≤ cellF F i0 a + brk (leadsF T R) i0 a b) := Lib.hid fun a ha => absurd ha (Nat.not_lt_zero _)
                    (repeat (first | go_big_skip | go_big_want | go_big_move | go_big_op | go_step | go_upon | go_back))
                    go_loopw [14] (fun i wq => ∃ a0 : Nat, i = .int .i64 a0 ∧ a0 ≤ P ∧ wq = wr ∧ ∀ a, a < a0 → ∀ b, b < P → cellF F (i0 + 1) b ≤ cellF F i0 a + brk (leadsF T R) i0 a b) (fun i _ => P - (intOf i).toNat)
                    case atStart => exact ⟨0, rfl, by omega, rfl, HA0.out⟩
                    case round =>
                      obtain ⟨a0, rfl, ha0, rfl, hall⟩ := hrel
                      have HALA := Lib.hid hall
                      clear hall HA0
                      by_cases haP : a0 < P
                      · have hdec5 : decide (a0 < P) = true := decide_eq_true haP
                        have HB0 : Hid (∀ b, b < 0 → cellF F (i0 + 1) b ≤ cellF F i0 a0 + brk (leadsF T R) i0 a0 b) := Lib.hid fun a ha => absurd ha (Nat.not_lt_zero _)
                        (repeat (first | go_big_skip | go_big_want | go_big_move | go_big_op | go_step | go_upon | go_back))
                        go_loopw [15] (fun i wq => ∃ b0 : Nat, i = .int .i64 b0 ∧ b0 ≤ P ∧ wq = wr ∧ ∀ b, b < b0 → cellF F (i0 + 1) b ≤ cellF F i0 a0 + brk (leadsF T R) i0 a0 b) (fun i _ => P - (intOf i).toNat)
                        case atStart => exact ⟨0, rfl, by omega, rfl, HB0.out⟩
                        case round =>
                          obtain ⟨b0, rfl, hb0, rfl, hall⟩ := hrel
                          have HALB := Lib.hid hall
                          clear hall HB0
                          by_cases hbP : b0 < P
                          · have hdec6 : decide (b0 < P) = true := decide_eq_true hbP
                            have hFl := HCN.out
                            have i1 : (0 : Int) ≤ (i0 : Int) ∧ (i0 : Int) < (F.length : Int) := by omega
                            have i2 : (0 : Int) ≤ ((i0 + 1 : Nat) : Int) ∧ ((i0 + 1 : Nat) : Int) < (F.length : Int) := by omega
                            have i3 : (0 : Int) ≤ (a0 : Int) ∧ (a0 : Int) < (P : Int) := by omega
                            have i4 : (0 : Int) ≤ (b0 : Int) ∧ (b0 : Int) < (P : Int) := by omega
                            have i5 : (0 : Int) ≤ (i0 : Int) ∧ (i0 : Int) < (n : Int) := by omega
                            obtain ⟨br, or, cr, q0, -, q1⟩ := row_at (HFI.out.aft HAZ.out) (i := i0) (by omega) (HROW.out i0 (by omega)) hP1
                            have y0 : wr.cell? ⟨bF, oF + i0, none⟩ = some (.slice (some ⟨br, or, none⟩) P cr) := q0 bF oF rfl
                            have y1 := q1 a0 haP
                            obtain ⟨br2, or2, cr2, q2, -, q3⟩ := row_at (HFI.out.aft HAZ.out) (i := i0 + 1) (by omega) (HROW.out (i0 + 1) (by omega)) hP1
                            have y2 : wr.cell? ⟨bF, oF + (i0 + 1), none⟩ = some (.slice (some ⟨br2, or2, none⟩) P cr2) := q2 bF oF rfl
                            have y3 := q3 b0 hbP
                            obtain ⟨bv, cv, bt, ct, ev, cT, hrows⟩ := HL.out.cells hin
                            cases ev
                            obtain ⟨bl, r1, hr2⟩ := hrows a0 haP
                            have r2 := hr2 b0 hbP
                            have hv1 := HCELL.out i0 a0 (by omega) haP
                            have hv2 := HCELL.out (i0 + 1) b0 (by omega) hbP
                            have hbrk : brk (leadsF T R) i0 a0 b0 = if leadsF T R i0 a0 b0 then 0 else 1 := rfl
                            have HALB2 : Hid (cellF F (i0 + 1) b0 ≤ cellF F i0 a0 + brk (leadsF T R) i0 a0 b0 → ∀ b, b < b0 + 1 → cellF F (i0 + 1) b ≤ cellF F i0 a0 + brk (leadsF T R) i0 a0 b) := Lib.hid fun h b hb => by
                              by_cases e : b = b0
                              · rw [e]; exact h
                              · exact HALB.out b (by omega)
                            have HNO : Hid (¬ cellF F (i0 + 1) b0 ≤ cellF F i0 a0 + brk (leadsF T R) i0 a0 b0 → E2 = 9 ∧ N = 0) := Lib.hid fun h => H9'.out HSHT.out HVAL.out HZER.out (by
                              rw [Bool.eq_false_iff]
                              intro hh
                              exact h (HHO.out.1 hh i0 hin a0 haP b0 hbP))
                            clear q0 q1 q2 q3 hrows hr2
                            generalize brk (leadsF T R) i0 a0 b0 = bk at *
                            generalize cellF F i0 a0 = va at *
                            generalize cellF F (i0 + 1) b0 = vb at *
                            generalize leadsF T R i0 a0 b0 = ld at *
                            cases ld with
                            | true =>
                              have hbk : bk = 0 := hbrk
                              subst hbk
                              clear hbrk
                              by_cases hgt : va < vb
                              · have hdg : decide (va < vb) = true := decide_eq_true hgt
                                obtain ⟨rfl, rfl⟩ := HNO.out (by omega)
                                (repeat (first | go_big_skip | go_big_want | go_big_move | go_big_op | go_step | go_upon | go_back))
                                go_ret2
                                exact ⟨HAZ.out, rfl⟩
                              · have hdg : decide (va < vb) = false := decide_eq_false hgt
                                have HAL := Lib.hid (HALB2.out (by omega))
                                (repeat (first | go_big_skip | go_big_want | go_big_move | go_big_op | go_step | go_upon | go_back))
                                exact ⟨⟨b0 + 1, by go_num, by omega, by trivial, HAL.out⟩, by simp [intOf]; omega⟩
                            | false =>
                              have hbk : bk = 1 := hbrk
                              subst hbk
                              clear hbrk
                              by_cases hgt : va + 1 < vb
                              · have hdg : decide (va + 1 < vb) = true := decide_eq_true hgt
                                obtain ⟨rfl, rfl⟩ := HNO.out (by omega)
                                (repeat (first | go_big_skip | go_big_want | go_big_move | go_big_op | go_step | go_upon | go_back))
                                go_ret2
                                exact ⟨HAZ.out, rfl⟩
                              · have hdg : decide (va + 1 < vb) = false := decide_eq_false hgt
                                have HAL := Lib.hid (HALB2.out (by omega))
                                (repeat (first | go_big_skip | go_big_want | go_big_move | go_big_op | go_step | go_upon | go_back))
                                exact ⟨⟨b0 + 1, by go_num, by omega, by trivial, HAL.out⟩, by simp [intOf]; omega⟩
                          · have hdec6 : decide (b0 < P) = false := decide_eq_false hbP
                            have HAL : Hid (∀ a, a < a0 + 1 → ∀ b, b < P → cellF F (i0 + 1) b ≤ cellF F i0 a + brk (leadsF T R) i0 a b) := Lib.hid fun a ha b hb => by
                              by_cases e : a = a0
                              · rw [e]; exact HALB.out b (by omega)
                              · exact HALA.out a (by omega) b hb
                            (repeat (first | go_big_skip | go_big_want | go_big_move | go_big_op | go_step | go_upon | go_back))
                            exact ⟨⟨a0 + 1, by go_num, by omega, by trivial, HAL.out⟩, by simp [intOf]; omega⟩
                      · have hdec5 : decide (a0 < P) = false := decide_eq_false haP
                        have HAL : Hid (∀ i, i < i0 + 1 → ∀ a, a < P → ∀ b, b < P → cellF F (i + 1) b ≤ cellF F i a + brk (leadsF T R) i a b) := Lib.hid fun i hi a ha b hb => by
                          by_cases e : i = i0
                          · rw [e]; exact HALA.out a (by omega) b hb
                          · exact HALL.out i (by omega) a ha b hb
                        (repeat (first | go_big_skip | go_big_want | go_big_move | go_big_op | go_step | go_upon | go_back))
                        exact ⟨⟨i0 + 1, by go_num, by omega, by trivial, HAL.out⟩, by simp [intOf]; omega⟩
                  · have hdec4 : decide (i0 < n) = false := decide_eq_false hin
                    obtain rfl : i0 = n := by omega
                    obtain ⟨rfl, hN⟩ := H0.out HSHT.out HVAL.out HZER.out (HHO.out.2 HALL.out)
                    have HN := Lib.hid hN
                    have hFl := HCN.out
                    obtain ⟨br, or, cr, q0, -, q1⟩ := row_at (HFI.out.aft HAZ.out) (i := i0) (by omega) (HROW.out i0 (by omega)) hP1
                    have y0 : wr.cell? ⟨bF, oF + i0, none⟩ = some (.slice (some ⟨br, or, none⟩) P cr) := q0 bF oF rfl
                    have HLN : Hid ((F.getD i0 []).length = P) := Lib.hid (HROW.out i0 (by omega))
                    have HGD : Hid (∀ j, cellF F i0 j = (F.getD i0 []).getD j 0) := Lib.hid fun j => rfl
                    have HY1 : Hid (∀ j, j < P → wr.cell? ⟨br, or + j, none⟩ = some (.int .i64 ((F.getD i0 []).getD j 0))) := Lib.hid q1
                    clear hN q0 q1
                    generalize F.getD i0 [] = last at *
                    have hY0 := HY1.out 0 (by omega)
                    have hm1 := minTo_one' (l := last) (by rw [HLN.out]; omega)
                    have i1 : (0 : Int) ≤ (i0 : Int) ∧ (i0 : Int) < (F.length : Int) := by omega
                    have i2 : (0 : Int) < (P : Int) := by omega
                    rw [← hm1] at hY0
                    have HM1 : Hid (minTo last 1 = minTo last 1) := Lib.hid rfl
                    clear hm1
                    obtain ⟨m1, hm1⟩ : ∃ m, minTo last 1 = m := ⟨_, rfl⟩
                    rw [hm1] at hY0
                    have HM1 := Lib.hid hm1
                    rw [Nat.add_zero] at hY0
                    clear hm1
                    (repeat (first | go_big_skip | go_big_want | go_big_move | go_big_op | go_step | go_upon | go_back))
                    generalize wr = y at *
                    clear hY0
                    go_loopw [17, 18] (fun v i wr => ∃ k : Nat, ∃ m : Int, i = .int .i64 k ∧ v = .int .i64 m ∧ 1 ≤ k ∧ k ≤ P ∧ wr = y ∧ minTo last k = m) (fun _ i _ => P - (intOf i).toNat)
                    case atStart => exact ⟨1, m1, rfl, rfl, by omega, by omega, rfl, HM1.out⟩
                    case round =>
                      obtain ⟨k5, m, rfl, rfl, hk5, hk5P, rfl, hm⟩ := hrel
                      have HM := Lib.hid hm
                      clear hm
                      by_cases hkP : k5 < P
                      · have hdec5 : decide (k5 < P) = true := decide_eq_true hkP
                        have y1 := HY1.out k5 hkP
                        have HMS : Hid (minTo last (k5 + 1) = if last.getD k5 0 < m then last.getD k5 0 else m) := Lib.hid (by rw [minTo_succ' (by rw [HLN.out]; exact hkP), HM.out])
                        have i3 : (0 : Int) ≤ (k5 : Int) ∧ (k5 : Int) < (P : Int) := by omega
                        generalize last.getD k5 0 = v at *
                        by_cases hlt : v < m
                        · have hdl : decide (v < m) = true := decide_eq_true hlt
                          have HM' : Hid (minTo last (k5 + 1) = v) := Lib.hid (by rw [HMS.out, if_pos hlt])
                          (repeat (first | go_big_skip | go_big_want | go_big_move | go_big_op | go_step | go_upon | go_back))
                          exact ⟨⟨k5 + 1, v, by go_num, rfl, by omega, by omega, by trivial, HM'.out⟩, by simp [intOf]; omega⟩
                        · have hdl : decide (v < m) = false := decide_eq_false hlt
                          have HM' : Hid (minTo last (k5 + 1) = m) := Lib.hid (by rw [HMS.out, if_neg hlt])
                          (repeat (first | go_big_skip | go_big_want | go_big_move | go_big_op | go_step | go_upon | go_back))
                          exact ⟨⟨k5 + 1, m, by go_num, rfl, by omega, by omega, by trivial, HM'.out⟩, by simp [intOf]; omega⟩
                      · have hdec5 : decide (k5 < P) = false := decide_eq_false hkP
                        have hN2 : N = m := by rw [HN.out, HLN.out, ← HM.out]; congr 1; omega
                        subst hN2
                        (repeat (first | go_big_skip | go_big_want | go_big_move | go_big_op | go_step | go_upon | go_back))
                        go_ret2
                        exact ⟨HAZ.out, rfl⟩
  · have hq : ((F.length : Int) != (n : Int) + 1) = true := by simp; omega
    obtain ⟨rfl, rfl⟩ := H3.out (by rw [HSH.out, decide_eq_false hcount]; rfl)
    clear hcount
    (repeat (first | go_big_skip | go_big_want | go_big_move | go_big_op | go_step | go_upon | go_back))
    go_ret2
    exact ⟨HAY.out, rfl⟩
end Go.Proofs
end

section
/- Walks: the reference's Proves where the reading is not right. -/
namespace Go.Proofs
open Go.RowKit

set_option maxRecDepth 100000 in
set_option maxHeartbeats 4000000 in
theorem provesRef_bad (w : World) (T : Treaty) (a1 a2 a3 a4 : Option Addr) (c1 c2 c3 c4 : Nat) (R : List Int) (AR : Option Addr) (cR : Nat) (F : List (List Int)) (AF : Option Addr) (cF : Nat) (hT : TRep w T a1 a2 a3 a4) (hR : Ints w AR R) (hz : readE T R ≠ 0) :
    Calls Try.prog 36 #[.agg #[.int .i64 T.places, .slice a1 T.ways.length c1, .slice a2 T.words.length c2, .slice a3 T.starts.length c3, .slice a4 T.legs.length c4], .slice AR R.length cR, .slice AF F.length cF] w (ProvesR w T R F) := by
  have HRD := Lib.hid (fun (y : World) (hy : Aft w y) => readingRef_any checkC y T a1 a2 a3 a4 c1 c2 c3 c4 R AR cR (hT.aft hy) (hR.aft hy))
  have hpe : provesE T R F = readE T R := by unfold provesE; rw [if_neg hz]
  have hpn : provesN T R F = 0 := by unfold provesN; rw [hpe, if_neg hz]
  unfold ProvesR
  rw [hpe, hpn]
  have hne : (readE T R != 0) = true := by simpa using hz
  clear hT hR hpe hpn hz
  generalize readE T R = E at *
  go_enter Try.func36, Try.ntmps36
  go_upto_region 1 with fail
  have hb := Blk.new w 36 #[.int .i64 T.places, .slice a1 T.ways.length c1, .slice a2 T.words.length c2, .slice a3 T.starts.length c3, .slice a4 T.legs.length c4]
  have ha := Aft.alloc w (.cells #[.int .i64 T.places, .slice a1 T.ways.length c1, .slice a2 T.words.length c2, .slice a3 T.starts.length c3, .slice a4 T.legs.length c4] 36)
  generalize w.alloc (.cells #[.int .i64 T.places, .slice a1 T.ways.length c1, .slice a2 T.words.length c2, .slice a3 T.starts.length c3, .slice a4 T.legs.length c4] 36) = X at *
  generalize w.heap.size = B0 at *
  have HA := Lib.hid ha
  obtain ⟨k0, k1, k2', k3, k4⟩ := boxC hb
  clear hb ha
  (repeat (first | go_big_skip | go_big_want | go_big_move | go_big_op | go_step | go_upon | go_back))
  go_at_call 65
  refine (HRD.out X HA.out).mono ?_
  rintro e Y ⟨rfl, haY⟩
  dsimp only
  clear k0 k1 k2' k3 k4
  (repeat (first | go_big_skip | go_big_want | go_big_move | go_big_op | go_step | go_upon | go_back))
  go_ret2
  exact ⟨HA.out.trans haY, rfl⟩
theorem provesRef_any (w : World) (T : Treaty) (a1 a2 a3 a4 : Option Addr) (c1 c2 c3 c4 : Nat) (R : List Int) (AR : Option Addr) (cR : Nat) (F : List (List Int)) (AF : Option Addr) (cF : Nat) (hT : TRep w T a1 a2 a3 a4) (hR : Ints w AR R) (hF : Lists w AF F) :
    Calls Try.prog 36 #[.agg #[.int .i64 T.places, .slice a1 T.ways.length c1, .slice a2 T.words.length c2, .slice a3 T.starts.length c3, .slice a4 T.legs.length c4], .slice AR R.length cR, .slice AF F.length cF] w (ProvesR w T R F) := by
  by_cases hz : readE T R = 0
  · exact provesRef_good w T a1 a2 a3 a4 c1 c2 c3 c4 R AR cR F AF cF hT hR hF hz
  · exact provesRef_bad w T a1 a2 a3 a4 c1 c2 c3 c4 R AR cR F AF cF hT hR hz
end Go.Proofs
end

section
/- Walks: the reference's Fewest. -/
namespace Go.Proofs
open Go.RowKit

noncomputable def fewX (T : Treaty) : List Int := if checkE T = 0 then (fewK T (prodN (lensOf T))).1 else []
noncomputable def fewN (T : Treaty) : Int := if checkE T = 0 then (fewK T (prodN (lensOf T))).2 else 0
def FewestU (w : World) (T : Treaty) (e : Ending) (w' : World) : Prop :=
  Aft w w' ∧ ∃ A c, e = .returned (.tuple #[.slice A (fewX T).length c, .int .i64 (fewN T), .int .i64 (checkE T)]) ∧ Ints w' A (fewX T)
/-- The best of the first k readings is that at b. -/
def BestAt (T : Treaty) (k b : Nat) : Prop := b < k ∧ fewK T k = ((readingsL T).getD b [], costL T ((readingsL T).getD b []))
theorem best_one {T : Treaty} (ok : TOk T) (hp : 1 ≤ (readingsL T).length) : BestAt T 1 0 := by
  refine ⟨by omega, ?_⟩
  have h0 : (readingsL T).getD 0 [] = dig (lensOf T) 0 := by rw [List.getD_eq_getElem?_getD, List.getElem?_eq_getElem hp, readingsL_get]; rfl
  rw [h0, fewK_succ T (by rw [readingsL_len] at hp; omega), fewK_zero]
  unfold fewStep
  have hbd := costL_bd ok (leadsF T (dig (lensOf T) 0))
  have hl := ok.nlegs
  rw [if_pos (by unfold costL; omega)]
theorem best_step {T : Treaty} {k b : Nat} (hk : k < (readingsL T).length) (h : BestAt T k b) : BestAt T (k + 1) (if costL T ((readingsL T).getD k []) < costL T ((readingsL T).getD b []) then k else b) := by
  obtain ⟨h1, h2⟩ := h
  have hkd : (readingsL T).getD k [] = dig (lensOf T) k := by rw [List.getD_eq_getElem?_getD, List.getElem?_eq_getElem hk, readingsL_get]; rfl
  have h3 := fewK_succ T (k := k) (by rw [readingsL_len] at hk; omega)
  rw [h2] at h3
  unfold fewStep at h3
  rw [← hkd] at h3
  split
  · rename_i hlt
    rw [if_pos hlt] at h3
    exact ⟨by omega, h3⟩
  · rename_i hge
    rw [if_neg hge] at h3
    exact ⟨by omega, h3⟩

set_option maxRecDepth 100000 in
set_option maxHeartbeats 8000000 in
theorem fewestTopRef_good (w : World) (T : Treaty) (a1 a2 a3 a4 : Option Addr) (c1 c2 c3 c4 : Nat) (hT : TRep w T a1 a2 a3 a4) (hz : checkE T = 0) : Calls Try.prog 39 #[.agg #[.int .i64 T.places, .slice a1 T.ways.length c1, .slice a2 T.words.length c2, .slice a3 T.starts.length c3, .slice a4 T.legs.length c4]] w (FewestU w T) := by
  have ok := checkE_ok hz
  have HCK := Lib.hid (fun (y : World) (hy : Aft w y) => checkRef_any y T a1 a2 a3 a4 c1 c2 c3 c4 (hT.aft hy))
  have HEV := Lib.hid (fun (y : World) (hy : Aft w y) => everyRef_any y T a1 a2 a3 a4 c1 c2 c3 c4 (hT.aft hy) ok)
  have HFW : Hid (∀ (y : World) (_ : Aft w y) (i : Nat) (_ : i < (readingsL T).length) (A : Option Addr) (c : Nat) (_ : Ints y A ((readingsL T).getD i [])), Calls Try.prog 90 #[.agg #[.int .i64 T.places, .slice a1 T.ways.length c1, .slice a2 T.words.length c2, .slice a3 T.starts.length c3, .slice a4 T.legs.length c4], .slice A ((readingsL T).getD i []).length c] y fun e w' => e = .returned (.int .i64 (costL T ((readingsL T).getD i []))) ∧ Aft y w') := Lib.hid fun y hy i hi A c hA => by
    have hm : (readingsL T).getD i [] ∈ readingsL T := by rw [List.getD_eq_getElem?_getD, List.getElem?_eq_getElem hi]; exact List.getElem_mem hi
    have := fewestRef_any y T a1 a2 a3 a4 c1 c2 c3 c4 _ A c (hT.aft hy) hA ok ((mem_readings ok).1 hm)
    rw [yieldL_len ok] at this
    exact this
  have hp := (readings_many ok).2
  have hp2 := (readings_many ok).1
  have HB1 := Lib.hid (best_one ok hp)
  have HST : Hid (∀ k b, k < (readingsL T).length → BestAt T k b → BestAt T (k + 1) (if costL T ((readingsL T).getD k []) < costL T ((readingsL T).getD b []) then k else b)) := Lib.hid fun k b hk h => best_step hk h
  have HIN : Hid (∀ l ∈ readingsL T, l.length ≤ 17592186043904) := Lib.hid fun l hl => by have := ((mem_readings ok).1 hl).1; have := ok.nwords; omega
  have HFI : Hid (∀ b, BestAt T (readingsL T).length b → fewX T = (readingsL T).getD b [] ∧ fewN T = costL T ((readingsL T).getD b [])) := Lib.hid fun b h => by
    unfold fewX fewN
    rw [if_pos hz, if_pos hz, ← readingsL_len, h.2]
    exact ⟨rfl, rfl⟩
  unfold FewestU
  rw [hz] at HCK
  rw [hz]
  obtain ⟨X0, hX0⟩ : ∃ X, fewX T = X := ⟨_, rfl⟩
  obtain ⟨N0, hN0⟩ : ∃ N, fewN T = N := ⟨_, rfl⟩
  rw [hX0, hN0] at HFI
  rw [hX0, hN0]
  clear hT ok hz hX0 hN0
  obtain ⟨L, hL⟩ : ∃ L, readingsL T = L := ⟨_, rfl⟩
  rw [hL] at HEV HFW hp hp2 HIN HFI HST
  clear hL
  go_enter Try.func39, Try.ntmps39
  go_upto_region 1 with fail
  have hb := Blk.new w 36 #[.int .i64 T.places, .slice a1 T.ways.length c1, .slice a2 T.words.length c2, .slice a3 T.starts.length c3, .slice a4 T.legs.length c4]
  have ha := Aft.alloc w (.cells #[.int .i64 T.places, .slice a1 T.ways.length c1, .slice a2 T.words.length c2, .slice a3 T.starts.length c3, .slice a4 T.legs.length c4] 36)
  generalize w.alloc (.cells #[.int .i64 T.places, .slice a1 T.ways.length c1, .slice a2 T.words.length c2, .slice a3 T.starts.length c3, .slice a4 T.legs.length c4] 36) = X at *
  generalize w.heap.size = B0 at *
  have HB := Lib.hid hb
  have HA := Lib.hid ha
  obtain ⟨k0, k1, k2', k3, k4⟩ := boxC hb
  clear hb ha
  (repeat (first | go_big_skip | go_big_want | go_big_move | go_big_op | go_step | go_upon | go_back))
  go_at_call 14
  refine (HCK.out X HA.out).mono ?_
  rintro e Y0 ⟨rfl, haY⟩
  dsimp only
  have HAY := Lib.hid (HA.out.trans haY)
  have HB := Lib.hid (HB.out.aft haY)
  clear haY k0 k1 k2' k3 k4
  obtain ⟨k0, k1, k2', k3, k4⟩ := boxC HB.out
  (repeat (first | go_big_skip | go_big_want | go_big_move | go_big_op | go_step | go_upon | go_back))
  go_at_call 75
  refine (HEV.out Y0 HAY.out).mono ?_
  rintro e Y ⟨v, rfl, haY, hown⟩
  obtain ⟨A, cA, rfl, -, hli⟩ := hown.lists (by omega) HIN.out
  dsimp only
  obtain ⟨bL, oL, rfl, -, -⟩ := hli.at (k := 0) hp
  have HLI := Lib.hid hli
  have HAY := Lib.hid (HAY.out.trans haY)
  have HB := Lib.hid (HB.out.aft haY)
  clear haY k0 k1 k2' k3 k4 hown hli HCK HEV
  have HROW : Hid (∀ i, i < L.length → ∃ A c, (∀ W, Aft Y W → W.cell? ⟨bL, oL + i, none⟩ = some (.slice A (L.getD i []).length c)) ∧ ∀ W, Aft Y W → Ints W A (L.getD i [])) := Lib.hid fun i hi => by
    obtain ⟨b', o', e, hb', hc⟩ := HLI.out.at hi
    cases e
    obtain ⟨A, c, h1, h2⟩ := hc i hi
    have e0 : L.getD i [] = L[i] := by rw [List.getD_eq_getElem?_getD, List.getElem?_eq_getElem hi]; rfl
    rw [e0]
    exact ⟨A, c, fun W hW => by obtain ⟨u, rfl⟩ := hW; exact (World.lat_cell _ _ _ _ hb').trans h1, fun W hW => h2.aft hW⟩
  (repeat (first | go_big_skip | go_big_want | go_big_move | go_big_op | go_step | go_upon | go_back))
  go_loopw [7, 8] (fun v i wr => ∃ k b : Nat, i = .int .i64 k ∧ v = .int .i64 b ∧ 1 ≤ k ∧ k ≤ L.length ∧ b < k ∧ BestAt T k b ∧ Aft Y wr) (fun _ i _ => L.length - (intOf i).toNat)
  case atStart => exact ⟨1, 0, rfl, rfl, by omega, by omega, by omega, HB1.out, Aft.refl _⟩
  case round =>
    obtain ⟨k, b, rfl, rfl, hk1, hk, hbk, hbe, haw⟩ := hrel
    have HBE := Lib.hid hbe
    have HAW := Lib.hid haw
    clear hbe haw HB1
    have hmx : Try.prog.follows .mixedOrders = true := by kernel_rfl
    obtain ⟨Ab, cb, hcb, hib⟩ := HROW.out b (by omega)
    have HCB := Lib.hid hcb
    have HIB := Lib.hid hib
    clear hcb hib
    by_cases hkn : k < L.length
    · have hdec : decide (k < L.length) = true := decide_eq_true hkn
      obtain ⟨Ak, ck, hck, hik⟩ := HROW.out k hkn
      have HCK := Lib.hid hck
      have HIK := Lib.hid hik
      have HBS := Lib.hid (HST.out k b hkn HBE.out)
      have HFK := Lib.hid (fun y hy => HFW.out y hy k hkn Ak ck)
      have HFB := Lib.hid (fun y hy => HFW.out y hy b (by omega) Ab cb)
      have i1 : (0 : Int) ≤ (k : Int) ∧ (k : Int) < (L.length : Int) := by omega
      have i2 : (0 : Int) ≤ (b : Int) ∧ (b : Int) < (L.length : Int) := by omega
      clear hck hik
      generalize costL T (L.getD k []) = vk at *
      generalize costL T (L.getD b []) = vb at *
      generalize L.getD k [] = lk at *
      generalize L.getD b [] = lb at *
      obtain ⟨tt, htt⟩ : ∃ tt, decide (vk < vb) = tt := ⟨_, rfl⟩
      have HTT := Lib.hid htt
      clear htt
      (repeat (first | go_big_skip | go_big_want | go_big_move | go_big_op | go_step | go_upon | go_back))
      refine wp_region_vals hmx 46 rfl (by kernel_rfl) [.agg #[.int .i64 T.places, .slice a1 T.ways.length c1, .slice a2 T.words.length c2, .slice a3 T.starts.length c3, .slice a4 T.legs.length c4], .slice (some ⟨bL, oL, none⟩) L.length cA, .int .i64 k, .pointer (some ⟨bL, oL + k, none⟩), .slice Ak lk.length ck, .int .i64 vk, .agg #[.int .i64 T.places, .slice a1 T.ways.length c1, .slice a2 T.words.length c2, .slice a3 T.starts.length c3, .slice a4 T.legs.length c4], .slice (some ⟨bL, oL, none⟩) L.length cA, .int .i64 b, .pointer (some ⟨bL, oL + b, none⟩), .slice Ab lb.length cb, .int .i64 vb, .bool tt] rfl (fun X => Aft wr X) (Aft.drew _) ?step ?fin
      case step =>
        intro i' o v ho hv a X hk hX K hK
        match i', ho, hv with
        | 0, ho, hv =>
          cases ho; cases hv
          have e_1 : a.eval (.tmp 1) = .pointer (some ⟨B0, 0, none⟩) := (hk.same 1 (by decide)).trans rfl
          obtain ⟨k0, k1, k2', k3, k4⟩ := boxC (HB.out.aft (HAW.out.trans hX))
          exact op_val (by simp [go_sem, ev' e_1, k0, k1, k2', k3, k4]) (hK _ hX)
        | 1, ho, hv =>
          cases ho; cases hv
          have e_6 : a.eval (.tmp 6) = .slice (some ⟨bL, oL, none⟩) L.length cA := (hk.same 6 (by decide)).trans rfl
          exact op_val (by simp [go_sem, ev' e_6]) (hK _ hX)
        | 2, ho, hv =>
          cases ho; cases hv
          have e_8 : a.eval (.tmp 8) = .int .i64 k := (hk.same 8 (by decide)).trans rfl
          exact op_val (by simp [go_sem, ev' e_8]) (hK _ hX)
        | 3, ho, hv =>
          cases ho; cases hv
          have e_23 : a.eval (.tmp 23) = .slice (some ⟨bL, oL, none⟩) L.length cA := hk.at_ 1 _ 23 _ rfl (by decide) _ rfl rfl rfl
          have e_24 : a.eval (.tmp 24) = .int .i64 k := hk.at_ 2 _ 24 _ rfl (by decide) _ rfl rfl rfl
          exact op_val (by simp [go_sem, ev' e_23, ev' e_24, i1]) (hK _ hX)
        | 4, ho, hv =>
          cases ho; cases hv
          have e_25 : a.eval (.tmp 25) = .pointer (some ⟨bL, oL + k, none⟩) := hk.at_ 3 _ 25 _ rfl (by decide) _ rfl rfl rfl
          have hc := HCK.out X (HAW.out.trans hX)
          exact op_val (by simp [go_sem, ev' e_25, hc]) (hK _ hX)
        | 5, ho, hv =>
          cases ho; cases hv
          have e_22 : a.eval (.tmp 22) = .agg #[.int .i64 T.places, .slice a1 T.ways.length c1, .slice a2 T.words.length c2, .slice a3 T.starts.length c3, .slice a4 T.legs.length c4] := hk.at_ 0 _ 22 _ rfl (by decide) _ rfl rfl rfl
          have e_26 : a.eval (.tmp 26) = .slice Ak lk.length ck := hk.at_ 4 _ 26 _ rfl (by decide) _ rfl rfl rfl
          refine op_call2 Try.func90 (by kernel_rfl) (by kernel_rfl) _ _ rfl e_22 e_26 (HFK.out X (HAY.out.trans (HAW.out.trans hX)) (HIK.out X (HAW.out.trans hX))) ?_
          rintro e x6 ⟨rfl, ha⟩
          exact ⟨_, rfl, hK _ (hX.trans ha)⟩
        | 6, ho, hv =>
          cases ho; cases hv
          have e_1 : a.eval (.tmp 1) = .pointer (some ⟨B0, 0, none⟩) := (hk.same 1 (by decide)).trans rfl
          obtain ⟨k0, k1, k2', k3, k4⟩ := boxC (HB.out.aft (HAW.out.trans hX))
          exact op_val (by simp [go_sem, ev' e_1, k0, k1, k2', k3, k4]) (hK _ hX)
        | 7, ho, hv =>
          cases ho; cases hv
          have e_6 : a.eval (.tmp 6) = .slice (some ⟨bL, oL, none⟩) L.length cA := (hk.same 6 (by decide)).trans rfl
          exact op_val (by simp [go_sem, ev' e_6]) (hK _ hX)
        | 8, ho, hv =>
          cases ho; cases hv
          have e_7 : a.eval (.tmp 7) = .int .i64 b := (hk.same 7 (by decide)).trans rfl
          exact op_val (by simp [go_sem, ev' e_7]) (hK _ hX)
        | 9, ho, hv =>
          cases ho; cases hv
          have e_29 : a.eval (.tmp 29) = .slice (some ⟨bL, oL, none⟩) L.length cA := hk.at_ 7 _ 29 _ rfl (by decide) _ rfl rfl rfl
          have e_30 : a.eval (.tmp 30) = .int .i64 b := hk.at_ 8 _ 30 _ rfl (by decide) _ rfl rfl rfl
          exact op_val (by simp [go_sem, ev' e_29, ev' e_30, i2]) (hK _ hX)
        | 10, ho, hv =>
          cases ho; cases hv
          have e_31 : a.eval (.tmp 31) = .pointer (some ⟨bL, oL + b, none⟩) := hk.at_ 9 _ 31 _ rfl (by decide) _ rfl rfl rfl
          have hc := HCB.out X (HAW.out.trans hX)
          exact op_val (by simp [go_sem, ev' e_31, hc]) (hK _ hX)
        | 11, ho, hv =>
          cases ho; cases hv
          have e_28 : a.eval (.tmp 28) = .agg #[.int .i64 T.places, .slice a1 T.ways.length c1, .slice a2 T.words.length c2, .slice a3 T.starts.length c3, .slice a4 T.legs.length c4] := hk.at_ 6 _ 28 _ rfl (by decide) _ rfl rfl rfl
          have e_32 : a.eval (.tmp 32) = .slice Ab lb.length cb := hk.at_ 10 _ 32 _ rfl (by decide) _ rfl rfl rfl
          refine op_call2 Try.func90 (by kernel_rfl) (by kernel_rfl) _ _ rfl e_28 e_32 (HFB.out X (HAY.out.trans (HAW.out.trans hX)) (HIB.out X (HAW.out.trans hX))) ?_
          rintro e x6 ⟨rfl, ha⟩
          exact ⟨_, rfl, hK _ (hX.trans ha)⟩
        | 12, ho, hv =>
          cases ho; cases hv
          have e_27 : a.eval (.tmp 27) = .int .i64 vk := hk.at_ 5 _ 27 _ rfl (by decide) _ rfl rfl rfl
          have e_33 : a.eval (.tmp 33) = .int .i64 vb := hk.at_ 11 _ 33 _ rfl (by decide) _ rfl rfl rfl
          have htt := HTT.out
          exact op_val (by simp [go_sem, ev' e_27, ev' e_33, htt]) (hK _ hX)
        | _ + 13, ho, _ => cases ho
      case fin =>
        intro X6 hX6
        simp only [List.zip_cons_cons, List.zip_nil_right, putAll, Act.put, List.setIfInBounds_toArray, List.set_cons_succ, List.set_cons_zero]
        have HX6 := Lib.hid (HAW.out.trans hX6)
        clear hX6
        cases tt with
        | true =>
          have hlt := of_decide_eq_true HTT.out
          have HBN : Hid (BestAt T (k + 1) k) := Lib.hid (by have := HBS.out; rw [if_pos hlt] at this; exact this)
          clear hlt
          (repeat (first | go_big_skip | go_big_want | go_big_move | go_big_op | go_step | go_upon | go_back))
          exact ⟨⟨k + 1, k, by go_num, rfl, by omega, by omega, by omega, HBN.out, HX6.out⟩, by simp [intOf]; omega⟩
        | false =>
          have hlt := of_decide_eq_false HTT.out
          have HBN : Hid (BestAt T (k + 1) b) := Lib.hid (by have := HBS.out; rw [if_neg hlt] at this; exact this)
          clear hlt
          (repeat (first | go_big_skip | go_big_want | go_big_move | go_big_op | go_step | go_upon | go_back))
          exact ⟨⟨k + 1, b, by go_num, rfl, by omega, by omega, by omega, HBN.out, HX6.out⟩, by simp [intOf]; omega⟩
    · have hdec : decide (k < L.length) = false := decide_eq_false hkn
      obtain rfl : k = L.length := by omega
      obtain ⟨hX, hN⟩ := HFI.out b HBE.out
      have HFB := Lib.hid (fun y hy => HFW.out y hy b (by omega) Ab cb)
      have i2 : (0 : Int) ≤ (b : Int) ∧ (b : Int) < (L.length : Int) := by omega
      generalize costL T (L.getD b []) = vb at *
      generalize L.getD b [] = lb at *
      have hX := hX.symm
      have hN := hN.symm
      subst hX
      subst hN
      (repeat (first | go_big_skip | go_big_want | go_big_move | go_big_op | go_step | go_upon | go_back))
      refine wp_region_vals hmx 46 rfl (by kernel_rfl) [.slice (some ⟨bL, oL, none⟩) L.length cA, .int .i64 b, .pointer (some ⟨bL, oL + b, none⟩), .slice Ab lb.length cb, .agg #[.int .i64 T.places, .slice a1 T.ways.length c1, .slice a2 T.words.length c2, .slice a3 T.starts.length c3, .slice a4 T.legs.length c4], .slice (some ⟨bL, oL, none⟩) L.length cA, .int .i64 b, .pointer (some ⟨bL, oL + b, none⟩), .slice Ab lb.length cb, .int .i64 vb, .slice Ab lb.length cb, .int .i64 vb, .int .i64 0] rfl (fun X => Aft wr X) (Aft.drew _) ?step2 ?fin2
      case step2 =>
        intro i' o v ho hv a X hk hX K hK
        match i', ho, hv with
        | 0, ho, hv =>
          cases ho; cases hv
          have e_6 : a.eval (.tmp 6) = .slice (some ⟨bL, oL, none⟩) L.length cA := (hk.same 6 (by decide)).trans rfl
          exact op_val (by simp [go_sem, ev' e_6]) (hK _ hX)
        | 1, ho, hv =>
          cases ho; cases hv
          have e_7 : a.eval (.tmp 7) = .int .i64 b := (hk.same 7 (by decide)).trans rfl
          exact op_val (by simp [go_sem, ev' e_7]) (hK _ hX)
        | 2, ho, hv =>
          cases ho; cases hv
          have e_36 : a.eval (.tmp 36) = .slice (some ⟨bL, oL, none⟩) L.length cA := hk.at_ 0 _ 36 _ rfl (by decide) _ rfl rfl rfl
          have e_37 : a.eval (.tmp 37) = .int .i64 b := hk.at_ 1 _ 37 _ rfl (by decide) _ rfl rfl rfl
          exact op_val (by simp [go_sem, ev' e_36, ev' e_37, i2]) (hK _ hX)
        | 3, ho, hv =>
          cases ho; cases hv
          have e_38 : a.eval (.tmp 38) = .pointer (some ⟨bL, oL + b, none⟩) := hk.at_ 2 _ 38 _ rfl (by decide) _ rfl rfl rfl
          have hc := HCB.out X (HAW.out.trans hX)
          exact op_val (by simp [go_sem, ev' e_38, hc]) (hK _ hX)
        | 4, ho, hv =>
          cases ho; cases hv
          have e_1 : a.eval (.tmp 1) = .pointer (some ⟨B0, 0, none⟩) := (hk.same 1 (by decide)).trans rfl
          obtain ⟨k0, k1, k2', k3, k4⟩ := boxC (HB.out.aft (HAW.out.trans hX))
          exact op_val (by simp [go_sem, ev' e_1, k0, k1, k2', k3, k4]) (hK _ hX)
        | 5, ho, hv =>
          cases ho; cases hv
          have e_6 : a.eval (.tmp 6) = .slice (some ⟨bL, oL, none⟩) L.length cA := (hk.same 6 (by decide)).trans rfl
          exact op_val (by simp [go_sem, ev' e_6]) (hK _ hX)
        | 6, ho, hv =>
          cases ho; cases hv
          have e_7 : a.eval (.tmp 7) = .int .i64 b := (hk.same 7 (by decide)).trans rfl
          exact op_val (by simp [go_sem, ev' e_7]) (hK _ hX)
        | 7, ho, hv =>
          cases ho; cases hv
          have e_41 : a.eval (.tmp 41) = .slice (some ⟨bL, oL, none⟩) L.length cA := hk.at_ 5 _ 41 _ rfl (by decide) _ rfl rfl rfl
          have e_42 : a.eval (.tmp 42) = .int .i64 b := hk.at_ 6 _ 42 _ rfl (by decide) _ rfl rfl rfl
          exact op_val (by simp [go_sem, ev' e_41, ev' e_42, i2]) (hK _ hX)
        | 8, ho, hv =>
          cases ho; cases hv
          have e_43 : a.eval (.tmp 43) = .pointer (some ⟨bL, oL + b, none⟩) := hk.at_ 7 _ 43 _ rfl (by decide) _ rfl rfl rfl
          have hc := HCB.out X (HAW.out.trans hX)
          exact op_val (by simp [go_sem, ev' e_43, hc]) (hK _ hX)
        | 9, ho, hv =>
          cases ho; cases hv
          have e_40 : a.eval (.tmp 40) = .agg #[.int .i64 T.places, .slice a1 T.ways.length c1, .slice a2 T.words.length c2, .slice a3 T.starts.length c3, .slice a4 T.legs.length c4] := hk.at_ 4 _ 40 _ rfl (by decide) _ rfl rfl rfl
          have e_44 : a.eval (.tmp 44) = .slice Ab lb.length cb := hk.at_ 8 _ 44 _ rfl (by decide) _ rfl rfl rfl
          refine op_call2 Try.func90 (by kernel_rfl) (by kernel_rfl) _ _ rfl e_40 e_44 (HFB.out X (HAY.out.trans (HAW.out.trans hX)) (HIB.out X (HAW.out.trans hX))) ?_
          rintro e x6 ⟨rfl, ha⟩
          exact ⟨_, rfl, hK _ (hX.trans ha)⟩
        | 10, ho, hv =>
          cases ho; cases hv
          have e_39 : a.eval (.tmp 39) = .slice Ab lb.length cb := hk.at_ 3 _ 39 _ rfl (by decide) _ rfl rfl rfl
          exact op_val (by simp [go_sem, ev' e_39]) (hK _ hX)
        | 11, ho, hv =>
          cases ho; cases hv
          have e_45 : a.eval (.tmp 45) = .int .i64 vb := hk.at_ 9 _ 45 _ rfl (by decide) _ rfl rfl rfl
          exact op_val (by simp [go_sem, ev' e_45]) (hK _ hX)
        | 12, ho, hv =>
          cases ho; cases hv
          exact op_val (by simp [go_sem]) (hK _ hX)
        | _ + 13, ho, _ => cases ho
      case fin2 =>
        intro X6 hX6
        simp only [List.zip_cons_cons, List.zip_nil_right, putAll, Act.put, List.setIfInBounds_toArray, List.set_cons_succ, List.set_cons_zero]
        (repeat (first | go_big_skip | go_big_want | go_big_move | go_big_op | go_step | go_upon | go_back))
        go_ret3
        exact ⟨HAY.out.trans (HAW.out.trans hX6), Ab, cb, rfl, HIB.out _ (HAW.out.trans hX6)⟩
end Go.Proofs
end

section
/- The law on yields: what the program's functions and the reference's answer, in the same words. -/
namespace Go.Proofs
open Go.RowKit

noncomputable def yldX (T : Treaty) (R : List Int) : List Int := if readE T R = 0 then yieldL T (leadsF T R) else []
noncomputable def floX (T : Treaty) (R : List Int) : List (List Int) := if readE T R = 0 then floorsL T R else []
def YieldU (w : World) (T : Treaty) (R : List Int) (e : Ending) (w' : World) : Prop :=
  Aft w w' ∧ ∃ A c, e = .returned (.tuple #[.slice A (yldX T R).length c, .int .i64 (readE T R)]) ∧ Ints w' A (yldX T R)
def FloorsU (w : World) (T : Treaty) (R : List Int) (e : Ending) (w' : World) : Prop :=
  Aft w w' ∧ ∃ A c, e = .returned (.tuple #[.slice A (floX T R).length c, .int .i64 (readE T R)]) ∧ Lists w' A (floX T R)
theorem yieldR_uni {w w' : World} {T : Treaty} {R : List Int} {e : Ending} (h : YieldR w T R e w') : YieldU w T R e w' := by
  obtain ⟨ha, ⟨h1, rfl⟩ | ⟨h1, v, rfl, hown⟩⟩ := h
  · have : yldX T R = [] := by unfold yldX; rw [if_neg h1]
    rw [YieldU, this]
    exact ⟨ha, none, 0, rfl, RowsP.nil⟩
  · have hx : yldX T R = yieldL T (leadsF T R) := by unfold yldX; rw [if_pos h1]
    have ok := checkE_ok (readE_zero.1 h1).1
    have h2 := yieldL_len ok (leadsF T R)
    have h3 := (costL_bd ok (leadsF T R)).2
    have h4 := ok.nlegs
    obtain ⟨A, c, rfl, _, hi⟩ := own_ints hown (by omega)
    rw [YieldU, hx, h1]
    exact ⟨ha, A, c, rfl, hi⟩
theorem floorsR_uni {w w' : World} {T : Treaty} {R : List Int} {e : Ending} (h : FloorsR w T R e w') : FloorsU w T R e w' := by
  obtain ⟨ha, ⟨h1, rfl⟩ | ⟨h1, v, rfl, hown⟩⟩ := h
  · have : floX T R = [] := by unfold floX; rw [if_neg h1]
    rw [FloorsU, this]
    exact ⟨ha, none, 0, rfl, lists_nil _⟩
  · have hx : floX T R = floorsL T R := by unfold floX; rw [if_pos h1]
    have ok := checkE_ok (readE_zero.1 h1).1
    have hsv := SV.floors (T := T) R (by have := ok.p1; omega)
    have h2 := SV.iff.1 hsv
    have hl := ok.nlegs
    have hp := ok.p2
    obtain ⟨A, c, rfl, _, hi⟩ := hown.lists (by rw [h2.1]; omega) (fun l hl' => by have := h2.2.1 l hl'; omega)
    rw [FloorsU, hx, h1]
    exact ⟨ha, A, c, rfl, hi⟩
theorem fewestR_uni {w w' : World} {T : Treaty} {e : Ending} (h : FewestR w T e w') : FewestU w T e w' := by
  obtain ⟨ha, ⟨h1, rfl⟩ | ⟨h1, v, rfl, hown⟩⟩ := h
  · have e1 : fewX T = [] := by unfold fewX; rw [if_neg h1]
    have e2 : fewN T = 0 := by unfold fewN; rw [if_neg h1]
    rw [FewestU, e1, e2]
    exact ⟨ha, none, 0, rfl, RowsP.nil⟩
  · have e1 : fewX T = (fewK T (prodN (lensOf T))).1 := by unfold fewX; rw [if_pos h1]
    have e2 : fewN T = (fewK T (prodN (lensOf T))).2 := by unfold fewN; rw [if_pos h1]
    have ok := checkE_ok h1
    obtain ⟨R, hr, hf, -⟩ := few_spec ok
    have hw := ok.nwords
    obtain ⟨A, c, rfl, _, hi⟩ := own_ints hown (by rw [hf]; have := hr.1; show R.length ≤ _; omega)
    rw [FewestU, e1, e2, h1]
    exact ⟨ha, A, c, rfl, hi⟩

set_option maxRecDepth 100000 in
set_option maxHeartbeats 4000000 in
theorem fewestTopRef_bad (w : World) (T : Treaty) (a1 a2 a3 a4 : Option Addr) (c1 c2 c3 c4 : Nat) (hT : TRep w T a1 a2 a3 a4) (hz : checkE T ≠ 0) : Calls Try.prog 39 #[.agg #[.int .i64 T.places, .slice a1 T.ways.length c1, .slice a2 T.words.length c2, .slice a3 T.starts.length c3, .slice a4 T.legs.length c4]] w (FewestU w T) := by
  have HCK := Lib.hid (fun (y : World) (hy : Aft w y) => checkRef_any y T a1 a2 a3 a4 c1 c2 c3 c4 (hT.aft hy))
  have e1 : fewX T = [] := by unfold fewX; rw [if_neg hz]
  have e2 : fewN T = 0 := by unfold fewN; rw [if_neg hz]
  unfold FewestU
  rw [e1, e2]
  have hne : (checkE T != 0) = true := by simpa using hz
  clear hT e1 e2 hz
  generalize checkE T = E at *
  go_enter Try.func39, Try.ntmps39
  go_upto_region 1 with fail
  have hb := Blk.new w 36 #[.int .i64 T.places, .slice a1 T.ways.length c1, .slice a2 T.words.length c2, .slice a3 T.starts.length c3, .slice a4 T.legs.length c4]
  have ha := Aft.alloc w (.cells #[.int .i64 T.places, .slice a1 T.ways.length c1, .slice a2 T.words.length c2, .slice a3 T.starts.length c3, .slice a4 T.legs.length c4] 36)
  generalize w.alloc (.cells #[.int .i64 T.places, .slice a1 T.ways.length c1, .slice a2 T.words.length c2, .slice a3 T.starts.length c3, .slice a4 T.legs.length c4] 36) = X at *
  generalize w.heap.size = B0 at *
  have HA := Lib.hid ha
  obtain ⟨k0, k1, k2', k3, k4⟩ := boxC hb
  clear hb ha
  (repeat (first | go_big_skip | go_big_want | go_big_move | go_big_op | go_step | go_upon | go_back))
  go_at_call 14
  refine (HCK.out X HA.out).mono ?_
  rintro e Y ⟨rfl, haY⟩
  dsimp only
  clear k0 k1 k2' k3 k4
  (repeat (first | go_big_skip | go_big_want | go_big_move | go_big_op | go_step | go_upon | go_back))
  go_ret3
  exact ⟨HA.out.trans haY, none, 0, rfl, RowsP.nil⟩
theorem fewestTopRef_any (w : World) (T : Treaty) (a1 a2 a3 a4 : Option Addr) (c1 c2 c3 c4 : Nat) (hT : TRep w T a1 a2 a3 a4) : Calls Try.prog 39 #[.agg #[.int .i64 T.places, .slice a1 T.ways.length c1, .slice a2 T.words.length c2, .slice a3 T.starts.length c3, .slice a4 T.legs.length c4]] w (FewestU w T) := by
  by_cases hz : checkE T = 0
  · exact fewestTopRef_good w T a1 a2 a3 a4 c1 c2 c3 c4 hT hz
  · exact fewestTopRef_bad w T a1 a2 a3 a4 c1 c2 c3 c4 hT hz
theorem listsTwo {X : World} {l m : List Int} {A B : Option Addr} {c d : Nat} (h1 : IntsQ X A l) (h2 : IntsQ X B m) : ListsQ (X.alloc (.cells #[.slice A l.length c, .slice B m.length d] 24)) (some ⟨X.heap.size, 0, none⟩) [l, m] :=
  .inr ⟨_, 0, rfl, (al1 _ _ _).lt, fun i hi => by
    match i, hi with
    | 0, _ => exact ⟨[.slice A l.length c], rfl, ⟨A, c, rfl, h1.aft (Aft.alloc _ _)⟩, fun j hj => by match j, hj with | 0, _ => exact (al1 X 24 #[.slice A l.length c, .slice B m.length d]).cell 0⟩
    | 1, _ => exact ⟨[.slice B m.length d], rfl, ⟨B, d, rfl, h2.aft (Aft.alloc _ _)⟩, fun j hj => by match j, hj with | 0, _ => exact (al1 X 24 #[.slice A l.length c, .slice B m.length d]).cell 1⟩⟩
theorem ListsQ.small {w : World} {A : Option Addr} {F : List (List Int)} (h : ListsQ w A F) (h1 : F.length ≤ 15) (h2 : ∀ l ∈ F, l.length ≤ 15) : Lists w A F :=
  RowsQ.small h (by omega) fun l hl vs ⟨B, c, e, hi⟩ => ⟨B, c, e, hi.small (by have := h2 l hl; omega)⟩
end Go.Proofs
end
