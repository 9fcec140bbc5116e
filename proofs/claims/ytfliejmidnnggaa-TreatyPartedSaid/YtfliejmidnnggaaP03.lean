/- Merged by program out of the texts WkK Dfs Lim2 WkL Ok Mad. -/
import Derived.Test.YtfliejmidnnggaaP02
import Derived.Laws.EntriesVeiled
import Derived.Deep.CutBlock
section
/- Walks: Check, where the counts are right. -/
namespace Go.Proofs
open Go.RowKit

theorem runs_any {K : FuncId} (h : ∀ args w, (callFunc K args).run Try.prog w = .ok (.enter K args) w) : ∀ args w, (callFunc K args).run Try.prog w = .ok (.enter K args) w := h

set_option maxRecDepth 100000 in
set_option maxHeartbeats 2000000 in
theorem check_main (T : Treaty) (a1 a2 a3 a4 : Option Addr) (c1 c2 c3 c4 : Nat) (w : World) (hT : TRep w T a1 a2 a3 a4) (hbad : cntBad T = false) :
    Calls Try.prog 13 #[.agg #[.int .i64 T.places, .slice a1 T.ways.length c1, .slice a2 T.words.length c2, .slice a3 T.starts.length c3, .slice a4 T.legs.length c4]] w fun e w' => e = .returned (.int .i64 (checkE T)) ∧ Aft w w' := by
  have hfin : checkE T = checkE T := rfl
  conv at hfin => rhs; unfold checkE; rw [if_neg (by rw [hbad]; decide)]
  have HF := Lib.hid hfin
  clear hfin
  simp only [cntBad, Bool.or_eq_false_iff, Bool.not_eq_false', decide_eq_false_iff_not] at hbad
  obtain ⟨⟨⟨⟨b1, b2⟩, b3⟩, b4⟩, b5⟩ := hbad
  have B1 := Lib.hid b1
  have B4 := Lib.hid b4
  have p1 := fromB_iff.1 b1
  have p4 := fromB_iff.1 b4
  clear b1 b4
  obtain ⟨p1, p2⟩ := p1
  obtain ⟨p3, p4⟩ := p4
  have b2' : decide ((40 : Int) < T.ways.length) = false := by simp; omega
  have b3' : decide ((6 : Int) < T.words.length) = false := by simp; omega
  have b5' : decide ((10 : Int) < T.legs.length) = false := by simp; omega
  have hwd := Lib.hid (fun W (ha : Aft w W) => each_words WordR WordR.mono 50 [] (fun l => fromB l.length 1 4) a2 T.words c2 W (hT.words.aft WordR.mono ha) runs_50 (fun l _ u v0 hv => check1_asks l v0 _ hv))
  go_enter Try.func13, Try.ntmps13
  go_wp2_with (first | (go_at_call_of 48 (Value.int IntKind.i64 T.places); refine (from_any _ _ _ _).mono ?_; rintro e w' ⟨rfl, rfl⟩; rw [B1.out]) | (go_at_call_of 48 (Value.int IntKind.i64 (T.starts.length : Int)); refine (from_any _ _ _ _).mono ?_; rintro e w' ⟨rfl, rfl⟩; rw [B4.out]))
  refine (hwd.out _ (Aft.alloc _ _)).mono ?_
  rintro e w' ⟨rfl, u1, rfl⟩
  have haf : Aft w ((w.alloc (.cells #[.int .i64 T.places, .slice a1 T.ways.length c1, .slice a2 T.words.length c2, .slice a3 T.starts.length c3, .slice a4 T.legs.length c4] 27)).lat u1) := (Aft.alloc _ _).then_lat _
  have hlt : w.heap.size < ((w.alloc (.cells #[.int .i64 T.places, .slice a1 T.ways.length c1, .slice a2 T.words.length c2, .slice a3 T.starts.length c3, .slice a4 T.legs.length c4] 27)).lat u1).heap.size := Nat.lt_of_lt_of_le (by simp) (World.lat_size _ _)
  have k0 : ((w.alloc (.cells #[.int .i64 T.places, .slice a1 T.ways.length c1, .slice a2 T.words.length c2, .slice a3 T.starts.length c3, .slice a4 T.legs.length c4] 27)).lat u1).cell? ⟨w.heap.size, 0, none⟩ = some (.int .i64 T.places) := by simp [go_sem]
  have k1 : ((w.alloc (.cells #[.int .i64 T.places, .slice a1 T.ways.length c1, .slice a2 T.words.length c2, .slice a3 T.starts.length c3, .slice a4 T.legs.length c4] 27)).lat u1).cell? ⟨w.heap.size, 1, none⟩ = some (.slice a1 T.ways.length c1) := by simp [go_sem]
  have k2 : ((w.alloc (.cells #[.int .i64 T.places, .slice a1 T.ways.length c1, .slice a2 T.words.length c2, .slice a3 T.starts.length c3, .slice a4 T.legs.length c4] 27)).lat u1).cell? ⟨w.heap.size, 2, none⟩ = some (.slice a2 T.words.length c2) := by simp [go_sem]
  have k3 : ((w.alloc (.cells #[.int .i64 T.places, .slice a1 T.ways.length c1, .slice a2 T.words.length c2, .slice a3 T.starts.length c3, .slice a4 T.legs.length c4] 27)).lat u1).cell? ⟨w.heap.size, 3, none⟩ = some (.slice a3 T.starts.length c3) := by simp [go_sem]
  have k4 : ((w.alloc (.cells #[.int .i64 T.places, .slice a1 T.ways.length c1, .slice a2 T.words.length c2, .slice a3 T.starts.length c3, .slice a4 T.legs.length c4] 27)).lat u1).cell? ⟨w.heap.size, 4, none⟩ = some (.slice a4 T.legs.length c4) := by simp [go_sem]
  generalize (w.alloc (.cells #[.int .i64 T.places, .slice a1 T.ways.length c1, .slice a2 T.words.length c2, .slice a3 T.starts.length c3, .slice a4 T.legs.length c4] 27)).lat u1 = W1 at *
  generalize w.heap.size = Bt at *
  cases q1 : T.words.all (fun l => fromB l.length 1 4)
  · have Q1 := Lib.hid q1; clear q1
    go_wp2
    go_ret
    exact ⟨ret_int (by rw [HF.out, if_pos Q1.out]), haf⟩
  have Q1 := Lib.hid q1; clear q1
  go_wp2_with (go_at_call 51; refine (below_any _ _).mono ?_; rintro e w' ⟨rfl, rfl⟩)
  have haf2 : Aft w ((W1.alloc (.cells #[.int .i64 T.places] 3)).alloc (.cells #[.func (.func 100) #[] #[.pointer (some ⟨W1.heap.size, 0, none⟩)]] 95)) := (haf.then_alloc _).then_alloc _
  have hlt2 : W1.heap.size + 1 < ((W1.alloc (.cells #[.int .i64 T.places] 3)).alloc (.cells #[.func (.func 100) #[] #[.pointer (some ⟨W1.heap.size, 0, none⟩)]] 95)).heap.size := by simp
  have k0' := (show _ = _ from (by simp [go_sem, hlt, k0] : ((W1.alloc (.cells #[.int .i64 T.places] 3)).alloc (.cells #[.func (.func 100) #[] #[.pointer (some ⟨W1.heap.size, 0, none⟩)]] 95)).cell? ⟨Bt, 0, none⟩ = some (.int .i64 T.places)))
  have k1' := (show _ = _ from (by simp [go_sem, hlt, k1] : ((W1.alloc (.cells #[.int .i64 T.places] 3)).alloc (.cells #[.func (.func 100) #[] #[.pointer (some ⟨W1.heap.size, 0, none⟩)]] 95)).cell? ⟨Bt, 1, none⟩ = some (.slice a1 T.ways.length c1)))
  have k2' := (show _ = _ from (by simp [go_sem, hlt, k2] : ((W1.alloc (.cells #[.int .i64 T.places] 3)).alloc (.cells #[.func (.func 100) #[] #[.pointer (some ⟨W1.heap.size, 0, none⟩)]] 95)).cell? ⟨Bt, 2, none⟩ = some (.slice a2 T.words.length c2)))
  have k3' := (show _ = _ from (by simp [go_sem, hlt, k3] : ((W1.alloc (.cells #[.int .i64 T.places] 3)).alloc (.cells #[.func (.func 100) #[] #[.pointer (some ⟨W1.heap.size, 0, none⟩)]] 95)).cell? ⟨Bt, 3, none⟩ = some (.slice a3 T.starts.length c3)))
  have k4' := (show _ = _ from (by simp [go_sem, hlt, k4] : ((W1.alloc (.cells #[.int .i64 T.places] 3)).alloc (.cells #[.func (.func 100) #[] #[.pointer (some ⟨W1.heap.size, 0, none⟩)]] 95)).cell? ⟨Bt, 4, none⟩ = some (.slice a4 T.legs.length c4)))
  have kp := (show _ = _ from (by simp [go_sem] : ((W1.alloc (.cells #[.int .i64 T.places] 3)).alloc (.cells #[.func (.func 100) #[] #[.pointer (some ⟨W1.heap.size, 0, none⟩)]] 95)).cell? ⟨W1.heap.size, 0, none⟩ = some (.int .i64 T.places)))
  have kf := (show _ = _ from (by simp [go_sem] : ((W1.alloc (.cells #[.int .i64 T.places] 3)).alloc (.cells #[.func (.func 100) #[] #[.pointer (some ⟨W1.heap.size, 0, none⟩)]] 95)).cell? ⟨W1.heap.size + 1, 0, none⟩ = some (.func (.func 100) #[] #[.pointer (some ⟨W1.heap.size, 0, none⟩)])))
  clear k0 k1 k2 k3 k4
  generalize (W1.alloc (.cells #[.int .i64 T.places] 3)).alloc (.cells #[.func (.func 100) #[] #[.pointer (some ⟨W1.heap.size, 0, none⟩)]] 95) = W2 at *
  have hs1 : W1.heap.size < W2.heap.size := by omega
  have hs0 : Bt < W2.heap.size := by omega
  generalize W1.heap.size = Bp at *
  have hTw : TRep W2 T a1 a2 a3 a4 := hT.aft haf2
  have hwl := hTw.ways.len (by decide)
  go_loopw [51] (fun i wr => ∃ k : Nat, i = .int .i64 k ∧ k ≤ T.ways.length ∧ (∀ x ∈ T.ways.take k, wayErr T.places x = 0) ∧ Aft W2 wr) (fun i _ => T.ways.length - (intOf i).toNat)
  case atStart => exact ⟨0, rfl, by omega, by simp, Aft.refl _⟩
  case round =>
    obtain ⟨k, rfl, hk, hok, u, rfl⟩ := hrel
    have HO := Lib.hid hok
    clear hok
    by_cases hlk : k < T.ways.length
    · obtain ⟨bw, ow, rfl, hbw, hc⟩ := hTw.ways.at hlk
      obtain ⟨vs, hv1, hv2, hv3⟩ := hc k hlk
      cases hv2
      have cA : W2.cell? ⟨bw, ow + k * 3, none⟩ = some (.int .i64 T.ways[k].a) := hv3 0 (by simp)
      have cB : W2.cell? ⟨bw, ow + k * 3 + 1, none⟩ = some (.int .i64 T.ways[k].b) := hv3 1 (by simp)
      have cK : W2.cell? ⟨bw, ow + k * 3 + 2, none⟩ = some (.int .i64 T.ways[k].kind) := hv3 2 (by simp)
      have hat := Lib.hid (waysErr_at T.places T.ways k hlk HO.out)
      have hstep : Hid (wayErr T.places T.ways[k] = 0 → ∀ x ∈ T.ways.take (k + 1), wayErr T.places x = 0) := Lib.hid fun h x hx => by
        rw [List.take_succ_eq_append_getElem hlk, List.mem_append] at hx
        rcases hx with hx | hx
        · exact HO.out x hx
        · rw [List.mem_singleton] at hx; subst hx; exact h
      clear hc hv1 hv3
      generalize T.ways[k] = x at *
      have CA := Lib.hid (fun W (h : W.cell? ⟨Bp, 0, none⟩ = some (.int .i64 T.places)) => below1_any x.a T.places Bp W h (by omega) (by omega))
      have CB := Lib.hid (fun W (h : W.cell? ⟨Bp, 0, none⟩ = some (.int .i64 T.places)) => below1_any x.b T.places Bp W h (by omega) (by omega))
      have CK := Lib.hid (fun W => from_any x.kind 0 7 W)
      go_wp2_with fail
      refine (CA.out _ (by simp [go_sem, hs1, kp])).mono ?_
      rintro e w' ⟨rfl, rfl⟩
      cases ha : fromB x.a 0 (T.places - 1)
      · have HA := Lib.hid ha; clear ha
        go_wp2
        go_ret
        have e2 : wayErr T.places x = 2 := by unfold wayErr; simp [HA.out]
        exact ⟨ret_int (by rw [HF.out, if_neg (by rw [Q1.out]; decide), hat.out (by rw [e2]; decide), e2]; rfl), haf2.trans ((Aft.lat _ _).then_alloc _)⟩
      have HA := Lib.hid ha; clear ha
      go_wp2_with fail
      refine (CB.out _ (by simp [go_sem, hs1, kp])).mono ?_
      rintro e w' ⟨rfl, rfl⟩
      cases hb : fromB x.b 0 (T.places - 1)
      · have HB := Lib.hid hb; clear hb
        go_wp2
        go_ret
        have e2 : wayErr T.places x = 2 := by unfold wayErr; simp [HB.out]
        exact ⟨ret_int (by rw [HF.out, if_neg (by rw [Q1.out]; decide), hat.out (by rw [e2]; decide), e2]; rfl), haf2.trans ((Aft.lat _ _).then_alloc _)⟩
      have HB := Lib.hid hb; clear hb
      by_cases hab : x.a = x.b
      · have hab' : (x.a == x.b) = true := by rw [beq_iff_eq]; exact hab
        have hba' : (x.b == x.a) = true := by rw [beq_iff_eq]; exact hab.symm
        have HAB := Lib.hid hab; clear hab
        go_wp2_with fail
        go_ret
        have e2 : wayErr T.places x = 2 := by unfold wayErr; simp [HAB.out]
        exact ⟨ret_int (by rw [HF.out, if_neg (by rw [Q1.out]; decide), hat.out (by rw [e2]; decide), e2]; rfl), haf2.trans ((Aft.lat _ _).then_alloc _)⟩
      · have hab' : (x.a == x.b) = false := by rw [beq_eq_false_iff_ne]; exact hab
        have hba' : (x.b == x.a) = false := by rw [beq_eq_false_iff_ne]; exact fun h => hab h.symm
        have HAB := Lib.hid hab; clear hab
        go_wp2_with fail
        refine (CK.out _).mono ?_
        rintro e w' ⟨rfl, rfl⟩
        cases hk7 : fromB x.kind 0 7
        · have HK := Lib.hid hk7; clear hk7
          go_wp2_with fail
          go_ret
          have e2 : wayErr T.places x = 4 := by unfold wayErr; simp [HA.out, HB.out, HAB.out, HK.out]
          exact ⟨ret_int (by rw [HF.out, if_neg (by rw [Q1.out]; decide), hat.out (by rw [e2]; decide), e2]; rfl), haf2.trans ((Aft.lat _ _).then_alloc _)⟩
        · have HK := Lib.hid hk7; clear hk7
          go_wp2_with fail
          go_roundw
          case rel =>
            have e2 : wayErr T.places x = 0 := by unfold wayErr; simp [HA.out, HB.out, HAB.out, HK.out]
            exact ⟨k + 1, by go_num, by omega, hstep.out e2, (Aft.lat _ _).then_alloc _⟩
          case measure => simp [intOf]; omega
    · have hz : waysErr T.places T.ways = 0 := (waysErr_zero _ _).2 (by have := HO.out; rwa [List.take_of_length_le (by omega)] at this)
      have HZ := Lib.hid hz
      clear hz HO
      have hwl2 := hTw.words.len (by decide)
      -- the meanings' kinds
      have M1 := Lib.hid (fun W (ha : Aft W2 W) => meanings_any T a1 a2 a3 a4 c1 c2 c3 c4 53 [] (fun m => m.kinds.all fun x => fromB x 0 7) W (hTw.aft ha) runs_53 (fun l _ m _ u' v0 v1 hv => check2_asks m v0 v1 _ hv))
      have M2 := Lib.hid (fun W (ha : Aft W2 W) => meanings_any T a1 a2 a3 a4 c1 c2 c3 c4 55 [.pointer (some ⟨Bp + 1, 0, none⟩)] (fun m => m.ends.all fun x => fromB x 0 (T.places - 1)) W (hTw.aft ha) runs_55 (fun l _ m _ u' v0 v1 hv => by
        obtain ⟨u0, rfl⟩ := ha
        exact check3_asks m v0 v1 (Bp + 1) Bp T.places _ hv (Nat.lt_of_lt_of_le hlt2 ((Aft.lat W2 u0).then_lat u').size) (by simp [go_sem, hlt2, kf]) (Nat.lt_of_lt_of_le hs1 ((Aft.lat W2 u0).then_lat u').size) (by simp [go_sem, hs1, kp]) (by omega) (by omega)))
      have M3 := Lib.hid (fun W (ha : Aft W2 W) => each_below a3 T.starts c3 Bp T.places W (hTw.starts.aft ha) (Nat.lt_of_lt_of_le hs1 ha.size) (by obtain ⟨u0, rfl⟩ := ha; simp [go_sem, hs1, kp]) (by omega) (by omega))
      have M5 := Lib.hid (fun W (ha : Aft W2 W) => meanings_any T a1 a2 a3 a4 c1 c2 c3 c4 58 [] (fun m => risesB m.kinds && risesB m.ends) W (hTw.aft ha) runs_58 (fun l _ m _ u' v0 v1 hv => check5_asks m v0 v1 _ hv))
      have M6 := Lib.hid (fun W (ha : Aft W2 W) => rises_any a3 T.starts c3 W (hTw.starts.aft ha))
      go_wp2_with fail
      refine (below_any _ _).mono ?_
      rintro e w' ⟨rfl, rfl⟩
      go_upto_block 2 with (fail)
      have haf3 : Aft W2 (((W2.lat u).alloc (.cells #[.int .i64 T.words.length] 3)).alloc (.cells #[.func (.func 100) #[] #[.pointer (some ⟨(W2.lat u).heap.size, 0, none⟩)]] 95)) := ((Aft.lat _ _).then_alloc _).then_alloc _
      have hq1 : (W2.lat u).heap.size + 1 < (((W2.lat u).alloc (.cells #[.int .i64 T.words.length] 3)).alloc (.cells #[.func (.func 100) #[] #[.pointer (some ⟨(W2.lat u).heap.size, 0, none⟩)]] 95)).heap.size := by simp
      have kq : (((W2.lat u).alloc (.cells #[.int .i64 T.words.length] 3)).alloc (.cells #[.func (.func 100) #[] #[.pointer (some ⟨(W2.lat u).heap.size, 0, none⟩)]] 95)).cell? ⟨(W2.lat u).heap.size, 0, none⟩ = some (.int .i64 T.words.length) := by simp [go_sem]
      have kg : (((W2.lat u).alloc (.cells #[.int .i64 T.words.length] 3)).alloc (.cells #[.func (.func 100) #[] #[.pointer (some ⟨(W2.lat u).heap.size, 0, none⟩)]] 95)).cell? ⟨(W2.lat u).heap.size + 1, 0, none⟩ = some (.func (.func 100) #[] #[.pointer (some ⟨(W2.lat u).heap.size, 0, none⟩)]) := by simp [go_sem]
      generalize ((W2.lat u).alloc (.cells #[.int .i64 T.words.length] 3)).alloc (.cells #[.func (.func 100) #[] #[.pointer (some ⟨(W2.lat u).heap.size, 0, none⟩)]] 95) = W3 at *
      have hq0 : (W2.lat u).heap.size < W3.heap.size := by omega
      generalize (W2.lat u).heap.size = Bq at *
      have r0 : W3.cell? ⟨Bt, 0, none⟩ = some (.int .i64 T.places) := by obtain ⟨u', rfl⟩ := haf3; rw [World.lat_cell _ _ _ _ hs0]; exact k0'
      have r1 : W3.cell? ⟨Bt, 1, none⟩ = some (.slice a1 T.ways.length c1) := by obtain ⟨u', rfl⟩ := haf3; rw [World.lat_cell _ _ _ _ hs0]; exact k1'
      have r2 : W3.cell? ⟨Bt, 2, none⟩ = some (.slice a2 T.words.length c2) := by obtain ⟨u', rfl⟩ := haf3; rw [World.lat_cell _ _ _ _ hs0]; exact k2'
      have r3 : W3.cell? ⟨Bt, 3, none⟩ = some (.slice a3 T.starts.length c3) := by obtain ⟨u', rfl⟩ := haf3; rw [World.lat_cell _ _ _ _ hs0]; exact k3'
      have r4 : W3.cell? ⟨Bt, 4, none⟩ = some (.slice a4 T.legs.length c4) := by obtain ⟨u', rfl⟩ := haf3; rw [World.lat_cell _ _ _ _ hs0]; exact k4'
      have rf : W3.cell? ⟨Bp + 1, 0, none⟩ = some (.func (.func 100) #[] #[.pointer (some ⟨Bp, 0, none⟩)]) := by obtain ⟨u', rfl⟩ := haf3; rw [World.lat_cell _ _ _ _ hlt2]; exact kf
      have z0 : Bt < W3.heap.size := Nat.lt_of_lt_of_le hs0 haf3.size
      have z1 : Bp + 1 < W3.heap.size := Nat.lt_of_lt_of_le hlt2 haf3.size
      have M4 := Lib.hid (fun W (ha : Aft W3 W) => each_leg LegR LegR.mono 57 [.pointer (some ⟨Bq + 1, 0, none⟩)] (legOk T.words.length) a4 T.legs c4 W (hTw.legs.aft LegR.mono (haf3.trans ha)) runs_57 (fun l _ u' v0 v1 hv => by
        cases hv
        obtain ⟨u0, rfl⟩ := ha
        exact check4_asks l (Bq + 1) Bq T.words.length _ (Nat.lt_of_lt_of_le hq1 ((Aft.lat _ u0).then_lat u').size) (by rw [World.lat_cell _ _ _ _ (Nat.lt_of_lt_of_le hq1 (World.lat_size _ _)), World.lat_cell _ _ _ _ hq1]; exact kg)
          (Nat.lt_of_lt_of_le hq0 ((Aft.lat _ u0).then_lat u').size) (by rw [World.lat_cell _ _ _ _ (Nat.lt_of_lt_of_le hq0 (World.lat_size _ _)), World.lat_cell _ _ _ _ hq0]; exact kq) (by omega) (by omega)))
      clear kq kg k0' k1' k2' k3' k4' kp kf hs0 hs1 hlt2
      have hafw := haf2.trans haf3
      go_wp2_with fail
      refine (M1.out _ (haf3)).mono ?_
      rintro e w' ⟨rfl, ha⟩
      obtain ⟨u9, rfl⟩ := ha
      cases q3 : T.words.all (fun l => l.all fun m => m.kinds.all fun x => fromB x 0 7)
      · have Q3 := Lib.hid q3; clear q3
        go_wp2_with fail
        go_ret
        exact ⟨ret_int (by rw [HF.out, if_neg (by rw [Q1.out]; decide), if_neg (by rw [HZ.out]; decide), if_pos Q3.out]), hafw.trans (Aft.lat _ _)⟩
      have Q3 := Lib.hid q3; clear q3
      go_wp2_with fail
      refine (M2.out _ (haf3.trans (Aft.lat _ _))).mono ?_
      rintro e w' ⟨rfl, ha⟩
      obtain ⟨u9, rfl⟩ := (Aft.lat _ _).trans ha
      clear ha
      cases q4 : T.words.all (fun l => l.all fun m => m.ends.all fun x => fromB x 0 (T.places - 1))
      · have Q4 := Lib.hid q4; clear q4
        go_wp2_with fail
        go_ret
        exact ⟨ret_int (by rw [HF.out, if_neg (by rw [Q1.out]; decide), if_neg (by rw [HZ.out]; decide), if_neg (by rw [Q3.out]; decide), if_pos Q4.out]), hafw.trans (Aft.lat _ _)⟩
      have Q4 := Lib.hid q4; clear q4
      go_wp2_with fail
      refine (M3.out _ (haf3.trans (Aft.lat _ _))).mono ?_
      rintro e w' ⟨rfl, ha⟩
      obtain ⟨u9, rfl⟩ := (Aft.lat _ _).trans ha
      clear ha
      cases q5 : T.starts.all (fun x => fromB x 0 (T.places - 1))
      · have Q5 := Lib.hid q5; clear q5
        go_wp2_with fail
        go_ret
        exact ⟨ret_int (by rw [HF.out, if_neg (by rw [Q1.out]; decide), if_neg (by rw [HZ.out]; decide), if_neg (by rw [Q3.out]; decide), if_neg (by rw [Q4.out]; decide), if_pos Q5.out]), hafw.trans (Aft.lat _ _)⟩
      have Q5 := Lib.hid q5; clear q5
      go_wp2_with fail
      refine (M4.out _ (Aft.lat _ _)).mono ?_
      rintro e w' ⟨rfl, ha⟩
      obtain ⟨u9, rfl⟩ := (Aft.lat _ _).trans ha
      clear ha
      cases q6 : T.legs.all (legOk T.words.length)
      · have Q6 := Lib.hid q6; clear q6
        go_wp2_with fail
        go_ret
        exact ⟨ret_int (by rw [HF.out, if_neg (by rw [Q1.out]; decide), if_neg (by rw [HZ.out]; decide), if_neg (by rw [Q3.out]; decide), if_neg (by rw [Q4.out]; decide), if_neg (by rw [Q5.out]; decide), if_pos Q6.out]), hafw.trans (Aft.lat _ _)⟩
      have Q6 := Lib.hid q6; clear q6
      go_wp2_with fail
      refine (M5.out _ (haf3.trans (Aft.lat _ _))).mono ?_
      rintro e w' ⟨rfl, ha⟩
      obtain ⟨u9, rfl⟩ := (Aft.lat _ _).trans ha
      clear ha
      have hnofin : (T.words.all (fun l => l.all fun m => risesB m.kinds && risesB m.ends) && risesB T.starts) = false → checkE T = 5 := fun h => by
        rw [HF.out, if_neg (by rw [Q1.out]; decide), if_neg (by rw [HZ.out]; decide), if_neg (by rw [Q3.out]; decide), if_neg (by rw [Q4.out]; decide), if_neg (by rw [Q5.out]; decide), if_neg (by rw [Q6.out]; decide), if_pos h]
      have hyes : (T.words.all (fun l => l.all fun m => risesB m.kinds && risesB m.ends) && risesB T.starts) = true → checkE T = if 256 < prodLen T.words then 11 else 0 := fun h => by
        rw [HF.out, if_neg (by rw [Q1.out]; decide), if_neg (by rw [HZ.out]; decide), if_neg (by rw [Q3.out]; decide), if_neg (by rw [Q4.out]; decide), if_neg (by rw [Q5.out]; decide), if_neg (by rw [Q6.out]; decide), if_neg (by rw [h]; decide)]
      have HNO := Lib.hid hnofin
      have HYES := Lib.hid hyes
      clear hnofin hyes
      cases q7 : T.words.all (fun l => l.all fun m => risesB m.kinds && risesB m.ends)
      · have Q7 := Lib.hid q7; clear q7
        go_wp2_with fail
        go_ret
        exact ⟨ret_int (by rw [HNO.out (by rw [Q7.out]; rfl)]), hafw.trans (Aft.lat _ _)⟩
      have Q7 := Lib.hid q7; clear q7
      go_wp2_with fail
      refine (M6.out _ (haf3.trans (Aft.lat _ _))).mono ?_
      rintro e w' ⟨rfl, ha⟩
      obtain ⟨u9, rfl⟩ := (Aft.lat _ _).trans ha
      clear ha
      cases q8 : risesB T.starts
      · have Q8 := Lib.hid q8; clear q8
        go_wp2_with fail
        go_ret
        exact ⟨ret_int (by rw [HNO.out (by rw [Q8.out, Bool.and_false])]), hafw.trans (Aft.lat _ _)⟩
      have Q8 := Lib.hid q8; clear q8
      have HY := Lib.hid (HYES.out (by rw [Q7.out, Q8.out]; rfl))
      go_wp2_with fail
      clear HNO HYES M1 M2 M3 M4 M5 M6
      have hle4 : ∀ l ∈ T.words, l.length ≤ 4 := fun l hl => by have := fromB_iff.1 (List.all_eq_true.1 Q1.out l hl); omega
      have HP4 := Lib.hid (fun k hk => prodLen_le T.words hle4 k hk)
      have HL4 := Lib.hid hle4
      clear hle4
      have hTz := hTw.words.aft WordR.mono (haf3.trans (Aft.lat _ u9))
      have hz9 := hafw.trans (Aft.lat _ u9)
      generalize W3.lat u9 = W9 at *
      go_loop [7, 121] (fun m i => ∃ k : Nat, i = .int .i64 k ∧ k ≤ T.words.length ∧ m = .int .i64 (prodLen (T.words.take k))) (fun _ i => T.words.length - (intOf i).toNat)
      case atStart => exact ⟨0, rfl, by omega, rfl⟩
      case round =>
        obtain ⟨k, rfl, hk, rfl⟩ := hrel
        by_cases hlk : k < T.words.length
        · obtain ⟨bw, ow, rfl, hbw, hc⟩ := hTz.at hlk
          obtain ⟨vs, hv1, ⟨A, c, hv2, _⟩, hv3⟩ := hc k hlk
          cases hv2
          have cA : W9.cell? ⟨bw, ow + k, none⟩ = some (.slice A T.words[k].length c) := by simpa using hv3 0 (by simp)
          have hpk := prodLen_succ T.words k hlk
          have h1 := HP4.out k hk
          have h2 := HL4.out T.words[k] (List.getElem_mem hlk)
          have h3 : 4 ^ k ≤ 4 ^ 6 := Nat.pow_le_pow_right (by decide) (by omega)
          have h4 : prodLen (T.words.take k) ≤ 4096 := Nat.le_trans h1 (Nat.le_trans h3 (by decide))
          have HPK := Lib.hid hpk
          clear hc hv1 hv3 hpk h1 h3
          generalize T.words[k].length = n at *
          generalize prodLen (T.words.take k) = m at *
          have h5 : m * n ≤ 4096 * 4 := Nat.mul_le_mul h4 h2
          have e5 : IntKind.i64.wrap ((m : Int) * (n : Int)) = ((m * n : Nat) : Int) := by rw [IntWalk.i64_in _ (by rw [← Int.natCast_mul]; omega), Int.natCast_mul]
          go_wp2_with fail
          go_round
          case rel => exact ⟨k + 1, by go_num, by omega, by rw [HPK.out, Int.natCast_mul]⟩
          case measure => simp [intOf]; omega
        · have hpp := HP4.out k hk
          have h3 : 4 ^ k ≤ 4 ^ 6 := Nat.pow_le_pow_right (by decide) (by omega)
          have h4 : prodLen (T.words.take k) ≤ 4096 := Nat.le_trans hpp (Nat.le_trans h3 (by decide))
          have e : T.words.take k = T.words := List.take_of_length_le (by omega)
          rw [e] at h4 ⊢
          clear hpp h3 e
          by_cases h256 : (256 : Int) < prodLen T.words
          · go_wp2_with fail
            go_ret
            exact ⟨ret_int (by rw [HY.out, if_pos (by omega)]), hz9⟩
          · go_wp2_with fail
            go_ret
            exact ⟨ret_int (by rw [HY.out, if_neg (by omega)]), hz9⟩

/-- P1.1: Check -/
theorem check_any (T : Treaty) (a1 a2 a3 a4 : Option Addr) (c1 c2 c3 c4 : Nat) (w : World) (hT : TRep w T a1 a2 a3 a4) :
    Calls Try.prog 13 #[.agg #[.int .i64 T.places, .slice a1 T.ways.length c1, .slice a2 T.words.length c2, .slice a3 T.starts.length c3, .slice a4 T.legs.length c4]] w fun e w' => e = .returned (.int .i64 (checkE T)) ∧ Aft w w' := by
  cases h : cntBad T
  · exact check_main T a1 a2 a3 a4 c1 c2 c3 c4 w hT h
  · refine (check_cnt T a1 a2 a3 a4 c1 c2 c3 c4 w hT h).mono fun e w' ⟨he, ha⟩ => ⟨?_, ha⟩
    rw [he]
    unfold checkE
    rw [if_pos h]
end Go.Proofs
end

section
/- Plain: where one can go, by a search that follows each way once. -/
namespace Go.Proofs

/-- whether a way joins two places, one way or the other, and is of some kind -/
def joins (kinds : List Int) (w : Way) (a b : Int) : Bool := hasB kinds w.kind && (decide (w.a = a) && decide (w.b = b) || decide (w.b = a) && decide (w.a = b))
def edgeB (ws : List Way) (kinds : List Int) (a b : Int) : Bool := ws.any fun w => joins kinds w a b

/-- One can go along one way or more. -/
inductive ReachP (E : Int → Int → Bool) : Int → Int → Prop
  | one {a b : Int} : E a b = true → ReachP E a b
  | step {a b c : Int} : E a b = true → ReachP E b c → ReachP E a c

/-- What a search that began with xs may have come to. -/
structure DfsOk (E : Int → Int → Bool) (s : Int) (xs ys : List Int) : Prop where
  len : xs.length ≤ ys.length
  sub : ∀ x ∈ xs, x ∈ ys
  nodup : ys.Nodup
  reach : ∀ y ∈ ys, y ∉ xs → ReachP E s y
  closed : ∀ y ∈ ys, y ∉ xs → ∀ z, E y z = true → z ∈ ys

theorem DfsOk.refl {E : Int → Int → Bool} {s : Int} {xs : List Int} (h : xs.Nodup) : DfsOk E s xs xs := ⟨Nat.le_refl _, fun _ h => h, h, fun _ h1 h2 => absurd h1 h2, fun _ h1 h2 => absurd h1 h2⟩

theorem DfsOk.grow {E : Int → Int → Bool} {s b : Int} {xs ys zs : List Int} (h : DfsOk E s xs ys) (he : E s b = true) (k : DfsOk E b (ys ++ [b]) zs) (hb : ∀ z, E b z = true → z ∈ zs) : DfsOk E s xs zs := by
  have hsub : ∀ y ∈ ys, y ∈ zs := fun y hy => k.sub y (by simp [hy])
  refine ⟨by have := h.len; have := k.len; simp at this; omega, fun x hx => hsub x (h.sub x hx), k.nodup, fun y hy hyx => ?_, fun y hy hyx z hz => ?_⟩
  · by_cases e : y ∈ ys ++ [b]
    · rw [List.mem_append, List.mem_singleton] at e
      rcases e with e | rfl
      · exact h.reach y e hyx
      · exact .one he
    · exact .step he (k.reach y hy e)
  · by_cases e : y ∈ ys ++ [b]
    · rw [List.mem_append, List.mem_singleton] at e
      rcases e with e | rfl
      · exact hsub z (h.closed y e hyx z hz)
      · exact hb z hz
    · exact k.closed y hy e z hz

/-- A search from nothing finds just what can be reached. -/
theorem DfsOk.all {E : Int → Int → Bool} {s : Int} {ys : List Int} (h : DfsOk E s [] ys) (hs : ∀ z, E s z = true → z ∈ ys) (y : Int) : y ∈ ys ↔ ReachP E s y := by
  refine ⟨fun hy => h.reach y hy (by simp), fun hr => ?_⟩
  have gen : ∀ a b, ReachP E a b → (∀ z, E a z = true → z ∈ ys) → b ∈ ys := by
    intro a b hr
    induction hr with
    | one he => exact fun hh => hh _ he
    | step he _ ih => exact fun hh => ih fun z hz => h.closed _ (hh _ he) (by simp) z hz
  exact gen s y hr hs

theorem nodup_le_nat (p : Nat) (l : List Nat) (hn : l.Nodup) (hr : ∀ x ∈ l, x < p) : l.length ≤ p := by
  induction p generalizing l with
  | zero =>
    cases l with
    | nil => simp
    | cons a r => exact absurd (hr a (by simp)) (by omega)
  | succ p ih =>
    by_cases hp : p ∈ l
    · have h1 := ih (l.erase p) (hn.erase p) (fun x hx => by
        rw [hn.mem_erase_iff] at hx
        have := hr x hx.2
        omega)
      rw [List.length_erase_of_mem hp] at h1
      omega
    · have := ih l hn (fun x hx => by
        have := hr x hx
        have : x ≠ p := fun e => hp (e ▸ hx)
        omega)
      omega
/-- Numbers below p without one twice are at most p. -/
theorem nodup_le {p : Nat} {l : List Int} (hn : l.Nodup) (hr : ∀ x ∈ l, 0 ≤ x ∧ x < p) : l.length ≤ p := by
  have h1 : (l.map Int.toNat).Nodup := by
    rw [List.Nodup, List.pairwise_map]
    exact hn.imp_of_mem fun {a b} ha hb hab e => hab (by have := hr a ha; have := hr b hb; omega)
  have := nodup_le_nat p (l.map Int.toNat) h1 (fun x hx => by
    obtain ⟨y, hy, rfl⟩ := List.mem_map.1 hx
    have := hr y hy
    omega)
  simpa using this

theorem edgeB_take_succ (ws : List Way) (kinds : List Int) (a b : Int) (k : Nat) (h : k < ws.length) : edgeB (ws.take (k + 1)) kinds a b = (edgeB (ws.take k) kinds a b || joins kinds ws[k] a b) := by
  unfold edgeB; rw [any_take_succ _ _ _ h]
theorem edgeB_of_joins (ws : List Way) (kinds : List Int) (a b : Int) (k : Nat) (h : k < ws.length) (hj : joins kinds ws[k] a b = true) : edgeB ws kinds a b = true := any_of_get _ _ k h hj
end Go.Proofs
end

section
/- More words for memory. -/
namespace Go
open Go.RowKit

/-- append(v, x...) to a slice of the call's own, from whatever source. -/
theorem wpList_app_at {P : Program} {w : World} {ops : Array Oper} {rest : List Oper} {o : Oper} {a : Act} {Q : Exit → Act → World → Prop} {t e : TypeId} {size bytes : Nat} (hT : SliceTy P t e size bytes)
    (hgd : o.guard = none) (s x : Operand) (ho : o.op = .call { callee := .builtin .append, args := #[s, x], argTypes := #[t, t] })
    {base : Nat} (hbase : base ≤ w.heap.size) {v : Value} {n : Nat} {xs : List Value} (hs : a.eval s = v) (hown : w.ownsRow base e size v n xs)
    {A : Option Addr} {m c : Nat} {news : List Value} (hx : a.eval x = .slice A m c) (hl : news.length = m * size) (hA : A = none → m = 0)
    (hnews : ∀ ad, A = some ad → ∀ j u, news[j]? = some u → w.cell? (ad.add j) = some u) (h1 : ∀ u ∈ news, u.oneCell' = true)
    (hbytes : (n + m) * bytes ≤ 140737488355328) (hpos : 0 < bytes)
    (h : ∀ v' w', w'.ownsRow base e size v' (n + m) (xs ++ news) → w.grownBy w' v.ownBlock → wpList P ops Q rest (a.put o.dst v') w') : wpList P ops Q (o :: rest) a w := by
  obtain ⟨ht, ⟨i, z, hi, hz, hsize, hby, hzs⟩, hsz⟩ := hT
  have h63 : n + m ≤ maxLen := by
    have : (n + m) * 1 ≤ (n + m) * bytes := Nat.mul_le_mul_left _ hpos
    unfold maxLen; omega
  cases A with
  | some ad =>
    exact wpList_append_own w hgd s x t ho base e i z size bytes ht hi hz hsize hby hzs hsz v n xs hs hown ad m c news hx hl (hnews ad rfl) h1 h63 hbytes hbase
      fun v' w' h2 h3 _ => h v' w' h2 h3
  | none =>
    have hm := hA rfl
    subst hm
    have hn : news = [] := List.eq_nil_of_length_eq_zero (by simpa using hl)
    subst hn
    refine wpList_plain hgd fun K hK => ?_
    have hr := run_app_none (ty := o.type) ht hi hown c
    unfold Oper.wp execOp
    simp only [ho, resolve, invoke, builtin, Sem.run_bind, Sem.run_pure, Result.andThen_ok, List.map_toArray, List.map_cons, List.map_nil, hs, hx, hr]
    exact hK _ _ (h v w (by simpa using hown) (World.grownBy.refl w _))

/-- append(v, one new thing), the thing lying in a block just laid. -/
theorem src_one (W : World) (v : Value) (t : TypeId) : ∀ ad, some (⟨W.heap.size, 0, none⟩ : Addr) = some ad → ∀ j u, [v][j]? = some u → (W.alloc (.cells #[v] t)).cell? (ad.add j) = some u := by
  intro ad e j u h
  cases e
  exact src_new W #[v] t j u h
theorem src_at (W : World) (v : Value) (t : TypeId) (b : Nat) (hb : b = W.heap.size) : ∀ ad, some (⟨b, 0, none⟩ : Addr) = some ad → ∀ j u, [v][j]? = some u → (W.alloc (.cells #[v] t)).cell? (ad.add j) = some u := by
  subst hb; exact src_one W v t
theorem one_int (x : Int) : ∀ u ∈ [Value.int .i64 x], u.oneCell' = true := by intro u hu; rw [List.mem_singleton] at hu; subst hu; rfl
theorem cell_grown {w w' : World} {row : Option Nat} (hg : w.grownBy w' row) {b i : Nat} (hb : b < w.heap.size) (hr : some b ≠ row) : w'.cell? ⟨b, i, none⟩ = w.cell? ⟨b, i, none⟩ := World.cell?_of_block (hg.block b hb hr)
theorem frozen_grown {w w' : World} {row : Option Nat} (hg : w.grownBy w' row) {b i : Nat} (hb : b < w.heap.size) (hr : some b ≠ row) : w'.frozen? ⟨b, i, none⟩ = w.frozen? ⟨b, i, none⟩ := World.frozen?_of_block (hg.block b hb hr)
end Go
end

section
/- Walks: where one can go. -/
namespace Go.Proofs
open Go.RowKit

/-- The state of a search: the boxes that its closure has, and the list that it grows. -/
structure FInv (w0 : World) (D : Nat) (Ak : Option Addr) (ck : Nat) (kinds : List Int) (W : World) (ys : List Int) : Prop where
  aft : Aft w0 W
  size : w0.heap.size + 4 ≤ W.heap.size
  kd : W.cell? ⟨w0.heap.size, 0, none⟩ = some (.pointer (some ⟨D, 0, none⟩))
  kk : W.cell? ⟨w0.heap.size + 1, 0, none⟩ = some (.slice Ak kinds.length ck)
  kf : W.cell? ⟨w0.heap.size + 3, 0, none⟩ = some (.func (.func 120) #[] #[.pointer (some ⟨w0.heap.size, 0, none⟩), .pointer (some ⟨w0.heap.size + 1, 0, none⟩), .pointer (some ⟨w0.heap.size + 2, 0, none⟩), .pointer (some ⟨w0.heap.size + 3, 0, none⟩)])
  ko : ∃ A c, W.cell? ⟨w0.heap.size + 2, 0, none⟩ = some (.slice A ys.length c) ∧ W.ownsRow (w0.heap.size + 4) 3 1 (.slice A ys.length c) ys.length (ys.map (Value.int .i64))
  kz : W.frozen? ⟨w0.heap.size + 2, 0, none⟩ = false

section
variable {w0 : World} {D : Nat} {Ak : Option Addr} {ck : Nat} {kinds : List Int} {W W' : World} {ys : List Int}
theorem FInv.later (h : FInv w0 D Ak ck kinds W ys) (ha : Aft W W') : FInv w0 D Ak ck kinds W' ys := by
  have hs := h.size
  obtain ⟨A, c, h1, h2⟩ := h.ko
  obtain ⟨u, rfl⟩ := ha
  exact ⟨h.aft.then_lat u, Nat.le_trans hs (World.lat_size _ _), (World.lat_cell _ _ _ _ (by omega)).trans h.kd, (World.lat_cell _ _ _ _ (by omega)).trans h.kk, (World.lat_cell _ _ _ _ (by omega)).trans h.kf,
    ⟨A, c, (World.lat_cell _ _ _ _ (by omega)).trans h1, own_lat h2 u⟩, (World.lat_frozen _ _ _ _ (by omega)).trans h.kz⟩

/-- The list grows by one: what append leaves, and the store of its slice. -/
theorem FInv.push (h : FInv w0 D Ak ck kinds W ys) {v v' : Value} {x : Int} (hv : W.cell? ⟨w0.heap.size + 2, 0, none⟩ = some v) (hown : W'.ownsRow (w0.heap.size + 4) 3 1 v' (ys.length + 1) (ys.map (Value.int .i64) ++ [Value.int .i64 x])) (hg : W.grownBy W' v.ownBlock) (hb : ∀ k, v.ownBlock = some k → w0.heap.size + 4 ≤ k) (hl : ys.length + 1 ≤ 100) :
    FInv w0 D Ak ck kinds (W'.setCell ⟨w0.heap.size + 2, 0, none⟩ v') (ys ++ [x]) := by
  have hs := h.size
  have hne : ∀ b, b < w0.heap.size + 4 → some b ≠ v.ownBlock := fun b hlt e => by have := hb b e.symm; omega
  have hs' := hg.size
  have hc2 : W'.cell? ⟨w0.heap.size + 2, 0, none⟩ = some v := (cell_grown hg (by omega) (hne _ (by omega))).trans hv
  have hown' : W'.ownsRow (w0.heap.size + 4) 3 1 v' (ys ++ [x]).length ((ys ++ [x]).map (Value.int .i64)) := by simpa using hown
  obtain ⟨A, c, rfl, _, _⟩ := own_ints hown' (by simp; omega)
  refine ⟨(h.aft.grown hg (fun k hk => by have := hb k hk; omega)).then_setCell (by simp) _, by simp [World.setCell]; omega, ?_, ?_, ?_, ⟨A, c, World.cell?_setCell_same _ _ _ hc2, ownsRow_setCell_below hown' (by simp) _⟩, ?_⟩
  · rw [World.cell?_setCell_other _ _ _ _ (by simp), cell_grown hg (by omega) (hne _ (by omega))]; exact h.kd
  · rw [World.cell?_setCell_other _ _ _ _ (by simp), cell_grown hg (by omega) (hne _ (by omega))]; exact h.kk
  · rw [World.cell?_setCell_other _ _ _ _ (by simp), cell_grown hg (by omega) (hne _ (by omega))]; exact h.kf
  · rw [World.frozen?_setCell, frozen_grown hg (by omega) (hne _ (by omega))]; exact h.kz
end

theorem own_pushed {w : World} {base : Nat} {v : Value} {ys : List Int} {x : Int} (h : w.ownsRow base 3 1 v (ys.length + 1) (ys.map (Value.int .i64) ++ [Value.int .i64 x])) (hl : ys.length + 1 ≤ 100) : ∃ A c, v = .slice A (ys.length + 1) c := by
  have h' : w.ownsRow base 3 1 v (ys ++ [x]).length ((ys ++ [x]).map (Value.int .i64)) := by simpa using h
  obtain ⟨A, c, e, _, _⟩ := own_ints h' (by simp; omega)
  exact ⟨A, c, by simpa using e⟩

def InR (p : Int) (l : List Int) : Prop := ∀ x ∈ l, 0 ≤ x ∧ x < p

theorem InR.push {p x : Int} {ys : List Int} (h : InR p ys) (hx : 0 ≤ x ∧ x < p) : InR p (ys ++ [x]) := by
  intro z hz
  rw [List.mem_append, List.mem_singleton] at hz
  rcases hz with hz | rfl
  · exact h z hz
  · exact hx
theorem nodup_push {x : Int} {ys : List Int} (h : ys.Nodup) (hb : hasB ys x = false) : (ys ++ [x]).Nodup := by
  rw [List.nodup_append]
  refine ⟨h, by simp, fun a ha b hb' e => ?_⟩
  rw [List.mem_singleton] at hb'
  subst hb' e
  rw [hasB_iff.2 ha] at hb
  exact Bool.noConfusion hb

/-- What the closure leaves. -/
def Followed (w0 : World) (D : Nat) (Ak : Option Addr) (ck : Nat) (kinds : List Int) (T : Treaty) (s : Int) (xs : List Int) (e : Ending) (W' : World) : Prop :=
  e = .returned (.tuple #[]) ∧ ∃ ys, FInv w0 D Ak ck kinds W' ys ∧ DfsOk (edgeB T.ways kinds) s xs ys ∧ InR T.places ys ∧ ∀ z, edgeB T.ways kinds s z = true → z ∈ ys

set_option maxRecDepth 100000 in
set_option maxHeartbeats 2000000 in
theorem follow_any (w0 : World) (D : Nat) (Ak : Option Addr) (ck : Nat) (kinds : List Int) (T : Treaty) (a1 a2 a3 a4 : Option Addr) (c1 c2 c3 c4 : Nat) (f : Nat → Nat → Nat → Bool) (hd : Desk w0 D T a1 a2 a3 a4 c1 c2 c3 c4 f) (hways : RowsP w0 a1 3 WayR T.ways) (hkinds : Ints w0 Ak kinds)
    (hp : T.places ≤ 12) (hw : ∀ x ∈ T.ways, 0 ≤ x.a ∧ x.a < T.places ∧ 0 ≤ x.b ∧ x.b < T.places) (n : Nat) :
    ∀ (s : Int) (xs : List Int) (W : World), 13 - xs.length ≤ n → FInv w0 D Ak ck kinds W xs → xs.Nodup → InR T.places xs →
      Calls Try.prog 120 #[.int .i64 s, .pointer (some ⟨w0.heap.size, 0, none⟩), .pointer (some ⟨w0.heap.size + 1, 0, none⟩), .pointer (some ⟨w0.heap.size + 2, 0, none⟩), .pointer (some ⟨w0.heap.size + 3, 0, none⟩)] W (Followed w0 D Ak ck kinds T s xs) := by
  have HD := Lib.hid hd
  have HW := Lib.hid hw
  have hwl := hways.len (by decide)
  clear hd hw
  induction n with
  | zero =>
    intro s xs W hn hI hnd hr
    have := nodup_le (p := T.places.toNat) hnd (fun y hy => by have := hr y hy; omega)
    omega
  | succ n ih =>
    intro s xs W hn hI hnd hr
    have IH := Lib.hid ih
    clear ih
    have k1 := (HD.out.aft hI.aft).k1
    have kd := hI.kd
    have HND := Lib.hid hnd
    have HR := Lib.hid hr
    clear hnd hr
    go_enter Try.func120, Try.ntmps120
    go_wp2_with fail
    go_loopw [16] (fun i wr => ∃ k : Nat, i = .int .i64 k ∧ k ≤ T.ways.length ∧ ∃ ys, FInv w0 D Ak ck kinds wr ys ∧ DfsOk (edgeB T.ways kinds) s xs ys ∧ InR T.places ys ∧ ∀ z, edgeB (T.ways.take k) kinds s z = true → z ∈ ys) (fun i _ => T.ways.length - (intOf i).toNat)
    case atStart => exact ⟨0, rfl, by omega, xs, hI, DfsOk.refl HND.out, HR.out, fun z hz => by simp [edgeB] at hz⟩
    case round =>
      clear kd k1 hI
      obtain ⟨k, rfl, hk, ys, hI, hdo, hr, hdone⟩ := hrel
      have HDO := Lib.hid hdo
      have HR2 := Lib.hid hr
      have HDN := Lib.hid hdone
      clear hdo hr hdone
      by_cases hlk : k < T.ways.length
      · obtain ⟨bw, ow, rfl, hbw, hc⟩ := (hways.aft WayR.mono hI.aft).at hlk
        obtain ⟨vs, hv1, hv2, hv3⟩ := hc k hlk
        cases hv2
        have cA : wr.cell? ⟨bw, ow + k * 3, none⟩ = some (.int .i64 T.ways[k].a) := hv3 0 (by simp)
        have cB : wr.cell? ⟨bw, ow + k * 3 + 1, none⟩ = some (.int .i64 T.ways[k].b) := hv3 1 (by simp)
        have cK : wr.cell? ⟨bw, ow + k * 3 + 2, none⟩ = some (.int .i64 T.ways[k].kind) := hv3 2 (by simp)
        have hes := Lib.hid (fun z => edgeB_take_succ T.ways kinds s z k hlk)
        have hej := Lib.hid (fun z => edgeB_of_joins T.ways kinds s z k hlk)
        have hwr := HW.out _ (List.getElem_mem hlk)
        clear hc hv1 hv3
        generalize T.ways[k] = x at *
        have kk := hI.kk
        have hsz := hI.size
        have z1 : w0.heap.size + 1 < wr.heap.size := by omega
        have z0 : w0.heap.size < wr.heap.size := by omega
        have z2 : w0.heap.size + 2 < wr.heap.size := by omega
        have z3 : w0.heap.size + 3 < wr.heap.size := by omega
        have hki : Ints (wr.alloc (.cells #[.int .i64 x.a, .int .i64 x.b, .int .i64 x.kind] 86)) Ak kinds := (hkinds.aft hI.aft).aft (Aft.alloc _ _)
        cases hkd : hasB kinds x.kind
        · have HK := Lib.hid hkd; clear hkd
          go_wp2_with (go_at_call 68; refine (contains_any _ _ _ _ _ hki).mono ?_; rintro e w' ⟨rfl, rfl⟩; rw [HK.out])
          go_roundw
          case rel =>
            refine ⟨k + 1, by go_num, by omega, ys, hI.later (Aft.alloc _ _), HDO.out, HR2.out, fun z hz => HDN.out z ?_⟩
            rw [hes.out] at hz
            simpa [joins, HK.out] using hz
          case measure => simp [intOf]; omega
        · have HK := Lib.hid hkd; clear hkd
          go_wp2_with (go_at_call 68; refine (contains_any _ _ _ _ _ hki).mono ?_; rintro e w' ⟨rfl, rfl⟩; rw [HK.out])
          have hI0 := hI.later (Aft.alloc wr (.cells #[.int .i64 x.a, .int .i64 x.b, .int .i64 x.kind] 86))
          clear kk hsz z0 z1 z2 z3 hki cA cB cK hI hbw
          generalize wr.alloc (.cells #[.int .i64 x.a, .int .i64 x.b, .int .i64 x.kind] 86) = w5 at *
          go_loopw [34] (fun i wr => ∃ r : Nat, i = .int .i64 r ∧ r ≤ 2 ∧ ∃ ys, FInv w0 D Ak ck kinds wr ys ∧ DfsOk (edgeB T.ways kinds) s xs ys ∧ InR T.places ys ∧ (∀ z, edgeB (T.ways.take k) kinds s z = true → z ∈ ys) ∧ (1 ≤ r → x.a = s → x.b ∈ ys) ∧ (2 ≤ r → x.b = s → x.a ∈ ys)) (fun i _ => 2 - (intOf i).toNat)
          case atStart => exact ⟨0, rfl, by decide, ys, hI0, HDO.out, HR2.out, HDN.out, fun h => absurd h (by decide), fun h => absurd h (by decide)⟩
          case round =>
            clear hI0 HDO HR2 HDN ys
            obtain ⟨r, rfl, hr2, ys, hI, hdo, hr, hdone, hda, hdb⟩ := hrel
            have HDO := Lib.hid hdo
            have HR2 := Lib.hid hr
            have HDN := Lib.hid hdone
            have HDA := Lib.hid hda
            have HDB := Lib.hid hdb
            clear hdo hr hdone hda hdb
            obtain ⟨wo, hwo⟩ : ∃ wo : World, wo = wr := ⟨_, rfl⟩
            subst hwo
            obtain ⟨A, c, ko1, ko2⟩ := hI.ko
            have hsz := hI.size
            have z0 : w0.heap.size < wo.heap.size := by omega
            have z1 : w0.heap.size + 1 < wo.heap.size := by omega
            have z2 : w0.heap.size + 2 < wo.heap.size := by omega
            have z3 : w0.heap.size + 3 < wo.heap.size := by omega
            have hylen : ys.length ≤ 12 := by
              have := nodup_le (p := T.places.toNat) HDO.out.nodup (fun y hy => by have := HR2.out y hy; omega)
              omega
            have hints : Ints wo A ys := by
              obtain ⟨A', c', e, _, h⟩ := own_ints ko2 (by omega)
              cases e; exact h
            match r, hr2 with
            | 0, _ =>
              have hix : ∀ w, (Instr.index 162 (.agg #[.int .i64 x.a, .int .i64 x.b, .int .i64 x.kind, .int .i64 x.b, .int .i64 x.a, .int .i64 x.kind]) (.int .i64 0)).run Try.prog w = .ok (.agg #[.int .i64 x.a, .int .i64 x.b, .int .i64 x.kind]) w := fun _ => by kernel_rfl
              by_cases hs : x.a = s
              · have hsb : (x.a == s) = true := by rw [beq_iff_eq]; exact hs
                have HS := Lib.hid hs
                clear hs
                have hin : Ints (wo.alloc (.cells #[.int .i64 x.a, .int .i64 x.b, .int .i64 x.kind] 86)) A ys := hints.aft (Aft.alloc _ _)
                cases hm : hasB ys x.b
                · have HM := Lib.hid hm; clear hm
                  have hI3 := hI.later ((Aft.alloc wo (.cells #[.int .i64 x.a, .int .i64 x.b, .int .i64 x.kind] 86)).then_alloc (.cells #[.int .i64 x.b] 3))
                  have ko3 : ((wo.alloc (.cells #[.int .i64 x.a, .int .i64 x.b, .int .i64 x.kind] 86)).alloc (.cells #[.int .i64 x.b] 3)).cell? ⟨w0.heap.size + 2, 0, none⟩ = some (.slice A ys.length c) := by simp [go_sem, z2, ko1]
                  have k9 : ((wo.alloc (.cells #[.int .i64 x.a, .int .i64 x.b, .int .i64 x.kind] 86)).alloc (.cells #[.int .i64 x.b] 3)).cell? ⟨wo.heap.size, 1, none⟩ = some (.int .i64 x.b) := by simp [go_sem]
                  have HI3 := Lib.hid hI3
                  have K3 := Lib.hid ko3
                  have K9 := Lib.hid k9
                  have hz3 := hI3.kz
                  have HZ3 := Lib.hid hz3
                  clear hI3 ko3 k9 hz3
                  go_wp2_with (first
                    | (go_at_call 68; refine (contains_any _ _ _ _ _ hin).mono ?_; rintro e w' ⟨rfl, rfl⟩; rw [HM.out])
                    | (at_builtin; refine wpList_app_at ty24 rfl _ _ rfl (base := w0.heap.size + 4) (by simp; omega) rfl (v := .slice A ys.length c) (xs := ys.map (Value.int .i64)) (n := ys.length) (by exact (ko2.alloc _).alloc _) rfl (news := [.int .i64 x.b]) (by rfl) (by intro h; cases h) (by exact src_at _ _ _ _ (by simp)) (one_int _) (by omega) (by decide) ?_; intro v' w1 hown' hgrow; obtain ⟨A', c', rfl⟩ := own_pushed hown' (by omega); have hI4 := HI3.out.push K3.out hown' hgrow (fun k hk => (ko2.lt k hk).1) (by omega); have c2 := (cell_grown hgrow (i := 0) (b := w0.heap.size + 2) (by simp; omega) (fun e => by have := (ko2.lt _ e.symm).1; omega)).trans K3.out; have f2 := (frozen_grown hgrow (i := 0) (b := w0.heap.size + 2) (by simp; omega) (fun e => by have := (ko2.lt _ e.symm).1; omega)).trans HZ3.out; have c9 := (cell_grown hgrow (i := 1) (b := wo.heap.size) (by simp; omega) (fun e => by have := (ko2.lt _ e.symm).2; omega)).trans K9.out; have kf2 := hI4.kf; have zz : wo.heap.size ≠ w0.heap.size + 2 := (by omega); clear hown' hgrow)
                    | (refine (IH.out x.b (ys ++ [x.b]) _ (by have := HDO.out.len; simp; omega) hI4 (nodup_push HDO.out.nodup HM.out) (HR2.out.push (by omega))).mono ?_; rintro e w' ⟨rfl, zs, hJ, hdz, hrz, hez⟩))
                  go_roundw
                  case rel => exact ⟨1, by go_num, by decide, zs, hJ, DfsOk.grow HDO.out (hej.out x.b (by simp [joins, HK.out, HS.out])) hdz hez, hrz, fun z h => hdz.sub z (List.mem_append_left _ (HDN.out z h)), fun _ _ => hdz.sub _ (by simp), fun h => absurd h (by decide)⟩
                  case measure => simp [intOf]
                · have HM := Lib.hid hm; clear hm
                  go_wp2_with (go_at_call 68; refine (contains_any _ _ _ _ _ hin).mono ?_; rintro e w' ⟨rfl, rfl⟩; rw [HM.out])
                  go_roundw
                  case rel => exact ⟨1, by go_num, by decide, ys, hI.later (Aft.alloc _ _), HDO.out, HR2.out, HDN.out, fun _ _ => hasB_iff.1 HM.out, fun h => absurd h (by decide)⟩
                  case measure => simp [intOf]
              · have hsb : (x.a == s) = false := by rw [beq_eq_false_iff_ne]; exact hs
                have HS := Lib.hid hs
                clear hs
                go_wp2_with fail
                go_roundw
                case rel => exact ⟨1, by go_num, by decide, ys, hI.later (Aft.alloc _ _), HDO.out, HR2.out, HDN.out, fun _ h => absurd h HS.out, fun h => absurd h (by decide)⟩
                case measure => simp [intOf]
            | 1, _ =>
              have hix : ∀ w, (Instr.index 162 (.agg #[.int .i64 x.a, .int .i64 x.b, .int .i64 x.kind, .int .i64 x.b, .int .i64 x.a, .int .i64 x.kind]) (.int .i64 1)).run Try.prog w = .ok (.agg #[.int .i64 x.b, .int .i64 x.a, .int .i64 x.kind]) w := fun _ => by kernel_rfl
              by_cases hs : x.b = s
              · have hsb : (x.b == s) = true := by rw [beq_iff_eq]; exact hs
                have HS := Lib.hid hs
                clear hs
                have hin : Ints (wo.alloc (.cells #[.int .i64 x.b, .int .i64 x.a, .int .i64 x.kind] 86)) A ys := hints.aft (Aft.alloc _ _)
                cases hm : hasB ys x.a
                · have HM := Lib.hid hm; clear hm
                  have hI3 := hI.later ((Aft.alloc wo (.cells #[.int .i64 x.b, .int .i64 x.a, .int .i64 x.kind] 86)).then_alloc (.cells #[.int .i64 x.a] 3))
                  have ko3 : ((wo.alloc (.cells #[.int .i64 x.b, .int .i64 x.a, .int .i64 x.kind] 86)).alloc (.cells #[.int .i64 x.a] 3)).cell? ⟨w0.heap.size + 2, 0, none⟩ = some (.slice A ys.length c) := by simp [go_sem, z2, ko1]
                  have k9 : ((wo.alloc (.cells #[.int .i64 x.b, .int .i64 x.a, .int .i64 x.kind] 86)).alloc (.cells #[.int .i64 x.a] 3)).cell? ⟨wo.heap.size, 1, none⟩ = some (.int .i64 x.a) := by simp [go_sem]
                  have HI3 := Lib.hid hI3
                  have K3 := Lib.hid ko3
                  have K9 := Lib.hid k9
                  have hz3 := hI3.kz
                  have HZ3 := Lib.hid hz3
                  clear hI3 ko3 k9 hz3
                  go_wp2_with (first
                    | (go_at_call 68; refine (contains_any _ _ _ _ _ hin).mono ?_; rintro e w' ⟨rfl, rfl⟩; rw [HM.out])
                    | (at_builtin; refine wpList_app_at ty24 rfl _ _ rfl (base := w0.heap.size + 4) (by simp; omega) rfl (v := .slice A ys.length c) (xs := ys.map (Value.int .i64)) (n := ys.length) (by exact (ko2.alloc _).alloc _) rfl (news := [.int .i64 x.a]) (by rfl) (by intro h; cases h) (by exact src_at _ _ _ _ (by simp)) (one_int _) (by omega) (by decide) ?_; intro v' w1 hown' hgrow; obtain ⟨A', c', rfl⟩ := own_pushed hown' (by omega); have hI4 := HI3.out.push K3.out hown' hgrow (fun k hk => (ko2.lt k hk).1) (by omega); have c2 := (cell_grown hgrow (i := 0) (b := w0.heap.size + 2) (by simp; omega) (fun e => by have := (ko2.lt _ e.symm).1; omega)).trans K3.out; have f2 := (frozen_grown hgrow (i := 0) (b := w0.heap.size + 2) (by simp; omega) (fun e => by have := (ko2.lt _ e.symm).1; omega)).trans HZ3.out; have c9 := (cell_grown hgrow (i := 1) (b := wo.heap.size) (by simp; omega) (fun e => by have := (ko2.lt _ e.symm).2; omega)).trans K9.out; have kf2 := hI4.kf; have zz : wo.heap.size ≠ w0.heap.size + 2 := (by omega); clear hown' hgrow)
                    | (refine (IH.out x.a (ys ++ [x.a]) _ (by have := HDO.out.len; simp; omega) hI4 (nodup_push HDO.out.nodup HM.out) (HR2.out.push (by omega))).mono ?_; rintro e w' ⟨rfl, zs, hJ, hdz, hrz, hez⟩))
                  go_roundw
                  case rel => exact ⟨2, by go_num, by decide, zs, hJ, DfsOk.grow HDO.out (hej.out x.a (by simp [joins, HK.out, HS.out])) hdz hez, hrz, fun z h => hdz.sub z (List.mem_append_left _ (HDN.out z h)), fun _ e => hdz.sub _ (List.mem_append_left _ (HDA.out (by decide) e)), fun _ _ => hdz.sub _ (by simp)⟩
                  case measure => simp [intOf]
                · have HM := Lib.hid hm; clear hm
                  go_wp2_with (go_at_call 68; refine (contains_any _ _ _ _ _ hin).mono ?_; rintro e w' ⟨rfl, rfl⟩; rw [HM.out])
                  go_roundw
                  case rel => exact ⟨2, by go_num, by decide, ys, hI.later (Aft.alloc _ _), HDO.out, HR2.out, HDN.out, fun _ => HDA.out (by decide), fun _ _ => hasB_iff.1 HM.out⟩
                  case measure => simp [intOf]
              · have hsb : (x.b == s) = false := by rw [beq_eq_false_iff_ne]; exact hs
                have HS := Lib.hid hs
                clear hs
                go_wp2_with fail
                go_roundw
                case rel => exact ⟨2, by go_num, by decide, ys, hI.later (Aft.alloc _ _), HDO.out, HR2.out, HDN.out, fun _ => HDA.out (by decide), fun _ h => absurd h HS.out⟩
                case measure => simp [intOf]
            | 2, _ =>
              go_wp2_with fail
              go_roundw
              case rel =>
                refine ⟨k + 1, by go_num, by omega, ys, hI, HDO.out, HR2.out, fun z hz => ?_⟩
                rw [hes.out, Bool.or_eq_true] at hz
                rcases hz with hz | hz
                · exact HDN.out z hz
                · simp only [joins, Bool.and_eq_true, Bool.or_eq_true, decide_eq_true_eq] at hz
                  rcases hz.2 with ⟨h1, h2⟩ | ⟨h1, h2⟩
                  · rw [← h2]; exact HDA.out (by decide) h1
                  · rw [← h2]; exact HDB.out (by decide) h1
              case measure => simp [intOf]; omega
      · go_wp2_with fail
        go_end0
        refine ⟨rfl, ys, hI, HDO.out, HR2.out, fun z hz => HDN.out z ?_⟩
        rw [List.take_of_length_le (by omega)]; exact hz
end Go.Proofs
end

section
/- Plain: what a right treaty has, and where its legs lead in a reading. -/
namespace Go.Proofs

structure TOk (T : Treaty) : Prop where
  p1 : 1 ≤ T.places
  p2 : T.places ≤ 12
  nways : T.ways.length ≤ 40
  nwords : T.words.length ≤ 6
  nstarts : 1 ≤ T.starts.length
  nlegs : T.legs.length ≤ 10
  wlen : ∀ l ∈ T.words, 1 ≤ l.length ∧ l.length ≤ 4
  ways : ∀ x ∈ T.ways, 0 ≤ x.a ∧ x.a < T.places ∧ 0 ≤ x.b ∧ x.b < T.places
  kinds : ∀ l ∈ T.words, ∀ m ∈ l, ∀ x ∈ m.kinds, 0 ≤ x ∧ x ≤ 7
  ends : ∀ l ∈ T.words, ∀ m ∈ l, ∀ x ∈ m.ends, 0 ≤ x ∧ x < T.places
  starts : ∀ x ∈ T.starts, 0 ≤ x ∧ x < T.places
  legs : ∀ l ∈ T.legs, 0 ≤ l.word ∧ l.word < T.words.length ∧ (l.other = -1 ∨ 0 ≤ l.other ∧ l.other < T.words.length)
  rkinds : ∀ l ∈ T.words, ∀ m ∈ l, risesB m.kinds = true
  rends : ∀ l ∈ T.words, ∀ m ∈ l, risesB m.ends = true
  rstarts : risesB T.starts = true
  prod : prodLen T.words ≤ 256

theorem wayErr_zero {p : Int} {x : Way} (h : wayErr p x = 0) : 0 ≤ x.a ∧ x.a < p ∧ 0 ≤ x.b ∧ x.b < p := by
  unfold wayErr at h
  split at h
  · exact absurd h (by decide)
  · rename_i h1
    simp only [Bool.or_eq_true, Bool.not_eq_true', not_or, decide_eq_true_eq, Bool.not_eq_false, fromB_iff] at h1
    omega

theorem checkE_ok {T : Treaty} (h : checkE T = 0) : TOk T := by
  unfold checkE at h
  split at h; · exact absurd h (by decide)
  rename_i h1
  split at h; · exact absurd h (by decide)
  rename_i h2
  split at h; · rename_i h3; exact absurd h h3
  rename_i h3
  split at h; · exact absurd h (by decide)
  rename_i h4
  split at h; · exact absurd h (by decide)
  rename_i h5
  split at h; · exact absurd h (by decide)
  rename_i h6
  split at h; · exact absurd h (by decide)
  rename_i h7
  split at h; · exact absurd h (by decide)
  rename_i h8
  split at h; · exact absurd h (by decide)
  rename_i h9
  clear h
  simp only [cntBad, Bool.or_eq_true, Bool.not_eq_true', not_or, decide_eq_true_eq, Bool.not_eq_false, fromB_iff] at h1
  simp only [Bool.not_eq_false, List.all_eq_true, fromB_iff, Bool.and_eq_true, legOk, Bool.or_eq_true, decide_eq_true_eq] at h2 h4 h5 h6 h7 h8
  rw [Decidable.not_not, waysErr_zero] at h3
  refine ⟨by omega, by omega, by omega, by omega, by omega, by omega, fun l hl => ?_, fun x hx => wayErr_zero (h3 x hx), fun l hl m hm x hx => ?_, fun l hl m hm x hx => ?_, fun x hx => ?_, fun l hl => ?_, fun l hl m hm => (h8.1 l hl m hm).1, fun l hl m hm => (h8.1 l hl m hm).2, h8.2, by omega⟩
  · have := h2 l hl; omega
  · have := h4 l hl m hm x hx; omega
  · have := h5 l hl m hm x hx; omega
  · have := h6 x hx; omega
  · have := h7 l hl; omega

/-- A reading that has a meaning for each word. -/
def ReadOk (T : Treaty) (R : List Int) : Prop := R.length = T.words.length ∧ ∀ k, (h : k < R.length) → (h' : k < T.words.length) → 0 ≤ R[k] ∧ R[k] < T.words[k].length

def meanAt (T : Treaty) (R : List Int) (n : Int) : Mean := (T.words.getD n.toNat []).getD (R.getD n.toNat 0).toNat ⟨[], []⟩
def kindsAt (T : Treaty) (R : List Int) (l : Leg) : List Int := if l.other = -1 then (meanAt T R l.word).kinds else commonL (meanAt T R l.word).kinds [(meanAt T R l.other).kinds]
def endsAt (T : Treaty) (R : List Int) (l : Leg) : List Int := if l.other = -1 then (meanAt T R l.word).ends else commonL (meanAt T R l.word).ends [(meanAt T R l.other).ends]

/-- whether a leg leads from a place to another one, in a reading -/
def LeadsP (T : Treaty) (R : List Int) (i a b : Nat) : Prop :=
  ∃ h : i < T.legs.length, a < T.places.toNat ∧ ReachP (edgeB T.ways (kindsAt T R T.legs[i])) a b ∧ hasB (endsAt T R T.legs[i]) b = true

theorem meanAt_eq {T : Treaty} {R : List Int} {n : Nat} (h : n < T.words.length) (h' : n < R.length) {k : Nat} (hk : R[n] = k) (hk' : k < T.words[n].length) : meanAt T R n = T.words[n][k] := by
  unfold meanAt
  rw [Int.toNat_natCast, List.getD_eq_getElem?_getD, List.getD_eq_getElem?_getD, List.getD_eq_getElem?_getD, List.getElem?_eq_getElem h, List.getElem?_eq_getElem h']
  simp only [Option.getD_some]
  rw [hk, Int.toNat_natCast, List.getElem?_eq_getElem hk']; rfl
end Go.Proofs
end

section
/- Plain: what a made treaty has, and that it is right. -/
namespace Go.Proofs

/-- What the deck's treaty has. -/
structure MOk (T : Treaty) : Prop where
  p1 : 2 ≤ T.places
  p2 : T.places ≤ 8
  nways : T.ways.length ≤ 16
  nwords : T.words.length ≤ 3
  nwords1 : 1 ≤ T.words.length
  nstarts : 1 ≤ T.starts.length
  nstarts2 : T.starts.length ≤ T.places
  nlegs : T.legs.length ≤ 10
  wlen : ∀ l ∈ T.words, 1 ≤ l.length ∧ l.length ≤ 3
  ways : ∀ x ∈ T.ways, 0 ≤ x.a ∧ x.a < T.places ∧ 0 ≤ x.b ∧ x.b < T.places ∧ x.a ≠ x.b ∧ 0 ≤ x.kind ∧ x.kind < 4
  kinds : ∀ l ∈ T.words, ∀ m ∈ l, (∀ x ∈ m.kinds, 0 ≤ x ∧ x < 4) ∧ risesB m.kinds = true
  ends : ∀ l ∈ T.words, ∀ m ∈ l, (∀ x ∈ m.ends, 0 ≤ x ∧ x < T.places) ∧ risesB m.ends = true
  starts : ∀ x ∈ T.starts, 0 ≤ x ∧ x < T.places
  rstarts : risesB T.starts = true
  legs : ∀ l ∈ T.legs, 0 ≤ l.word ∧ l.word < T.words.length ∧ -1 ≤ l.other ∧ l.other < T.words.length

theorem prodLen_three (l : List (List Mean)) (h : ∀ w ∈ l, w.length ≤ 4) (hl : l.length ≤ 3) : prodLen l ≤ 64 := by
  have := prodLen_le l h l.length (Nat.le_refl _)
  rw [List.take_length] at this
  have h2 : 4 ^ l.length ≤ 4 ^ 3 := Nat.pow_le_pow_right (by decide) hl
  have h3 : (4 : Nat) ^ 3 = 64 := rfl
  omega

theorem MOk.check {T : Treaty} (h : MOk T) : checkE T = 0 := by
  obtain ⟨h1, h2, h3, h4, h5, h6, h7, h8, h9, h10, h11, h12, h13, h14, h15⟩ := h
  unfold checkE
  have e1 : cntBad T = false := by
    simp only [cntBad, Bool.or_eq_false_iff, Bool.not_eq_false', fromB_iff, decide_eq_false_iff_not]
    omega
  have e2 : T.words.all (fun l => fromB l.length 1 4) = true := List.all_eq_true.2 fun l hl => fromB_iff.2 (by have := h9 l hl; omega)
  have e3 : waysErr T.places T.ways = 0 := (waysErr_zero _ _).2 fun x hx => by
    obtain ⟨g1, g2, g3, g4, g5, g6, g7⟩ := h10 x hx
    have i1 : fromB x.a 0 (T.places - 1) = true := fromB_iff.2 (by omega)
    have i2 : fromB x.b 0 (T.places - 1) = true := fromB_iff.2 (by omega)
    have i3 : fromB x.kind 0 7 = true := fromB_iff.2 (by omega)
    unfold wayErr
    rw [i1, i2, i3]
    simp [g5]
  have e4 : T.words.all (fun l => l.all fun m => m.kinds.all fun x => fromB x 0 7) = true := by
    simp only [List.all_eq_true, fromB_iff]
    intro l hl m hm x hx
    have := (h11 l hl m hm).1 x hx; omega
  have e5 : T.words.all (fun l => l.all fun m => m.ends.all fun x => fromB x 0 (T.places - 1)) = true := by
    simp only [List.all_eq_true, fromB_iff]
    intro l hl m hm x hx
    have := (h12 l hl m hm).1 x hx; omega
  have e6 : T.starts.all (fun x => fromB x 0 (T.places - 1)) = true := by
    simp only [List.all_eq_true, fromB_iff]
    intro x hx
    have := h13 x hx; omega
  have e7 : T.legs.all (legOk T.words.length) = true := by
    simp only [List.all_eq_true, legOk, fromB_iff, Bool.and_eq_true, Bool.or_eq_true, decide_eq_true_eq]
    intro l hl
    have := h15 l hl; omega
  have e8 : (T.words.all (fun l => l.all fun m => risesB m.kinds && risesB m.ends) && risesB T.starts) = true := by
    simp only [List.all_eq_true, Bool.and_eq_true]
    exact ⟨fun l hl m hm => ⟨(h11 l hl m hm).2, (h12 l hl m hm).2⟩, h14⟩
  have e9 : prodLen T.words ≤ 64 := prodLen_three _ (fun l hl => by have := h9 l hl; omega) h4
  rw [if_neg (by rw [e1]; decide), if_neg (by rw [e2]; decide), if_neg (by rw [e3]; simp), if_neg (by rw [e4]; decide), if_neg (by rw [e5]; decide), if_neg (by rw [e6]; decide), if_neg (by rw [e7]; decide), if_neg (by rw [e8]; decide), if_neg (by omega)]
end Go.Proofs
end
