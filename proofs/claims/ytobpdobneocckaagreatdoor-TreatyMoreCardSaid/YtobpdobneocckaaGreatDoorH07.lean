/- Own texts, merged: WkQ WkR WkF WkG WkH WkS2. -/
import Derived.Test.YtobpdobneocckaaGreatDoorH05
import Derived.Deep.CutRange
import Derived.Deep.Cut
import Derived.Deep.RegionHeld3
import Derived.StillTailTactics
import Derived.Laws.EntriesVeiled
import Derived.Deep.DrawnRows
set_option linter.unusedSimpArgs false
set_option linter.unusedVariables false
section
/- Walks: opened. -/
namespace Go.Proofs
open Go.RowKit


/-- What opened answers: a desk that knows where legs lead. -/
def Opened (w : World) (T : Treaty) (a1 a2 a3 a4 : Option Addr) (c1 c2 c3 c4 : Nat) (R : List Int) (e : Ending) (w' : World) : Prop :=
  ∃ D cs, e = .returned (.pointer (some ⟨D, 0, none⟩)) ∧ w.heap.size ≤ D ∧ Aft w w' ∧ Blk w' D 154 cs ∧ DGrid T a1 a2 a3 a4 c1 c2 c3 c4 cs (leadsF T R)


set_option maxRecDepth 100000 in
set_option maxHeartbeats 4000000 in
theorem opened_any (w : World) (T : Treaty) (a1 a2 a3 a4 : Option Addr) (c1 c2 c3 c4 : Nat) (R : List Int) (AR : Option Addr) (cR : Nat) (hT : TRep w T a1 a2 a3 a4) (hR : Ints w AR R) (ok : TOk T) (hr : ReadOk T R) :
    Calls Tryz.prog 49 #[.agg #[.int .i64 T.places, .slice a1 T.ways.length c1, .slice a2 T.words.length c2, .slice a3 T.starts.length c3, .slice a4 T.legs.length c4], .slice AR R.length cR] w (Opened w T a1 a2 a3 a4 c1 c2 c3 c4 R) := by
  have hl := hT.legs.len (by decide)
  have hl2 := ok.nlegs
  have OK := Lib.hid ok
  obtain ⟨p, hpp⟩ := Int.eq_ofNat_of_zero_le (show 0 ≤ T.places by have := ok.p1; omega)
  have HPP := Lib.hid hpp
  have hp12 : p ≤ 12 := by have := ok.p2; omega
  clear hpp
  have HRO := Lib.hid hr
  clear ok hr
  go_enter Tryz.func49, Tryz.ntmps49
  go_wp2_with fail
  have HZ := Lib.hid (zeroDesk T a1 a2 a3 a4 c1 c2 c3 c4)
  generalize (((((Tryz.zeroCells154.setIfInBounds 0 (.int .i64 T.places)).setIfInBounds 1 (.slice a1 T.ways.length c1)).setIfInBounds 2 (.slice a2 T.words.length c2)).setIfInBounds 3 (.slice a3 T.starts.length c3)).setIfInBounds 4 (.slice a4 T.legs.length c4)) = z0 at *
  go_loopw [21] (fun i wr => ∃ k : Nat, i = .int .i64 k ∧ k ≤ T.legs.length ∧ Aft w wr ∧ Blk wr w.heap.size 27 #[.int .i64 T.places, .slice a1 T.ways.length c1, .slice a2 T.words.length c2, .slice a3 T.starts.length c3, .slice a4 T.legs.length c4] ∧ ∃ cs f, Blk wr (w.heap.size + 1) 154 cs ∧ DGrid T a1 a2 a3 a4 c1 c2 c3 c4 cs f ∧ LInv T R k f) (fun i _ => T.legs.length - (intOf i).toNat)
  case atStart =>
    exact ⟨0, rfl, by omega, (Aft.alloc _ _).then_alloc _, (Blk.new w 27 _).alloc _, z0, _, by have := Blk.new (w.alloc (.cells #[.int .i64 T.places, .slice a1 T.ways.length c1, .slice a2 T.words.length c2, .slice a3 T.starts.length c3, .slice a4 T.legs.length c4] 27)) 154 z0; rwa [World.size_alloc] at this, HZ.out, fun i a b _ _ _ => by simp⟩
  case round =>
    obtain ⟨k, rfl, hk, hw, hbt, cs, f, hb, hg, hf⟩ := hrel
    have HF := Lib.hid hf
    clear hf
    by_cases hlk : k < T.legs.length
    · obtain ⟨bl, ol, rfl, hbl, hc⟩ := (hT.legs.aft LegR.mono hw).at hlk
      obtain ⟨vs, hv1, hv2, hv3⟩ := hc k hlk
      cases hv2
      have cW : wr.cell? ⟨bl, ol + k * 2, none⟩ = some (.int .i64 T.legs[k].word) := hv3 0 (by simp)
      have cO : wr.cell? ⟨bl, ol + k * 2 + 1, none⟩ = some (.int .i64 T.legs[k].other) := hv3 1 (by simp)
      obtain ⟨l1, l2, l3⟩ := OK.out.legs _ (List.getElem_mem hlk)
      clear hc hv1 hv3
      have HX := Lib.hid (show T.legs[k]? = some T.legs[k] from List.getElem?_eq_getElem hlk)
      generalize T.legs[k] = x at *
      obtain ⟨n, hn⟩ := Int.eq_ofNat_of_zero_le l1
      rw [hn] at cW
      have hnw : n < T.words.length := by omega
      have hnr : n < R.length := by rw [HRO.out.1]; exact hnw
      have HN := Lib.hid hn
      obtain ⟨r1, r2⟩ := HRO.out.2 n hnr hnw
      obtain ⟨r, hrr⟩ := Int.eq_ofNat_of_zero_le r1
      have hrl : r < T.words[n].length := by omega
      have HME := Lib.hid (meanAt_eq hnw hnr hrr hrl)
      obtain ⟨br, or', rfl, hbr, hcr⟩ := (hR.aft hw).at hnr
      have cR' := hcr n hnr
      rw [hrr] at cR'
      obtain ⟨bw, ow, rfl, hbw, hcw⟩ := (hT.words.aft WordR.mono hw).at hnw
      obtain ⟨vs, hv1, ⟨Am, cm, rfl, hms⟩, hv3⟩ := hcw n hnw
      have cM : wr.cell? ⟨bw, ow + n, none⟩ = some (.slice Am T.words[n].length cm) := by have := hv3 0 (by simp); simpa using this
      obtain ⟨bm, om, rfl, hbm, hcm⟩ := hms.at hrl
      obtain ⟨vs, hv4, ⟨Ak, ck, Ae, ce, rfl, hik, hie⟩, hv6⟩ := hcm r hrl
      have cK : wr.cell? ⟨bm, om + r * 2, none⟩ = some (.slice Ak T.words[n][r].kinds.length ck) := hv6 0 (by simp)
      have cE : wr.cell? ⟨bm, om + r * 2 + 1, none⟩ = some (.slice Ae T.words[n][r].ends.length ce) := hv6 1 (by simp)
      have hkl := hik.len
      have hel := hie.len
      have HKL := Lib.hid hkl
      have HEL := Lib.hid hel
      clear hkl hel
      clear hv1 hv3 hv4 hv6 hcm hcw hcr l1 l2 hn r1 r2 hrr
      generalize T.words[n][r] = me at *
      have k0 : wr.cell? ⟨w.heap.size, 0, none⟩ = some (.int .i64 T.places) := hbt.cell 0
      have k2 : wr.cell? ⟨w.heap.size, 2, none⟩ = some (.slice (some ⟨bw, ow, none⟩) T.words.length c2) := hbt.cell 2
      have hlb := hbt.lt
      go_wp2_with fail
      go_region
      have hik5 := hik.aft (((Aft.alloc wr (.cells #[.int .i64 n, .int .i64 x.other] 70)).then_alloc (.cells #[.slice Ak me.kinds.length ck, .slice Ae me.ends.length ce] 67)).then_drew)
      have hie5 := hie.aft (((Aft.alloc wr (.cells #[.int .i64 n, .int .i64 x.other] 70)).then_alloc (.cells #[.slice Ak me.kinds.length ck, .slice Ae me.ends.length ce] 67)).then_drew)
      have hw5 := ((hw.then_alloc (.cells #[.int .i64 n, .int .i64 x.other] 70)).then_alloc (.cells #[.slice Ak me.kinds.length ck, .slice Ae me.ends.length ce] 67)).then_drew
      have hb5 := ((hb.alloc (.cells #[.int .i64 n, .int .i64 x.other] 70)).alloc (.cells #[.slice Ak me.kinds.length ck, .slice Ae me.ends.length ce] 67)).drew
      have hbt5 := ((hbt.alloc (.cells #[.int .i64 n, .int .i64 x.other] 70)).alloc (.cells #[.slice Ak me.kinds.length ck, .slice Ae me.ends.length ce] 67)).drew
      have s5 : wr.heap.size + 2 ≤ (((wr.alloc (.cells #[.int .i64 n, .int .i64 x.other] 70)).alloc (.cells #[.slice Ak me.kinds.length ck, .slice Ae me.ends.length ce] 67)).drew).heap.size := by simp
      have x5 : (((wr.alloc (.cells #[.int .i64 n, .int .i64 x.other] 70)).alloc (.cells #[.slice Ak me.kinds.length ck, .slice Ae me.ends.length ce] 67)).drew).cell? ⟨wr.heap.size, 1, none⟩ = some (.int .i64 x.other) := by simp [go_sem]
      have m5 : (((wr.alloc (.cells #[.int .i64 n, .int .i64 x.other] 70)).alloc (.cells #[.slice Ak me.kinds.length ck, .slice Ae me.ends.length ce] 67)).drew).cell? ⟨wr.heap.size + 1, 0, none⟩ = some (.slice Ak me.kinds.length ck) := by simp [go_sem]
      have n5 : (((wr.alloc (.cells #[.int .i64 n, .int .i64 x.other] 70)).alloc (.cells #[.slice Ak me.kinds.length ck, .slice Ae me.ends.length ce] 67)).drew).cell? ⟨wr.heap.size + 1, 1, none⟩ = some (.slice Ae me.ends.length ce) := by simp [go_sem]
      have hlt := hb.lt
      clear hik hie hw hb hbt cW cO cR' cM cK cE k0 k2 hbl hbr hbw hbm hms hlb
      generalize ((wr.alloc (.cells #[.int .i64 n, .int .i64 x.other] 70)).alloc (.cells #[.slice Ak me.kinds.length ck, .slice Ae me.ends.length ce] 67)).drew = W5 at *
      generalize wr.heap.size = B at *
      clear wr
      have HB5 := Lib.hid hb5
      have HBT5 := Lib.hid hbt5
      have HW5 := Lib.hid hw5
      clear hb5 hbt5 hw5
      have z5 : B + 1 < W5.heap.size := by omega
      have z6 : B < W5.heap.size := by omega
      have m5d : W5.drew.cell? ⟨B + 1, 0, none⟩ = some (.slice Ak me.kinds.length ck) := m5
      have n5d : W5.drew.cell? ⟨B + 1, 1, none⟩ = some (.slice Ae me.ends.length ce) := n5
      have s5d : B + 2 ≤ W5.drew.heap.size := s5
      have z5d : B + 1 < W5.drew.heap.size := z5
      go_wp2_with fail
      go_region_held3 (fun w' => w'.cell? ⟨B + 1, 0, none⟩ = some (.slice Ak me.kinds.length ck) ∧ w'.cell? ⟨B + 1, 1, none⟩ = some (.slice Ae me.ends.length ce)) (first | go_keep | exact ⟨lat_keep _ _ z5d m5d, lat_keep _ _ z5d n5d⟩)
        (first
          | (go_at_call_of 108 (Value.slice Ak me.kinds.length ck); refine (common_any Ak _ ck none [] 0 _ (hik5.aft (Aft.drew _)) (lists_nil _)).mono ?_; rintro e w' ⟨v1, rfl, hown1, u1, rfl⟩; obtain ⟨A1, d1, rfl, _, hi1⟩ := own_ints (l := me.kinds) hown1 HKL.out; replace hown1 := World.ownsRow.mono hown1 (base' := B + 2) s5)
          | (go_at_call_of 108 (Value.slice Ae me.ends.length ce); refine (common_any Ae _ ce none [] 0 _ (hie5.aft ((Aft.drew _).then_lat _)) (lists_nil _)).mono ?_; rintro e w' ⟨v2, rfl, hown2, ha2⟩; obtain ⟨A2, d2, rfl, _, hi2⟩ := own_ints (l := me.ends) hown2 HEL.out; replace hown2 := World.ownsRow.mono hown2 (base' := B + 2) (Nat.le_trans s5d (World.lat_size _ _)); replace hown1 := own_aft hown1 ha2; replace hi1 := hi1.aft ha2; obtain ⟨u2, rfl⟩ := (Aft.lat _ _).trans ha2; clear ha2))
      have hw6 := (HW5.out.then_drew).then_lat u2
      have hb6 := HB5.out.drew.lat u2
      have hbt6 := HBT5.out.drew.lat u2
      have x6 : (W5.drew.lat u2).cell? ⟨B, 1, none⟩ = some (.int .i64 x.other) := lat_keep _ _ (show B < W5.drew.heap.size from z6) x5
      have s6 : B + 2 ≤ (W5.drew.lat u2).heap.size := Nat.le_trans s5d (World.lat_size _ _)
      have iK : (W5.drew.lat u2).ownsRow (w.heap.size + 2) 3 1 (.slice A1 me.kinds.length d1) me.kinds.length (me.kinds.map (Value.int .i64)) := World.ownsRow.mono hown1 (by omega)
      have iE : (W5.drew.lat u2).ownsRow (w.heap.size + 2) 3 1 (.slice A2 me.ends.length d2) me.ends.length (me.ends.map (Value.int .i64)) := World.ownsRow.mono hown2 (by omega)
      clear hik5 hie5 HW5 HB5 HBT5 x5 m5 n5 m5d n5d z5 z5d s5 s5d hown1 hown2
      have hP : PInv w T a1 (some ⟨bw, ow, none⟩) a3 (some ⟨bl, ol, none⟩) c1 c2 c3 c4 R w.heap.size (w.heap.size + 1) (w.heap.size + 2) A1 d1 me.kinds A2 d2 me.ends k 0 (W5.drew.lat u2) := ⟨hw6, by omega, hbt6, iK, iE, cs, f, hb6, hg, HF.out.start⟩
      have z7 : B < (W5.drew.lat u2).heap.size := by omega
      generalize W5.drew.lat u2 = W6 at *
      clear z6
      have HP := Lib.hid hP
      clear hP hw6 hb6 hbt6 iK iE hg HF
      go_upto_if 47 with (fail)
      go_cut [9, 10] from 22 to 98 (fun s9 s10 wx => ∃ ks es, kindsAt T R x = ks ∧ endsAt T R x = es ∧ ks.length ≤ 17592186043904 ∧ es.length ≤ 17592186043904 ∧ JoinR w T a1 (some ⟨bw, ow, none⟩) a3 (some ⟨bl, ol, none⟩) c1 c2 c3 c4 R ks es k s9 s10 wx)
      case first =>
        by_cases ho : x.other = -1
        · have HK := Lib.hid (show kindsAt T R x = me.kinds by unfold kindsAt; rw [if_pos ho, HN.out, HME.out])
          have HE := Lib.hid (show endsAt T R x = me.ends by unfold endsAt; rw [if_pos ho, HN.out, HME.out])
          have hbF : (x.other != (-1 : Int)) = false := by rw [ho]; rfl
          clear ho
          go_wp2_with fail
          go_meet
          exact ⟨_, _, HK.out, HE.out, HKL.out, HEL.out, A1, d1, A2, d2, rfl, rfl, HP.out⟩
        · have HBT := Lib.hid (show (x.other != (-1 : Int)) = true by simpa using ho)
          obtain ⟨o1, o2⟩ := l3.resolve_left ho
          obtain ⟨n2, hn2⟩ := Int.eq_ofNat_of_zero_le o1
          have hn2w : n2 < T.words.length := by omega
          have hn2r : n2 < R.length := by rw [HRO.out.1]; exact hn2w
          obtain ⟨r1, r2⟩ := HRO.out.2 n2 hn2r hn2w
          obtain ⟨q, hqq⟩ := Int.eq_ofNat_of_zero_le r1
          have hql : q < T.words[n2].length := by omega
          have HME2 := Lib.hid (meanAt_eq hn2w hn2r hqq hql)
          obtain ⟨b', o', e, hbr, hcr⟩ := (hR.aft HP.out.aft).at hn2r
          cases e
          have cR' := hcr n2 hn2r
          rw [hqq] at cR'
          obtain ⟨b', o', e, hbw, hcw⟩ := (hT.words.aft WordR.mono HP.out.aft).at hn2w
          cases e
          obtain ⟨vs, hv1, ⟨Am', cm', rfl, hms⟩, hv3⟩ := hcw n2 hn2w
          have cM : W6.cell? ⟨bw, ow + n2, none⟩ = some (.slice Am' T.words[n2].length cm') := by have := hv3 0 (by simp); simpa using this
          obtain ⟨bm', om', rfl, hbm, hcm⟩ := hms.at hql
          obtain ⟨vs, hv4, ⟨Ak', ck', Ae', ce', rfl, hik, hie⟩, hv6⟩ := hcm q hql
          have cK : W6.cell? ⟨bm', om' + q * 2, none⟩ = some (.slice Ak' T.words[n2][q].kinds.length ck') := hv6 0 (by simp)
          have cE : W6.cell? ⟨bm', om' + q * 2 + 1, none⟩ = some (.slice Ae' T.words[n2][q].ends.length ce') := hv6 1 (by simp)
          have k2 : W6.cell? ⟨w.heap.size, 2, none⟩ = some (.slice (some ⟨bw, ow, none⟩) T.words.length c2) := HP.out.box.cell 2
          have HK := Lib.hid (show kindsAt T R x = commonL me.kinds [T.words[n2][q].kinds] by unfold kindsAt; rw [if_neg ho, HN.out, HME.out, hn2, HME2.out])
          have HE := Lib.hid (show endsAt T R x = commonL me.ends [T.words[n2][q].ends] by unfold endsAt; rw [if_neg ho, HN.out, HME.out, hn2, HME2.out])
          rw [hn2] at x6
          have hx46 := Lib.hid hn2
          have hml : T.words[n2].length ≤ 4 := (OK.out.wlen _ (List.getElem_mem hn2w)).2
          clear hv1 hv3 hv4 hv6 hcm hcw hcr o1 o2 hn2 r1 r2 hqq ho l3 HME2
          generalize T.words[n2][q] = me2 at *
          have hlw := hT.words.len (by decide)
          have hrl6 : R.length ≤ 6 := by rw [HRO.out.1]; exact OK.out.nwords
          refine wp_cond_true (congrArg Value.bool HBT.out) ?_
          refine opened_both w T a1 a3 (some ⟨bl, ol, none⟩) c1 c2 c3 c4 R B A1 d1 me.kinds A2 d2 me.ends k bw ow br or' cR Ak' Ae' ck' ce' me2.kinds me2.ends n2 q bm' om' cm' _ hn2w hn2r hql _ _ _ _ _ _ _ _ _ _ _ _ _ _ _ _ _ _ _ _ _ _ _ _ _ _ _ _ _ _ _ _ _ _ _ _ _ _ _ _ _ _ _ _ _ _ _ _ _ _ _ _ _ _ _ _ _ _ _ _ _ _ _ _ _ _ _ _ _ _ _ _ _ _ _ _ _ _ _ _ _ _ _ _ _ _ _ _ _ _ _ _ _ _ _ _ _ W6 HP.out HKL.out HEL.out hlt z7 hbr hbw hbm x6 cR' cM cK cE hik hie OK.out.nwords hrl6 hml ?_
          intro u9 u10 u11 u48 u49 u50 u51 u52 u53 u54 u55 u56 u57 u58 u59 u60 u61 u62 u63 u64 u65 u66 u67 u68 u69 u70 W' hJ
          have HJ := Lib.hid hJ
          clear hJ
          go_wp2_with fail
          go_meet
          exact ⟨_, _, HK.out, HE.out, Nat.le_trans (commonL_le _ _) HKL.out, Nat.le_trans (commonL_le _ _) HEL.out, HJ.out⟩
      case rest =>
        obtain ⟨ks, es, hkx, hex, hks, hes, A1, d1, A2, d2, rfl, rfl, hPI⟩ := hcut
        have HKX := Lib.hid hkx
        have HEX := Lib.hid hex
        have HKS := Lib.hid hks
        have HES := Lib.hid hes
        have HPI := Lib.hid hPI
        have t0 : wc.cell? ⟨w.heap.size, 0, none⟩ = some (.int .i64 p) := by rw [← HPP.out]; exact hPI.box.cell 0
        have t1 := hPI.box.lt
        clear hkx hex hks hes hPI
        go_wp2_with fail
        clear t0 t1
        refine loop73 w T a1 (some ⟨bw, ow, none⟩) a3 (some ⟨bl, ol, none⟩) c1 c2 c3 c4 R w.heap.size (w.heap.size + 1) (w.heap.size + 2) A1 d1 ks A2 d2 es k p x (Nat.le_refl _) (by omega) (by omega) (by omega) hp12 HPP.out HKS.out HES.out OK.out hT.ways HX.out HKX.out HEX.out _ _ _ _ _ _ _ _ _ _ _ _ _ _ _ _ _ _ _ _ _ _ _ _ _ _ _ _ _ _ _ _ _ _ _ _ _ _ _ _ _ _ _ _ _ _ _ _ _ _ _ _ _ _ _ _ _ _ _ _ _ _ _ _ _ _ _ _ _ _ _ _ _ _ _ _ _ _ _ _ _ _ _ _ _ _ _ _ _ _ _ _ _ _ _ _ _ HPI.out ?_
        intro u12 u14 u73 u74 u75 u76 u77 u78 u79 u80 u81 u82 u83 u84 u85 u86 u87 u88 u89 u90 u91 u92 u93 u94 u95 u96 u97 u98 W' hP8
        have HP8 := Lib.hid hP8
        clear hP8
        go_wp2_with fail
        refine ⟨⟨k + 1, by go_num, by omega, HP8.out.aft, HP8.out.box, ?_⟩, by simp [intOf]; omega⟩
        obtain ⟨cs, f, h1, h2, h3⟩ := HP8.out.desk
        exact ⟨cs, f, h1, h2, h3.done (by rw [HPP.out]; omega)⟩
    · obtain rfl : k = T.legs.length := by omega
      have HB := Lib.hid hb
      have HG := Lib.hid hg
      clear hb hg hbt
      go_wp2_with fail
      go_ret
      exact ⟨_, cs, rfl, by omega, hw, HB.out, HG.out.congr fun i a b hi ha hb => leadsF_of HF.out hi ha hb⟩
end Go.Proofs
end

section
/- Walks: a treaty that is read. -/
namespace Go.Proofs
open Go.RowKit

def readOkB (T : Treaty) (R : List Int) : Bool := decide (R.length = T.words.length) && (List.range R.length).all fun i => fromB (R.getD i 0) 0 (((T.words.getD i []).length : Int) - 1)
def readE (T : Treaty) (R : List Int) : Int := if checkE T = 0 then (if readOkB T R then 0 else 2) else checkE T

theorem readOkB_iff {T : Treaty} {R : List Int} : readOkB T R = true ↔ ReadOk T R := by
  unfold readOkB ReadOk
  rw [Bool.and_eq_true, decide_eq_true_iff, List.all_eq_true]
  refine and_congr_right fun hl => ?_
  constructor
  · intro h k hk hk'
    have := h k (List.mem_range.2 hk)
    rw [List.getD_eq_getElem?_getD, List.getD_eq_getElem?_getD, List.getElem?_eq_getElem hk, List.getElem?_eq_getElem hk', Option.getD_some, Option.getD_some, fromB_iff] at this
    omega
  · intro h k hk
    have hk := List.mem_range.1 hk
    have hk' : k < T.words.length := by omega
    rw [List.getD_eq_getElem?_getD, List.getD_eq_getElem?_getD, List.getElem?_eq_getElem hk, List.getElem?_eq_getElem hk', Option.getD_some, Option.getD_some, fromB_iff]
    have := h k hk hk'
    omega
theorem readE_zero {T : Treaty} {R : List Int} : readE T R = 0 ↔ checkE T = 0 ∧ ReadOk T R := by
  unfold readE
  rw [← readOkB_iff]
  by_cases h : checkE T = 0
  · rw [if_pos h]
    by_cases h' : readOkB T R = true
    · rw [if_pos h']; simp [h, h']
    · rw [if_neg h']; simp [h']
  · rw [if_neg h]; simp [h]
theorem readE_check {T : Treaty} {R : List Int} (h : checkE T ≠ 0) : readE T R = checkE T := if_neg h
theorem readE_arg {T : Treaty} {R : List Int} (h : checkE T = 0) (h' : ¬ ReadOk T R) : readE T R = 2 := by
  unfold readE; rw [if_pos h, if_neg (fun h2 => h' (readOkB_iff.1 h2))]

/-- What read answers. -/
def ReadR (w : World) (T : Treaty) (a1 a2 a3 a4 : Option Addr) (c1 c2 c3 c4 : Nat) (R : List Int) (e : Ending) (w' : World) : Prop :=
  Aft w w' ∧ ((readE T R ≠ 0 ∧ e = .returned (.tuple #[.pointer none, .int .i64 (readE T R)])) ∨
    (readE T R = 0 ∧ ∃ D cs, e = .returned (.tuple #[.pointer (some ⟨D, 0, none⟩), .int .i64 0]) ∧ w.heap.size ≤ D ∧ Blk w' D 154 cs ∧ DGrid T a1 a2 a3 a4 c1 c2 c3 c4 cs (leadsF T R)))

set_option maxHeartbeats 1000000 in
theorem read_any (w : World) (T : Treaty) (a1 a2 a3 a4 : Option Addr) (c1 c2 c3 c4 : Nat) (R : List Int) (AR : Option Addr) (cR : Nat) (hT : TRep w T a1 a2 a3 a4) (hR : Ints w AR R) :
    Calls Tryz.prog 69 #[.agg #[.int .i64 T.places, .slice a1 T.ways.length c1, .slice a2 T.words.length c2, .slice a3 T.starts.length c3, .slice a4 T.legs.length c4], .slice AR R.length cR] w (ReadR w T a1 a2 a3 a4 c1 c2 c3 c4 R) := by
  have hrl := hR.len
  have hwl := hT.words.len (by decide)
  have HC := Lib.hid (check_any T a1 a2 a3 a4 c1 c2 c3 c4 (w.alloc (.cells #[.int .i64 T.places, .slice a1 T.ways.length c1, .slice a2 T.words.length c2, .slice a3 T.starts.length c3, .slice a4 T.legs.length c4] 27)) (hT.aft (Aft.alloc _ _)))
  by_cases hce : checkE T = 0
  · have HOK := Lib.hid (checkE_ok hce)
    rw [hce] at HC
    have HCE := Lib.hid hce
    clear hce
    by_cases hlen : R.length = T.words.length
    · have HL := Lib.hid hlen
      have hbl : ((R.length : Int) != (T.words.length : Int)) = false := by rw [hlen]; simp
      clear hlen
      go_enter Tryz.func69, Tryz.ntmps69
      go_wp2_with (go_at_call 37; refine HC.out.mono ?_; rintro e w' ⟨rfl, u, rfl⟩)
      have hu := Aft.lat (w.alloc (.cells #[.int .i64 T.places, .slice a1 T.ways.length c1, .slice a2 T.words.length c2, .slice a3 T.starts.length c3, .slice a4 T.legs.length c4] 27)) u
      have hw1 := (Aft.alloc w (.cells #[.int .i64 T.places, .slice a1 T.ways.length c1, .slice a2 T.words.length c2, .slice a3 T.starts.length c3, .slice a4 T.legs.length c4] 27)).trans hu
      have hbx := (Blk.new w 27 #[.int .i64 T.places, .slice a1 T.ways.length c1, .slice a2 T.words.length c2, .slice a3 T.starts.length c3, .slice a4 T.legs.length c4]).lat u
      clear HC
      generalize (w.alloc (.cells #[.int .i64 T.places, .slice a1 T.ways.length c1, .slice a2 T.words.length c2, .slice a3 T.starts.length c3, .slice a4 T.legs.length c4] 27)).lat u = w1 at *
      clear hu
      have HW1 := Lib.hid hw1
      have HBX := Lib.hid hbx
      have hbs := hbx.lt
      have k2 : w1.cell? ⟨w.heap.size, 2, none⟩ = some (.slice a2 T.words.length c2) := hbx.cell 2
      clear hw1 hbx
      go_loop [22] (fun i => ∃ k : Nat, i = .int .i64 k ∧ k ≤ R.length ∧ ∀ j, j < k → (h : j < R.length) → (h' : j < T.words.length) → 0 ≤ R[j] ∧ R[j] < T.words[j].length) (fun i => R.length - (intOf i).toNat)
      case atStart => exact ⟨0, rfl, by omega, fun j hj => by omega⟩
      case round =>
        obtain ⟨k, rfl, hk, hrel⟩ := hrel
        have HR := Lib.hid hrel
        clear hrel
        by_cases hkl : k < R.length
        · have hkw : k < T.words.length := by have := HL.out; omega
          obtain ⟨br, or', rfl, hbr, hcr⟩ := (hR.aft HW1.out).at hkl
          have cR' := hcr k hkl
          obtain ⟨bw, ow, rfl, hbw, hcw⟩ := (hT.words.aft WordR.mono HW1.out).at hkw
          obtain ⟨vs, hv1, ⟨Am, cm, rfl, hms⟩, hv3⟩ := hcw k hkw
          have cM : w1.cell? ⟨bw, ow + k, none⟩ = some (.slice Am T.words[k].length cm) := by have := hv3 0 (by simp); simpa using this
          obtain ⟨m1, m2⟩ := HOK.out.wlen _ (List.getElem_mem hkw)
          have HF := Lib.hid (show fromB R[k] 0 ((T.words[k].length : Int) - 1) = true ↔ 0 ≤ R[k] ∧ R[k] ≤ (T.words[k].length : Int) - 1 from fromB_iff)
          clear hcr hcw hv1 hv3 hms
          have HG := Lib.hid (show ∀ j, j < k + 1 → (h : j < R.length) → (h' : j < T.words.length) → (0 ≤ R[k] ∧ R[k] ≤ (T.words[k].length : Int) - 1) → 0 ≤ R[j] ∧ R[j] < T.words[j].length from fun j hj h h' hh => by
            by_cases e : j = k
            · subst e; omega
            · exact HR.out j (by omega) h h')
          have HN := Lib.hid (show ReadOk T R → 0 ≤ R[k] ∧ R[k] ≤ (T.words[k].length : Int) - 1 from fun h => by have := h.2 k hkl hkw; omega)
          generalize T.words[k].length = m at *
          generalize R[k] = x at *
          cases hfb : fromB x 0 ((m : Int) - 1)
          · have HFB := Lib.hid hfb
            clear hfb
            go_wp2_with (go_at_call 81; refine (from_any _ _ _ _).mono ?_; rintro e w' ⟨rfl, rfl⟩; rw [HFB.out])
            go_ret2
            have hno : ¬ ReadOk T R := fun h => by have := HF.out.2 (HN.out h); rw [HFB.out] at this; exact Bool.noConfusion this
            have hE := readE_arg HCE.out hno
            exact ⟨HW1.out, .inl ⟨by rw [hE]; decide, by rw [hE]; rfl⟩⟩
          · have HFB := Lib.hid hfb
            clear hfb
            go_wp2_with (go_at_call 81; refine (from_any _ _ _ _).mono ?_; rintro e w' ⟨rfl, rfl⟩; rw [HFB.out])
            go_round
            case rel => exact ⟨k + 1, by go_num, by omega, fun j hj h h' => HG.out j hj h h' (HF.out.1 HFB.out)⟩
            case measure => simp [intOf]; omega
        · obtain rfl : k = R.length := by omega
          have hro : ReadOk T R := ⟨HL.out, fun j h h' => HR.out j h h h'⟩
          have HE := Lib.hid (readE_zero.2 ⟨HCE.out, hro⟩)
          have HO := Lib.hid (opened_any w1 T a1 a2 a3 a4 c1 c2 c3 c4 R AR cR (hT.aft HW1.out) (hR.aft HW1.out) HOK.out hro)
          have k0 : w1.cell? ⟨w.heap.size, 0, none⟩ = some (.int .i64 T.places) := HBX.out.cell 0
          have k1 : w1.cell? ⟨w.heap.size, 1, none⟩ = some (.slice a1 T.ways.length c1) := HBX.out.cell 1
          have k3 : w1.cell? ⟨w.heap.size, 3, none⟩ = some (.slice a3 T.starts.length c3) := HBX.out.cell 3
          have k4 : w1.cell? ⟨w.heap.size, 4, none⟩ = some (.slice a4 T.legs.length c4) := HBX.out.cell 4
          clear hro HR
          go_wp2_with (go_at_call 49; refine HO.out.mono ?_; rintro e w' ⟨D, cs, rfl, hD, hA, hB, hG⟩)
          go_ret2
          exact ⟨HW1.out.trans hA, .inr ⟨HE.out, D, cs, rfl, Nat.le_trans HW1.out.size hD, hB, hG⟩⟩
    · have hbl : ((R.length : Int) != (T.words.length : Int)) = true := by simp; omega
      have hno : ¬ ReadOk T R := fun h => hlen h.1
      have HE := Lib.hid (readE_arg HCE.out hno)
      clear hlen hno
      go_enter Tryz.func69, Tryz.ntmps69
      go_wp2_with (go_at_call 37; refine HC.out.mono ?_; rintro e w' ⟨rfl, u, rfl⟩)
      go_ret2
      exact ⟨(Aft.alloc _ _).trans (Aft.lat _ _), .inl ⟨by rw [HE.out]; decide, by rw [HE.out]; rfl⟩⟩
  · have HE := Lib.hid (readE_check (R := R) hce)
    have hb : (checkE T != 0) = true := by simpa using hce
    have HCE := Lib.hid hce
    clear hce
    go_enter Tryz.func69, Tryz.ntmps69
    go_wp2_with (go_at_call 37; refine HC.out.mono ?_; rintro e w' ⟨rfl, u, rfl⟩)
    go_ret2
    exact ⟨(Aft.alloc _ _).trans (Aft.lat _ _), .inl ⟨by rw [HE.out]; exact HCE.out, by rw [HE.out]; rfl⟩⟩

def linedB (T : Treaty) (l : List Int) : Bool := decide ((l.length : Int) = T.legs.length + 1) && l.all fun x => fromB x 0 (T.places - 1)
theorem linedB_iff {T : Treaty} {l : List Int} : linedB T l = true ↔ l.length = T.legs.length + 1 ∧ ∀ x ∈ l, 0 ≤ x ∧ x < T.places := by
  unfold linedB
  rw [Bool.and_eq_true, decide_eq_true_iff, List.all_eq_true]
  refine ⟨fun ⟨h1, h2⟩ => ⟨by omega, fun x hx => by have := fromB_iff.1 (h2 x hx); omega⟩, fun ⟨h1, h2⟩ => ⟨by omega, fun x hx => fromB_iff.2 (by have := h2 x hx; omega)⟩⟩

set_option maxHeartbeats 1000000 in
theorem lined_any (w : World) (T : Treaty) (a1 a2 a3 a4 : Option Addr) (c1 c2 c3 c4 : Nat) (l : List Int) (A : Option Addr) (c : Nat) (hA : Ints w A l) (hp : 1 ≤ T.places) (hp' : T.places ≤ 12) (hl : T.legs.length ≤ 10) :
    Calls Tryz.prog 68 #[.agg #[.int .i64 T.places, .slice a1 T.ways.length c1, .slice a2 T.words.length c2, .slice a3 T.starts.length c3, .slice a4 T.legs.length c4], .slice A l.length c] w fun e w' => e = .returned (.bool (linedB T l)) ∧ Aft w w' := by
  have hal := hA.len
  by_cases hlen : l.length = T.legs.length + 1
  · have hb : ((l.length : Int) == (T.legs.length : Int) + 1) = true := by rw [hlen]; simp
    have HL := Lib.hid hlen
    clear hlen
    go_enter Tryz.func68, Tryz.ntmps68
    go_wp2_with (go_at_call 84; refine (below_any _ _).mono ?_; rintro e w' ⟨rfl, rfl⟩)
    refine (each_below A l c (w.heap.size + 1) T.places _ (hA.aft ((Aft.alloc _ _).then_alloc _)) (by simp) (by simp [go_sem]) (by omega) (by omega)).mono ?_
    rintro e w' ⟨rfl, ha⟩
    go_wp2_with fail
    go_ret
    refine ⟨ret_bool ?_, ((Aft.alloc _ _).then_alloc _).trans ha⟩
    unfold linedB
    have := HL.out
    rw [decide_eq_true (by omega), Bool.true_and]
  · have hb : ((l.length : Int) == (T.legs.length : Int) + 1) = false := by simp; omega
    have HL := Lib.hid hlen
    clear hlen
    go_enter Tryz.func68, Tryz.ntmps68
    go_wp2_with fail
    go_ret
    refine ⟨ret_bool ?_, Aft.alloc _ _⟩
    unfold linedB
    have := HL.out
    rw [decide_eq_false (by omega), Bool.false_and]
end Go.Proofs
end

section
/- Walks: a desk that is asked; floors. -/
namespace Go.Proofs
open Go.RowKit

set_option maxHeartbeats 400000 in
theorem can_any (D : Nat) (T : Treaty) (a1 a2 a3 a4 : Option Addr) (c1 c2 c3 c4 : Nat) (f : Nat → Nat → Nat → Bool) (i a b : Int) (w : World) (hd : Desk w D T a1 a2 a3 a4 c1 c2 c3 c4 f) (hi : 0 ≤ i) (hi' : i < 10) (ha : 0 ≤ a) (ha' : a < 12) (hb : 0 ≤ b) (hb' : b < 12) :
    Calls Tryz.prog 61 #[.pointer (some ⟨D, 0, none⟩), .int .i64 i, .int .i64 a, .int .i64 b] w fun e w' => e = .returned (.bool (f i.toNat a.toNat b.toNat)) ∧ w = w' := by
  have hc := hd.lead i.toNat a.toNat b.toNat (by omega) (by omega) (by omega)
  obtain ⟨i, rfl⟩ := Int.eq_ofNat_of_zero_le hi
  obtain ⟨a, rfl⟩ := Int.eq_ofNat_of_zero_le ha
  obtain ⟨b, rfl⟩ := Int.eq_ofNat_of_zero_le hb
  simp only [Int.toNat_natCast] at hc ⊢
  go_enter Tryz.func61, Tryz.ntmps61
  go_wp2
  go_ret
  exact ⟨rfl, rfl⟩

theorem broken_any (D : Nat) (T : Treaty) (a1 a2 a3 a4 : Option Addr) (c1 c2 c3 c4 : Nat) (f : Nat → Nat → Nat → Bool) (i a b : Int) (w : World) (hd : Desk w D T a1 a2 a3 a4 c1 c2 c3 c4 f) (hi : 0 ≤ i) (hi' : i < 10) (ha : 0 ≤ a) (ha' : a < 12) (hb : 0 ≤ b) (hb' : b < 12) :
    Calls Tryz.prog 99 #[.pointer (some ⟨D, 0, none⟩), .int .i64 i, .int .i64 a, .int .i64 b] w fun e w' => e = .returned (.int .i64 (if f i.toNat a.toNat b.toNat then 0 else 1)) ∧ w = w' := by
  have hcan := can_any D T a1 a2 a3 a4 c1 c2 c3 c4 f i a b w hd hi hi' ha ha' hb hb'
  have HC := Lib.hid hcan
  clear hcan
  go_enter Tryz.func99, Tryz.ntmps99
  cases hf : f i.toNat a.toNat b.toNat <;> (rw [hf] at HC; have HF := Lib.hid hf; clear hf)
  all_goals
    go_wp2_with (go_at_call 61; refine HC.out.mono ?_; rintro e w' ⟨rfl, rfl⟩)
    go_ret
    exact ⟨rfl, rfl⟩

/-- the closure of a rule: a table of bools, asked -/
theorem ahead1_any (B : Nat) (cs : Array Value) (g : Nat → Nat → Bool) (i a : Int) (w : World) (hb : Blk w B 110 cs) (hg : Grid cs 11 12 (fun i j => .bool (g i j))) (hi : 0 ≤ i) (hi' : i < 11) (ha : 0 ≤ a) (ha' : a < 12) :
    Calls Tryz.prog 110 #[.int .i64 i, .int .i64 a, .pointer (some ⟨B, 0, none⟩)] w fun e w' => e = .returned (.bool (g i.toNat a.toNat)) ∧ w = w' := by
  have hc := (hb.cell (i.toNat * 12 + a.toNat)).trans (hg.at_ i.toNat a.toNat (by omega) (by omega))
  obtain ⟨i, rfl⟩ := Int.eq_ofNat_of_zero_le hi
  obtain ⟨a, rfl⟩ := Int.eq_ofNat_of_zero_le ha
  simp only [Int.toNat_natCast] at hc ⊢
  go_enter Tryz.func110, Tryz.ntmps110
  go_wp2
  go_ret
  exact ⟨rfl, rfl⟩

/-- the place with the least of some numbers, the first such one -/
def argmin (g : Nat → Int) : Nat → Nat
  | 0 => 0
  | k + 1 => if g k < g (argmin g k) then k else argmin g k
theorem argmin_lt (g : Nat → Int) (k p : Nat) (hp : 0 < p) (hk : k ≤ p) : argmin g k < p := by
  induction k with
  | zero => simpa [argmin] using hp
  | succ k ih =>
    unfold argmin
    split
    · omega
    · exact ih (by omega)

set_option maxHeartbeats 1000000 in
theorem end_any (D L : Nat) (T : Treaty) (a1 a2 a3 a4 : Option Addr) (c1 c2 c3 c4 : Nat) (f : Nat → Nat → Nat → Bool) (cs : Array Value) (g : Nat → Nat → Int) (w : World) (hd : Desk w D T a1 a2 a3 a4 c1 c2 c3 c4 f) (hb : Blk w L 176 cs) (hg : Grid cs 11 12 (fun i j => .int .i64 (g i j)))
    (hp : 1 ≤ T.places) (hp' : T.places ≤ 12) (hl : T.legs.length ≤ 10) :
    Calls Tryz.prog 94 #[.pointer (some ⟨D, 0, none⟩), .pointer (some ⟨L, 0, none⟩)] w fun e w' => e = .returned (.int .i64 (argmin (g T.legs.length) T.places.toNat : Nat)) ∧ Aft w w' := by
  have hk0 := hd.k0
  have hk4 := hd.k4
  have hlt := hd.lt
  have hlt2 := hb.lt
  obtain ⟨p, hpp⟩ := Int.eq_ofNat_of_zero_le (show 0 ≤ T.places by omega)
  rw [hpp] at hk0 hp hp' ⊢
  have HG : Hid (∀ i j, i < 11 → j < 12 → w.cell? ⟨L, i * 12 + j, none⟩ = some (.int .i64 (g i j))) := Lib.hid fun i j hi hj => (hb.cell _).trans (hg.at_ i j hi hj)
  clear hd hb hg
  go_enter Tryz.func94, Tryz.ntmps94
  go_wp2
  go_loopw [5, 12] (fun o i wr => ∃ k : Nat, i = .int .i64 k ∧ k ≤ p ∧ o = .int .i64 (argmin (g T.legs.length) k : Nat) ∧ Aft w wr) (fun _ i _ => p - (intOf i).toNat)
  case atStart => exact ⟨0, rfl, by omega, rfl, Aft.refl _⟩
  case round =>
    obtain ⟨k, rfl, hk, rfl, u, rfl⟩ := hrel
    have ham := argmin_lt (g T.legs.length) k p (by omega) hk
    have hsucc : argmin (g T.legs.length) (k + 1) = if g T.legs.length k < g T.legs.length (argmin (g T.legs.length) k) then k else argmin (g T.legs.length) k := rfl
    have HS := Lib.hid hsucc
    clear hsucc
    by_cases hkp : k < p
    · have h1 := HG.out T.legs.length k (by omega) (by omega)
      have h2 := HG.out T.legs.length (argmin (g T.legs.length) k) (by omega) (by omega)
      generalize argmin (g T.legs.length) k = m at *
      go_wp2
      go_quiet (fail)
      go_wp2
      · have h3 : g T.legs.length k < g T.legs.length m := by assumption
        go_roundw
        case rel => exact ⟨k + 1, by go_num, by omega, by rw [HS.out, if_pos h3], (Aft.lat _ _)⟩
        case measure => simp [intOf]; omega
      · have h3 : ¬ g T.legs.length k < g T.legs.length m := Int.not_lt.2 (by assumption)
        go_roundw
        case rel => exact ⟨k + 1, by go_num, by omega, by rw [HS.out, if_neg h3], (Aft.lat _ _)⟩
        case measure => simp [intOf]; omega
    · obtain rfl : k = p := by omega
      go_wp2
      go_ret
      exact ⟨rfl, Aft.lat _ _⟩
end Go.Proofs
end

section
/- Walks: floors. -/
namespace Go.Proofs
open Go.RowKit

def upd {α : Type} (g : Nat → Nat → α) (i j : Nat) (x : α) : Nat → Nat → α := fun i' j' => if i' = i ∧ j' = j then x else g i' j'
theorem upd_at {α : Type} (g : Nat → Nat → α) (i j : Nat) (x : α) : upd g i j x i j = x := by simp [upd]
theorem upd_other {α : Type} (g : Nat → Nat → α) (i j : Nat) (x : α) {i' j' : Nat} (h : i' ≠ i ∨ j' ≠ j) : upd g i j x i' j' = g i' j' := by
  unfold upd; rw [if_neg]; omega
def IGrid (cs : Array Value) (g : Nat → Nat → Int) : Prop := Grid cs 11 12 (fun i j => .int .i64 (g i j))
def BGrid (cs : Array Value) (g : Nat → Nat → Bool) : Prop := Grid cs 11 12 (fun i j => .bool (g i j))
theorem IGrid.set {cs : Array Value} {g : Nat → Nat → Int} (h : IGrid cs g) {i j : Nat} (hi : i < 11) (hj : j < 12) (x : Int) : IGrid (cs.setIfInBounds (i * 12 + j) (.int .i64 x)) (upd g i j x) :=
  (Grid.set h hi hj (.int .i64 x)).congr fun i' j' _ _ => by unfold upd; split <;> rfl
theorem BGrid.set {cs : Array Value} {g : Nat → Nat → Bool} (h : BGrid cs g) {i j : Nat} (hi : i < 11) (hj : j < 12) (x : Bool) : BGrid (cs.setIfInBounds (i * 12 + j) (.bool x)) (upd g i j x) :=
  (Grid.set h hi hj (.bool x)).congr fun i' j' _ _ => by unfold upd; split <;> rfl
theorem IGrid.cell {w : World} {L t : Nat} {cs : Array Value} {g : Nat → Nat → Int} (h : IGrid cs g) (hb : Blk w L t cs) {i j : Nat} (hi : i < 11) (hj : j < 12) : w.cell? ⟨L, i * 12 + j, none⟩ = some (.int .i64 (g i j)) :=
  (hb.cell _).trans (h.at_ i j hi hj)
theorem BGrid.cell {w : World} {L t : Nat} {cs : Array Value} {g : Nat → Nat → Bool} (h : BGrid cs g) (hb : Blk w L t cs) {i j : Nat} (hi : i < 11) (hj : j < 12) : w.cell? ⟨L, i * 12 + j, none⟩ = some (.bool (g i j)) :=
  (hb.cell _).trans (h.at_ i j hi hj)

theorem zeroGrid : IGrid Tryz.zeroCells176 (fun _ _ => 0) := by
  have e : Tryz.zeroCells176 = Array.replicate 132 (.int .i64 0) := by kernel_rfl
  rw [e]
  exact ⟨by simp, fun i j hi hj => by rw [Array.getElem?_replicate, if_pos (by omega)]⟩

/-- one step of the least -/
def floStep (T : Treaty) (f : Nat → Nat → Nat → Bool) (leg b k : Nat) : Int := (List.range k).foldl (fun m a => min m (flo T f leg a + if f leg a b then 0 else 1)) 11
theorem floStep_succ (T : Treaty) (f : Nat → Nat → Nat → Bool) (leg b k : Nat) : floStep T f leg b (k + 1) = min (floStep T f leg b k) (flo T f leg k + if f leg k b then 0 else 1) := by
  unfold floStep; rw [List.range_succ, List.foldl_append]; rfl
theorem floStep_le (T : Treaty) (f : Nat → Nat → Nat → Bool) (leg b k : Nat) : floStep T f leg b k ≤ 11 := by
  induction k with
  | zero => exact Int.le_refl _
  | succ k ih => rw [floStep_succ]; omega
theorem flo_bd (T : Treaty) (f : Nat → Nat → Nat → Bool) (leg b : Nat) : 0 ≤ flo T f leg b ∧ flo T f leg b ≤ 11 := by
  induction leg generalizing b with
  | zero => unfold flo; split <;> omega
  | succ leg ih =>
    have : ∀ k, 0 ≤ floStep T f leg b k := by
      intro k
      induction k with
      | zero => show (0:Int) ≤ 11; decide
      | succ k ih2 => rw [floStep_succ]; have := (ih k).1; split <;> omega
    exact ⟨this _, floStep_le _ _ _ _ _⟩

/-- What floors leaves: a table whose first rows are the floors. -/
def Floored (T : Treaty) (f : Nat → Nat → Nat → Bool) (w : World) (e : Ending) (w' : World) : Prop :=
  ∃ L cs g, e = .returned (.pointer (some ⟨L, 0, none⟩)) ∧ Blk w' L 176 cs ∧ IGrid cs g ∧ (∀ i j, i ≤ T.legs.length → j < T.places.toNat → g i j = flo T f i j) ∧ w.heap.size ≤ L ∧ Aft w w'

set_option maxRecDepth 100000 in
set_option maxHeartbeats 4000000 in
theorem floors_any (D : Nat) (T : Treaty) (a1 a2 a3 a4 : Option Addr) (c1 c2 c3 c4 : Nat) (f : Nat → Nat → Nat → Bool) (w : World) (hd : Desk w D T a1 a2 a3 a4 c1 c2 c3 c4 f) (hs : Ints w a3 T.starts)
    (hp : 1 ≤ T.places) (hp' : T.places ≤ 12) (hl : T.legs.length ≤ 10) :
    Calls Tryz.prog 93 #[.pointer (some ⟨D, 0, none⟩)] w (Floored T f w) := by
  have hk0 := hd.k0
  have hk3 := hd.k3
  have hk4 := hd.k4
  have hlt := hd.lt
  obtain ⟨p, hpp⟩ := Int.eq_ofNat_of_zero_le (show 0 ≤ T.places by omega)
  have HPP := Lib.hid hpp
  rw [hpp] at hk0 hp hp'
  clear hpp
  go_enter Tryz.func93, Tryz.ntmps93
  go_wp2_with fail
  go_loopw [15] (fun i wr => ∃ k : Nat, i = .int .i64 k ∧ k ≤ p ∧ Aft w wr ∧ ∃ cs g, Blk wr w.heap.size 176 cs ∧ IGrid cs g ∧ (∀ j, j < k → g 0 j = flo T f 0 j) ∧ (∀ j, k ≤ j → g 0 j = 0)) (fun i _ => p - (intOf i).toNat)
  case atStart => exact ⟨0, rfl, by omega, Aft.alloc _ _, _, _, Blk.new _ _ _, zeroGrid, fun j hj => by omega, fun j _ => rfl⟩
  case round =>
    obtain ⟨k, rfl, hk, hw, cs, g, hb, hg, hg1, hg2⟩ := hrel
    have H1 := Lib.hid hg1
    have H2 := Lib.hid hg2
    clear hg1 hg2
    have hsz := hw.size
    obtain ⟨u, rfl⟩ := hw
    have hsr : Ints (w.lat u) a3 T.starts := hs.lat u
    by_cases hkp : k < p
    · have c1 := hg.cell hb (i := 0) (j := k) (by omega) (by omega)
      simp only [Nat.zero_mul, Nat.zero_add] at c1
      have f1 := hb.frozen k
      cases hst : hasB T.starts k
      · have HST := Lib.hid hst; clear hst
        go_wp2_with (go_at_call 60; refine (contains_any _ _ _ _ _ hsr).mono ?_; rintro e w' ⟨rfl, rfl⟩; rw [HST.out])
        go_roundw
        case rel =>
          refine ⟨k + 1, by go_num, by omega, (Aft.lat w u).then_setCell (Nat.le_refl _) _, _, upd g 0 k 11, hb.store _ _, by simpa using hg.set (i := 0) (j := k) (by omega) (by omega) 11, fun j hj => ?_, fun j hj => ?_⟩
          · by_cases e : j = k
            · subst e; rw [upd_at]; unfold flo; rw [HST.out]; rfl
            · rw [upd_other _ _ _ _ (.inr e)]; exact H1.out j (by omega)
          · rw [upd_other _ _ _ _ (.inr (by omega))]; exact H2.out j (by omega)
        case measure => simp [intOf]; omega
      · have HST := Lib.hid hst; clear hst
        go_wp2_with (go_at_call 60; refine (contains_any _ _ _ _ _ hsr).mono ?_; rintro e w' ⟨rfl, rfl⟩; rw [HST.out])
        go_roundw
        case rel =>
          refine ⟨k + 1, by go_num, by omega, (Aft.lat w u), _, g, hb, hg, fun j hj => ?_, fun j hj => H2.out j (by omega)⟩
          by_cases e : j = k
          · subst e; rw [H2.out j (Nat.le_refl _)]; unfold flo; rw [HST.out]; rfl
          · exact H1.out j (by omega)
        case measure => simp [intOf]; omega
    · obtain rfl : k = p := by omega
      clear H2
      go_wp2_with fail
      have hw1 := Aft.lat w u
      generalize w.lat u = w1 at *
      go_loopw [38] (fun i wr => ∃ n : Nat, i = .int .i64 n ∧ n ≤ T.legs.length ∧ Aft w wr ∧ ∃ cs g, Blk wr w.heap.size 176 cs ∧ IGrid cs g ∧ (∀ i j, i ≤ n → j < k → g i j = flo T f i j)) (fun i _ => T.legs.length - (intOf i).toNat)
      case atStart => exact ⟨0, rfl, by omega, hw1, cs, g, hb, hg, fun i j hi hj => by cases hi; exact H1.out j hj⟩
      case round =>
        obtain ⟨n, rfl, hn, hw, cs, g, hb, hg, hg1⟩ := hrel
        have H1 := Lib.hid hg1
        clear hg1
        obtain ⟨wo, hwo⟩ : ∃ wo : World, wo = wr := ⟨_, rfl⟩
        subst hwo
        by_cases hnl : n < T.legs.length
        · have d0 : wo.cell? ⟨D, 0, none⟩ = some (.int .i64 k) := (by have := (hd.aft hw).k0; rwa [HPP.out] at this)
          go_wp2_with fail
          go_loopw [46] (fun i wr => ∃ b : Nat, i = .int .i64 b ∧ b ≤ k ∧ Aft w wr ∧ ∃ cs g, Blk wr w.heap.size 176 cs ∧ IGrid cs g ∧ (∀ i j, i ≤ n → j < k → g i j = flo T f i j) ∧ (∀ j, j < b → g (n + 1) j = flo T f (n + 1) j)) (fun i _ => k - (intOf i).toNat)
          case atStart => exact ⟨0, rfl, by omega, hw, cs, g, hb, hg, H1.out, fun j hj => by omega⟩
          case round =>
            clear H1
            obtain ⟨b, rfl, hbk, hw, cs, g, hb, hg, hg1, hg2⟩ := hrel
            have H1 := Lib.hid hg1
            have H2 := Lib.hid hg2
            clear hg1 hg2
            obtain ⟨wo2, hwo⟩ : ∃ wo2 : World, wo2 = wr := ⟨_, rfl⟩
            subst hwo
            by_cases hbp : b < k
            · have d1 : wo2.cell? ⟨D, 0, none⟩ = some (.int .i64 k) := (by have := (hd.aft hw).k0; rwa [HPP.out] at this)
              have e1 := hg.cell hb (i := n + 1) (j := b) (by omega) (by omega)
              have e2 := hb.frozen ((n + 1) * 12 + b)
              go_wp2_with fail
              go_loopw [61] (fun i wr => ∃ a : Nat, i = .int .i64 a ∧ a ≤ k ∧ Aft w wr ∧ ∃ cs g, Blk wr w.heap.size 176 cs ∧ IGrid cs g ∧ (∀ i j, i ≤ n → j < k → g i j = flo T f i j) ∧ (∀ j, j < b → g (n + 1) j = flo T f (n + 1) j) ∧ g (n + 1) b = floStep T f n b a) (fun i _ => k - (intOf i).toNat)
              case atStart =>
                refine ⟨0, rfl, by omega, hw.then_setCell (Nat.le_refl _) _, _, _, hb.store _ _, hg.set (i := n + 1) (j := b) (by omega) (by omega) 11, fun i j hi hj => ?_, fun j hj => ?_, upd_at _ _ _ _⟩
                · rw [upd_other _ _ _ _ (.inl (by omega))]; exact H1.out i j hi hj
                · rw [upd_other _ _ _ _ (.inr (by omega))]; exact H2.out j hj
              case round =>
                clear H1 H2
                obtain ⟨a, rfl, hak, hw, cs, g, hb, hg, hg1, hg2, hg3⟩ := hrel
                have H1 := Lib.hid hg1
                have H2 := Lib.hid hg2
                clear hg1 hg2
                obtain ⟨wo3, hwo⟩ : ∃ wo3 : World, wo3 = wr := ⟨_, rfl⟩
                subst hwo
                by_cases hap : a < k
                · have e1 := hg.cell hb (i := n + 1) (j := b) (by omega) (by omega)
                  have e2 := hb.frozen ((n + 1) * 12 + b)
                  have e3 := hg.cell hb (i := n) (j := a) (by omega) (by omega)
                  rw [H1.out n a (Nat.le_refl _) (by omega)] at e3
                  rw [hg3] at e1
                  have H3 := Lib.hid hg3
                  clear hg3
                  have b1 := floStep_le T f n b a
                  have b2 := flo_bd T f n a
                  have hbr := broken_any D T a1 a2 a3 a4 c1 c2 c3 c4 f n a b wo3.drew (hd.aft hw.then_drew) (by omega) (by omega) (by omega) (by omega) (by omega) (by omega)
                  simp only [Int.toNat_natCast] at hbr
                  have HB := Lib.hid (hbr.mono (R' := fun e w'' => e = .returned (.int .i64 (if f n a b then 0 else 1)) ∧ w'' = wo3.drew) fun _ _ ⟨h1, h2⟩ => ⟨h1, h2.symm⟩)
                  clear hbr
                  have hst := floStep_succ T f n b a
                  obtain ⟨br, hbr1, hbr2, hbr3⟩ : ∃ br : Int, (if f n a b = true then (0 : Int) else 1) = br ∧ 0 ≤ br ∧ br ≤ 1 := ⟨_, rfl, by split <;> omega, by split <;> omega⟩
                  rw [hbr1] at HB hst
                  clear hbr1
                  have HS := Lib.hid hst
                  clear hst
                  have w2 : IntKind.i64.wrap (flo T f n a + br) = flo T f n a + br := IntWalk.i64_in _ (by omega)
                  go_wp2_with fail
                  refine wp_region_still_tail 28 (by kernel_rfl) (by kernel_rfl) ?_
                  simp only [List.take_succ_cons, List.take_zero, List.drop_succ_cons, List.drop_zero]
                  have w1 : IntKind.i64.wrap ((n : Int) + 1) = ((n + 1 : Nat) : Int) := by rw [IntWalk.i64_in _ (by omega)]; omega
                  have i1 : (0 ≤ (n : Int) + 1 ∧ (n : Int) + 1 < 11) := by omega
                  have i2 : (n : Int) < 11 := by omega
                  have i3 : (b : Int) < 12 := by omega
                  have i4 : (a : Int) < 12 := by omega
                  repeat still_step
                  still_call HB.out
                  repeat still_step
                  refine wpStill_nil ?_
                  change wpList _ _ _ _ _ wo3.drew
                  clear w1 w2
                  go_wp2_with fail
                  go_roundw
                  case rel =>
                    refine ⟨a + 1, by go_num, by omega, hw.then_drew.then_setCell (Nat.le_refl _) _, _, _, hb.drew.store _ _, hg.set (i := n + 1) (j := b) (by omega) (by omega) _, fun i j hi hj => ?_, fun j hj => ?_, ?_⟩
                    · rw [upd_other _ _ _ _ (.inl (by omega))]; exact H1.out i j hi hj
                    · rw [upd_other _ _ _ _ (.inr (by omega))]; exact H2.out j hj
                    · rw [upd_at, HS.out]; split <;> omega
                  case measure => simp [intOf]; omega
                · obtain rfl : a = k := by omega
                  have H3 := Lib.hid hg3
                  clear hg3
                  go_wp2_with fail
                  go_roundw
                  case rel =>
                    refine ⟨b + 1, by go_num, by omega, hw, cs, g, hb, hg, H1.out, fun j hj => ?_⟩
                    by_cases e : j = b
                    · subst e; rw [H3.out]; unfold flo; rw [HPP.out]; rfl
                    · exact H2.out j (by omega)
                  case measure => simp [intOf]; omega
            · obtain rfl : b = k := by omega
              go_wp2_with fail
              go_roundw
              case rel =>
                refine ⟨n + 1, by go_num, by omega, hw, cs, g, hb, hg, fun i j hi hj => ?_⟩
                by_cases e : i = n + 1
                · subst e; exact H2.out j hj
                · exact H1.out i j (by omega) hj
              case measure => simp [intOf]; omega
        · obtain rfl : n = T.legs.length := by omega
          go_wp2_with fail
          go_ret
          exact ⟨_, cs, g, rfl, hb, hg, fun i j hi hj => H1.out i j hi (by rw [HPP.out] at hj; omega), Nat.le_refl _, hw⟩
end Go.Proofs
end

section
/- Walks: from where legs ahead can be kept. -/
namespace Go.Proofs
open Go.RowKit

theorem falseGrid : BGrid Tryz.zeroCells110 (fun _ _ => false) := by
  have e : Tryz.zeroCells110 = Array.replicate 132 (.bool false) := by kernel_rfl
  rw [e]
  exact ⟨by simp, fun i j hi hj => by rw [Array.getElem?_replicate, if_pos (by omega)]⟩

def ahdStep (T : Treaty) (f : Nat → Nat → Nat → Bool) (k leg a b : Nat) : Bool := (List.range b).any fun b => f leg a b && ahd T f k (leg + 1) b
theorem ahdStep_succ (T : Treaty) (f : Nat → Nat → Nat → Bool) (k leg a b : Nat) : ahdStep T f k leg a (b + 1) = (ahdStep T f k leg a b || f leg a b && ahd T f k (leg + 1) b) := by
  unfold ahdStep; rw [List.range_succ, List.any_append]; simp

/-- What ahead leaves: a rule over a table. -/
def Ruled (T : Treaty) (f : Nat → Nat → Nat → Bool) (w : World) (e : Ending) (w' : World) : Prop :=
  ∃ B cs g, e = .returned (.agg #[.func (.func 110) #[] #[.pointer (some ⟨B, 0, none⟩)]]) ∧ Blk w' B 110 cs ∧ BGrid cs g ∧ (∀ i j, i ≤ T.legs.length → j < T.places.toNat → g i j = ahd T f (T.legs.length - i) i j) ∧ w.heap.size ≤ B ∧ Aft w w'

set_option maxRecDepth 100000 in
set_option maxHeartbeats 2000000 in
theorem ahead_any (D : Nat) (T : Treaty) (a1 a2 a3 a4 : Option Addr) (c1 c2 c3 c4 : Nat) (f : Nat → Nat → Nat → Bool) (w : World) (hd : Desk w D T a1 a2 a3 a4 c1 c2 c3 c4 f)
    (hp : 1 ≤ T.places) (hp' : T.places ≤ 12) (hl : T.legs.length ≤ 10) :
    Calls Tryz.prog 50 #[.pointer (some ⟨D, 0, none⟩)] w (Ruled T f w) := by
  have hk4 := hd.k4
  have hlt := hd.lt
  obtain ⟨p, hpp⟩ := Int.eq_ofNat_of_zero_le (show 0 ≤ T.places by omega)
  have HPP := Lib.hid hpp
  rw [hpp] at hp hp'
  clear hpp
  go_enter Tryz.func50, Tryz.ntmps50
  go_wp2_with fail
  go_loopw [4] (fun i wr => ∃ m : Nat, i = .int .i64 ((m : Int) - 1) ∧ m ≤ T.legs.length + 1 ∧ Aft w wr ∧ wr.cell? ⟨w.heap.size, 0, none⟩ = some .nilFunc ∧ wr.frozen? ⟨w.heap.size, 0, none⟩ = false ∧
      ∃ cs g, Blk wr (w.heap.size + 1) 110 cs ∧ BGrid cs g ∧ (∀ i j, m ≤ i → i ≤ T.legs.length → j < p → g i j = ahd T f (T.legs.length - i) i j)) (fun i _ => ((intOf i) + 1).toNat)
  case atStart =>
    exact ⟨T.legs.length + 1, by go_num, by omega, (Aft.alloc _ _).then_alloc _, by simp [go_sem], by simp [go_sem], _, _, by have := Blk.new (w.alloc (.cells #[.nilFunc] 95)) 110 Tryz.zeroCells110; rwa [World.size_alloc] at this, falseGrid, fun i j hi hi' _ => by omega⟩
  case round =>
    obtain ⟨m, rfl, hm, hw, r1, r2, cs, g, hb, hg, hg1⟩ := hrel
    have H1 := Lib.hid hg1
    clear hg1
    by_cases hm0 : m = 0
    · subst hm0
      have hnl := hb.lt
      have em : (((0 : Nat) : Int) - 1) = -1 := rfl
      rw [em]
      go_wp2_with fail
      have c9 : (wr.setCell ⟨w.heap.size, 0, none⟩ (.func (.func 110) #[] #[.pointer (some ⟨w.heap.size + 1, 0, none⟩)])).cell? ⟨w.heap.size, 0, none⟩ = some (.func (.func 110) #[] #[.pointer (some ⟨w.heap.size + 1, 0, none⟩)]) := World.cell?_setCell_same _ _ _ r1
      refine bodyPost_ret (v := .agg #[.func (.func 110) #[] #[.pointer (some ⟨w.heap.size + 1, 0, none⟩)]]) (by simp [results, Tryz.results50, go_sem, c9]) rfl ?_
      exact ⟨_, cs, g, rfl, hb.far (by simp) _, hg, fun i j hi hj => H1.out i j (by omega) hi (by rw [HPP.out] at hj; omega), by omega, hw.then_setCell (Nat.le_refl _) _⟩
    · obtain ⟨n, rfl⟩ : ∃ n, m = n + 1 := ⟨m - 1, by omega⟩
      have d0 : wr.cell? ⟨D, 0, none⟩ = some (.int .i64 p) := by have := (hd.aft hw).k0; rwa [HPP.out] at this
      have e0 : (((n + 1 : Nat) : Int) - 1) = n := by omega
      rw [e0]
      obtain ⟨wo, hwo⟩ : ∃ wo : World, wo = wr := ⟨_, rfl⟩
      subst hwo
      go_wp2_with fail
      go_loopw [22] (fun i wr => ∃ a : Nat, i = .int .i64 a ∧ a ≤ p ∧ Aft w wr ∧ wr.cell? ⟨w.heap.size, 0, none⟩ = some .nilFunc ∧ wr.frozen? ⟨w.heap.size, 0, none⟩ = false ∧
        ∃ cs g, Blk wr (w.heap.size + 1) 110 cs ∧ BGrid cs g ∧ (∀ i j, n + 1 ≤ i → i ≤ T.legs.length → j < p → g i j = ahd T f (T.legs.length - i) i j) ∧ (∀ j, j < a → g n j = ahd T f (T.legs.length - n) n j)) (fun i _ => p - (intOf i).toNat)
      case atStart => exact ⟨0, rfl, by omega, hw, r1, r2, cs, g, hb, hg, H1.out, fun j hj => by omega⟩
      case round =>
        clear H1 r1 r2
        obtain ⟨a, rfl, hap, hw, r1, r2, cs, g, hb, hg, hg1, hg2⟩ := hrel
        have H1 := Lib.hid hg1
        have H2 := Lib.hid hg2
        clear hg1 hg2
        obtain ⟨wo2, hwo⟩ : ∃ wo2 : World, wo2 = wr := ⟨_, rfl⟩
        subst hwo
        by_cases halt : a < p
        · have d1 : wo2.cell? ⟨D, 0, none⟩ = some (.int .i64 p) := by have := (hd.aft hw).k0; rwa [HPP.out] at this
          have d4 := (hd.aft hw).k4
          have e1 := hg.cell hb (i := n) (j := a) (by omega) (by omega)
          have e2 := hb.frozen (n * 12 + a)
          by_cases hnl : n = T.legs.length
          · have hq : ((n : Int) == (T.legs.length : Int)) = true := by rw [beq_iff_eq]; omega
            have hq2 : ¬ ((n : Int) < T.legs.length) := by omega
            have hk := congrArg (fun x => ahd T f (T.legs.length - x) n a) hnl
            have HK := Lib.hid hnl
            clear hnl hk
            go_wp2_with fail
            go_region
            clear hq
            all_goals go_wp2_with fail
            refine wp_loop_rounds 1 ?_
            rw [rounds_succ]
            have d1' : (wo2.setCell ⟨w.heap.size + 1, n * 12 + a, none⟩ (.bool true)).drew.cell? ⟨D, 0, none⟩ = some (.int .i64 p) := by
              have := (hd.aft ((hw.then_setCell (p := ⟨w.heap.size + 1, n * 12 + a, none⟩) (Nat.le_succ _) (.bool true)).then_drew)).k0; rwa [HPP.out] at this
            have d4' := (hd.aft ((hw.then_setCell (p := ⟨w.heap.size + 1, n * 12 + a, none⟩) (Nat.le_succ _) (.bool true)).then_drew)).k4
            go_wp2_with fail
            go_roundw
            case rel =>
              refine ⟨a + 1, by go_num, by omega, (hw.then_setCell (p := ⟨w.heap.size + 1, n * 12 + a, none⟩) (Nat.le_succ _) _).then_drew, ?_, ?_, _, _, (hb.store _ _).drew, hg.set (i := n) (j := a) (by omega) (by omega) true, fun i j hi hi' hj => ?_, fun j hj => ?_⟩
              · simpa [go_sem] using r1
              · simpa [go_sem] using r2
              · rw [upd_other _ _ _ _ (.inl (by omega))]; exact H1.out i j hi hi' hj
              · by_cases e : j = a
                · subst e; rw [upd_at, HK.out, Nat.sub_self]; rfl
                · rw [upd_other _ _ _ _ (.inr e)]; exact H2.out j (by omega)
            case measure => simp [intOf]; omega
          · have hq : ((n : Int) == (T.legs.length : Int)) = false := by rw [beq_eq_false_iff_ne]; omega
            have hq2 : n < T.legs.length := by omega
            obtain ⟨k, hk⟩ : ∃ k, T.legs.length - n = k + 1 := ⟨T.legs.length - n - 1, by omega⟩
            have hk2 : T.legs.length - (n + 1) = k := by omega
            have HK := Lib.hid hk
            have HK2 := Lib.hid hk2
            clear hk hk2
            go_wp2_with fail
            go_region
            all_goals go_wp2_with fail
            have hw' := (hw.then_setCell (p := ⟨w.heap.size + 1, n * 12 + a, none⟩) (Nat.le_succ _) (.bool false)).then_drew
            have r1' : (wo2.setCell ⟨w.heap.size + 1, n * 12 + a, none⟩ (.bool false)).drew.cell? ⟨w.heap.size, 0, none⟩ = some .nilFunc := by simpa [go_sem] using r1
            have r2' : (wo2.setCell ⟨w.heap.size + 1, n * 12 + a, none⟩ (.bool false)).drew.frozen? ⟨w.heap.size, 0, none⟩ = false := by simpa [go_sem] using r2
            have hb' := (hb.store (n * 12 + a) (.bool false)).drew
            have hg' := hg.set (i := n) (j := a) (by omega) (by omega) false
            have H1' : Hid (∀ i j, n + 1 ≤ i → i ≤ T.legs.length → j < p → upd g n a false i j = ahd T f (T.legs.length - i) i j) := Lib.hid fun i j hi hi' hj => by rw [upd_other _ _ _ _ (.inl (by omega))]; exact H1.out i j hi hi' hj
            have H2' : Hid (∀ j, j < a → upd g n a false n j = ahd T f (T.legs.length - n) n j) := Lib.hid fun j hj => by rw [upd_other _ _ _ _ (.inr (by omega))]; exact H2.out j hj
            have H3' : Hid (upd g n a false n a = ahdStep T f k n a 0) := Lib.hid (by rw [upd_at]; rfl)
            clear hw r1 r2 hb hg H1 H2 e1 e2 d1 d4 d0 hq
            generalize (wo2.setCell ⟨w.heap.size + 1, n * 12 + a, none⟩ (.bool false)).drew = w5 at *
            generalize upd g n a false = g5 at *
            generalize cs.setIfInBounds (n * 12 + a) (.bool false) = cs5 at *
            go_loopw [6] (fun i wr => ∃ b : Nat, i = .int .i64 b ∧ b ≤ p ∧ Aft w wr ∧ wr.cell? ⟨w.heap.size, 0, none⟩ = some .nilFunc ∧ wr.frozen? ⟨w.heap.size, 0, none⟩ = false ∧
              ∃ cs g, Blk wr (w.heap.size + 1) 110 cs ∧ BGrid cs g ∧ (∀ i j, n + 1 ≤ i → i ≤ T.legs.length → j < p → g i j = ahd T f (T.legs.length - i) i j) ∧ (∀ j, j < a → g n j = ahd T f (T.legs.length - n) n j) ∧ g n a = ahdStep T f k n a b)
              (fun i _ => p - (intOf i).toNat)
            case atStart => exact ⟨0, rfl, by omega, hw', r1', r2', cs5, g5, hb', hg', H1'.out, H2'.out, H3'.out⟩
            case round =>
              clear hw' r1' r2' hb' hg' H1' H2' H3'
              obtain ⟨b, rfl, hbp, hw, r1, r2, cs, g, hb, hg, hg1, hg2, hg3⟩ := hrel
              have H1 := Lib.hid hg1
              have H2 := Lib.hid hg2
              have H3 := Lib.hid hg3
              clear hg1 hg2 hg3
              have d1 : wr.cell? ⟨D, 0, none⟩ = some (.int .i64 p) := by have := (hd.aft hw).k0; rwa [HPP.out] at this
              have d4 := (hd.aft hw).k4
              by_cases hbl : b < p
              · have e1 := hg.cell hb (i := n) (j := a) (by omega) (by omega)
                have e2 := hb.frozen (n * 12 + a)
                have e3 := hg.cell hb (i := n + 1) (j := b) (by omega) (by omega)
                have e4 : g (n + 1) b = ahd T f k (n + 1) b := by rw [H1.out (n + 1) b (Nat.le_refl _) (by omega) hbl, HK2.out]
                rw [e4] at e3
                have hst := ahdStep_succ T f k n a b
                rw [← H3.out, ← e4] at hst
                have HE4 := Lib.hid e4
                clear e4
                rw [← HE4.out] at e3
                have hbr := can_any D T a1 a2 a3 a4 c1 c2 c3 c4 f n a b wr.drew (hd.aft hw.then_drew) (by omega) (by omega) (by omega) (by omega) (by omega) (by omega)
                simp only [Int.toNat_natCast] at hbr
                have HB := Lib.hid (hbr.mono (R' := fun e w'' => e = .returned (.bool (f n a b)) ∧ w'' = wr.drew) fun _ _ ⟨h1, h2⟩ => ⟨h1, h2.symm⟩)
                clear hbr
                have HS := Lib.hid hst
                clear hst
                have i1 : (0 ≤ (n : Int) + 1 ∧ (n : Int) + 1 < 11) := by omega
                have i2 : (n : Int) < 11 := by omega
                have i3 : (b : Int) < 12 := by omega
                have i4 : (a : Int) < 12 := by omega
                have fin : ∀ (x : Bool), x = (g n a || f n a b && g (n + 1) b) → ∃ b' : Nat, Value.int .i64 ((b : Int) + 1) = .int .i64 b' ∧ b' ≤ p ∧ Aft w (wr.setCell ⟨w.heap.size + 1, n * 12 + a, none⟩ (.bool x)).drew ∧ (wr.setCell ⟨w.heap.size + 1, n * 12 + a, none⟩ (.bool x)).drew.cell? ⟨w.heap.size, 0, none⟩ = some .nilFunc ∧ (wr.setCell ⟨w.heap.size + 1, n * 12 + a, none⟩ (.bool x)).drew.frozen? ⟨w.heap.size, 0, none⟩ = false ∧
                    ∃ cs g, Blk (wr.setCell ⟨w.heap.size + 1, n * 12 + a, none⟩ (.bool x)).drew (w.heap.size + 1) 110 cs ∧ BGrid cs g ∧ (∀ i j, n + 1 ≤ i → i ≤ T.legs.length → j < p → g i j = ahd T f (T.legs.length - i) i j) ∧ (∀ j, j < a → g n j = ahd T f (T.legs.length - n) n j) ∧ g n a = ahdStep T f k n a b' := by
                  intro x hx
                  refine ⟨b + 1, by go_num, by omega, (hw.then_setCell (p := ⟨w.heap.size + 1, n * 12 + a, none⟩) (Nat.le_succ _) _).then_drew, ?_, ?_, _, _, (hb.store _ _).drew, hg.set (i := n) (j := a) (by omega) (by omega) x, fun i j hi hi' hj => ?_, fun j hj => ?_, ?_⟩
                  · simpa [go_sem] using r1
                  · simpa [go_sem] using r2
                  · rw [upd_other _ _ _ _ (.inl (by omega))]; exact H1.out i j hi hi' hj
                  · rw [upd_other _ _ _ _ (.inr (by omega))]; exact H2.out j hj
                  · rw [upd_at, hx, HS.out]
                have FIN := Lib.hid fin
                clear fin
                generalize hcur : g n a = cur at *
                generalize hnx : g (n + 1) b = nx at *
                generalize hf : f n a b = fb at *
                clear hcur hnx hf
                go_wp2_with fail
                cases cur
                · cases fb
                  · refine wp_region_tail 23 (by kernel_rfl) (by kernel_rfl) ?_
                    simp only [List.take_succ_cons, List.take_zero, List.drop_succ_cons, List.drop_zero]
                    repeat (first | go_big_quiet_skip | (go_big_quiet_want; go_big_quiet_op; go_big_quiet_on))
                    (go_big_quiet_want; go_big_quiet_op; refine ⟨_, HB.out, ?_⟩; go_big_quiet_on)
                    repeat (first | go_big_quiet_skip | (go_big_quiet_want; go_big_quiet_op; go_big_quiet_on))
                    refine wpQuiet_nil ?_
                    go_wp2_with fail
                    go_roundw
                    case rel => exact FIN.out false rfl
                    case measure => simp [intOf]; omega
                  · have w1 : IntKind.i64.wrap ((n : Int) + 1) = ((n + 1 : Nat) : Int) := by rw [IntWalk.i64_in _ (by omega)]; omega
                    refine wp_region_tail 23 (by kernel_rfl) (by kernel_rfl) ?_
                    simp only [List.take_succ_cons, List.take_zero, List.drop_succ_cons, List.drop_zero]
                    repeat (first | go_big_quiet_skip | (go_big_quiet_want; go_big_quiet_op; go_big_quiet_on))
                    (go_big_quiet_want; go_big_quiet_op; refine ⟨_, HB.out, ?_⟩; go_big_quiet_on)
                    repeat (first | go_big_quiet_skip | (go_big_quiet_want; go_big_quiet_op; go_big_quiet_on))
                    refine wpQuiet_nil ?_
                    clear w1
                    go_wp2_with fail
                    go_roundw
                    case rel => exact FIN.out nx rfl
                    case measure => simp [intOf]; omega
                · refine wp_region_tail 23 (by kernel_rfl) (by kernel_rfl) ?_
                  simp only [List.take_succ_cons, List.take_zero, List.drop_succ_cons, List.drop_zero]
                  repeat (first | go_big_quiet_skip | (go_big_quiet_want; go_big_quiet_op; go_big_quiet_on))
                  refine wpQuiet_nil ?_
                  go_wp2_with fail
                  go_roundw
                  case rel => exact FIN.out true rfl
                  case measure => simp [intOf]; omega
              · obtain rfl : b = p := by omega
                go_wp2_with fail
                go_roundw
                case rel =>
                  refine ⟨a + 1, by go_num, by omega, hw, r1, r2, cs, g, hb, hg, H1.out, fun j hj => ?_⟩
                  by_cases e : j = a
                  · subst e; rw [H3.out, HK.out]; unfold ahd; rw [HPP.out]; rfl
                  · exact H2.out j (by omega)
                case measure => simp [intOf]; omega
        · obtain rfl : a = p := by omega
          go_wp2_with fail
          go_roundw
          case rel =>
            refine ⟨n, by go_num, by omega, hw, r1, r2, cs, g, hb, hg, fun i j hi hi' hj => ?_⟩
            by_cases e : i = n
            · subst e; exact H2.out j hj
            · exact H1.out i j (by omega) hi' hj
          case measure => simp [intOf]
end Go.Proofs
end

section
/- Walks: behind a treaty that was read. -/
attribute [local go_sem ↓] Go.wp_at_zero Go.wp_at_succ
namespace Go.Proofs
open Go.RowKit

/-- A treaty was read: its box, and its desk. -/
structure Rd (w : World) (T : Treaty) (a1 a2 a3 a4 : Option Addr) (c1 c2 c3 c4 : Nat) (R : List Int) (D : Nat) (cs : Array Value) (w1 : World) : Prop where
  aft : Aft w w1
  box : Blk w1 w.heap.size 27 #[.int .i64 T.places, .slice a1 T.ways.length c1, .slice a2 T.words.length c2, .slice a3 T.starts.length c3, .slice a4 T.legs.length c4]
  gt : w.heap.size < D
  blk : Blk w1 D 154 cs
  grid : DGrid T a1 a2 a3 a4 c1 c2 c3 c4 cs (leadsF T R)

section
variable {w : World} {T : Treaty} {a1 a2 a3 a4 : Option Addr} {c1 c2 c3 c4 : Nat} {R : List Int} {D : Nat} {cs : Array Value} {w1 : World}
theorem Rd.desk (h : Rd w T a1 a2 a3 a4 c1 c2 c3 c4 R D cs w1) : Desk w1 D T a1 a2 a3 a4 c1 c2 c3 c4 (leadsF T R) := h.grid.desk h.blk
theorem Rd.at0 (h : Rd w T a1 a2 a3 a4 c1 c2 c3 c4 R D cs w1) : w1.cell? ⟨w.heap.size, 0, none⟩ = some (.int .i64 T.places) := h.box.cell 0
theorem Rd.at1 (h : Rd w T a1 a2 a3 a4 c1 c2 c3 c4 R D cs w1) : w1.cell? ⟨w.heap.size, 1, none⟩ = some (.slice a1 T.ways.length c1) := h.box.cell 1
theorem Rd.at2 (h : Rd w T a1 a2 a3 a4 c1 c2 c3 c4 R D cs w1) : w1.cell? ⟨w.heap.size, 2, none⟩ = some (.slice a2 T.words.length c2) := h.box.cell 2
theorem Rd.at3 (h : Rd w T a1 a2 a3 a4 c1 c2 c3 c4 R D cs w1) : w1.cell? ⟨w.heap.size, 3, none⟩ = some (.slice a3 T.starts.length c3) := h.box.cell 3
theorem Rd.at4 (h : Rd w T a1 a2 a3 a4 c1 c2 c3 c4 R D cs w1) : w1.cell? ⟨w.heap.size, 4, none⟩ = some (.slice a4 T.legs.length c4) := h.box.cell 4
theorem Rd.lt (h : Rd w T a1 a2 a3 a4 c1 c2 c3 c4 R D cs w1) : w.heap.size < w1.heap.size := h.box.lt
theorem Rd.later (h : Rd w T a1 a2 a3 a4 c1 c2 c3 c4 R D cs w1) {w2 : World} (ha : Aft w1 w2) : Rd w T a1 a2 a3 a4 c1 c2 c3 c4 R D cs w2 := ⟨h.aft.trans ha, h.box.aft ha, h.gt, h.blk.aft ha, h.grid⟩

theorem read_bad {AR : Option Addr} {cR : Nat} (hT : TRep w T a1 a2 a3 a4) (hR : Ints w AR R) (hz : readE T R ≠ 0) :
    Calls Tryz.prog 69 #[.agg #[.int .i64 T.places, .slice a1 T.ways.length c1, .slice a2 T.words.length c2, .slice a3 T.starts.length c3, .slice a4 T.legs.length c4], .slice AR R.length cR] (w.alloc (.cells #[.int .i64 T.places, .slice a1 T.ways.length c1, .slice a2 T.words.length c2, .slice a3 T.starts.length c3, .slice a4 T.legs.length c4] 27)) fun e w' => e = .returned (.tuple #[.pointer none, .int .i64 (readE T R)]) ∧ Aft w w' := by
  refine (read_any (w.alloc (.cells #[.int .i64 T.places, .slice a1 T.ways.length c1, .slice a2 T.words.length c2, .slice a3 T.starts.length c3, .slice a4 T.legs.length c4] 27)) T a1 a2 a3 a4 c1 c2 c3 c4 R AR cR (hT.aft (Aft.alloc _ _)) (hR.aft (Aft.alloc _ _))).mono ?_
  rintro e w' ⟨ha, ⟨_, he⟩ | ⟨h0, _⟩⟩
  · exact ⟨he, (Aft.alloc _ _).trans ha⟩
  · exact absurd h0 hz

theorem read_good {AR : Option Addr} {cR : Nat} (hT : TRep w T a1 a2 a3 a4) (hR : Ints w AR R) (hz : readE T R = 0) :
    Calls Tryz.prog 69 #[.agg #[.int .i64 T.places, .slice a1 T.ways.length c1, .slice a2 T.words.length c2, .slice a3 T.starts.length c3, .slice a4 T.legs.length c4], .slice AR R.length cR] (w.alloc (.cells #[.int .i64 T.places, .slice a1 T.ways.length c1, .slice a2 T.words.length c2, .slice a3 T.starts.length c3, .slice a4 T.legs.length c4] 27)) fun e w' => ∃ D cs, e = .returned (.tuple #[.pointer (some ⟨D, 0, none⟩), .int .i64 0]) ∧ Rd w T a1 a2 a3 a4 c1 c2 c3 c4 R D cs w' := by
  refine (read_any (w.alloc (.cells #[.int .i64 T.places, .slice a1 T.ways.length c1, .slice a2 T.words.length c2, .slice a3 T.starts.length c3, .slice a4 T.legs.length c4] 27)) T a1 a2 a3 a4 c1 c2 c3 c4 R AR cR (hT.aft (Aft.alloc _ _)) (hR.aft (Aft.alloc _ _))).mono ?_
  rintro e w' ⟨ha, ⟨h0, _⟩ | ⟨_, D, cs, he, hD, hb, hg⟩⟩
  · exact absurd hz h0
  · exact ⟨D, cs, he, (Aft.alloc _ _).trans ha, (Blk.new _ _ _).aft ha, by rw [World.size_alloc] at hD; omega, hb, hg⟩
end

end Go.Proofs
end
