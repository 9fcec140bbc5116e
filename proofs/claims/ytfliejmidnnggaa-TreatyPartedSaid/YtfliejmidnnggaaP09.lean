/- Merged by program out of the texts Mgf Own4 WkQ. -/
import Derived.Test.YtfliejmidnnggaaP08
import Derived.Deep.CutRange
import Derived.BigGuard
import Derived.Deep.Cut
import Derived.Deep.RegionHeld3
section
/- Walks: Made. -/
namespace Go.Proofs
open Go.RowKit

theorem region5_eq : ((regAt 5 (Try.f25.body.getD .skip)).getD #[]) = (opsMade 5).toArray := rfl

/-- Between two ways. -/
def MW1 (w0 : World) (d : Nat) (A : Option Addr) (l : List Int) (c m : Nat) (wE : World) (B p k : Nat) (W : World) : Prop :=
  ∃ (ws : List Way) (v1 : Value), ws.length = k ∧ (∀ x ∈ ws, WayOk p x) ∧ DeckAt w0 d A l c (m + 2 + 3 * k) W ∧ wE.grownBy W (some d) ∧ B + 1 ≤ W.heap.size ∧ Blk W B 27 #[.int .i64 p, v1, .slice none 0 0, .slice none 0 0, .slice none 0 0] ∧ W.ownsRow (B + 1) 86 3 v1 ws.length (ws.flatMap encWay)

theorem wpList_app1 {ops : Array Oper} {rest : List Oper} {o : Oper} {a : Act} {w : World} {Q : Exit → Act → World → Prop} {t e : TypeId} {size bytes : Nat} (hT : SliceTy Try.prog t e size bytes) (hgd : o.guard = none) (s x : Operand) (ho : o.op = .call { callee := .builtin .append, args := #[s, x], argTypes := #[t, t] })
    {base n : Nat} {v : Value} {xs : List Value} (hbase : base ≤ w.heap.size) (hs : a.eval s = v) (hown : w.ownsRow base e size v n xs) {b c : Nat} {t' : TypeId} {news : List Value} (hx : a.eval x = .slice (some ⟨b, 0, none⟩) 1 c) (hb : Blk w b t' news.toArray) (hl : news.length = size)
    (h1 : ∀ u ∈ news, u.oneCell' = true) (hlen : n ≤ 1000000) (hbytes : bytes ≤ 1000)
    (hn : ∀ v' w', w'.ownsRow base e size v' (n + 1) (xs ++ news) → w.grownBy w' v.ownBlock → (v'.ownBlock = v.ownBlock ∨ v'.ownBlock = some w.heap.size) → wpList Try.prog ops Q rest (a.put o.dst v') w') : wpList Try.prog ops Q (o :: rest) a w :=
  wpList_plain hgd fun _ hK => op_app hT s x ho hbase hs hown hx hb hl h1 hlen hbytes fun v' w' g1 g2 g3 => hK _ _ (hn v' w' g1 g2 g3)
theorem ty23 : SliceTy Try.prog 23 78 1 24 := .mk' (z := .slice none 0 0) Try.underlying23 (by kernel_rfl) rfl (by decide)
def WordsOk (p : Nat) (ls : List (List Mean)) : Prop := ∀ l ∈ ls, (1 ≤ l.length ∧ l.length ≤ 3) ∧ ∀ m ∈ l, MeanOk p m
/-- Between two words. -/
def MW2 (w0 : World) (d : Nat) (A : Option Addr) (l : List Int) (c m : Nat) (wE : World) (B p : Nat) (ws : List Way) (v1 : Value) (k : Nat) (W : World) : Prop :=
  ∃ (ls : List (List Mean)) (v2 : Value) (S : Nat → Prop) (xs : List Value), ls.length = k ∧ WordsOk p ls ∧ DeckAt w0 d A l c (m + 60 + 50 * k) W ∧ wE.grownBy W (some d) ∧ B + 1 ≤ W.heap.size ∧
    Blk W B 27 #[.int .i64 p, v1, v2, .slice none 0 0, .slice none 0 0] ∧ W.ownsRow (B + 1) 86 3 v1 ws.length (ws.flatMap encWay) ∧ OwnK WordR 78 1 (B + 1) v2 S ls xs W ∧ (∀ g, v1.ownBlock = some g → v2.ownBlock ≠ some g ∧ ¬ S g)
/-- Between two meanings. -/
def MW3 (w0 : World) (d : Nat) (A : Option Addr) (l : List Int) (c m : Nat) (wR : World) (b p k : Nat) (vS : Value) (W : World) : Prop :=
  ∃ (ms : List Mean) (S : Nat → Prop) (xs : List Value), ms.length = k ∧ (∀ m ∈ ms, MeanOk p m) ∧ DeckAt w0 d A l c (m + 12 * k) W ∧ wR.grownBy W (some d) ∧ OwnK MeanR 80 2 b vS S ms xs W

/-- Where the starts stand in a list of their own. -/
def MS (w0 : World) (d : Nat) (A : Option Addr) (l : List Int) (c m : Nat) (wE : World) (B p : Nat) (ws : List Way) (v1 : Value) (ls : List (List Mean)) (v2 : Value) (S : Nat → Prop) (xs : List Value) (W : World) : Prop :=
  ∃ (ns : List Int) (v3 : Value), 1 ≤ ns.length ∧ ns.length ≤ p ∧ (∀ x ∈ ns, 0 ≤ x ∧ x < p) ∧ risesB ns = true ∧ DeckAt w0 d A l c m W ∧ wE.grownBy W (some d) ∧ B + 1 ≤ W.heap.size ∧
    Blk W B 27 #[.int .i64 p, v1, v2, v3, .slice none 0 0] ∧ W.ownsRow (B + 1) 86 3 v1 ws.length (ws.flatMap encWay) ∧ OwnK WordR 78 1 (B + 1) v2 S ls xs W ∧ W.ownsRow (B + 1) 3 1 v3 ns.length (ns.map (Value.int .i64))
/-- Between two legs. -/
def MW4 (w0 : World) (d : Nat) (A : Option Addr) (l : List Int) (c m : Nat) (wE W0 : World) (B p nW : Nat) (v1 v2 v3 : Value) (k : Nat) (W : World) : Prop :=
  ∃ (lg : List Leg) (v4 : Value), lg.length = k ∧ (∀ x ∈ lg, LegOk nW x) ∧ DeckAt w0 d A l c (m + 2 * k) W ∧ wE.grownBy W (some d) ∧ W0.heap.size ≤ W.heap.size ∧ (∀ k, k < W0.heap.size → k ≠ d → k ≠ B → W.heap[k]? = W0.heap[k]?) ∧
    Blk W B 27 #[.int .i64 p, v1, v2, v3, v4] ∧ W.ownsRow W0.heap.size 83 2 v4 lg.length (lg.flatMap encLeg)
/-- What Made answers: a treaty of its own, that stands whatever the deck deals. -/
def MadeR (w0 : World) (d : Nat) (A : Option Addr) (l : List Int) (c m : Nat) (w : World) (e : Ending) (w' : World) : Prop :=
  ∃ (T : Treaty) (a1 a2 a3 a4 : Option Addr) (c1 c2 c3 c4 : Nat), e = .returned (.agg #[.int .i64 T.places, .slice a1 T.ways.length c1, .slice a2 T.words.length c2, .slice a3 T.starts.length c3, .slice a4 T.legs.length c4]) ∧ MOk T ∧ DeckAt w0 d A l c (m + 1000) w' ∧ w.grownBy w' (some d) ∧ TRepF d w' T a1 a2 a3 a4

set_option maxRecDepth 100000 in
set_option maxHeartbeats 4000000 in
theorem made_any (w0 : World) (d : Nat) (A : Option Addr) (l : List Int) (c m : Nat) (w : World) (hd : DeckAt w0 d A l c m w) (hm : m ≤ 700000) (q : Nat) (hq : q ≤ 10) : Calls Try.prog 25 #[.pointer (some ⟨d, 0, none⟩), .int .i64 q] w (MadeR w0 d A l c m w) := by
  have HD := Lib.hid hd
  have hdl := hd.lt
  clear hd
  go_enter Try.func25, Try.ntmps25
  (repeat (first | go_big_skip | go_big_want | go_big_move | go_big_op | go_step | go_upon | go_back))
  go_at_call 32
  refine (between_any w0 d A l c m 2 8 _ (HD.out.aft (Aft.alloc _ _)) (by omega) (by omega) (by omega) (by omega)).mono ?_
  rintro e x ⟨P, rfl, hp1, hp2, hdk, hgr⟩
  dsimp only
  obtain ⟨p, rfl⟩ := Int.eq_ofNat_of_zero_le (show 0 ≤ P by omega)
  have HDK := Lib.hid hdk
  have HG := Lib.hid hgr
  clear hdk hgr
  (repeat (first | go_big_skip | go_big_want | go_big_move | go_big_op | go_step | go_upon | go_back))
  go_at_call 32
  refine (between_any w0 d A l c (m + 1) 2 16 _ (HDK.out.aft (Aft.alloc _ _)) (by omega) (by omega) (by omega) (by omega)).mono ?_
  rintro e y ⟨n0, rfl, hn1, hn2, hdk, hgr⟩
  dsimp only
  obtain ⟨n0, rfl⟩ := Int.eq_ofNat_of_zero_le (show 0 ≤ n0 by omega)
  (repeat (first | go_big_skip | go_big_want | go_big_move | go_big_op | go_step | go_upon | go_back))
  have hA := Aft.alloc w (.cells #[.int .i64 0, .slice none 0 0, .slice none 0 0, .slice none 0 0, .slice none 0 0] 27)
  have hB : Blk y x.heap.size 27 #[.int .i64 p, .slice none 0 0, .slice none 0 0, .slice none 0 0, .slice none 0 0] := (Blk.new x 27 _).grown hgr (fun e => by injection e with e; have := HDK.out.lt; omega)
  have hdx := HDK.out.lt
  have hxs := HG.out.size
  have hgE := HG.out.trans (only_of_aft (Aft.alloc x (.cells #[.int .i64 p, .slice none 0 0, .slice none 0 0, .slice none 0 0, .slice none 0 0] 27)) (some d))
  have HGE := Lib.hid (hgE.trans hgr)
  have HM0 : Hid (MW1 w0 d A l c m (w.alloc (.cells #[.int .i64 0, .slice none 0 0, .slice none 0 0, .slice none 0 0, .slice none 0 0] 27)) x.heap.size p 0 y) := Lib.hid ⟨[], .slice none 0 0, rfl, by simp, hdk, HGE.out, by have := hgr.size; rw [World.size_alloc] at this; exact this, hB, World.ownsRow_nil _ _ 86 3⟩
  have HdB := Lib.hid hdx
  have HEB := Lib.hid hxs
  clear hB hgE hdk hgr HDK HG hdx hxs
  generalize x.heap.size = B at *
  obtain ⟨wE, hwE⟩ : ∃ wE, wE = w.alloc (.cells #[.int .i64 0, .slice none 0 0, .slice none 0 0, .slice none 0 0, .slice none 0 0] 27) := ⟨_, rfl⟩
  rw [← hwE] at HM0 HGE HEB
  have HWE := Lib.hid hwE
  clear hwE hA
  go_loopw [13] (fun i wr => ∃ k : Nat, i = .int .i64 k ∧ k ≤ n0 ∧ MW1 w0 d A l c m wE B p k wr) (fun i _ => n0 - (intOf i).toNat)
  case atStart => exact ⟨0, rfl, by omega, HM0.out⟩
  case round =>
    obtain ⟨k, rfl, hk, hM⟩ := hrel
    have HM := Lib.hid hM
    clear hM
    by_cases hkn : k < n0
    · have hdec : decide ((k : Int) < (n0 : Int)) = true := by simp; omega
      obtain ⟨ws, v1, hwl, hws, hdk, hgr, hsz, hbx, hown⟩ := HM.out
      have c0 : wr.cell? ⟨B, 0, none⟩ = some (.int .i64 p) := hbx.cell 0
      have hlt := hbx.lt
      have HBX := Lib.hid hbx
      have HOW := Lib.hid hown
      have HDK := Lib.hid hdk
      have HGR := Lib.hid hgr
      have HSZ := Lib.hid hsz
      have HWS := Lib.hid hws
      have HWL := Lib.hid hwl
      clear hbx hown hdk hgr hsz hws hwl HM HM0 HGE
      (repeat (first | go_big_skip | go_big_want | go_big_move | go_big_op | go_step | go_upon | go_back))
      go_at_call 33
      refine (draw_any w0 d A l c _ p wr HDK.out (by omega) (by omega) (by omega)).mono ?_
      rintro e x5 ⟨F, rfl, hf1, hf2, hdk, hgr⟩
      dsimp only
      have hF2 : F < (p : Int) := by omega
      have HDB := HdB.out
      have HDK := Lib.hid hdk
      have HBX := Lib.hid (HBX.out.grown hgr (fun e => by injection e with e; omega))
      have HOW := Lib.hid (own_kept' HOW.out hgr (fun k e => by cases e; omega))
      have HGR := Lib.hid (HGR.out.trans hgr)
      have HSZ := Lib.hid (Nat.le_trans HSZ.out hgr.size)
      clear hdk hgr c0 hlt hf2
      (repeat (first | go_big_skip | go_big_want | go_big_move | go_big_op | go_step | go_upon | go_back))
      refine region5_lit w0 d A l c _ wE B (B + 1) ws.length p F v1 _ _ _ (ws.flatMap encWay) _ _ _ _ _ _ _ _ _ _ _ _ _ _ _ _ _ _ _ _ _ _ _ _ _ _ _ _ _ _ _ _ _ _ _ _ _ _ _ _ _ _ _ _ _ _ _ _ _ _ _ _ _ _ _ _ _ _ _ _ _ _ _ _ _ _ _ _ _ _ _ _ _ _ _ _ _ _ _ _ _ _ _ _ _ _ _ _ _ _ _ _ _ _ _ _ _ _ _ _ _ _ _ _ hf1 hF2 hp1 hp2 HDK.out (by omega) HGR.out HBX.out HOW.out (by have := HWL.out; omega) (by omega) HdB.out HEB.out HSZ.out ?_
      intro u19 u20 u21 u22 u23 u24 u25 u26 u27 u28 u29 u30 u31 u32 u33 u34 u35 u36 u37 W' wy v' h1 h2 h3 h4 h5 h6
      have HM' : Hid (MW1 w0 d A l c m wE B p (k + 1) W') := Lib.hid ⟨ws ++ [wy], v', by simp [HWL.out], fun x hx => (List.mem_append.1 hx).elim (HWS.out x) (fun h => by rw [List.mem_singleton] at h; subst h; exact h5), h1.more (by omega), h2, h3, h4, by simpa using h6⟩
      clear h1 h2 h3 h4 h5 h6
      (repeat (first | go_big_skip | go_big_want | go_big_move | go_big_op | go_step | go_upon | go_back))
      exact ⟨⟨k + 1, by go_num, by omega, HM'.out⟩, by simp [intOf]; omega⟩
    · have hdec : decide ((k : Int) < (n0 : Int)) = false := by simp; omega
      obtain ⟨ws, v1, hwl, hws, hdk, hgr, hsz, hbx, hown⟩ := HM.out
      have HBX := Lib.hid hbx
      have HOW := Lib.hid hown
      have HDK := Lib.hid hdk
      have HGR := Lib.hid hgr
      have HSZ := Lib.hid hsz
      have HWS := Lib.hid hws
      have HWL := Lib.hid hwl
      clear hbx hown hdk hgr hsz hws hwl HM HM0 HGE
      (repeat (first | go_big_skip | go_big_want | go_big_move | go_big_op | go_step | go_upon | go_back))
      go_at_call 32
      refine (between_any w0 d A l c _ 1 3 wr HDK.out (by omega) (by omega) (by omega) (by omega)).mono ?_
      rintro e x5 ⟨nw, rfl, hw1, hw2, hdk, hgr⟩
      dsimp only
      obtain ⟨nw, rfl⟩ := Int.eq_ofNat_of_zero_le (show 0 ≤ nw by omega)
      (repeat (first | go_big_skip | go_big_want | go_big_move | go_big_op | go_step | go_upon | go_back))
      have HDB := HdB.out
      have HM2 : Hid (MW2 w0 d A l c m wE B p ws v1 0 x5) := Lib.hid ⟨[], .slice none 0 0, _, [], rfl, (fun l h => by simp at h), hdk.more (by have := HWL.out; omega), HGR.out.trans hgr, Nat.le_trans HSZ.out hgr.size, HBX.out.grown hgr (fun e => by injection e with e; omega), own_kept' HOW.out hgr (fun k e => by cases e; omega), OwnK.nil _ _ _ _, fun g _ => ⟨fun e => by (cases e), fun h => h⟩⟩
      clear hdk hgr HBX HOW HDK HGR HSZ
      go_loopw [41] (fun i wr => ∃ k2 : Nat, i = .int .i64 k2 ∧ k2 ≤ nw ∧ MW2 w0 d A l c m wE B p ws v1 k2 wr) (fun i _ => nw - (intOf i).toNat)
      case atStart => exact ⟨0, rfl, by omega, HM2.out⟩
      case round =>
        obtain ⟨k2, rfl, hk2, hM⟩ := hrel
        have HM := Lib.hid hM
        clear hM HM2
        by_cases hkn2 : k2 < nw
        · have hdec2 : decide ((k2 : Int) < (nw : Int)) = true := by simp; omega
          obtain ⟨ls, v2, S, xs, hll, hlo, hdk, hgr, hsz, hbx, hown, hok, hap⟩ := HM.out
          have HD2 := Lib.hid hdk
          have HLL := Lib.hid hll
          have HLO := Lib.hid hlo
          have HGR := Lib.hid hgr
          have HSZ := Lib.hid hsz
          have HBX := Lib.hid hbx
          have HOW := Lib.hid hown
          have HOK := Lib.hid hok
          have HAP := Lib.hid hap
          clear hll hlo hdk hgr hsz hbx hown hok hap
          (repeat (first | go_big_skip | go_big_want | go_big_move | go_big_op | go_step | go_upon | go_back))
          go_at_call 32
          refine (between_any w0 d A l c _ 1 3 _ HD2.out (by omega) (by omega) (by omega) (by omega)).mono ?_
          rintro e x6 ⟨nm, rfl, hm1, hm2, hdk, hgr⟩
          dsimp only
          obtain ⟨nm, rfl⟩ := Int.eq_ofNat_of_zero_le (show 0 ≤ nm by omega)
          (repeat (first | go_big_skip | go_big_want | go_big_move | go_big_op | go_step | go_upon | go_back))
          have HM3 : Hid (MW3 w0 d A l c (m + 60 + 50 * k2 + 1) x6 x6.heap.size p 0 (.slice none 0 0) x6) := Lib.hid ⟨[], _, [], rfl, (fun m h => by simp at h), hdk, only_refl _ _, OwnK.nil _ _ _ _⟩
          have HBX := Lib.hid (HBX.out.grown hgr (fun e => by injection e with e; omega))
          have HOW := Lib.hid (own_kept' HOW.out hgr (fun k e => by cases e; omega))
          have HOK := Lib.hid (HOK.out.kept hgr (fun k e => by cases e; omega))
          have HGR := Lib.hid (HGR.out.trans hgr)
          have HSZ := Lib.hid (Nat.le_trans HSZ.out hgr.size)
          clear hdk hgr HD2
          go_loopw [7, 45] (fun v i wr => ∃ k3 : Nat, i = .int .i64 k3 ∧ k3 ≤ nm ∧ MW3 w0 d A l c (m + 60 + 50 * k2 + 1) x6 x6.heap.size p k3 v wr) (fun _ i _ => nm - (intOf i).toNat)
          case atStart => exact ⟨0, rfl, by omega, HM3.out⟩
          case round =>
            obtain ⟨k3, rfl, hk3, hM⟩ := hrel
            have HM := Lib.hid hM
            clear hM HM3
            by_cases hkn3 : k3 < nm
            · have hdec3 : decide ((k3 : Int) < (nm : Int)) = true := by simp; omega
              obtain ⟨ms, S3, xs3, hml, hmo, hdk, hgr, hok⟩ := HM.out
              have HML := Lib.hid hml
              have HMO := Lib.hid hmo
              have HDK := Lib.hid hdk
              have HGR3 := Lib.hid hgr
              have HOK3 := Lib.hid hok
              clear hml hmo hdk hgr hok HM
              (repeat (first | go_big_skip | go_big_want | go_big_move | go_big_op | go_step | go_upon | go_back))
              refine region12_lit w0 d A l c _ x6 B x6.heap.size p _ S3 ms xs3 _ _ _ _ _ _ _ _ _ _ _ _ _ _ _ _ _ _ _ _ _ _ _ _ _ _ _ _ _ _ _ _ _ _ _ _ _ _ _ _ _ _ _ _ _ _ _ _ _ _ _ _ _ _ _ _ _ _ _ _ _ _ _ _ _ _ _ _ _ _ _ _ _ _ _ _ _ _ _ _ _ _ _ _ _ _ _ _ _ _ _ _ _ _ _ _ _ _ _ _ _ _ _ _ _ _ _ _ (by omega) HDK.out (by omega) HGR3.out (HBX.out.grown HGR3.out (fun e => by injection e with e; omega)) HOK3.out (by have := HML.out; omega) HSZ.out HdB.out (Nat.le_refl _) HGR3.out.size ?_
              intro u7' u47 u48 u49 u50 u51 u52 u53 u54 u55 u56 W' h1 h2 h3 h4
              obtain ⟨S4, mm, xs4, hmm, hk4⟩ := h4
              have HM' : Hid (MW3 w0 d A l c (m + 60 + 50 * k2 + 1) x6 x6.heap.size p (k3 + 1) u7' W') := Lib.hid ⟨ms ++ [mm], S4, xs4, by simp [HML.out], fun x hx => (List.mem_append.1 hx).elim (HMO.out x) (fun h => by rw [List.mem_singleton] at h; subst h; exact hmm), h1.more (by omega), h2, hk4⟩
              clear h1 h2 h3 hk4 hmm
              (repeat (first | go_big_skip | go_big_want | go_big_move | go_big_op | go_step | go_upon | go_back))
              exact ⟨⟨k3 + 1, by go_num, by omega, HM'.out⟩, by simp [intOf]; omega⟩
            · have hdec3 : decide ((k3 : Int) < (nm : Int)) = false := by simp; omega
              obtain ⟨ms, S3, xs3, hml, hmo, hdk, hgr, hok⟩ := HM.out
              obtain ⟨sA, sn, sc, rfl⟩ := own_slice' hok.own
              have HML := Lib.hid hml
              have HMO := Lib.hid hmo
              have HDK := Lib.hid hdk
              have HGR3 := Lib.hid hgr
              have HOK3 := Lib.hid hok
              have hBX := HBX.out.grown hgr (fun e => by injection e with e; have := HdB.out; omega)
              have hxd : ∀ k, some d = some k → k < B + 1 := fun k e => by cases e; have := HdB.out; omega
              have HOKw := Lib.hid (HOK.out.kept hgr hxd)
              have HOWw := Lib.hid (own_kept' HOW.out hgr hxd)
              have c2 : wr.cell? ⟨B, 2, none⟩ = some v2 := hBX.cell 2
              have f2 := hBX.frozen 2
              have hlt := hBX.lt
              have HBXw := Lib.hid hBX
              clear hml hmo hdk hgr hok HM hBX
              go_upto_region 15 with (at_builtin; refine wpList_app1 ty23 rfl _ _ rfl (Nat.le_trans (Nat.le_trans HSZ.out HGR3.out.size) (Aft.alloc _ _).size) rfl (HOKw.out.aft (Aft.alloc _ _)).own rfl (Blk.new _ _ _) rfl (fun u hu => by rw [List.mem_singleton] at hu; subst hu; rfl) (by have := HLL.out; omega) (by decide) ?_; intro v' w6 hown6 hg6 hat6; obtain ⟨tA, tn, tc, rfl⟩ := own_slice' hown6; have HO6 := Lib.hid hown6; have HG6 : Hid ((wr.alloc (.cells #[.slice sA sn sc] 78)).grownBy w6 v2.ownBlock) := Lib.hid hg6; have HA6 : Hid ((Value.slice tA tn tc).ownBlock = v2.ownBlock ∨ (Value.slice tA tn tc).ownBlock = some (wr.alloc (.cells #[.slice sA sn sc] 78)).heap.size) := Lib.hid hat6; have HB6 := Lib.hid ((HBXw.out.alloc _).grown hg6 (fun e => by have := (HOKw.out.own.lt B e.symm).1; omega)); have f26 := HB6.out.frozen 2; have hlt6 := HB6.out.lt; have c26 : w6.cell? ⟨B, 2, none⟩ = some v2 := HB6.out.cell 2; clear hown6 hg6 hat6)
              have ha := Aft.alloc wr (.cells #[.slice sA sn sc] 78)
              have hgs : w6.grownBy (w6.setCell ⟨B, 2, none⟩ (.slice tA tn tc)) (some B) := only_setCell (only_refl w6 (some B)) (p := ⟨B, 2, none⟩) (.inl rfl) _
              have hsB : ∀ k, some B = some k → k < B + 1 := fun k e => by cases e; omega
              have hxl := HGR3.out.size
              have hv2 : ∀ k, v2.ownBlock = some k → B + 1 ≤ k ∧ k < x6.heap.size := fun k e => HOK.out.own.lt k e
              have hv1 : ∀ k, v1.ownBlock = some k → B + 1 ≤ k ∧ k < x6.heap.size := fun k e => HOW.out.lt k e
              have hS3 : ∀ k, S3 k ∨ (Value.slice sA sn sc).ownBlock = some k → x6.heap.size ≤ k := fun k hk => hk.elim (fun h => (HOK3.out.far k h).1) (fun e => (HOK3.out.own.lt k e).1)
              have hpush := (HOKw.out.aft ha).push ((HOK3.out.aft ha).word (by have := HML.out; omega)) rfl (fun k hk => ⟨Nat.le_trans HSZ.out (hS3 k hk), fun e => by have := (hv2 k e).2; have := hS3 k hk; omega⟩) HO6.out HG6.out HA6.out
              have hps := hpush.kept hgs hsB
              have how := own_kept' ((own_aft HOWw.out ha).kept HG6.out (by
                cases hb : v1.ownBlock with
                | none => exact .inl rfl
                | some g => exact .inr fun e => (HAP.out g hb).1 e.symm)) hgs hsB
              have hD' := (((HDK.out.aft ha).grown HG6.out (fun k e => by have := (hv2 k e).1; have := HdB.out; omega)).grown hgs (fun k e => by cases e; exact HdB.out)).more (show m + 60 + 50 * k2 + 1 + 12 * k3 ≤ m + 60 + 50 * (k2 + 1) by omega)
              have hG' := only_grown (only_grown (only_aft (HGR.out.trans HGR3.out) ha) HG6.out (fun k e => by have := (hv2 k e).1; have := HEB.out; omega)) hgs (fun k e => by cases e; exact HEB.out)
              have hap : ∀ g, v1.ownBlock = some g → (Value.slice tA tn tc).ownBlock ≠ some g ∧ ¬ (S g ∨ (S3 g ∨ (Value.slice sA sn sc).ownBlock = some g)) := fun g hg => by
                have hlt := (hv1 g hg).2
                refine ⟨fun e => ?_, fun h => ?_⟩
                · rcases HA6.out with h | h
                  · rw [h] at e; exact (HAP.out g hg).1 e
                  · rw [h] at e; cases e; simp at hlt; omega
                · rcases h with h | h
                  · exact (HAP.out g hg).2 h
                  · have := hS3 g h; omega
              have HM' : Hid (MW2 w0 d A l c m wE B p ws v1 (k2 + 1) (w6.setCell ⟨B, 2, none⟩ (.slice tA tn tc))) := Lib.hid ⟨ls ++ [ms], .slice tA tn tc, _, _, by simp [HLL.out], fun x hx => (List.mem_append.1 hx).elim (HLO.out x) (fun h => by rw [List.mem_singleton] at h; subst h; exact ⟨by have := HML.out; omega, HMO.out⟩), hD', hG', by have := ha.size; have := HG6.out.size; have := hgs.size; have := HSZ.out; omega, HB6.out.store 2 _, how, hps, hap⟩
              clear ha hgs hsB hxl hv2 hv1 hS3 hpush hps how hD' hG' hap hlt hlt6 f2 f26 c2 c26
              (repeat (first | go_big_skip | go_big_want | go_big_move | go_big_op | go_step | go_upon | go_back))
              exact ⟨⟨k2 + 1, by go_num, by omega, HM'.out⟩, by simp [intOf]; omega⟩
        · have hdec2 : decide ((k2 : Int) < (nw : Int)) = false := by simp; omega
          obtain ⟨ls, v2, S, xs, hll, hlo, hdk, hgr, hsz, hbx, hown, hok, hap⟩ := HM.out
          have HLL := Lib.hid hll
          have HLO := Lib.hid hlo
          have HDK := Lib.hid hdk
          have HGR := Lib.hid hgr
          have HSZ := Lib.hid hsz
          have HBX := Lib.hid hbx
          have HOW := Lib.hid hown
          have HOK := Lib.hid hok
          have HAP := Lib.hid hap
          have hlt := hbx.lt
          have c0 : wr.cell? ⟨B, 0, none⟩ = some (.int .i64 p) := hbx.cell 0
          have hp8 : p ≤ 8 := by omega
          clear hll hlo hdk hgr hsz hbx hown hok hap HM
          (repeat (first | go_big_skip | go_big_want | go_big_move | go_big_op | go_step | go_upon | go_back))
          go_at_call 42
          refine (some_any w0 d A l c _ p 3 wr HDK.out (by omega) (by omega) (by omega) (by omega)).mono ?_
          rintro e x6 ⟨v3, ns, rfl, hs1, hs2, hs3, hs4, hdk, hgr⟩
          dsimp only
          have hpl : ns.length ≤ 17592186043904 := by omega
          obtain ⟨sA, sc, rfl, _, _⟩ := own_ints hs1 hpl
          clear hpl
          have HSZw := HSZ
          have hxd : ∀ k, some d = some k → k < B + 1 := fun k e => by cases e; have := HdB.out; omega
          have hbx := HBX.out.grown hgr (fun e => by injection e with e; have := HdB.out; omega)
          have HBX := Lib.hid hbx
          have HOW := Lib.hid (own_kept' HOW.out hgr hxd)
          have HOK := Lib.hid (HOK.out.kept hgr hxd)
          have HGR := Lib.hid (HGR.out.trans hgr)
          have HSZ := Lib.hid (Nat.le_trans HSZ.out hgr.size)
          have HDK := Lib.hid hdk
          have HS1 := Lib.hid hs1
          have HS2 := Lib.hid hs2
          have HS3 := Lib.hid hs3
          have HS4 := Lib.hid hs4
          have f3 := hbx.frozen 3
          have hlt6 := hbx.lt
          have c3 : x6.cell? ⟨B, 3, none⟩ = some (.slice none 0 0) := hbx.cell 3
          clear hs1 hs2 hs3 hs4 hdk hgr hxd hbx c0 hlt
          have hb3 := HBX.out.store 3 (.slice sA ns.length sc)
          have hgs : x6.grownBy (x6.setCell ⟨B, 3, none⟩ (.slice sA ns.length sc)) (some B) := only_setCell (only_refl x6 (some B)) (p := ⟨B, 3, none⟩) (.inl rfl) _
          have hsB : ∀ k, some B = some k → k < B + 1 := fun k e => by cases e; omega
          have HO3 := Lib.hid (own_kept' (World.ownsRow.mono HS1.out (show B + 1 ≤ wr.heap.size from by have := HSZw.out; omega)) hgs hsB)
          have HOW := Lib.hid (own_kept' HOW.out hgs hsB)
          have HOK := Lib.hid (HOK.out.kept hgs hsB)
          have HDK := Lib.hid (HDK.out.grown hgs (fun k e => by cases e; exact HdB.out))
          have HGR := Lib.hid (only_grown HGR.out hgs (fun k e => by cases e; exact HEB.out))
          have HSZ := Lib.hid (Nat.le_trans HSZ.out hgs.size)
          have HB3 := Lib.hid hb3
          clear hgs hsB HS1 HBX
          go_upto_region 17 with fail
          have hbz : Blk (x6.setCell ⟨B, 3, none⟩ (.slice sA ns.length sc)) B 27 #[.int .i64 p, v1, v2, .slice sA ns.length sc, .slice none 0 0] := HB3.out
          have HBZ := Lib.hid hbz
          clear HB3 hb3 f3 hlt6 c3
          generalize x6.setCell ⟨B, 3, none⟩ (.slice sA ns.length sc) = W6 at *
          have c3 : W6.cell? ⟨B, 3, none⟩ = some (.slice sA ns.length sc) := hbz.cell 3
          have c0 : W6.cell? ⟨B, 0, none⟩ = some (.int .i64 p) := hbz.cell 0
          have f3 := hbz.frozen 3
          have hlt6 := hbz.lt
          clear hbz
          go_upto_if 73 with (fail)
          go_cut [] from 74 to 79 (fun wx => MS w0 d A l c (m + 240) wE B p ws v1 ls v2 S xs wx)
          case first =>
            by_cases hn0 : ns.length = 0
            · have hb0 : ((ns.length : Int) == 0) = true := by rw [hn0]; rfl
              (repeat (first | go_big_skip | go_big_want | go_big_move | go_big_op | go_step | go_upon | go_back))
              go_at_call 33
              refine (draw_any w0 d A l c _ p W6 HDK.out (by omega) (by omega) (by omega)).mono ?_
              rintro e y ⟨x, rfl, g1, g2, hdk, hgr⟩
              dsimp only
              have ha := Aft.alloc y (.cells #[.int .i64 x] 3)
              have hxd : ∀ k, some d = some k → k < B + 1 := fun k e => by cases e; have := HdB.out; omega
              have hby := (HBZ.out.grown hgr (fun e => by injection e with e; have := HdB.out; omega)).alloc (.cells #[.int .i64 x] 3)
              have hszy := Nat.le_trans HSZ.out hgr.size
              have HO1 := Lib.hid (own_lone (w := y) (base := B + 1) hszy x)
              have HOW := Lib.hid (own_aft (own_kept' HOW.out hgr hxd) ha)
              have HOK := Lib.hid ((HOK.out.kept hgr hxd).aft ha)
              have HDK := Lib.hid (hdk.aft ha)
              have HGR := Lib.hid (only_aft (HGR.out.trans hgr) ha)
              have HSZ := Lib.hid (Nat.le_trans hszy ha.size)
              have HBY := Lib.hid hby
              have f3y := hby.frozen 3
              have hlty := hby.lt
              have c3y : (y.alloc (.cells #[.int .i64 x] 3)).cell? ⟨B, 3, none⟩ = some (.slice sA ns.length sc) := hby.cell 3
              clear hgr hdk ha hby c0 c3 f3 hlt6 hxd
              (repeat (first | go_big_skip | go_big_want | go_big_move | go_big_op | go_step | go_upon | go_back))
              go_meet
              have hgs : (y.alloc (.cells #[.int .i64 x] 3)).grownBy ((y.alloc (.cells #[.int .i64 x] 3)).setCell ⟨B, 3, none⟩ (.slice (some ⟨y.heap.size, 0, none⟩) 1 1)) (some B) := only_setCell (only_refl _ (some B)) (p := ⟨B, 3, none⟩) (.inl rfl) _
              have hsB : ∀ k, some B = some k → k < B + 1 := fun k e => by cases e; omega
              exact ⟨[x], _, by simp, by simp; omega, fun z hz => by rw [List.mem_singleton] at hz; subst hz; omega, rfl, (HDK.out.grown hgs (fun k e => by cases e; exact HdB.out)).more (by omega), only_grown HGR.out hgs (fun k e => by cases e; exact HEB.out), Nat.le_trans HSZ.out hgs.size, HBY.out.store 3 _, own_kept' HOW.out hgs hsB, HOK.out.kept hgs hsB, own_kept' HO1.out hgs hsB⟩
            · have hb0 : ((ns.length : Int) == 0) = false := by simpa using hn0
              (repeat (first | go_big_skip | go_big_want | go_big_move | go_big_op | go_step | go_upon | go_back))
              go_meet
              exact ⟨ns, _, by omega, HS2.out, HS3.out, HS4.out, HDK.out.more (by omega), HGR.out, HSZ.out, HBZ.out, HOW.out, HOK.out, HO3.out⟩
          clear HS2 HS3 HS4 HDK HGR HSZ HBZ HOW HOK HO3 c3 c0 f3 hlt6 HAP HSZw
          obtain ⟨ns', v3, hs1, hs2, hs3, hs4, hdk, hgr, hsz, hbx, how, hok, ho3⟩ := hcut
          have HDK := Lib.hid hdk
          have HGR := Lib.hid hgr
          have HSZ := Lib.hid hsz
          have HBX := Lib.hid hbx
          have HOW := Lib.hid how
          have HOK := Lib.hid hok
          have HO3 := Lib.hid ho3
          have HS2 := Lib.hid hs2
          have HS2' : Hid (1 ≤ ns'.length ∧ ns'.length ≤ p) := Lib.hid ⟨hs1, hs2⟩
          have HS3 := Lib.hid hs3
          have HS4 := Lib.hid hs4
          clear hdk hgr hsz hbx how hok ho3 hs2 hs3 hs4
          (repeat (first | go_big_skip | go_big_want | go_big_move | go_big_op | go_step | go_upon | go_back))
          go_at_call 33
          refine (draw_any w0 d A l c _ (q + 1) wc HDK.out (by omega) (by omega) (by omega)).mono ?_
          rintro e y ⟨F, rfl, g1, g2, hdk, hgr⟩
          dsimp only
          obtain ⟨nl, rfl⟩ := Int.eq_ofNat_of_zero_le g1
          have hnl : nl ≤ q := by omega
          have hxd : ∀ k, some d = some k → k < B + 1 := fun k e => by cases e; have := HdB.out; omega
          have HM4 : Hid (MW4 w0 d A l c (m + 241) wE y B p ls.length v1 v2 v3 0 y) := Lib.hid ⟨[], .slice none 0 0, rfl, by simp, hdk, HGR.out.trans hgr, Nat.le_refl _, fun _ _ _ _ => rfl, HBX.out.grown hgr (fun e => by injection e with e; have := HdB.out; omega), World.ownsRow_nil _ _ 83 2⟩
          have HOW := Lib.hid (own_kept' HOW.out hgr hxd)
          have HOK := Lib.hid (HOK.out.kept hgr hxd)
          have HO3 := Lib.hid (own_kept' HO3.out hgr hxd)
          have HSZ := Lib.hid (Nat.le_trans HSZ.out hgr.size)
          clear HDK HGR HBX hdk hgr hxd
          obtain ⟨A2, c2, rfl, _, _⟩ := HOK.out.rowsP (by have := HLL.out; omega)
          have hw1' : 1 ≤ ls.length := by have := HLL.out; omega
          have hw3' : ls.length ≤ 3 := by have := HLL.out; omega
          (repeat (first | go_big_skip | go_big_want | go_big_move | go_big_op | go_step | go_upon | go_back))
          go_loopw [84] (fun i wr => ∃ k4 : Nat, i = .int .i64 k4 ∧ k4 ≤ nl ∧ MW4 w0 d A l c (m + 241) wE y B p ls.length v1 (.slice A2 ls.length c2) v3 k4 wr) (fun i _ => nl - (intOf i).toNat)
          case atStart => exact ⟨0, rfl, by omega, HM4.out⟩
          case round =>
            obtain ⟨k4, rfl, hk4, hM⟩ := hrel
            obtain ⟨lg, v4, hll, hlo, hdk, hgr, hsz, hkp, hbx, hown⟩ := hM
            have HLL4 := Lib.hid hll
            have HLO4 := Lib.hid hlo
            have HD4 := Lib.hid hdk
            have HGR4 := Lib.hid hgr
            have HSZ4 := Lib.hid hsz
            have HKP4 := Lib.hid hkp
            have HBX4 := Lib.hid hbx
            have HOW4 := Lib.hid hown
            clear hll hlo hdk hgr hsz hkp hown HM4
            by_cases hkn4 : k4 < nl
            · have hdec4 : decide ((k4 : Int) < (nl : Int)) = true := by simp; omega
              clear hbx
              (repeat (first | go_big_skip | go_big_want | go_big_move | go_big_op | go_step | go_upon | go_back))
              refine region21_lit w0 d A l c _ wE B y.heap.size lg.length p v1 v3 v4 A2 ls.length c2 (lg.flatMap encLeg) _ _ _ _ _ _ _ _ _ _ _ _ _ _ _ _ _ _ _ _ _ _ _ _ _ _ _ _ _ _ _ _ _ _ _ _ _ _ _ _ _ _ _ _ _ _ _ _ _ _ _ _ _ _ _ _ _ _ _ _ _ _ _ _ _ _ _ _ _ _ _ _ _ _ _ _ _ _ _ _ _ _ _ _ _ _ _ _ _ _ _ _ _ _ _ _ _ _ _ _ _ _ _ _ _ hw1' hw3' HD4.out (by omega) HGR4.out HBX4.out HOW4.out (by have := HLL4.out; omega) (by have := HSZ.out; omega) HdB.out HEB.out HSZ4.out ?_
              intro u86 u87 u88 u89 u90 u91 u92 u93 u94 u95 u96 u97 u98 u99 u100 u101 u102 W' lg' v' h1 h2 h3 h4 h5 h6 h7
              have HM' : Hid (MW4 w0 d A l c (m + 241) wE y B p ls.length v1 (.slice A2 ls.length c2) v3 (k4 + 1) W') := Lib.hid ⟨lg ++ [lg'], v', by simp [HLL4.out], fun x hx => (List.mem_append.1 hx).elim (HLO4.out x) (fun h => by rw [List.mem_singleton] at h; subst h; exact h6), h1.more (by omega), h2, h3, fun k hk hd1 hb1 => (h4.2 k (Nat.lt_of_lt_of_le hk HSZ4.out) hd1 hb1 (fun e => by have := (HOW4.out.lt k e).1; omega)).trans (HKP4.out k hk hd1 hb1), h5, by simpa using h7⟩
              clear h1 h2 h3 h4 h5 h6 h7
              (repeat (first | go_big_skip | go_big_want | go_big_move | go_big_op | go_step | go_upon | go_back))
              exact ⟨⟨k4 + 1, by go_num, by omega, HM'.out⟩, by simp [intOf]; omega⟩
            · have hdec4 : decide ((k4 : Int) < (nl : Int)) = false := by simp; omega
              have k0 : wr.cell? ⟨B, 0, none⟩ = some (.int .i64 p) := hbx.cell 0
              have k1 : wr.cell? ⟨B, 1, none⟩ = some v1 := hbx.cell 1
              have k2' : wr.cell? ⟨B, 2, none⟩ = some (.slice A2 ls.length c2) := hbx.cell 2
              have k3' : wr.cell? ⟨B, 3, none⟩ = some v3 := hbx.cell 3
              have k4' : wr.cell? ⟨B, 4, none⟩ = some v4 := hbx.cell 4
              have hC : Blk wr w.heap.size 27 #[.int .i64 0, .slice none 0 0, .slice none 0 0, .slice none 0 0, .slice none 0 0] := by
                have h0 := Blk.new w 27 #[.int .i64 0, .slice none 0 0, .slice none 0 0, .slice none 0 0, .slice none 0 0]
                rw [← HWE.out] at h0
                exact h0.grown HGR4.out (fun e => by injection e with e; omega)
              have hlc := hC.lt
              have hfc : ∀ i, wr.frozen? ⟨w.heap.size, i, none⟩ = false := fun i => hC.frozen i
              have j0 : wr.cell? ⟨w.heap.size, 0, none⟩ = some (.int .i64 0) := hC.cell 0
              have j1 : wr.cell? ⟨w.heap.size, 1, none⟩ = some (.slice none 0 0) := hC.cell 1
              have j2 : wr.cell? ⟨w.heap.size, 2, none⟩ = some (.slice none 0 0) := hC.cell 2
              have j3 : wr.cell? ⟨w.heap.size, 3, none⟩ = some (.slice none 0 0) := hC.cell 3
              have j4 : wr.cell? ⟨w.heap.size, 4, none⟩ = some (.slice none 0 0) := hC.cell 4
              have hk0 : ∀ k, B + 1 ≤ k → k < y.heap.size → wr.heap[k]? = y.heap[k]? := fun k g3 g4 => HKP4.out k g4 (by have := HdB.out; omega) (by omega)
              obtain ⟨a1, x2, a3, a4, c1, y2, c3, c4, e1, e2, e3, e4, e5⟩ := trepF_keep (p := p) (d := d) (base := B + 1) (by have := HdB.out; omega) HOW.out HOK.out HO3.out HOW4.out hk0 HSZ4.out HSZ.out (by have := HWL.out; omega) (by omega) (by have := HS2.out; omega) (by have := HLL4.out; omega)
              clear e2 e5 hk0
              subst e1 e3 e4
              (repeat (first | go_big_skip | go_big_want | go_big_move | go_big_op | go_step | go_upon | go_back))
              obtain ⟨hCz, hgC⟩ := blk_five hC (.int .i64 p) (.slice a1 ws.length c1) (.slice A2 ls.length c2) (.slice a3 ns'.length c3) (.slice a4 lg.length c4)
              generalize (((((wr.setCell ⟨w.heap.size, 0, none⟩ (.int .i64 p)).setCell ⟨w.heap.size, 1, none⟩ (.slice a1 ws.length c1)).setCell ⟨w.heap.size, 2, none⟩ (.slice A2 ls.length c2)).setCell ⟨w.heap.size, 3, none⟩ (.slice a3 ns'.length c3)).setCell ⟨w.heap.size, 4, none⟩ (.slice a4 lg.length c4)) = W' at *
              clear j0 j1 j2 j3 j4 k0 k1 k2' k3' k4' hbx hfc hC
              have z0 : W'.cell? ⟨w.heap.size, 0, none⟩ = some (.int .i64 p) := hCz.cell 0
              have z1 : W'.cell? ⟨w.heap.size, 1, none⟩ = some (.slice a1 ws.length c1) := hCz.cell 1
              have z2 : W'.cell? ⟨w.heap.size, 2, none⟩ = some (.slice A2 ls.length c2) := hCz.cell 2
              have z3 : W'.cell? ⟨w.heap.size, 3, none⟩ = some (.slice a3 ns'.length c3) := hCz.cell 3
              have z4 : W'.cell? ⟨w.heap.size, 4, none⟩ = some (.slice a4 lg.length c4) := hCz.cell 4
              refine bodyPost_ret (v := .agg #[.int .i64 p, .slice a1 ws.length c1, .slice A2 ls.length c2, .slice a3 ns'.length c3, .slice a4 lg.length c4]) (by simp [results, Try.results25, go_sem, z0, z1, z2, z3, z4]) rfl ?_
              have hgw : w.grownBy wE (some d) := by rw [HWE.out]; exact only_of_aft (Aft.alloc _ _) _
              have hk0 : ∀ k, B + 1 ≤ k → k < y.heap.size → wr.heap[k]? = y.heap[k]? := fun k g3 g4 => HKP4.out k g4 (by have := HdB.out; omega) (by omega)
              have hCl : w.heap.size < B + 1 := by have := HEB.out; rw [HWE.out, World.size_alloc] at this; omega
              have hk1 : ∀ k, B + 1 ≤ k → k < y.heap.size → W'.heap[k]? = y.heap[k]? := fun k g3 g4 => (hgC.block k (Nat.lt_of_lt_of_le g4 HSZ4.out) (fun e => by injection e with e; omega)).trans (hk0 k g3 g4)
              have ho4 := own_kept' HOW4.out hgC (fun k e => by cases e; have := HSZ.out; omega)
              obtain ⟨_, _, _, _, _, _, _, _, e1, e2, e3, e4, hF⟩ := trepF_keep (p := p) (d := d) (base := B + 1) (by have := HdB.out; omega) HOW.out HOK.out HO3.out ho4 hk1 (Nat.le_trans HSZ4.out hgC.size) HSZ.out (by have := HWL.out; omega) (by omega) (by have := HS2.out; omega) (by have := HLL4.out; omega)
              cases e1
              cases e2
              cases e3
              cases e4
              refine ⟨⟨p, ws, ls, ns', lg⟩, _, _, _, _, _, _, _, _, rfl, ?_, (HD4.out.grown hgC (fun k e => by cases e; omega)).more (by omega), only_grown (hgw.trans HGR4.out) hgC (fun k e => by cases e; exact Nat.le_refl _), hF⟩
              exact ⟨by simp only; omega, by simp only; omega, by have := HWL.out; simp only; omega, hw3', hw1', HS2'.out.1, by have := HS2'.out.2; simp only; omega, by have := HLL4.out; simp only; omega, fun x hx => (HLO.out x hx).1, HWS.out,
                fun x hx m hm => ((HLO.out x hx).2 m hm).1, fun x hx m hm => ((HLO.out x hx).2 m hm).2, HS3.out, HS4.out, HLO4.out⟩
end Go.Proofs
end

section
/- Words for memory: append to a list that is used on. -/
namespace Go.Proofs
open Go.RowKit

/-- append(v, y) to a list that has a block: it stays where it was, with the capacity that it had, or it lies in a new block, and the old one is as it was. -/
theorem run_push2 {w : World} {base g n cap : Nat} {l : List Int} (ty : TypeId) (hown : w.ownsRow base 3 1 (.slice (some ⟨g, 0, none⟩) n cap) n (l.map (Value.int .i64))) (hbase : base ≤ w.heap.size) {y : Int} {c b : Nat} (hb : w.cell? ⟨b, 0, none⟩ = some (.int .i64 y)) (hl : n ≤ 1000000) :
    ∃ g' c' w', (Builtin.append_ #[24, 24] ty #[.slice (some ⟨g, 0, none⟩) n cap, .slice (some ⟨b, 0, none⟩) 1 c]).run Try.prog w = .ok (.slice (some ⟨g', 0, none⟩) (n + 1) c') w' ∧
      w'.ownsRow base 3 1 (.slice (some ⟨g', 0, none⟩) (n + 1) c') (n + 1) ((l ++ [y]).map (Value.int .i64)) ∧ w.grownBy w' (some g) ∧ ((g' = g ∧ c' = cap) ∨ (g' = w.heap.size ∧ w.grownBy w' none)) := by
  obtain ⟨ht, ⟨i, z, hi, hz, hsize, hby, hzs⟩, hsz⟩ := ty24
  have hnews : ∀ j u, [Value.int .i64 y][j]? = some u → w.cell? ((⟨b, 0, none⟩ : Addr).add j) = some u := fun j u hj => by
    match j, hj with
    | 0, hj => simp at hj; subst hj; rw [Addr.add_lit]; simpa using hb
  obtain ⟨v', w', hr', h2, h3, _, _⟩ := run_append_own_at (P := Try.prog) w base 24 ty 3 i z 1 8 ht hi hz hsize hby hzs hsz _ n _ hown ⟨b, 0, none⟩ 1 c [.int .i64 y] rfl hnews (one_int y) (by unfold maxLen; omega) (by omega) hbase
  have h2' : w'.ownsRow base 3 1 v' (n + 1) ((l ++ [y]).map (Value.int .i64)) := by simpa using h2
  rcases hown.2 with ⟨e, _⟩ | ⟨g1, cap1, cur, e, hbg, hg, hnc, hcm, hcs, htake⟩
  · cases e
  · cases e
    by_cases hroom : n + 1 ≤ cap
    · have hr := run_append_room (P := Try.prog) w 24 ty 3 i ht hi g n cap cur hg ⟨b, 0, none⟩ 1 c [.int .i64 y] (by rw [hsize]; rfl) hnews (one_int y) hroom (by rw [hsize, hcs]; simp; omega)
      rw [hr'] at hr
      injection hr with e1 e2
      subst e1
      exact ⟨g, cap, w', hr', h2', h3, .inl ⟨rfl, rfl⟩⟩
    · have hr := run_append_grow (P := Try.prog) w 24 ty 3 i z ht hi hz ⟨g, 0, none⟩ n cap (l.map (Value.int .i64)) (by rw [hsize]; exact hown.1) (hown.cells (g := g) rfl) ⟨b, 0, none⟩ 1 c [.int .i64 y] (by rw [hsize]; rfl) hnews (by omega) (by omega) (by rw [hby]; exact growslice_fits (by omega) (by omega))
      rw [hr'] at hr
      injection hr with e1 e2
      subst e1
      refine ⟨w.heap.size, _, w', hr', h2', h3, .inr ⟨rfl, ?_⟩⟩
      subst e2
      exact ⟨rfl, rfl, rfl, by simp, fun k hk _ => Below.heap_alloc w.drew _ k hk⟩

theorem step_push2 {w : World} {ops : Array Oper} {o : Oper} {a : Act} {K : Act → World → Prop} {Q : Exit → Act → World → Prop} {E : Prop}
    (hgd : o.guard = none) (s x : Operand) (ho : o.op = .call { callee := .builtin .append, args := #[s, x], argTypes := #[24, 24] })
    {base g n cap : Nat} {l : List Int} (hown : w.ownsRow base 3 1 (.slice (some ⟨g, 0, none⟩) n cap) n (l.map (Value.int .i64))) (hbase : base ≤ w.heap.size) (hs : a.eval s = .slice (some ⟨g, 0, none⟩) n cap)
    {y : Int} {c : Nat} {b : Nat} (hx : a.eval x = .slice (some ⟨b, 0, none⟩) 1 c) (hb : w.cell? ⟨b, 0, none⟩ = some (.int .i64 y)) (hl : n ≤ 1000000)
    (hn : ∀ g' c' w', w'.ownsRow base 3 1 (.slice (some ⟨g', 0, none⟩) (n + 1) c') (n + 1) ((l ++ [y]).map (Value.int .i64)) → w.grownBy w' (some g) → ((g' = g ∧ c' = cap) ∨ (g' = w.heap.size ∧ w.grownBy w' none)) → K (a.put o.dst (.slice (some ⟨g', 0, none⟩) (n + 1) c')) w') :
    if Region.wanted o (yielded ops a.tmps) = true then Oper.wp Try.prog o a w K Q else E := by
  have hw : Region.wanted o (yielded ops a.tmps) = true := by simp [Region.wanted, hgd]
  rw [if_pos hw]
  obtain ⟨g', c', w', hr', h2, h3, h4⟩ := run_push2 o.type hown hbase (c := c) hb hl
  unfold Oper.wp execOp
  simp only [ho, resolve, invoke, builtin, Sem.run_bind, Sem.run_pure, Result.andThen_ok, List.map_toArray, List.map_cons, List.map_nil, hs, hx, hr', Oper.upon]
  exact hn g' c' w' h2 h3 h4

/-- What is owned with one more is owned without it. -/
theorem own_less {w : World} {base g n c : Nat} {l : List Int} {y : Int} (hn : n = l.length) (h : w.ownsRow base 3 1 (.slice (some ⟨g, 0, none⟩) (n + 1) c) (n + 1) ((l ++ [y]).map (Value.int .i64))) : w.ownsRow base 3 1 (.slice (some ⟨g, 0, none⟩) n c) n (l.map (Value.int .i64)) := by
  rcases h.2 with ⟨e, _⟩ | ⟨g1, cap1, cur, e, hbg, hg, hnc, hcm, hcs, htake⟩
  · cases e
  · cases e
    refine ⟨by simp [hn], .inr ⟨g, c, cur, rfl, hbg, hg, by omega, hcm, hcs, ?_⟩⟩
    rw [Nat.mul_one] at htake ⊢
    have : (cur.toList.take (n + 1)).take n = ((l ++ [y]).map (Value.int .i64)).take n := by rw [htake]
    rw [List.take_take, Nat.min_eq_left (by omega)] at this
    rw [this, hn]
    simp
end Go.Proofs
end

section
/- Walks: opened. -/
namespace Go.Proofs
open Go.RowKit


/-- What opened answers: a desk that knows where legs lead. -/
def Opened (w : World) (T : Treaty) (a1 a2 a3 a4 : Option Addr) (c1 c2 c3 c4 : Nat) (R : List Int) (e : Ending) (w' : World) : Prop :=
  ∃ D cs, e = .returned (.pointer (some ⟨D, 0, none⟩)) ∧ w.heap.size ≤ D ∧ Aft w w' ∧ Blk w' D 142 cs ∧ DGrid T a1 a2 a3 a4 c1 c2 c3 c4 cs (leadsF T R)


set_option maxRecDepth 100000 in
set_option maxHeartbeats 4000000 in
theorem opened_any (w : World) (T : Treaty) (a1 a2 a3 a4 : Option Addr) (c1 c2 c3 c4 : Nat) (R : List Int) (AR : Option Addr) (cR : Nat) (hT : TRep w T a1 a2 a3 a4) (hR : Ints w AR R) (ok : TOk T) (hr : ReadOk T R) :
    Calls Try.prog 74 #[.agg #[.int .i64 T.places, .slice a1 T.ways.length c1, .slice a2 T.words.length c2, .slice a3 T.starts.length c3, .slice a4 T.legs.length c4], .slice AR R.length cR] w (Opened w T a1 a2 a3 a4 c1 c2 c3 c4 R) := by
  have hl := hT.legs.len (by decide)
  have hl2 := ok.nlegs
  have OK := Lib.hid ok
  obtain ⟨p, hpp⟩ := Int.eq_ofNat_of_zero_le (show 0 ≤ T.places by have := ok.p1; omega)
  have HPP := Lib.hid hpp
  have hp12 : p ≤ 12 := by have := ok.p2; omega
  clear hpp
  have HRO := Lib.hid hr
  clear ok hr
  go_enter Try.func74, Try.ntmps74
  go_wp2_with fail
  have HZ := Lib.hid (zeroDesk T a1 a2 a3 a4 c1 c2 c3 c4)
  generalize (((((Try.zeroCells142.setIfInBounds 0 (.int .i64 T.places)).setIfInBounds 1 (.slice a1 T.ways.length c1)).setIfInBounds 2 (.slice a2 T.words.length c2)).setIfInBounds 3 (.slice a3 T.starts.length c3)).setIfInBounds 4 (.slice a4 T.legs.length c4)) = z0 at *
  go_loopw [21] (fun i wr => ∃ k : Nat, i = .int .i64 k ∧ k ≤ T.legs.length ∧ Aft w wr ∧ Blk wr w.heap.size 27 #[.int .i64 T.places, .slice a1 T.ways.length c1, .slice a2 T.words.length c2, .slice a3 T.starts.length c3, .slice a4 T.legs.length c4] ∧ ∃ cs f, Blk wr (w.heap.size + 1) 142 cs ∧ DGrid T a1 a2 a3 a4 c1 c2 c3 c4 cs f ∧ LInv T R k f) (fun i _ => T.legs.length - (intOf i).toNat)
  case atStart =>
    exact ⟨0, rfl, by omega, (Aft.alloc _ _).then_alloc _, (Blk.new w 27 _).alloc _, z0, _, by have := Blk.new (w.alloc (.cells #[.int .i64 T.places, .slice a1 T.ways.length c1, .slice a2 T.words.length c2, .slice a3 T.starts.length c3, .slice a4 T.legs.length c4] 27)) 142 z0; rwa [World.size_alloc] at this, HZ.out, fun i a b _ _ _ => by simp⟩
  case round =>
    obtain ⟨k, rfl, hk, hw, hbt, cs, f, hb, hg, hf⟩ := hrel
    have HF := Lib.hid hf
    clear hf
    by_cases hlk : k < T.legs.length
    · obtain ⟨bl, ol, rfl, hbl, hc⟩ := (hT.legs.aft LegR.mono hw).at hlk
      obtain ⟨vs, hv1, hv2, hv3⟩ := hc k hlk
      cases hv2
      have cW : wr.cell? ⟨bl, ol + k * 2, none⟩ = some (.int .i64 T.legs[k].word) := hv3 0 (by simp)
      have cO : wr.cell? ⟨bl, ol + k * 2 + 1, none⟩ = some (.int .i64 T.legs[k].other) := hv3 1 (by simp)
      obtain ⟨l1, l2, l3⟩ := OK.out.legs _ (List.getElem_mem hlk)
      clear hc hv1 hv3
      have HX := Lib.hid (show T.legs[k]? = some T.legs[k] from List.getElem?_eq_getElem hlk)
      generalize T.legs[k] = x at *
      obtain ⟨n, hn⟩ := Int.eq_ofNat_of_zero_le l1
      rw [hn] at cW
      have hnw : n < T.words.length := by omega
      have hnr : n < R.length := by rw [HRO.out.1]; exact hnw
      have HN := Lib.hid hn
      obtain ⟨r1, r2⟩ := HRO.out.2 n hnr hnw
      obtain ⟨r, hrr⟩ := Int.eq_ofNat_of_zero_le r1
      have hrl : r < T.words[n].length := by omega
      have HME := Lib.hid (meanAt_eq hnw hnr hrr hrl)
      obtain ⟨br, or', rfl, hbr, hcr⟩ := (hR.aft hw).at hnr
      have cR' := hcr n hnr
      rw [hrr] at cR'
      obtain ⟨bw, ow, rfl, hbw, hcw⟩ := (hT.words.aft WordR.mono hw).at hnw
      obtain ⟨vs, hv1, ⟨Am, cm, rfl, hms⟩, hv3⟩ := hcw n hnw
      have cM : wr.cell? ⟨bw, ow + n, none⟩ = some (.slice Am T.words[n].length cm) := by have := hv3 0 (by simp); simpa using this
      obtain ⟨bm, om, rfl, hbm, hcm⟩ := hms.at hrl
      obtain ⟨vs, hv4, ⟨Ak, ck, Ae, ce, rfl, hik, hie⟩, hv6⟩ := hcm r hrl
      have cK : wr.cell? ⟨bm, om + r * 2, none⟩ = some (.slice Ak T.words[n][r].kinds.length ck) := hv6 0 (by simp)
      have cE : wr.cell? ⟨bm, om + r * 2 + 1, none⟩ = some (.slice Ae T.words[n][r].ends.length ce) := hv6 1 (by simp)
      have hkl := hik.len
      have hel := hie.len
      have HKL := Lib.hid hkl
      have HEL := Lib.hid hel
      clear hkl hel
      clear hv1 hv3 hv4 hv6 hcm hcw hcr l1 l2 hn r1 r2 hrr
      generalize T.words[n][r] = me at *
      have k0 : wr.cell? ⟨w.heap.size, 0, none⟩ = some (.int .i64 T.places) := hbt.cell 0
      have k2 : wr.cell? ⟨w.heap.size, 2, none⟩ = some (.slice (some ⟨bw, ow, none⟩) T.words.length c2) := hbt.cell 2
      have hlb := hbt.lt
      go_wp2_with fail
      go_region
      have hik5 := hik.aft (((Aft.alloc wr (.cells #[.int .i64 n, .int .i64 x.other] 83)).then_alloc (.cells #[.slice Ak me.kinds.length ck, .slice Ae me.ends.length ce] 80)).then_drew)
      have hie5 := hie.aft (((Aft.alloc wr (.cells #[.int .i64 n, .int .i64 x.other] 83)).then_alloc (.cells #[.slice Ak me.kinds.length ck, .slice Ae me.ends.length ce] 80)).then_drew)
      have hw5 := ((hw.then_alloc (.cells #[.int .i64 n, .int .i64 x.other] 83)).then_alloc (.cells #[.slice Ak me.kinds.length ck, .slice Ae me.ends.length ce] 80)).then_drew
      have hb5 := ((hb.alloc (.cells #[.int .i64 n, .int .i64 x.other] 83)).alloc (.cells #[.slice Ak me.kinds.length ck, .slice Ae me.ends.length ce] 80)).drew
      have hbt5 := ((hbt.alloc (.cells #[.int .i64 n, .int .i64 x.other] 83)).alloc (.cells #[.slice Ak me.kinds.length ck, .slice Ae me.ends.length ce] 80)).drew
      have s5 : wr.heap.size + 2 ≤ (((wr.alloc (.cells #[.int .i64 n, .int .i64 x.other] 83)).alloc (.cells #[.slice Ak me.kinds.length ck, .slice Ae me.ends.length ce] 80)).drew).heap.size := by simp
      have x5 : (((wr.alloc (.cells #[.int .i64 n, .int .i64 x.other] 83)).alloc (.cells #[.slice Ak me.kinds.length ck, .slice Ae me.ends.length ce] 80)).drew).cell? ⟨wr.heap.size, 1, none⟩ = some (.int .i64 x.other) := by simp [go_sem]
      have m5 : (((wr.alloc (.cells #[.int .i64 n, .int .i64 x.other] 83)).alloc (.cells #[.slice Ak me.kinds.length ck, .slice Ae me.ends.length ce] 80)).drew).cell? ⟨wr.heap.size + 1, 0, none⟩ = some (.slice Ak me.kinds.length ck) := by simp [go_sem]
      have n5 : (((wr.alloc (.cells #[.int .i64 n, .int .i64 x.other] 83)).alloc (.cells #[.slice Ak me.kinds.length ck, .slice Ae me.ends.length ce] 80)).drew).cell? ⟨wr.heap.size + 1, 1, none⟩ = some (.slice Ae me.ends.length ce) := by simp [go_sem]
      have hlt := hb.lt
      clear hik hie hw hb hbt cW cO cR' cM cK cE k0 k2 hbl hbr hbw hbm hms hlb
      generalize ((wr.alloc (.cells #[.int .i64 n, .int .i64 x.other] 83)).alloc (.cells #[.slice Ak me.kinds.length ck, .slice Ae me.ends.length ce] 80)).drew = W5 at *
      generalize wr.heap.size = B at *
      clear wr
      have HB5 := Lib.hid hb5
      have HBT5 := Lib.hid hbt5
      have HW5 := Lib.hid hw5
      clear hb5 hbt5 hw5
      have z5 : B + 1 < W5.heap.size := by omega
      have z6 : B < W5.heap.size := by omega
      have m5d : W5.drew.cell? ⟨B + 1, 0, none⟩ = some (.slice Ak me.kinds.length ck) := m5
      have n5d : W5.drew.cell? ⟨B + 1, 1, none⟩ = some (.slice Ae me.ends.length ce) := n5
      have s5d : B + 2 ≤ W5.drew.heap.size := s5
      have z5d : B + 1 < W5.drew.heap.size := z5
      go_wp2_with fail
      go_region_held3 (fun w' => w'.cell? ⟨B + 1, 0, none⟩ = some (.slice Ak me.kinds.length ck) ∧ w'.cell? ⟨B + 1, 1, none⟩ = some (.slice Ae me.ends.length ce)) (first | go_keep | exact ⟨lat_keep _ _ z5d m5d, lat_keep _ _ z5d n5d⟩)
        (first
          | (go_at_call_of 110 (Value.slice Ak me.kinds.length ck); refine (common_any Ak _ ck none [] 0 _ (hik5.aft (Aft.drew _)) (lists_nil _)).mono ?_; rintro e w' ⟨v1, rfl, hown1, u1, rfl⟩; obtain ⟨A1, d1, rfl, _, hi1⟩ := own_ints (l := me.kinds) hown1 HKL.out; replace hown1 := World.ownsRow.mono hown1 (base' := B + 2) s5)
          | (go_at_call_of 110 (Value.slice Ae me.ends.length ce); refine (common_any Ae _ ce none [] 0 _ (hie5.aft ((Aft.drew _).then_lat _)) (lists_nil _)).mono ?_; rintro e w' ⟨v2, rfl, hown2, ha2⟩; obtain ⟨A2, d2, rfl, _, hi2⟩ := own_ints (l := me.ends) hown2 HEL.out; replace hown2 := World.ownsRow.mono hown2 (base' := B + 2) (Nat.le_trans s5d (World.lat_size _ _)); replace hown1 := own_aft hown1 ha2; replace hi1 := hi1.aft ha2; obtain ⟨u2, rfl⟩ := (Aft.lat _ _).trans ha2; clear ha2))
      have hw6 := (HW5.out.then_drew).then_lat u2
      have hb6 := HB5.out.drew.lat u2
      have hbt6 := HBT5.out.drew.lat u2
      have x6 : (W5.drew.lat u2).cell? ⟨B, 1, none⟩ = some (.int .i64 x.other) := lat_keep _ _ (show B < W5.drew.heap.size from z6) x5
      have s6 : B + 2 ≤ (W5.drew.lat u2).heap.size := Nat.le_trans s5d (World.lat_size _ _)
      have iK : (W5.drew.lat u2).ownsRow (w.heap.size + 2) 3 1 (.slice A1 me.kinds.length d1) me.kinds.length (me.kinds.map (Value.int .i64)) := World.ownsRow.mono hown1 (by omega)
      have iE : (W5.drew.lat u2).ownsRow (w.heap.size + 2) 3 1 (.slice A2 me.ends.length d2) me.ends.length (me.ends.map (Value.int .i64)) := World.ownsRow.mono hown2 (by omega)
      clear hik5 hie5 HW5 HB5 HBT5 x5 m5 n5 m5d n5d z5 z5d s5 s5d hown1 hown2
      have hP : PInv w T a1 (some ⟨bw, ow, none⟩) a3 (some ⟨bl, ol, none⟩) c1 c2 c3 c4 R w.heap.size (w.heap.size + 1) (w.heap.size + 2) A1 d1 me.kinds A2 d2 me.ends k 0 (W5.drew.lat u2) := ⟨hw6, by omega, hbt6, iK, iE, cs, f, hb6, hg, HF.out.start⟩
      have z7 : B < (W5.drew.lat u2).heap.size := by omega
      generalize W5.drew.lat u2 = W6 at *
      clear z6
      have HP := Lib.hid hP
      clear hP hw6 hb6 hbt6 iK iE hg HF
      go_upto_if 47 with (fail)
      go_cut [9, 10] from 22 to 98 (fun s9 s10 wx => ∃ ks es, kindsAt T R x = ks ∧ endsAt T R x = es ∧ ks.length ≤ 17592186043904 ∧ es.length ≤ 17592186043904 ∧ JoinR w T a1 (some ⟨bw, ow, none⟩) a3 (some ⟨bl, ol, none⟩) c1 c2 c3 c4 R ks es k s9 s10 wx)
      case first =>
        by_cases ho : x.other = -1
        · have HK := Lib.hid (show kindsAt T R x = me.kinds by unfold kindsAt; rw [if_pos ho, HN.out, HME.out])
          have HE := Lib.hid (show endsAt T R x = me.ends by unfold endsAt; rw [if_pos ho, HN.out, HME.out])
          have hbF : (x.other != (-1 : Int)) = false := by rw [ho]; rfl
          clear ho
          go_wp2_with fail
          go_meet
          exact ⟨_, _, HK.out, HE.out, HKL.out, HEL.out, A1, d1, A2, d2, rfl, rfl, HP.out⟩
        · have HBT := Lib.hid (show (x.other != (-1 : Int)) = true by simpa using ho)
          obtain ⟨o1, o2⟩ := l3.resolve_left ho
          obtain ⟨n2, hn2⟩ := Int.eq_ofNat_of_zero_le o1
          have hn2w : n2 < T.words.length := by omega
          have hn2r : n2 < R.length := by rw [HRO.out.1]; exact hn2w
          obtain ⟨r1, r2⟩ := HRO.out.2 n2 hn2r hn2w
          obtain ⟨q, hqq⟩ := Int.eq_ofNat_of_zero_le r1
          have hql : q < T.words[n2].length := by omega
          have HME2 := Lib.hid (meanAt_eq hn2w hn2r hqq hql)
          obtain ⟨b', o', e, hbr, hcr⟩ := (hR.aft HP.out.aft).at hn2r
          cases e
          have cR' := hcr n2 hn2r
          rw [hqq] at cR'
          obtain ⟨b', o', e, hbw, hcw⟩ := (hT.words.aft WordR.mono HP.out.aft).at hn2w
          cases e
          obtain ⟨vs, hv1, ⟨Am', cm', rfl, hms⟩, hv3⟩ := hcw n2 hn2w
          have cM : W6.cell? ⟨bw, ow + n2, none⟩ = some (.slice Am' T.words[n2].length cm') := by have := hv3 0 (by simp); simpa using this
          obtain ⟨bm', om', rfl, hbm, hcm⟩ := hms.at hql
          obtain ⟨vs, hv4, ⟨Ak', ck', Ae', ce', rfl, hik, hie⟩, hv6⟩ := hcm q hql
          have cK : W6.cell? ⟨bm', om' + q * 2, none⟩ = some (.slice Ak' T.words[n2][q].kinds.length ck') := hv6 0 (by simp)
          have cE : W6.cell? ⟨bm', om' + q * 2 + 1, none⟩ = some (.slice Ae' T.words[n2][q].ends.length ce') := hv6 1 (by simp)
          have k2 : W6.cell? ⟨w.heap.size, 2, none⟩ = some (.slice (some ⟨bw, ow, none⟩) T.words.length c2) := HP.out.box.cell 2
          have HK := Lib.hid (show kindsAt T R x = commonL me.kinds [T.words[n2][q].kinds] by unfold kindsAt; rw [if_neg ho, HN.out, HME.out, hn2, HME2.out])
          have HE := Lib.hid (show endsAt T R x = commonL me.ends [T.words[n2][q].ends] by unfold endsAt; rw [if_neg ho, HN.out, HME.out, hn2, HME2.out])
          rw [hn2] at x6
          have hx46 := Lib.hid hn2
          have hml : T.words[n2].length ≤ 4 := (OK.out.wlen _ (List.getElem_mem hn2w)).2
          clear hv1 hv3 hv4 hv6 hcm hcw hcr o1 o2 hn2 r1 r2 hqq ho l3 HME2
          generalize T.words[n2][q] = me2 at *
          have hlw := hT.words.len (by decide)
          have hrl6 : R.length ≤ 6 := by rw [HRO.out.1]; exact OK.out.nwords
          refine wp_cond_true (congrArg Value.bool HBT.out) ?_
          refine opened_both w T a1 a3 (some ⟨bl, ol, none⟩) c1 c2 c3 c4 R B A1 d1 me.kinds A2 d2 me.ends k bw ow br or' cR Ak' Ae' ck' ce' me2.kinds me2.ends n2 q bm' om' cm' _ hn2w hn2r hql _ _ _ _ _ _ _ _ _ _ _ _ _ _ _ _ _ _ _ _ _ _ _ _ _ _ _ _ _ _ _ _ _ _ _ _ _ _ _ _ _ _ _ _ _ _ _ _ _ _ _ _ _ _ _ _ _ _ _ _ _ _ _ _ _ _ _ _ _ _ _ _ _ _ _ _ _ _ _ _ _ _ _ _ _ _ _ _ _ _ _ _ _ _ _ _ _ W6 HP.out HKL.out HEL.out hlt z7 hbr hbw hbm x6 cR' cM cK cE hik hie OK.out.nwords hrl6 hml ?_
          intro u9 u10 u11 u48 u49 u50 u51 u52 u53 u54 u55 u56 u57 u58 u59 u60 u61 u62 u63 u64 u65 u66 u67 u68 u69 u70 W' hJ
          have HJ := Lib.hid hJ
          clear hJ
          go_wp2_with fail
          go_meet
          exact ⟨_, _, HK.out, HE.out, Nat.le_trans (commonL_le _ _) HKL.out, Nat.le_trans (commonL_le _ _) HEL.out, HJ.out⟩
      case rest =>
        obtain ⟨ks, es, hkx, hex, hks, hes, A1, d1, A2, d2, rfl, rfl, hPI⟩ := hcut
        have HKX := Lib.hid hkx
        have HEX := Lib.hid hex
        have HKS := Lib.hid hks
        have HES := Lib.hid hes
        have HPI := Lib.hid hPI
        have t0 : wc.cell? ⟨w.heap.size, 0, none⟩ = some (.int .i64 p) := by rw [← HPP.out]; exact hPI.box.cell 0
        have t1 := hPI.box.lt
        clear hkx hex hks hes hPI
        go_wp2_with fail
        clear t0 t1
        refine loop73 w T a1 (some ⟨bw, ow, none⟩) a3 (some ⟨bl, ol, none⟩) c1 c2 c3 c4 R w.heap.size (w.heap.size + 1) (w.heap.size + 2) A1 d1 ks A2 d2 es k p x (Nat.le_refl _) (by omega) (by omega) (by omega) hp12 HPP.out HKS.out HES.out OK.out hT.ways HX.out HKX.out HEX.out _ _ _ _ _ _ _ _ _ _ _ _ _ _ _ _ _ _ _ _ _ _ _ _ _ _ _ _ _ _ _ _ _ _ _ _ _ _ _ _ _ _ _ _ _ _ _ _ _ _ _ _ _ _ _ _ _ _ _ _ _ _ _ _ _ _ _ _ _ _ _ _ _ _ _ _ _ _ _ _ _ _ _ _ _ _ _ _ _ _ _ _ _ _ _ _ _ HPI.out ?_
        intro u12 u14 u73 u74 u75 u76 u77 u78 u79 u80 u81 u82 u83 u84 u85 u86 u87 u88 u89 u90 u91 u92 u93 u94 u95 u96 u97 u98 W' hP8
        have HP8 := Lib.hid hP8
        clear hP8
        go_wp2_with fail
        refine ⟨⟨k + 1, by go_num, by omega, HP8.out.aft, HP8.out.box, ?_⟩, by simp [intOf]; omega⟩
        obtain ⟨cs, f, h1, h2, h3⟩ := HP8.out.desk
        exact ⟨cs, f, h1, h2, h3.done (by rw [HPP.out]; omega)⟩
    · obtain rfl : k = T.legs.length := by omega
      have HB := Lib.hid hb
      have HG := Lib.hid hg
      clear hb hg hbt
      go_wp2_with fail
      go_ret
      exact ⟨_, cs, rfl, by omega, hw, HB.out, HG.out.congr fun i a b hi ha hb => leadsF_of HF.out hi ha hb⟩
end Go.Proofs
end
