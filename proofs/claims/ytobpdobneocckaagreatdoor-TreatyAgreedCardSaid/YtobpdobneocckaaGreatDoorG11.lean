/- Own texts, merged: Mgf Agr. -/
import Derived.Test.YtobpdobneocckaaGreatDoorG10
import Derived.Deep.CutRange
import Derived.BigGuard
import Derived.Scope
import Derived.LoopIn
import Derived.LoopNIn
set_option linter.unusedSimpArgs false
set_option linter.unusedVariables false
section
/- Walks: Made. -/
namespace Go.Proofs
open Go.RowKit


/-- Between two ways. -/
def MW1 (w0 : World) (d : Nat) (A : Option Addr) (l : List Int) (c m : Nat) (wE : World) (B p k : Nat) (W : World) : Prop :=
  ∃ (ws : List Way) (v1 : Value), ws.length = k ∧ (∀ x ∈ ws, WayOk p x) ∧ DeckAt w0 d A l c (m + 2 + 3 * k) W ∧ wE.grownBy W (some d) ∧ B + 1 ≤ W.heap.size ∧ Blk W B 27 #[.int .i64 p, v1, .slice none 0 0, .slice none 0 0, .slice none 0 0] ∧ W.ownsRow (B + 1) 65 3 v1 ws.length (ws.flatMap encWay)

theorem wpList_app1 {ops : Array Oper} {rest : List Oper} {o : Oper} {a : Act} {w : World} {Q : Exit → Act → World → Prop} {t e : TypeId} {size bytes : Nat} (hT : SliceTy Tryz.prog t e size bytes) (hgd : o.guard = none) (s x : Operand) (ho : o.op = .call { callee := .builtin .append, args := #[s, x], argTypes := #[t, t] })
    {base n : Nat} {v : Value} {xs : List Value} (hbase : base ≤ w.heap.size) (hs : a.eval s = v) (hown : w.ownsRow base e size v n xs) {b c : Nat} {t' : TypeId} {news : List Value} (hx : a.eval x = .slice (some ⟨b, 0, none⟩) 1 c) (hb : Blk w b t' news.toArray) (hl : news.length = size)
    (h1 : ∀ u ∈ news, u.oneCell' = true) (hlen : n ≤ 1000000) (hbytes : bytes ≤ 1000)
    (hn : ∀ v' w', w'.ownsRow base e size v' (n + 1) (xs ++ news) → w.grownBy w' v.ownBlock → (v'.ownBlock = v.ownBlock ∨ v'.ownBlock = some w.heap.size) → wpList Tryz.prog ops Q rest (a.put o.dst v') w') : wpList Tryz.prog ops Q (o :: rest) a w :=
  wpList_plain hgd fun _ hK => op_app hT s x ho hbase hs hown hx hb hl h1 hlen hbytes fun v' w' g1 g2 g3 => hK _ _ (hn v' w' g1 g2 g3)
theorem ty23 : SliceTy Tryz.prog 23 68 1 24 := .mk' (z := .slice none 0 0) Tryz.underlying23 (by kernel_rfl) rfl (by decide)
def WordsOk (p : Nat) (ls : List (List Mean)) : Prop := ∀ l ∈ ls, (1 ≤ l.length ∧ l.length ≤ 3) ∧ ∀ m ∈ l, MeanOk p m
/-- Between two words. -/
def MW2 (w0 : World) (d : Nat) (A : Option Addr) (l : List Int) (c m : Nat) (wE : World) (B p : Nat) (ws : List Way) (v1 : Value) (k : Nat) (W : World) : Prop :=
  ∃ (ls : List (List Mean)) (v2 : Value) (S : Nat → Prop) (xs : List Value), ls.length = k ∧ WordsOk p ls ∧ DeckAt w0 d A l c (m + 60 + 50 * k) W ∧ wE.grownBy W (some d) ∧ B + 1 ≤ W.heap.size ∧
    Blk W B 27 #[.int .i64 p, v1, v2, .slice none 0 0, .slice none 0 0] ∧ W.ownsRow (B + 1) 65 3 v1 ws.length (ws.flatMap encWay) ∧ OwnK WordR 68 1 (B + 1) v2 S ls xs W ∧ (∀ g, v1.ownBlock = some g → v2.ownBlock ≠ some g ∧ ¬ S g)
/-- Between two meanings. -/
def MW3 (w0 : World) (d : Nat) (A : Option Addr) (l : List Int) (c m : Nat) (wR : World) (b p k : Nat) (vS : Value) (W : World) : Prop :=
  ∃ (ms : List Mean) (S : Nat → Prop) (xs : List Value), ms.length = k ∧ (∀ m ∈ ms, MeanOk p m) ∧ DeckAt w0 d A l c (m + 12 * k) W ∧ wR.grownBy W (some d) ∧ OwnK MeanR 67 2 b vS S ms xs W

/-- Where the starts stand in a list of their own. -/
def MS (w0 : World) (d : Nat) (A : Option Addr) (l : List Int) (c m : Nat) (wE : World) (B p : Nat) (ws : List Way) (v1 : Value) (ls : List (List Mean)) (v2 : Value) (S : Nat → Prop) (xs : List Value) (W : World) : Prop :=
  ∃ (ns : List Int) (v3 : Value), 1 ≤ ns.length ∧ ns.length ≤ p ∧ (∀ x ∈ ns, 0 ≤ x ∧ x < p) ∧ risesB ns = true ∧ DeckAt w0 d A l c m W ∧ wE.grownBy W (some d) ∧ B + 1 ≤ W.heap.size ∧
    Blk W B 27 #[.int .i64 p, v1, v2, v3, .slice none 0 0] ∧ W.ownsRow (B + 1) 65 3 v1 ws.length (ws.flatMap encWay) ∧ OwnK WordR 68 1 (B + 1) v2 S ls xs W ∧ W.ownsRow (B + 1) 3 1 v3 ns.length (ns.map (Value.int .i64))
/-- Between two legs. -/
def MW4 (w0 : World) (d : Nat) (A : Option Addr) (l : List Int) (c m : Nat) (wE W0 : World) (B p nW : Nat) (v1 v2 v3 : Value) (k : Nat) (W : World) : Prop :=
  ∃ (lg : List Leg) (v4 : Value), lg.length = k ∧ (∀ x ∈ lg, LegOk nW x) ∧ DeckAt w0 d A l c (m + 2 * k) W ∧ wE.grownBy W (some d) ∧ W0.heap.size ≤ W.heap.size ∧ (∀ k, k < W0.heap.size → k ≠ d → k ≠ B → W.heap[k]? = W0.heap[k]?) ∧
    Blk W B 27 #[.int .i64 p, v1, v2, v3, v4] ∧ W.ownsRow W0.heap.size 70 2 v4 lg.length (lg.flatMap encLeg)
/-- What Made answers: a treaty of its own, that stands whatever the deck deals. -/
def MadeR (w0 : World) (d : Nat) (A : Option Addr) (l : List Int) (c m : Nat) (w : World) (e : Ending) (w' : World) : Prop :=
  ∃ (T : Treaty) (a1 a2 a3 a4 : Option Addr) (c1 c2 c3 c4 : Nat), e = .returned (.agg #[.int .i64 T.places, .slice a1 T.ways.length c1, .slice a2 T.words.length c2, .slice a3 T.starts.length c3, .slice a4 T.legs.length c4]) ∧ MOk T ∧ DeckAt w0 d A l c (m + 1000) w' ∧ w.grownBy w' (some d) ∧ TRepF d w' T a1 a2 a3 a4

set_option maxRecDepth 100000 in
set_option maxHeartbeats 4000000 in
theorem made_any (w0 : World) (d : Nat) (A : Option Addr) (l : List Int) (c m : Nat) (w : World) (hd : DeckAt w0 d A l c m w) (hm : m ≤ 700000) (q : Nat) (hq : q ≤ 10) : Calls Tryz.prog 20 #[.pointer (some ⟨d, 0, none⟩), .int .i64 q] w (MadeR w0 d A l c m w) := by
  have HD := Lib.hid hd
  have hdl := hd.lt
  clear hd
  go_enter Tryz.func20, Tryz.ntmps20
  (repeat (first | go_big_skip | go_big_want | go_big_move | go_big_op | go_step | go_upon | go_back))
  go_at_call 66
  refine (between_any w0 d A l c m 2 8 _ (HD.out.aft (Aft.alloc _ _)) (by omega) (by omega) (by omega) (by omega)).mono ?_
  rintro e x ⟨P, rfl, hp1, hp2, hdk, hgr⟩
  dsimp only
  obtain ⟨p, rfl⟩ := Int.eq_ofNat_of_zero_le (show 0 ≤ P by omega)
  have HDK := Lib.hid hdk
  have HG := Lib.hid hgr
  clear hdk hgr
  (repeat (first | go_big_skip | go_big_want | go_big_move | go_big_op | go_step | go_upon | go_back))
  go_at_call 66
  refine (between_any w0 d A l c (m + 1) 2 16 _ (HDK.out.aft (Aft.alloc _ _)) (by omega) (by omega) (by omega) (by omega)).mono ?_
  rintro e y ⟨n0, rfl, hn1, hn2, hdk, hgr⟩
  dsimp only
  obtain ⟨n0, rfl⟩ := Int.eq_ofNat_of_zero_le (show 0 ≤ n0 by omega)
  (repeat (first | go_big_skip | go_big_want | go_big_move | go_big_op | go_step | go_upon | go_back))
  have hA := Aft.alloc w (.cells #[.int .i64 0, .slice none 0 0, .slice none 0 0, .slice none 0 0, .slice none 0 0] 27)
  have hB : Blk y x.heap.size 27 #[.int .i64 p, .slice none 0 0, .slice none 0 0, .slice none 0 0, .slice none 0 0] := (Blk.new x 27 _).grown hgr (fun e => by injection e with e; have := HDK.out.lt; omega)
  have hdx := HDK.out.lt
  have hxs := HG.out.size
  have hgE := HG.out.trans (only_of_aft (Aft.alloc x (.cells #[.int .i64 p, .slice none 0 0, .slice none 0 0, .slice none 0 0, .slice none 0 0] 27)) (some d))
  have HGE := Lib.hid (hgE.trans hgr)
  have HM0 : Hid (MW1 w0 d A l c m (w.alloc (.cells #[.int .i64 0, .slice none 0 0, .slice none 0 0, .slice none 0 0, .slice none 0 0] 27)) x.heap.size p 0 y) := Lib.hid ⟨[], .slice none 0 0, rfl, by simp, hdk, HGE.out, by have := hgr.size; rw [World.size_alloc] at this; exact this, hB, World.ownsRow_nil _ _ 65 3⟩
  have HdB := Lib.hid hdx
  have HEB := Lib.hid hxs
  clear hB hgE hdk hgr HDK HG hdx hxs
  generalize x.heap.size = B at *
  obtain ⟨wE, hwE⟩ : ∃ wE, wE = w.alloc (.cells #[.int .i64 0, .slice none 0 0, .slice none 0 0, .slice none 0 0, .slice none 0 0] 27) := ⟨_, rfl⟩
  rw [← hwE] at HM0 HGE HEB
  have HWE := Lib.hid hwE
  clear hwE hA
  go_loopw [13] (fun i wr => ∃ k : Nat, i = .int .i64 k ∧ k ≤ n0 ∧ MW1 w0 d A l c m wE B p k wr) (fun i _ => n0 - (intOf i).toNat)
  case atStart => exact ⟨0, rfl, by omega, HM0.out⟩
  case round =>
    obtain ⟨k, rfl, hk, hM⟩ := hrel
    have HM := Lib.hid hM
    clear hM
    by_cases hkn : k < n0
    · have hdec : decide ((k : Int) < (n0 : Int)) = true := by simp; omega
      obtain ⟨ws, v1, hwl, hws, hdk, hgr, hsz, hbx, hown⟩ := HM.out
      have c0 : wr.cell? ⟨B, 0, none⟩ = some (.int .i64 p) := hbx.cell 0
      have hlt := hbx.lt
      have HBX := Lib.hid hbx
      have HOW := Lib.hid hown
      have HDK := Lib.hid hdk
      have HGR := Lib.hid hgr
      have HSZ := Lib.hid hsz
      have HWS := Lib.hid hws
      have HWL := Lib.hid hwl
      clear hbx hown hdk hgr hsz hws hwl HM HM0 HGE
      (repeat (first | go_big_skip | go_big_want | go_big_move | go_big_op | go_step | go_upon | go_back))
      go_at_call 39
      refine (draw_any w0 d A l c _ p wr HDK.out (by omega) (by omega) (by omega)).mono ?_
      rintro e x5 ⟨F, rfl, hf1, hf2, hdk, hgr⟩
      dsimp only
      have hF2 : F < (p : Int) := by omega
      have HDB := HdB.out
      have HDK := Lib.hid hdk
      have HBX := Lib.hid (HBX.out.grown hgr (fun e => by injection e with e; omega))
      have HOW := Lib.hid (own_kept' HOW.out hgr (fun k e => by cases e; omega))
      have HGR := Lib.hid (HGR.out.trans hgr)
      have HSZ := Lib.hid (Nat.le_trans HSZ.out hgr.size)
      clear hdk hgr c0 hlt hf2
      (repeat (first | go_big_skip | go_big_want | go_big_move | go_big_op | go_step | go_upon | go_back))
      refine region5_lit w0 d A l c _ wE B (B + 1) ws.length p F v1 _ _ _ (ws.flatMap encWay) _ _ _ _ _ _ _ _ _ _ _ _ _ _ _ _ _ _ _ _ _ _ _ _ _ _ _ _ _ _ _ _ _ _ _ _ _ _ _ _ _ _ _ _ _ _ _ _ _ _ _ _ _ _ _ _ _ _ _ _ _ _ _ _ _ _ _ _ _ _ _ _ _ _ _ _ _ _ _ _ _ _ _ _ _ _ _ _ _ _ _ _ _ _ _ _ _ _ _ _ _ _ _ _ hf1 hF2 hp1 hp2 HDK.out (by omega) HGR.out HBX.out HOW.out (by have := HWL.out; omega) (by omega) HdB.out HEB.out HSZ.out ?_
      intro u19 u20 u21 u22 u23 u24 u25 u26 u27 u28 u29 u30 u31 u32 u33 u34 u35 u36 u37 W' wy v' h1 h2 h3 h4 h5 h6
      have HM' : Hid (MW1 w0 d A l c m wE B p (k + 1) W') := Lib.hid ⟨ws ++ [wy], v', by simp [HWL.out], fun x hx => (List.mem_append.1 hx).elim (HWS.out x) (fun h => by rw [List.mem_singleton] at h; subst h; exact h5), h1.more (by omega), h2, h3, h4, by simpa using h6⟩
      clear h1 h2 h3 h4 h5 h6
      (repeat (first | go_big_skip | go_big_want | go_big_move | go_big_op | go_step | go_upon | go_back))
      exact ⟨⟨k + 1, by go_num, by omega, HM'.out⟩, by simp [intOf]; omega⟩
    · have hdec : decide ((k : Int) < (n0 : Int)) = false := by simp; omega
      obtain ⟨ws, v1, hwl, hws, hdk, hgr, hsz, hbx, hown⟩ := HM.out
      have HBX := Lib.hid hbx
      have HOW := Lib.hid hown
      have HDK := Lib.hid hdk
      have HGR := Lib.hid hgr
      have HSZ := Lib.hid hsz
      have HWS := Lib.hid hws
      have HWL := Lib.hid hwl
      clear hbx hown hdk hgr hsz hws hwl HM HM0 HGE
      (repeat (first | go_big_skip | go_big_want | go_big_move | go_big_op | go_step | go_upon | go_back))
      go_at_call 66
      refine (between_any w0 d A l c _ 1 3 wr HDK.out (by omega) (by omega) (by omega) (by omega)).mono ?_
      rintro e x5 ⟨nw, rfl, hw1, hw2, hdk, hgr⟩
      dsimp only
      obtain ⟨nw, rfl⟩ := Int.eq_ofNat_of_zero_le (show 0 ≤ nw by omega)
      (repeat (first | go_big_skip | go_big_want | go_big_move | go_big_op | go_step | go_upon | go_back))
      have HDB := HdB.out
      have HM2 : Hid (MW2 w0 d A l c m wE B p ws v1 0 x5) := Lib.hid ⟨[], .slice none 0 0, _, [], rfl, (fun l h => by simp at h), hdk.more (by have := HWL.out; omega), HGR.out.trans hgr, Nat.le_trans HSZ.out hgr.size, HBX.out.grown hgr (fun e => by injection e with e; omega), own_kept' HOW.out hgr (fun k e => by cases e; omega), OwnK.nil _ _ _ _, fun g _ => ⟨fun e => by (cases e), fun h => h⟩⟩
      clear hdk hgr HBX HOW HDK HGR HSZ
      go_loopw [41] (fun i wr => ∃ k2 : Nat, i = .int .i64 k2 ∧ k2 ≤ nw ∧ MW2 w0 d A l c m wE B p ws v1 k2 wr) (fun i _ => nw - (intOf i).toNat)
      case atStart => exact ⟨0, rfl, by omega, HM2.out⟩
      case round =>
        obtain ⟨k2, rfl, hk2, hM⟩ := hrel
        have HM := Lib.hid hM
        clear hM HM2
        by_cases hkn2 : k2 < nw
        · have hdec2 : decide ((k2 : Int) < (nw : Int)) = true := by simp; omega
          obtain ⟨ls, v2, S, xs, hll, hlo, hdk, hgr, hsz, hbx, hown, hok, hap⟩ := HM.out
          have HD2 := Lib.hid hdk
          have HLL := Lib.hid hll
          have HLO := Lib.hid hlo
          have HGR := Lib.hid hgr
          have HSZ := Lib.hid hsz
          have HBX := Lib.hid hbx
          have HOW := Lib.hid hown
          have HOK := Lib.hid hok
          have HAP := Lib.hid hap
          clear hll hlo hdk hgr hsz hbx hown hok hap
          (repeat (first | go_big_skip | go_big_want | go_big_move | go_big_op | go_step | go_upon | go_back))
          go_at_call 66
          refine (between_any w0 d A l c _ 1 3 _ HD2.out (by omega) (by omega) (by omega) (by omega)).mono ?_
          rintro e x6 ⟨nm, rfl, hm1, hm2, hdk, hgr⟩
          dsimp only
          obtain ⟨nm, rfl⟩ := Int.eq_ofNat_of_zero_le (show 0 ≤ nm by omega)
          (repeat (first | go_big_skip | go_big_want | go_big_move | go_big_op | go_step | go_upon | go_back))
          have HM3 : Hid (MW3 w0 d A l c (m + 60 + 50 * k2 + 1) x6 x6.heap.size p 0 (.slice none 0 0) x6) := Lib.hid ⟨[], _, [], rfl, (fun m h => by simp at h), hdk, only_refl _ _, OwnK.nil _ _ _ _⟩
          have HBX := Lib.hid (HBX.out.grown hgr (fun e => by injection e with e; omega))
          have HOW := Lib.hid (own_kept' HOW.out hgr (fun k e => by cases e; omega))
          have HOK := Lib.hid (HOK.out.kept hgr (fun k e => by cases e; omega))
          have HGR := Lib.hid (HGR.out.trans hgr)
          have HSZ := Lib.hid (Nat.le_trans HSZ.out hgr.size)
          clear hdk hgr HD2
          go_loopw [7, 45] (fun v i wr => ∃ k3 : Nat, i = .int .i64 k3 ∧ k3 ≤ nm ∧ MW3 w0 d A l c (m + 60 + 50 * k2 + 1) x6 x6.heap.size p k3 v wr) (fun _ i _ => nm - (intOf i).toNat)
          case atStart => exact ⟨0, rfl, by omega, HM3.out⟩
          case round =>
            obtain ⟨k3, rfl, hk3, hM⟩ := hrel
            have HM := Lib.hid hM
            clear hM HM3
            by_cases hkn3 : k3 < nm
            · have hdec3 : decide ((k3 : Int) < (nm : Int)) = true := by simp; omega
              obtain ⟨ms, S3, xs3, hml, hmo, hdk, hgr, hok⟩ := HM.out
              have HML := Lib.hid hml
              have HMO := Lib.hid hmo
              have HDK := Lib.hid hdk
              have HGR3 := Lib.hid hgr
              have HOK3 := Lib.hid hok
              clear hml hmo hdk hgr hok HM
              (repeat (first | go_big_skip | go_big_want | go_big_move | go_big_op | go_step | go_upon | go_back))
              refine region12_lit w0 d A l c _ x6 B x6.heap.size p _ S3 ms xs3 _ _ _ _ _ _ _ _ _ _ _ _ _ _ _ _ _ _ _ _ _ _ _ _ _ _ _ _ _ _ _ _ _ _ _ _ _ _ _ _ _ _ _ _ _ _ _ _ _ _ _ _ _ _ _ _ _ _ _ _ _ _ _ _ _ _ _ _ _ _ _ _ _ _ _ _ _ _ _ _ _ _ _ _ _ _ _ _ _ _ _ _ _ _ _ _ _ _ _ _ _ _ _ _ _ _ _ _ (by omega) HDK.out (by omega) HGR3.out (HBX.out.grown HGR3.out (fun e => by injection e with e; omega)) HOK3.out (by have := HML.out; omega) HSZ.out HdB.out (Nat.le_refl _) HGR3.out.size ?_
              intro u7' u47 u48 u49 u50 u51 u52 u53 u54 u55 u56 W' h1 h2 h3 h4
              obtain ⟨S4, mm, xs4, hmm, hk4⟩ := h4
              have HM' : Hid (MW3 w0 d A l c (m + 60 + 50 * k2 + 1) x6 x6.heap.size p (k3 + 1) u7' W') := Lib.hid ⟨ms ++ [mm], S4, xs4, by simp [HML.out], fun x hx => (List.mem_append.1 hx).elim (HMO.out x) (fun h => by rw [List.mem_singleton] at h; subst h; exact hmm), h1.more (by omega), h2, hk4⟩
              clear h1 h2 h3 hk4 hmm
              (repeat (first | go_big_skip | go_big_want | go_big_move | go_big_op | go_step | go_upon | go_back))
              exact ⟨⟨k3 + 1, by go_num, by omega, HM'.out⟩, by simp [intOf]; omega⟩
            · have hdec3 : decide ((k3 : Int) < (nm : Int)) = false := by simp; omega
              obtain ⟨ms, S3, xs3, hml, hmo, hdk, hgr, hok⟩ := HM.out
              obtain ⟨sA, sn, sc, rfl⟩ := own_slice' hok.own
              have HML := Lib.hid hml
              have HMO := Lib.hid hmo
              have HDK := Lib.hid hdk
              have HGR3 := Lib.hid hgr
              have HOK3 := Lib.hid hok
              have hBX := HBX.out.grown hgr (fun e => by injection e with e; have := HdB.out; omega)
              have hxd : ∀ k, some d = some k → k < B + 1 := fun k e => by cases e; have := HdB.out; omega
              have HOKw := Lib.hid (HOK.out.kept hgr hxd)
              have HOWw := Lib.hid (own_kept' HOW.out hgr hxd)
              have c2 : wr.cell? ⟨B, 2, none⟩ = some v2 := hBX.cell 2
              have f2 := hBX.frozen 2
              have hlt := hBX.lt
              have HBXw := Lib.hid hBX
              clear hml hmo hdk hgr hok HM hBX
              go_upto_region 15 with (at_builtin; refine wpList_app1 ty23 rfl _ _ rfl (Nat.le_trans (Nat.le_trans HSZ.out HGR3.out.size) (Aft.alloc _ _).size) rfl (HOKw.out.aft (Aft.alloc _ _)).own rfl (Blk.new _ _ _) rfl (fun u hu => by rw [List.mem_singleton] at hu; subst hu; rfl) (by have := HLL.out; omega) (by decide) ?_; intro v' w6 hown6 hg6 hat6; obtain ⟨tA, tn, tc, rfl⟩ := own_slice' hown6; have HO6 := Lib.hid hown6; have HG6 : Hid ((wr.alloc (.cells #[.slice sA sn sc] 68)).grownBy w6 v2.ownBlock) := Lib.hid hg6; have HA6 : Hid ((Value.slice tA tn tc).ownBlock = v2.ownBlock ∨ (Value.slice tA tn tc).ownBlock = some (wr.alloc (.cells #[.slice sA sn sc] 68)).heap.size) := Lib.hid hat6; have HB6 := Lib.hid ((HBXw.out.alloc _).grown hg6 (fun e => by have := (HOKw.out.own.lt B e.symm).1; omega)); have f26 := HB6.out.frozen 2; have hlt6 := HB6.out.lt; have c26 : w6.cell? ⟨B, 2, none⟩ = some v2 := HB6.out.cell 2; clear hown6 hg6 hat6)
              have ha := Aft.alloc wr (.cells #[.slice sA sn sc] 68)
              have hgs : w6.grownBy (w6.setCell ⟨B, 2, none⟩ (.slice tA tn tc)) (some B) := only_setCell (only_refl w6 (some B)) (p := ⟨B, 2, none⟩) (.inl rfl) _
              have hsB : ∀ k, some B = some k → k < B + 1 := fun k e => by cases e; omega
              have hxl := HGR3.out.size
              have hv2 : ∀ k, v2.ownBlock = some k → B + 1 ≤ k ∧ k < x6.heap.size := fun k e => HOK.out.own.lt k e
              have hv1 : ∀ k, v1.ownBlock = some k → B + 1 ≤ k ∧ k < x6.heap.size := fun k e => HOW.out.lt k e
              have hS3 : ∀ k, S3 k ∨ (Value.slice sA sn sc).ownBlock = some k → x6.heap.size ≤ k := fun k hk => hk.elim (fun h => (HOK3.out.far k h).1) (fun e => (HOK3.out.own.lt k e).1)
              have hpush := (HOKw.out.aft ha).push ((HOK3.out.aft ha).word (by have := HML.out; omega)) rfl (fun k hk => ⟨Nat.le_trans HSZ.out (hS3 k hk), fun e => by have := (hv2 k e).2; have := hS3 k hk; omega⟩) HO6.out HG6.out HA6.out
              have hps := hpush.kept hgs hsB
              have how := own_kept' ((own_aft HOWw.out ha).kept HG6.out (by
                cases hb : v1.ownBlock with
                | none => exact .inl rfl
                | some g => exact .inr fun e => (HAP.out g hb).1 e.symm)) hgs hsB
              have hD' := (((HDK.out.aft ha).grown HG6.out (fun k e => by have := (hv2 k e).1; have := HdB.out; omega)).grown hgs (fun k e => by cases e; exact HdB.out)).more (show m + 60 + 50 * k2 + 1 + 12 * k3 ≤ m + 60 + 50 * (k2 + 1) by omega)
              have hG' := only_grown (only_grown (only_aft (HGR.out.trans HGR3.out) ha) HG6.out (fun k e => by have := (hv2 k e).1; have := HEB.out; omega)) hgs (fun k e => by cases e; exact HEB.out)
              have hap : ∀ g, v1.ownBlock = some g → (Value.slice tA tn tc).ownBlock ≠ some g ∧ ¬ (S g ∨ (S3 g ∨ (Value.slice sA sn sc).ownBlock = some g)) := fun g hg => by
                have hlt := (hv1 g hg).2
                refine ⟨fun e => ?_, fun h => ?_⟩
                · rcases HA6.out with h | h
                  · rw [h] at e; exact (HAP.out g hg).1 e
                  · rw [h] at e; cases e; simp at hlt; omega
                · rcases h with h | h
                  · exact (HAP.out g hg).2 h
                  · have := hS3 g h; omega
              have HM' : Hid (MW2 w0 d A l c m wE B p ws v1 (k2 + 1) (w6.setCell ⟨B, 2, none⟩ (.slice tA tn tc))) := Lib.hid ⟨ls ++ [ms], .slice tA tn tc, _, _, by simp [HLL.out], fun x hx => (List.mem_append.1 hx).elim (HLO.out x) (fun h => by rw [List.mem_singleton] at h; subst h; exact ⟨by have := HML.out; omega, HMO.out⟩), hD', hG', by have := ha.size; have := HG6.out.size; have := hgs.size; have := HSZ.out; omega, HB6.out.store 2 _, how, hps, hap⟩
              clear ha hgs hsB hxl hv2 hv1 hS3 hpush hps how hD' hG' hap hlt hlt6 f2 f26 c2 c26
              (repeat (first | go_big_skip | go_big_want | go_big_move | go_big_op | go_step | go_upon | go_back))
              exact ⟨⟨k2 + 1, by go_num, by omega, HM'.out⟩, by simp [intOf]; omega⟩
        · have hdec2 : decide ((k2 : Int) < (nw : Int)) = false := by simp; omega
          obtain ⟨ls, v2, S, xs, hll, hlo, hdk, hgr, hsz, hbx, hown, hok, hap⟩ := HM.out
          have HLL := Lib.hid hll
          have HLO := Lib.hid hlo
          have HDK := Lib.hid hdk
          have HGR := Lib.hid hgr
          have HSZ := Lib.hid hsz
          have HBX := Lib.hid hbx
          have HOW := Lib.hid hown
          have HOK := Lib.hid hok
          have HAP := Lib.hid hap
          have hlt := hbx.lt
          have c0 : wr.cell? ⟨B, 0, none⟩ = some (.int .i64 p) := hbx.cell 0
          have hp8 : p ≤ 8 := by omega
          clear hll hlo hdk hgr hsz hbx hown hok hap HM
          (repeat (first | go_big_skip | go_big_want | go_big_move | go_big_op | go_step | go_upon | go_back))
          go_at_call 40
          refine (some_any w0 d A l c _ p 3 wr HDK.out (by omega) (by omega) (by omega) (by omega)).mono ?_
          rintro e x6 ⟨v3, ns, rfl, hs1, hs2, hs3, hs4, hdk, hgr⟩
          dsimp only
          have hpl : ns.length ≤ 17592186043904 := by omega
          obtain ⟨sA, sc, rfl, _, _⟩ := own_ints hs1 hpl
          clear hpl
          have HSZw := HSZ
          have hxd : ∀ k, some d = some k → k < B + 1 := fun k e => by cases e; have := HdB.out; omega
          have hbx := HBX.out.grown hgr (fun e => by injection e with e; have := HdB.out; omega)
          have HBX := Lib.hid hbx
          have HOW := Lib.hid (own_kept' HOW.out hgr hxd)
          have HOK := Lib.hid (HOK.out.kept hgr hxd)
          have HGR := Lib.hid (HGR.out.trans hgr)
          have HSZ := Lib.hid (Nat.le_trans HSZ.out hgr.size)
          have HDK := Lib.hid hdk
          have HS1 := Lib.hid hs1
          have HS2 := Lib.hid hs2
          have HS3 := Lib.hid hs3
          have HS4 := Lib.hid hs4
          have f3 := hbx.frozen 3
          have hlt6 := hbx.lt
          have c3 : x6.cell? ⟨B, 3, none⟩ = some (.slice none 0 0) := hbx.cell 3
          clear hs1 hs2 hs3 hs4 hdk hgr hxd hbx c0 hlt
          have hb3 := HBX.out.store 3 (.slice sA ns.length sc)
          have hgs : x6.grownBy (x6.setCell ⟨B, 3, none⟩ (.slice sA ns.length sc)) (some B) := only_setCell (only_refl x6 (some B)) (p := ⟨B, 3, none⟩) (.inl rfl) _
          have hsB : ∀ k, some B = some k → k < B + 1 := fun k e => by cases e; omega
          have HO3 := Lib.hid (own_kept' (World.ownsRow.mono HS1.out (show B + 1 ≤ wr.heap.size from by have := HSZw.out; omega)) hgs hsB)
          have HOW := Lib.hid (own_kept' HOW.out hgs hsB)
          have HOK := Lib.hid (HOK.out.kept hgs hsB)
          have HDK := Lib.hid (HDK.out.grown hgs (fun k e => by cases e; exact HdB.out))
          have HGR := Lib.hid (only_grown HGR.out hgs (fun k e => by cases e; exact HEB.out))
          have HSZ := Lib.hid (Nat.le_trans HSZ.out hgs.size)
          have HB3 := Lib.hid hb3
          clear hgs hsB HS1 HBX
          go_upto_region 17 with fail
          have hbz : Blk (x6.setCell ⟨B, 3, none⟩ (.slice sA ns.length sc)) B 27 #[.int .i64 p, v1, v2, .slice sA ns.length sc, .slice none 0 0] := HB3.out
          have HBZ := Lib.hid hbz
          clear HB3 hb3 f3 hlt6 c3
          generalize x6.setCell ⟨B, 3, none⟩ (.slice sA ns.length sc) = W6 at *
          have c3 : W6.cell? ⟨B, 3, none⟩ = some (.slice sA ns.length sc) := hbz.cell 3
          have c0 : W6.cell? ⟨B, 0, none⟩ = some (.int .i64 p) := hbz.cell 0
          have f3 := hbz.frozen 3
          have hlt6 := hbz.lt
          clear hbz
          go_upto_if 73 with (fail)
          go_cut [] from 74 to 79 (fun wx => MS w0 d A l c (m + 240) wE B p ws v1 ls v2 S xs wx)
          case first =>
            by_cases hn0 : ns.length = 0
            · have hb0 : ((ns.length : Int) == 0) = true := by rw [hn0]; rfl
              (repeat (first | go_big_skip | go_big_want | go_big_move | go_big_op | go_step | go_upon | go_back))
              go_at_call 39
              refine (draw_any w0 d A l c _ p W6 HDK.out (by omega) (by omega) (by omega)).mono ?_
              rintro e y ⟨x, rfl, g1, g2, hdk, hgr⟩
              dsimp only
              have ha := Aft.alloc y (.cells #[.int .i64 x] 3)
              have hxd : ∀ k, some d = some k → k < B + 1 := fun k e => by cases e; have := HdB.out; omega
              have hby := (HBZ.out.grown hgr (fun e => by injection e with e; have := HdB.out; omega)).alloc (.cells #[.int .i64 x] 3)
              have hszy := Nat.le_trans HSZ.out hgr.size
              have HO1 := Lib.hid (own_lone (w := y) (base := B + 1) hszy x)
              have HOW := Lib.hid (own_aft (own_kept' HOW.out hgr hxd) ha)
              have HOK := Lib.hid ((HOK.out.kept hgr hxd).aft ha)
              have HDK := Lib.hid (hdk.aft ha)
              have HGR := Lib.hid (only_aft (HGR.out.trans hgr) ha)
              have HSZ := Lib.hid (Nat.le_trans hszy ha.size)
              have HBY := Lib.hid hby
              have f3y := hby.frozen 3
              have hlty := hby.lt
              have c3y : (y.alloc (.cells #[.int .i64 x] 3)).cell? ⟨B, 3, none⟩ = some (.slice sA ns.length sc) := hby.cell 3
              clear hgr hdk ha hby c0 c3 f3 hlt6 hxd
              (repeat (first | go_big_skip | go_big_want | go_big_move | go_big_op | go_step | go_upon | go_back))
              go_meet
              have hgs : (y.alloc (.cells #[.int .i64 x] 3)).grownBy ((y.alloc (.cells #[.int .i64 x] 3)).setCell ⟨B, 3, none⟩ (.slice (some ⟨y.heap.size, 0, none⟩) 1 1)) (some B) := only_setCell (only_refl _ (some B)) (p := ⟨B, 3, none⟩) (.inl rfl) _
              have hsB : ∀ k, some B = some k → k < B + 1 := fun k e => by cases e; omega
              exact ⟨[x], _, by simp, by simp; omega, fun z hz => by rw [List.mem_singleton] at hz; subst hz; omega, rfl, (HDK.out.grown hgs (fun k e => by cases e; exact HdB.out)).more (by omega), only_grown HGR.out hgs (fun k e => by cases e; exact HEB.out), Nat.le_trans HSZ.out hgs.size, HBY.out.store 3 _, own_kept' HOW.out hgs hsB, HOK.out.kept hgs hsB, own_kept' HO1.out hgs hsB⟩
            · have hb0 : ((ns.length : Int) == 0) = false := by simpa using hn0
              (repeat (first | go_big_skip | go_big_want | go_big_move | go_big_op | go_step | go_upon | go_back))
              go_meet
              exact ⟨ns, _, by omega, HS2.out, HS3.out, HS4.out, HDK.out.more (by omega), HGR.out, HSZ.out, HBZ.out, HOW.out, HOK.out, HO3.out⟩
          clear HS2 HS3 HS4 HDK HGR HSZ HBZ HOW HOK HO3 c3 c0 f3 hlt6 HAP HSZw
          obtain ⟨ns', v3, hs1, hs2, hs3, hs4, hdk, hgr, hsz, hbx, how, hok, ho3⟩ := hcut
          have HDK := Lib.hid hdk
          have HGR := Lib.hid hgr
          have HSZ := Lib.hid hsz
          have HBX := Lib.hid hbx
          have HOW := Lib.hid how
          have HOK := Lib.hid hok
          have HO3 := Lib.hid ho3
          have HS2 := Lib.hid hs2
          have HS2' : Hid (1 ≤ ns'.length ∧ ns'.length ≤ p) := Lib.hid ⟨hs1, hs2⟩
          have HS3 := Lib.hid hs3
          have HS4 := Lib.hid hs4
          clear hdk hgr hsz hbx how hok ho3 hs2 hs3 hs4
          (repeat (first | go_big_skip | go_big_want | go_big_move | go_big_op | go_step | go_upon | go_back))
          go_at_call 39
          refine (draw_any w0 d A l c _ (q + 1) wc HDK.out (by omega) (by omega) (by omega)).mono ?_
          rintro e y ⟨F, rfl, g1, g2, hdk, hgr⟩
          dsimp only
          obtain ⟨nl, rfl⟩ := Int.eq_ofNat_of_zero_le g1
          have hnl : nl ≤ q := by omega
          have hxd : ∀ k, some d = some k → k < B + 1 := fun k e => by cases e; have := HdB.out; omega
          have HM4 : Hid (MW4 w0 d A l c (m + 241) wE y B p ls.length v1 v2 v3 0 y) := Lib.hid ⟨[], .slice none 0 0, rfl, by simp, hdk, HGR.out.trans hgr, Nat.le_refl _, fun _ _ _ _ => rfl, HBX.out.grown hgr (fun e => by injection e with e; have := HdB.out; omega), World.ownsRow_nil _ _ 70 2⟩
          have HOW := Lib.hid (own_kept' HOW.out hgr hxd)
          have HOK := Lib.hid (HOK.out.kept hgr hxd)
          have HO3 := Lib.hid (own_kept' HO3.out hgr hxd)
          have HSZ := Lib.hid (Nat.le_trans HSZ.out hgr.size)
          clear HDK HGR HBX hdk hgr hxd
          obtain ⟨A2, c2, rfl, _, _⟩ := HOK.out.rowsP (by have := HLL.out; omega)
          have hw1' : 1 ≤ ls.length := by have := HLL.out; omega
          have hw3' : ls.length ≤ 3 := by have := HLL.out; omega
          (repeat (first | go_big_skip | go_big_want | go_big_move | go_big_op | go_step | go_upon | go_back))
          go_loopw [84] (fun i wr => ∃ k4 : Nat, i = .int .i64 k4 ∧ k4 ≤ nl ∧ MW4 w0 d A l c (m + 241) wE y B p ls.length v1 (.slice A2 ls.length c2) v3 k4 wr) (fun i _ => nl - (intOf i).toNat)
          case atStart => exact ⟨0, rfl, by omega, HM4.out⟩
          case round =>
            obtain ⟨k4, rfl, hk4, hM⟩ := hrel
            obtain ⟨lg, v4, hll, hlo, hdk, hgr, hsz, hkp, hbx, hown⟩ := hM
            have HLL4 := Lib.hid hll
            have HLO4 := Lib.hid hlo
            have HD4 := Lib.hid hdk
            have HGR4 := Lib.hid hgr
            have HSZ4 := Lib.hid hsz
            have HKP4 := Lib.hid hkp
            have HBX4 := Lib.hid hbx
            have HOW4 := Lib.hid hown
            clear hll hlo hdk hgr hsz hkp hown HM4
            by_cases hkn4 : k4 < nl
            · have hdec4 : decide ((k4 : Int) < (nl : Int)) = true := by simp; omega
              clear hbx
              (repeat (first | go_big_skip | go_big_want | go_big_move | go_big_op | go_step | go_upon | go_back))
              refine region21_lit w0 d A l c _ wE B y.heap.size lg.length p v1 v3 v4 A2 ls.length c2 (lg.flatMap encLeg) _ _ _ _ _ _ _ _ _ _ _ _ _ _ _ _ _ _ _ _ _ _ _ _ _ _ _ _ _ _ _ _ _ _ _ _ _ _ _ _ _ _ _ _ _ _ _ _ _ _ _ _ _ _ _ _ _ _ _ _ _ _ _ _ _ _ _ _ _ _ _ _ _ _ _ _ _ _ _ _ _ _ _ _ _ _ _ _ _ _ _ _ _ _ _ _ _ _ _ _ _ _ _ _ _ hw1' hw3' HD4.out (by omega) HGR4.out HBX4.out HOW4.out (by have := HLL4.out; omega) (by have := HSZ.out; omega) HdB.out HEB.out HSZ4.out ?_
              intro u86 u87 u88 u89 u90 u91 u92 u93 u94 u95 u96 u97 u98 u99 u100 u101 u102 W' lg' v' h1 h2 h3 h4 h5 h6 h7
              have HM' : Hid (MW4 w0 d A l c (m + 241) wE y B p ls.length v1 (.slice A2 ls.length c2) v3 (k4 + 1) W') := Lib.hid ⟨lg ++ [lg'], v', by simp [HLL4.out], fun x hx => (List.mem_append.1 hx).elim (HLO4.out x) (fun h => by rw [List.mem_singleton] at h; subst h; exact h6), h1.more (by omega), h2, h3, fun k hk hd1 hb1 => (h4.2 k (Nat.lt_of_lt_of_le hk HSZ4.out) hd1 hb1 (fun e => by have := (HOW4.out.lt k e).1; omega)).trans (HKP4.out k hk hd1 hb1), h5, by simpa using h7⟩
              clear h1 h2 h3 h4 h5 h6 h7
              (repeat (first | go_big_skip | go_big_want | go_big_move | go_big_op | go_step | go_upon | go_back))
              exact ⟨⟨k4 + 1, by go_num, by omega, HM'.out⟩, by simp [intOf]; omega⟩
            · have hdec4 : decide ((k4 : Int) < (nl : Int)) = false := by simp; omega
              have k0 : wr.cell? ⟨B, 0, none⟩ = some (.int .i64 p) := hbx.cell 0
              have k1 : wr.cell? ⟨B, 1, none⟩ = some v1 := hbx.cell 1
              have k2' : wr.cell? ⟨B, 2, none⟩ = some (.slice A2 ls.length c2) := hbx.cell 2
              have k3' : wr.cell? ⟨B, 3, none⟩ = some v3 := hbx.cell 3
              have k4' : wr.cell? ⟨B, 4, none⟩ = some v4 := hbx.cell 4
              have hC : Blk wr w.heap.size 27 #[.int .i64 0, .slice none 0 0, .slice none 0 0, .slice none 0 0, .slice none 0 0] := by
                have h0 := Blk.new w 27 #[.int .i64 0, .slice none 0 0, .slice none 0 0, .slice none 0 0, .slice none 0 0]
                rw [← HWE.out] at h0
                exact h0.grown HGR4.out (fun e => by injection e with e; omega)
              have hlc := hC.lt
              have hfc : ∀ i, wr.frozen? ⟨w.heap.size, i, none⟩ = false := fun i => hC.frozen i
              have j0 : wr.cell? ⟨w.heap.size, 0, none⟩ = some (.int .i64 0) := hC.cell 0
              have j1 : wr.cell? ⟨w.heap.size, 1, none⟩ = some (.slice none 0 0) := hC.cell 1
              have j2 : wr.cell? ⟨w.heap.size, 2, none⟩ = some (.slice none 0 0) := hC.cell 2
              have j3 : wr.cell? ⟨w.heap.size, 3, none⟩ = some (.slice none 0 0) := hC.cell 3
              have j4 : wr.cell? ⟨w.heap.size, 4, none⟩ = some (.slice none 0 0) := hC.cell 4
              have hk0 : ∀ k, B + 1 ≤ k → k < y.heap.size → wr.heap[k]? = y.heap[k]? := fun k g3 g4 => HKP4.out k g4 (by have := HdB.out; omega) (by omega)
              obtain ⟨a1, x2, a3, a4, c1, y2, c3, c4, e1, e2, e3, e4, e5⟩ := trepF_keep (p := p) (d := d) (base := B + 1) (by have := HdB.out; omega) HOW.out HOK.out HO3.out HOW4.out hk0 HSZ4.out HSZ.out (by have := HWL.out; omega) (by omega) (by have := HS2.out; omega) (by have := HLL4.out; omega)
              clear e2 e5 hk0
              subst e1 e3 e4
              (repeat (first | go_big_skip | go_big_want | go_big_move | go_big_op | go_step | go_upon | go_back))
              obtain ⟨hCz, hgC⟩ := blk_five hC (.int .i64 p) (.slice a1 ws.length c1) (.slice A2 ls.length c2) (.slice a3 ns'.length c3) (.slice a4 lg.length c4)
              generalize (((((wr.setCell ⟨w.heap.size, 0, none⟩ (.int .i64 p)).setCell ⟨w.heap.size, 1, none⟩ (.slice a1 ws.length c1)).setCell ⟨w.heap.size, 2, none⟩ (.slice A2 ls.length c2)).setCell ⟨w.heap.size, 3, none⟩ (.slice a3 ns'.length c3)).setCell ⟨w.heap.size, 4, none⟩ (.slice a4 lg.length c4)) = W' at *
              clear j0 j1 j2 j3 j4 k0 k1 k2' k3' k4' hbx hfc hC
              have z0 : W'.cell? ⟨w.heap.size, 0, none⟩ = some (.int .i64 p) := hCz.cell 0
              have z1 : W'.cell? ⟨w.heap.size, 1, none⟩ = some (.slice a1 ws.length c1) := hCz.cell 1
              have z2 : W'.cell? ⟨w.heap.size, 2, none⟩ = some (.slice A2 ls.length c2) := hCz.cell 2
              have z3 : W'.cell? ⟨w.heap.size, 3, none⟩ = some (.slice a3 ns'.length c3) := hCz.cell 3
              have z4 : W'.cell? ⟨w.heap.size, 4, none⟩ = some (.slice a4 lg.length c4) := hCz.cell 4
              refine bodyPost_ret (v := .agg #[.int .i64 p, .slice a1 ws.length c1, .slice A2 ls.length c2, .slice a3 ns'.length c3, .slice a4 lg.length c4]) (by simp [results, Tryz.results20, go_sem, z0, z1, z2, z3, z4]) rfl ?_
              have hgw : w.grownBy wE (some d) := by rw [HWE.out]; exact only_of_aft (Aft.alloc _ _) _
              have hk0 : ∀ k, B + 1 ≤ k → k < y.heap.size → wr.heap[k]? = y.heap[k]? := fun k g3 g4 => HKP4.out k g4 (by have := HdB.out; omega) (by omega)
              have hCl : w.heap.size < B + 1 := by have := HEB.out; rw [HWE.out, World.size_alloc] at this; omega
              have hk1 : ∀ k, B + 1 ≤ k → k < y.heap.size → W'.heap[k]? = y.heap[k]? := fun k g3 g4 => (hgC.block k (Nat.lt_of_lt_of_le g4 HSZ4.out) (fun e => by injection e with e; omega)).trans (hk0 k g3 g4)
              have ho4 := own_kept' HOW4.out hgC (fun k e => by cases e; have := HSZ.out; omega)
              obtain ⟨_, _, _, _, _, _, _, _, e1, e2, e3, e4, hF⟩ := trepF_keep (p := p) (d := d) (base := B + 1) (by have := HdB.out; omega) HOW.out HOK.out HO3.out ho4 hk1 (Nat.le_trans HSZ4.out hgC.size) HSZ.out (by have := HWL.out; omega) (by omega) (by have := HS2.out; omega) (by have := HLL4.out; omega)
              cases e1
              cases e2
              cases e3
              cases e4
              refine ⟨⟨p, ws, ls, ns', lg⟩, _, _, _, _, _, _, _, _, rfl, ?_, (HD4.out.grown hgC (fun k e => by cases e; omega)).more (by omega), only_grown (hgw.trans HGR4.out) hgC (fun k e => by cases e; exact Nat.le_refl _), hF⟩
              exact ⟨by simp only; omega, by simp only; omega, by have := HWL.out; simp only; omega, hw3', hw1', HS2'.out.1, by have := HS2'.out.2; simp only; omega, by have := HLL4.out; simp only; omega, fun x hx => (HLO.out x hx).1, HWS.out,
                fun x hx m hm => ((HLO.out x hx).2 m hm).1, fun x hx m hm => ((HLO.out x hx).2 m hm).2, HS3.out, HS4.out, HLO4.out⟩
end Go.Proofs
end

section
/- Walks: Agrees, of a line that may agree. -/
namespace Go.Proofs
open Go.RowKit
attribute [local go_sem] Oper.semAt_some

/-- whether a line keeps each leg -/
def keepsTo (f : Nat → Nat → Nat → Bool) (l : List Int) (k : Nat) : Bool := (List.range k).all fun i => f i (l.getD i 0).toNat (l.getD (i + 1) 0).toNat
theorem keepsTo_succ (f : Nat → Nat → Nat → Bool) (l : List Int) (k : Nat) : keepsTo f l (k + 1) = (keepsTo f l k && f k (l.getD k 0).toNat (l.getD (k + 1) 0).toNat) := by
  unfold keepsTo; rw [List.range_succ, List.all_append]; simp
theorem keepsTo_le {f : Nat → Nat → Nat → Bool} {l : List Int} {k m : Nat} (h : k ≤ m) (hk : keepsTo f l k = false) : keepsTo f l m = false := by
  unfold keepsTo at hk ⊢
  rw [List.all_eq_false] at hk ⊢
  obtain ⟨x, h1, h2⟩ := hk
  exact ⟨x, List.mem_range.2 (by have := List.mem_range.1 h1; omega), h2⟩
noncomputable def keepsR (T : Treaty) (l : List Int) (R : List Int) : Bool := keepsTo (leadsF T R) l T.legs.length
/-- the first reading in which a line agrees -/
noncomputable def agreesF (T : Treaty) (l : List Int) : Option (List Int) := (readingsL T).find? (keepsR T l)

def AgreesG (w : World) (T : Treaty) (l : List Int) (e : Ending) (w' : World) : Prop :=
  Aft w w' ∧ ((agreesF T l = none ∧ e = .returned (.tuple #[.slice none 0 0, .int .i64 7])) ∨ (∃ R v, agreesF T l = some R ∧ e = .returned (.tuple #[v, .int .i64 0]) ∧ w'.ownsRow w.heap.size 3 1 v R.length (R.map (Value.int .i64))))

theorem find_at {T : Treaty} {l : List Int} {k : Nat} (hk : k < prodN (lensOf T)) (h1 : ∀ i, i < k → keepsR T l (dig (lensOf T) i) = false) (h2 : keepsR T l (dig (lensOf T) k) = true) : agreesF T l = some (dig (lensOf T) k) := by
  unfold agreesF readingsL
  rw [List.find?_eq_some_iff_getElem]
  refine ⟨h2, k, by simpa using hk, by simp, fun j hj => ?_⟩
  simpa using h1 j hj
theorem find_none {T : Treaty} {l : List Int} (h1 : ∀ i, i < prodN (lensOf T) → keepsR T l (dig (lensOf T) i) = false) : agreesF T l = none := by
  unfold agreesF readingsL
  rw [List.find?_eq_none]
  intro x hx
  obtain ⟨i, hi, rfl⟩ := List.mem_map.1 hx
  simp [h1 i (List.mem_range.1 hi)]

/-- Between two rounds of Agrees. -/
structure AgrI (w : World) (T : Treaty) (a1 a2 a3 a4 : Option Addr) (c1 c2 c3 c4 : Nat) (Al : Option Addr) (l : List Int) (cl S k : Nat) (W : World) : Prop where
  aft : Aft w W
  box : Blk W w.heap.size 27 #[.int .i64 T.places, .slice a1 T.ways.length c1, .slice a2 T.words.length c2, .slice a3 T.starts.length c3, .slice a4 T.legs.length c4]
  line : Blk W (w.heap.size + 1) 24 #[.slice Al l.length cl]
  box2 : Blk W S 27 #[.int .i64 T.places, .slice a1 T.ways.length c1, .slice a2 T.words.length c2, .slice a3 T.starts.length c3, .slice a4 T.legs.length c4]
  r4 : ∃ c, Blk W (w.heap.size + 2) 24 #[c]
  r5 : ∃ c, Blk W (w.heap.size + 3) 38 #[c]
  none : ∀ i, i < k → keepsR T l (dig (lensOf T) i) = false
/-- A round has returned. -/
structure AgrX (w : World) (T : Treaty) (l : List Int) (S : Nat) (W : World) : Prop where
  aft : Aft w W
  out : ∃ R v, agreesF T l = some R ∧ Blk W (w.heap.size + 2) 24 #[v] ∧ Blk W (w.heap.size + 3) 38 #[.int .i64 0] ∧ W.ownsRow (S + 4) 3 1 v R.length (R.map (Value.int .i64))
theorem AgrI.three {w : World} {T : Treaty} {a1 a2 a3 a4 : Option Addr} {c1 c2 c3 c4 : Nat} {Al : Option Addr} {l : List Int} {cl S : Nat} (hS : w.heap.size + 3 < S) : Three (S + 1) (fun k W => AgrI w T a1 a2 a3 a4 c1 c2 c3 c4 Al l cl S k W) := by
  rintro k W W' r ⟨h1, h2, h3, h4, ⟨c, h5⟩, ⟨c', h6⟩, h7⟩ hg hr1 hr2
  exact ⟨h1.grown hg (fun k e => by cases e; omega), h2.grown hg (fun e => by cases e; omega), h3.grown hg (fun e => by cases e; omega), h4.grown hg (fun e => by cases e; omega), ⟨c, h5.grown hg (fun e => by cases e; omega)⟩, ⟨c', h6.grown hg (fun e => by cases e; omega)⟩, h7⟩
theorem AgrX.three {w : World} {T : Treaty} {l : List Int} {S : Nat} (hS : w.heap.size + 3 < S) (c : Code) : Three (S + 1) (fun (_ : Unit) W => c = .ret ∧ AgrX w T l S W) := by
  rintro _ W W' r ⟨h0, h1, R, v, h2, h3, h4, h5⟩ hg hr1 hr2
  exact ⟨h0, h1.grown hg (fun k e => by cases e; omega), R, v, h2, h3.grown hg (fun e => by cases e; omega), h4.grown hg (fun e => by cases e; omega), own_kept h5 hg (by omega)⟩

set_option maxRecDepth 100000 in
set_option maxHeartbeats 2000000 in
theorem agrees_good (w : World) (T : Treaty) (a1 a2 a3 a4 : Option Addr) (c1 c2 c3 c4 : Nat) (l : List Int) (Al : Option Addr) (cl : Nat) (hT : TRep w T a1 a2 a3 a4) (hA : Ints w Al l) (hc : checkE T = 0) (hli : linedB T l = true) (hst : hasB T.starts (l.getD 0 0) = true) :
    Calls Tryz.prog 23 #[.agg #[.int .i64 T.places, .slice a1 T.ways.length c1, .slice a2 T.words.length c2, .slice a3 T.starts.length c3, .slice a4 T.legs.length c4], .slice Al l.length cl] w (AgreesG w T l) := by
  have hal := hA.len
  have ok := checkE_ok hc
  have HC := Lib.hid hc
  have HT := Lib.hid hT
  have HL := Lib.hid hli
  obtain ⟨hlen, hL2⟩ := linedB_iff.1 hli
  have HLL := Lib.hid hL2
  have HAI := Lib.hid hA
  have hpos : 0 < l.length := by omega
  obtain ⟨n0, hn0, hn0p, hn0d⟩ := int_bool hL2 hpos
  have hn1 : l.getD 0 0 = n0 := by rw [List.getD_eq_getElem?_getD, List.getElem?_eq_getElem hpos, Option.getD_some, hn0]
  rw [hn1] at hst
  have HS := Lib.hid hst
  have HN0 := Lib.hid hn0
  have h0l : (0 : Int) < (l.length : Int) := by omega
  have HCK : Hid (∀ W, Aft w W → Calls Tryz.prog 37 #[.agg #[.int .i64 T.places, .slice a1 T.ways.length c1, .slice a2 T.words.length c2, .slice a3 T.starts.length c3, .slice a4 T.legs.length c4]] W fun e w' => e = .returned (.int .i64 (checkE T)) ∧ Aft W w') := Lib.hid fun W ha => check_any T a1 a2 a3 a4 c1 c2 c3 c4 W (HT.out.aft ha)
  rw [HC.out] at HCK
  have HLI := Lib.hid (fun (W : World) (h : Aft w W) => lined_any W T a1 a2 a3 a4 c1 c2 c3 c4 l Al cl (hA.aft h) ok.p1 ok.p2 ok.nlegs)
  rw [HL.out] at HLI
  have HLN := Lib.hid hlen
  have OK := Lib.hid ok
  clear hc hT hA hli hst hn0 hn1 hn0d hL2 hlen ok
  refine (callsIn_wide (n := 5)).1 ?_
  refine callsIn_of_wp_marks Tryz.func23 rfl trivial ?_ rfl
  simp only [Tryz.ntmps23, List.size_toArray, List.length_cons, List.length_nil, Nat.reduceAdd, Nat.reduceSub, Array.replicate_succ, Array.replicate_zero, List.push_toArray, List.append_toArray, List.nil_append, List.cons_append]
  refine wpIn_wide.2 ?_
  have hA0 : Aft w ((((w.alloc (.cells #[.int .i64 T.places, .slice a1 T.ways.length c1, .slice a2 T.words.length c2, .slice a3 T.starts.length c3, .slice a4 T.legs.length c4] 27)).alloc (.cells #[.slice Al l.length cl] 24)).alloc (.cells #[.slice none 0 0] 24)).alloc (.cells #[.int .i64 0] 38)) := (((Aft.alloc w _).then_alloc _).then_alloc _).then_alloc _
  have hb0 := (((Blk.new w 27 #[.int .i64 T.places, .slice a1 T.ways.length c1, .slice a2 T.words.length c2, .slice a3 T.starts.length c3, .slice a4 T.legs.length c4]).alloc (.cells #[.slice Al l.length cl] 24)).alloc (.cells #[.slice none 0 0] 24)).alloc (.cells #[.int .i64 0] 38)
  have hl0 := ((Blk.new (w.alloc (.cells #[.int .i64 T.places, .slice a1 T.ways.length c1, .slice a2 T.words.length c2, .slice a3 T.starts.length c3, .slice a4 T.legs.length c4] 27)) 24 #[.slice Al l.length cl]).alloc (.cells #[.slice none 0 0] 24)).alloc (.cells #[.int .i64 0] 38)
  have hr0 := (Blk.new ((w.alloc (.cells #[.int .i64 T.places, .slice a1 T.ways.length c1, .slice a2 T.words.length c2, .slice a3 T.starts.length c3, .slice a4 T.legs.length c4] 27)).alloc (.cells #[.slice Al l.length cl] 24)) 24 #[.slice none 0 0]).alloc (.cells #[.int .i64 0] 38)
  have hs0 := Blk.new (((w.alloc (.cells #[.int .i64 T.places, .slice a1 T.ways.length c1, .slice a2 T.words.length c2, .slice a3 T.starts.length c3, .slice a4 T.legs.length c4] 27)).alloc (.cells #[.slice Al l.length cl] 24)).alloc (.cells #[.slice none 0 0] 24)) 38 #[.int .i64 0]
  simp only [World.size_alloc] at hl0 hr0 hs0
  have HA0 := Lib.hid hA0
  have HB0 := Lib.hid hb0
  have HL0 := Lib.hid hl0
  have HR0 := Lib.hid hr0
  have HS0 := Lib.hid hs0
  clear hA0 hb0 hl0 hr0 hs0
  go_wp2_with fail
  refine wp_scope_straight ?_
  go_wp2_with (first
      | (go_at_call 37; refine (HCK.out _ HA0.out).mono ?_; rintro e w1 ⟨rfl, ha1⟩; have hb1 := HB0.out.aft ha1; have hlt1 := hb1.lt; obtain ⟨k0, k1, k2, k3, k4⟩ := box_cells hb1; have hl1 := HL0.out.aft ha1; have kl : w1.cell? ⟨w.heap.size + 1, 0, none⟩ = some (.slice Al l.length cl) := hl1.cell 0; have hlt1' := hl1.lt; have HA1 := Lib.hid ha1; clear ha1)
      | (go_at_call 68; refine (HLI.out _ (HA0.out.trans HA1.out)).mono ?_; rintro e w2 ⟨rfl, ha2⟩; have HA2 := Lib.hid (HA1.out.trans ha2); clear ha2))
  obtain ⟨bl, ol, rfl, hbl, hcl⟩ := (HAI.out.aft (HA0.out.trans HA2.out)).at hpos
  have cL : w2.drew.cell? ⟨bl, ol, none⟩ = some (.int .i64 n0) := by have := hcl 0 hpos; rw [HN0.out] at this; exact this
  have k32 : w2.drew.cell? ⟨w.heap.size, 3, none⟩ = some (.slice a3 T.starts.length c3) := (box_cells (HB0.out.aft HA2.out).drew).2.2.2.1
  have kl2 : w2.drew.cell? ⟨w.heap.size + 1, 0, none⟩ = some (.slice (some ⟨bl, ol, none⟩) l.length cl) := (HL0.out.aft HA2.out).drew.cell 0
  have HCT := Lib.hid (show Calls Tryz.prog 60 #[.slice a3 T.starts.length c3, .int .i64 n0] w2.drew (fun e w' => e = .returned (.bool true) ∧ w' = w2.drew) from (contains_any a3 T.starts c3 n0 w2.drew ((HT.out.starts.aft (HA0.out.trans HA2.out)).aft (Aft.drew _))).mono fun _ _ ⟨h1, h2⟩ => ⟨by rw [h1, HS.out], h2.symm⟩)
  clear hcl k0 k1 k2 k3 k4 kl hl1
  refine wp_region_tail 7 (by kernel_rfl) (by kernel_rfl) ?_
  simp only [List.take_succ_cons, List.take_zero, List.drop_succ_cons, List.drop_zero]
  repeat (first | go_big_quiet_skip | (go_big_quiet_want; go_big_quiet_op; go_big_quiet_on))
  (go_big_quiet_want; go_big_quiet_op; refine ⟨_, HCT.out, ?_⟩; go_big_quiet_on)
  repeat (first | go_big_quiet_skip | (go_big_quiet_want; go_big_quiet_op; go_big_quiet_on))
  refine wpQuiet_nil ?_
  have HA3 := Lib.hid (HA2.out.then_drew)
  have hb3 := HB0.out.aft HA3.out
  have hlt3 := hb3.lt
  obtain ⟨k0, k1, k2, k3, k4⟩ := box_cells hb3
  clear HA2 cL k32 kl2 HCT hb1 hlt1 hlt1' HA1
  generalize w2.drew = w3 at *
  go_wp2_with fail
  refine wp_label ?_
  go_upto_block 1 with (go_at_call 48; refine (readings_any T a1 a2 a3 a4 c1 c2 c3 c4 _).mono ?_; rintro e w4 ⟨rfl, rfl⟩)
  have hA4 : Aft w (w3.alloc (.cells #[.int .i64 T.places, .slice a1 T.ways.length c1, .slice a2 T.words.length c2, .slice a3 T.starts.length c3, .slice a4 T.legs.length c4] 27)) := (HA0.out.trans HA3.out).then_alloc _
  have hb4 := hb3.alloc (.cells #[.int .i64 T.places, .slice a1 T.ways.length c1, .slice a2 T.words.length c2, .slice a3 T.starts.length c3, .slice a4 T.legs.length c4] 27)
  have hl4 := (HL0.out.aft HA3.out).alloc (.cells #[.int .i64 T.places, .slice a1 T.ways.length c1, .slice a2 T.words.length c2, .slice a3 T.starts.length c3, .slice a4 T.legs.length c4] 27)
  have hr4 := (HR0.out.aft HA3.out).alloc (.cells #[.int .i64 T.places, .slice a1 T.ways.length c1, .slice a2 T.words.length c2, .slice a3 T.starts.length c3, .slice a4 T.legs.length c4] 27)
  have hs4 := (HS0.out.aft HA3.out).alloc (.cells #[.int .i64 T.places, .slice a1 T.ways.length c1, .slice a2 T.words.length c2, .slice a3 T.starts.length c3, .slice a4 T.legs.length c4] 27)
  have he4 := Blk.new w3 27 #[.int .i64 T.places, .slice a1 T.ways.length c1, .slice a2 T.words.length c2, .slice a3 T.starts.length c3, .slice a4 T.legs.length c4]
  have hz4 : (w3.alloc (.cells #[.int .i64 T.places, .slice a1 T.ways.length c1, .slice a2 T.words.length c2, .slice a3 T.starts.length c3, .slice a4 T.legs.length c4] 27)).heap.size = w3.heap.size + 1 := by simp
  have hS3 : w.heap.size + 3 < w3.heap.size := (HS0.out.aft HA3.out).lt
  clear k0 k1 k2 k3 k4 hb3
  generalize (w3.alloc (.cells #[.int .i64 T.places, .slice a1 T.ways.length c1, .slice a2 T.words.length c2, .slice a3 T.starts.length c3, .slice a4 T.legs.length c4] 27)) = w4 at *
  generalize w3.heap.size = S at *
  have HI0 : Hid (AgrI w T a1 a2 a3 a4 c1 c2 c3 c4 (some ⟨bl, ol, none⟩) l cl S 0 w4) := Lib.hid ⟨hA4, hb4, hl4, he4, ⟨_, hr4⟩, ⟨_, hs4⟩, fun i hi => by omega⟩
  clear hA4 hb4 hl4 he4 hr4 hs4
  refine wp_block ?_
  refine (wpIn_wide (n := 5)).1 ?_
  refine wpIn_range3 (gf := 106) (lb := #[.pointer (some ⟨S, 0, none⟩)]) rfl (fun args w => by simp [go_sem]) (iter109 _ S _ T a2 c2 OK.out) (fun k W0 W v r o h hr => h.put hr o)
    (fun k W => AgrI w T a1 a2 a3 a4 c1 c2 c3 c4 (some ⟨bl, ol, none⟩) l cl S k W) (fun c W => c = .ret ∧ AgrX w T l S W) (by rw [hz4]; exact AgrI.three hS3) (fun c => by rw [hz4]; exact AgrX.three hS3 c) (fun k W h => ⟨(box_cells h.box2).2.2.1, (HT.out.aft h.aft).words⟩) HI0.out
    (fun v => { tmps := #[.agg #[.int .i64 T.places, .slice a1 T.ways.length c1, .slice a2 T.words.length c2, .slice a3 T.starts.length c3, .slice a4 T.legs.length c4], .slice (some ⟨bl, ol, none⟩) l.length cl, .pointer (some ⟨w.heap.size, 0, none⟩), .pointer (some ⟨w.heap.size + 1, 0, none⟩), .pointer (some ⟨w.heap.size + 1 + 1, 0, none⟩), .pointer (some ⟨w.heap.size + 1 + 1 + 1, 0, none⟩), .int .i64 0, v, undef, undef, .agg #[.int .i64 T.places, .slice a1 T.ways.length c1, .slice a2 T.words.length c2, .slice a3 T.starts.length c3, .slice a4 T.legs.length c4], .int .i64 0, .bool false, .int .i64 0, .bool false, undef, .bool false, .agg #[.int .i64 T.places, .slice a1 T.ways.length c1, .slice a2 T.words.length c2, .slice a3 T.starts.length c3, .slice a4 T.legs.length c4], .slice (some ⟨bl, ol, none⟩) l.length cl, .bool true, .bool false, .bool false, .pointer (some ⟨w.heap.size, 3, none⟩), .slice a3 T.starts.length c3, .slice (some ⟨bl, ol, none⟩) l.length cl, .pointer (some ⟨bl, ol, none⟩), .int .i64 n0, .bool true, .bool false, .agg #[.int .i64 T.places, .slice a1 T.ways.length c1, .slice a2 T.words.length c2, .slice a3 T.starts.length c3, .slice a4 T.legs.length c4], .func (.func 106) #[] #[.pointer (some ⟨S, 0, none⟩)], v, undef, undef, undef, undef, undef, undef, undef, undef, undef, undef, undef, undef, undef, undef, undef, undef, undef, undef, undef, undef, undef, undef, undef, undef], defers := [] }) ?assign ?body ?done ?stop
  case assign =>
    intro l v W K hK
    gi_wp2_with fail
    exact hK
  case body =>
    intro ll k v W0 W hk hI ha hB hv
    have hdl : (dig (lensOf T) k).length ≤ 6 := by rw [dig_len]; simp only [lensOf, List.length_map]; exact OK.out.nwords
    obtain ⟨AR, cR, rfl, _, hir⟩ := own_ints hv (by omega)
    have hTW := HT.out.aft (hI.aft.trans ha)
    have hro := readOk_iff.2 (dig_ok _ _ OK.out.lens hk)
    have HOP := Lib.hid (opened_any W T a1 a2 a3 a4 c1 c2 c3 c4 (dig (lensOf T) k) AR cR hTW hir OK.out hro)
    have HFD := Lib.hid (fun h => find_at (l := l) hk hI.none h)
    have HNO : Hid (keepsR T l (dig (lensOf T) k) = false → ∀ i, i < k + 1 → keepsR T l (dig (lensOf T) i) = false) := Lib.hid fun h i hi => by
      by_cases e : i = k
      · rw [e]; exact h
      · exact hI.none i (by omega)
    have HII := Lib.hid hI
    have HV : Hid (W.ownsRow W0.heap.size 3 1 (.slice AR (dig (lensOf T) k).length cR) (dig (lensOf T) k).length ((dig (lensOf T) k).map (Value.int .i64))) := Lib.hid hv
    have HAA := Lib.hid ha
    have hbW := hI.box.aft ha
    obtain ⟨k0, k1, k2, k3, k4⟩ := box_cells hbW
    have hltW := hbW.lt
    have HBW := Lib.hid hbW
    clear hTW hro hI hv ha hir hbW
    unfold keepsR at HFD HNO
    generalize hRR : dig (lensOf T) k = R at *
    clear hRR
    refine wpIn_block ?_
    refine wpIn_seq_k fun K1 H1 => ?_
    refine wpIn_region_of_list (by kernel_rfl) ?_
    go_wp2_with (go_at_call 49; refine HOP.out.mono ?_; rintro e w5 ⟨D, cs, rfl, hD, ha5, hbD, hgD⟩; have hd5 := hgD.desk hbD; have HD5 := Lib.hid hd5; have HA5 := Lib.hid ha5; have hb5 := HBW.out.aft ha5; have hlt5 := hb5.lt; obtain ⟨m0, m1, m2, m3, m4⟩ := box_cells hb5; clear hbD hgD hd5 ha5 HOP)
    change K1 _ _
    refine H1 _ _ ?_
    clear H1
    have hl5 : w5.cell? ⟨w.heap.size + 1, 0, none⟩ = some (.slice (some ⟨bl, ol, none⟩) l.length cl) := ((HII.out.line.aft HAA.out).aft HA5.out).cell 0
    have hl5' := ((HII.out.line.aft HAA.out).aft HA5.out).lt
    have hnl := OK.out.nlegs
    gi_wp2_with fail
    gi_loopw [38] (fun i wr => ∃ j m : Nat, i = .int .i64 j ∧ j ≤ T.legs.length ∧ keepsTo (leadsF T R) l j = true ∧ wr = w5.drewN m) (fun i _ => T.legs.length - (intOf i).toNat)
    case atStart => exact ⟨0, 0, rfl, by omega, rfl, rfl⟩
    case round =>
      obtain ⟨j, m, rfl, hj, hke, rfl⟩ := hrel
      have HKE := Lib.hid hke
      clear hke
      by_cases hjl : j < T.legs.length
      · have hk1 : j < l.length := by have := HLN.out; omega
        have hk2 : j + 1 < l.length := by have := HLN.out; omega
        obtain ⟨x, hx, hxp, hxd⟩ := int_bool HLL.out hk1
        obtain ⟨y, hy, hyp, hyd⟩ := int_bool HLL.out hk2
        have hsu := keepsTo_succ (leadsF T R) l j
        rw [hxd, hyd] at hsu
        have HSU := Lib.hid hsu
        have hai := HAI.out.aft (HII.out.aft.trans (HAA.out.trans HA5.out))
        obtain ⟨b', o', e, _, hcl⟩ := hai.at hk1
        cases e
        have cx : w5.cell? ⟨bl, ol + j, none⟩ = some (.int .i64 x) := by have := hcl j hk1; rwa [hx] at this
        have cy : w5.cell? ⟨bl, ol + (j + 1), none⟩ = some (.int .i64 y) := by have := hcl (j + 1) hk2; rwa [hy] at this
        have hdk := HD5.out.aft (Aft.drewN w5 m).then_drew
        have hp12 := OK.out.p2
        have hca := can_any D T a1 a2 a3 a4 c1 c2 c3 c4 (leadsF T R) j x y (w5.drewN m).drew hdk (by omega) (by omega) (by omega) (by omega) (by omega) (by omega)
        simp only [Int.toNat_natCast] at hca
        have i1 : (0 : Int) ≤ (j : Int) ∧ (j : Int) < (l.length : Int) := by omega
        have i2 : (0 : Int) ≤ ((j + 1 : Nat) : Int) ∧ ((j + 1 : Nat) : Int) < (l.length : Int) := by omega
        have w1' : IntKind.i64.wrap ((j : Int) + 1) = ((j + 1 : Nat) : Int) := by rw [IntWalk.i64_in _ (by omega)]; omega
        clear hsu hx hy hxd hyd hcl hai hdk hxp hyp hp12
        cases hf : leadsF T R j x y
        all_goals
          rw [hf] at hca HSU
          have HCA := Lib.hid (hca.mono (R' := fun e w'' => e = .returned _ ∧ w'' = (w5.drewN m).drew) fun _ _ ⟨h1, h2⟩ => ⟨h1, h2.symm⟩)
          clear hf hca
          have cx' : (w5.drewN m).drew.cell? ⟨bl, ol + j, none⟩ = some (.int .i64 x) := cx
          have cy' : (w5.drewN m).drew.cell? ⟨bl, ol + (j + 1), none⟩ = some (.int .i64 y) := cy
          have cl' : (w5.drewN m).drew.cell? ⟨w.heap.size + 1, 0, none⟩ = some (.slice (some ⟨bl, ol, none⟩) l.length cl) := hl5
          gi_wp2_with fail
          refine wpIn_region_tail' 12 (by kernel_rfl) (by kernel_rfl) (by kernel_rfl) ?_
          simp only [List.take_succ_cons, List.take_zero, List.drop_succ_cons, List.drop_zero]
          repeat (first | go_big_quiet_skip | (go_big_quiet_want; go_big_quiet_op; go_big_quiet_on))
          (go_big_quiet_want; go_big_quiet_op; refine ⟨_, HCA.out, ?_⟩; go_big_quiet_on)
          repeat (first | go_big_quiet_skip | (go_big_quiet_want; go_big_quiet_op; go_big_quiet_on))
          refine wpQuiet_nil ?_
          clear cx' cy' cl' HCA w1' i1 i2
          go_wp2_with fail
          refine OnlyN.normal ?_
          gi_wp2_with fail
        · change Kept3 w4.heap.size W (w5.drewN m).drew ∧ AgrI w T a1 a2 a3 a4 c1 c2 c3 c4 (some ⟨bl, ol, none⟩) l cl S (k + 1) (w5.drewN m).drew
          have hA7 := HA5.out.trans ((Aft.drewN w5 m).then_drew)
          have hA8 := HAA.out.trans hA7
          have hsz := HAA.out.size
          obtain ⟨v4, h4⟩ := HII.out.r4
          obtain ⟨v5, h5⟩ := HII.out.r5
          rw [hz4] at hB ⊢
          exact ⟨Kept3.of_aft hA7 (by omega), HII.out.aft.trans hA8, HII.out.box.aft hA8, HII.out.line.aft hA8, HII.out.box2.aft hA8, ⟨v4, h4.aft hA8⟩, ⟨v5, h5.aft hA8⟩, HNO.out (keepsTo_le (k := j + 1) (by omega) (by rw [HSU.out]; simp))⟩
        · exact ⟨⟨j + 1, m + 1, by go_num, by omega, by rw [HSU.out, HKE.out]; rfl, rfl⟩, by simp [intOf]; omega⟩
      · obtain rfl : j = T.legs.length := by omega
        obtain ⟨v4, h4⟩ := HII.out.r4
        obtain ⟨v5, h5⟩ := HII.out.r5
        have hA7 := HA5.out.trans (Aft.drewN w5 m)
        have hA8 := HAA.out.trans hA7
        have g4 := h4.aft hA8
        have g5 := h5.aft hA8
        have q4 : (w5.drewN m).cell? ⟨w.heap.size + 1 + 1, 0, none⟩ = some v4 := g4.cell 0
        have q5 : (w5.drewN m).cell? ⟨w.heap.size + 1 + 1 + 1, 0, none⟩ = some v5 := g5.cell 0
        have z4 : (w5.drewN m).frozen? ⟨w.heap.size + 1 + 1, 0, none⟩ = false := g4.frozen 0
        have z5 : (w5.drewN m).frozen? ⟨w.heap.size + 1 + 1 + 1, 0, none⟩ = false := g5.frozen 0
        have HG4 := Lib.hid g4
        have HG5 := Lib.hid g5
        have HA8 := Lib.hid hA8
        have HA7 := Lib.hid hA7
        clear g4 g5 hA8 hA7 h4 h5
        gi_wp2_with fail
        change Kept3 w4.heap.size W (((w5.drewN m).setCell ⟨w.heap.size + 2, 0, none⟩ (.slice AR R.length cR)).setCell ⟨w.heap.size + 3, 0, none⟩ (.int .i64 0)) ∧ Code.ret = .ret ∧ AgrX w T l S (((w5.drewN m).setCell ⟨w.heap.size + 2, 0, none⟩ (.slice AR R.length cR)).setCell ⟨w.heap.size + 3, 0, none⟩ (.int .i64 0))
        have hsz := HAA.out.size
        rw [hz4] at hB ⊢
        refine ⟨((Kept3.of_aft HA7.out (by omega)).setCell (.inl (by show w.heap.size + 2 < S + 1; omega)) _).setCell (.inl (by show w.heap.size + 3 < S + 1; omega)) _, rfl, ?_⟩
        refine ⟨((HII.out.aft.trans HA8.out).then_setCell (p := ⟨w.heap.size + 2, 0, none⟩) (by show w.heap.size ≤ w.heap.size + 2; omega) _).then_setCell (p := ⟨w.heap.size + 3, 0, none⟩) (by show w.heap.size ≤ w.heap.size + 3; omega) _,
          R, .slice AR R.length cR, HFD.out HKE.out, (HG4.out.store 0 _).far (by show w.heap.size + 2 ≠ w.heap.size + 3; omega) _, (HG5.out.far (by show w.heap.size + 3 ≠ w.heap.size + 2; omega) _).store 0 _, ?_⟩
        exact own_kept (own_kept (World.ownsRow.mono (own_aft HV.out HA7.out) (by omega)) (grownBy_setCell' (w5.drewN m) (w.heap.size + 2) _) (by omega)) (grownBy_setCell' _ (w.heap.size + 3) _) (by omega)
  case done =>
    intro D W hD hI hK
    obtain ⟨v4, h4⟩ := hI.r4
    obtain ⟨v5, h5⟩ := hI.r5
    have q4 : W.cell? ⟨w.heap.size + 1 + 1, 0, none⟩ = some v4 := h4.cell 0
    have q5 : W.cell? ⟨w.heap.size + 1 + 1 + 1, 0, none⟩ = some v5 := h5.cell 0
    have z4 : W.frozen? ⟨w.heap.size + 1 + 1, 0, none⟩ = false := h4.frozen 0
    have z5 : W.frozen? ⟨w.heap.size + 1 + 1 + 1, 0, none⟩ = false := h5.frozen 0
    have HA := Lib.hid hI.aft
    have HNN := Lib.hid (find_none hI.none)
    have HG4 := Lib.hid h4
    have HG5 := Lib.hid h5
    have HKD := Lib.hid hK
    have hDz : D = S + 1 := by omega
    clear hI h4 h5 hK hD
    go_wp2_with fail
    have hX4 := (HG4.out.store 0 (.slice none 0 0)).far (p := ⟨w.heap.size + 3, 0, none⟩) (by show w.heap.size + 2 ≠ w.heap.size + 3; omega) (.int .i64 7)
    have hX5 := (HG5.out.far (p := ⟨w.heap.size + 2, 0, none⟩) (by show w.heap.size + 3 ≠ w.heap.size + 2; omega) (.slice none 0 0)).store 0 (.int .i64 7)
    have hKX : ((W.setCell ⟨w.heap.size + 2, 0, none⟩ (.slice none 0 0)).setCell ⟨w.heap.size + 3, 0, none⟩ (.int .i64 7)).heap[D]? = some (.deferred (some [])) := (Below.heap_setCell _ _ _ D (by show D ≠ w.heap.size + 3; omega)).trans ((Below.heap_setCell _ _ _ D (by show D ≠ w.heap.size + 2; omega)).trans HKD.out)
    have hAX := ((HA.out.then_setCell (p := ⟨w.heap.size + 2, 0, none⟩) (by show w.heap.size ≤ w.heap.size + 2; omega) (.slice none 0 0)).then_setCell (p := ⟨w.heap.size + 3, 0, none⟩) (by show w.heap.size ≤ w.heap.size + 3; omega) (.int .i64 7)).grown (grownBy_putObj' _ D (.deferred none)) (fun k e => by cases e; omega)
    have y4 := (hX4.grown (grownBy_putObj' _ D (.deferred none)) (fun e => by cases e; omega)).cell 0
    have y5 := (hX5.grown (grownBy_putObj' _ D (.deferred none)) (fun e => by cases e; omega)).cell 0
    refine ⟨by simp, .inl ⟨_, _, rfl, run_takeDeferred hKX, ?_⟩⟩
    refine ⟨.tuple #[.slice none 0 0, .int .i64 7], ?_, ⟨hAX, .inl ⟨HNN.out, rfl⟩⟩⟩
    clear hX4 hX5 hKX hAX
    generalize (((W.setCell ⟨w.heap.size + 2, 0, none⟩ (.slice none 0 0)).setCell ⟨w.heap.size + 3, 0, none⟩ (.int .i64 7)).putObj D (.deferred none)) = X at *
    have y4' : X.cell? ⟨w.heap.size + 1 + 1, 0, none⟩ = some (.slice none 0 0) := y4
    have y5' : X.cell? ⟨w.heap.size + 1 + 1 + 1, 0, none⟩ = some (.int .i64 7) := y5
    simp [results, Tryz.results23, go_sem, y4', y5']
  case stop =>
    rintro D c W hD ⟨rfl, hX⟩ hK
    have hDz : D = S + 1 := by omega
    refine wpIn_ret ?_
    obtain ⟨ha, R, v, h1, h2, h3, h4⟩ := hX
    have hAX := ha.grown (grownBy_putObj' W D (.deferred none)) (fun k e => by cases e; omega)
    have y4 := (h2.grown (grownBy_putObj' W D (.deferred none)) (fun e => by cases e; omega)).cell 0
    have y5 := (h3.grown (grownBy_putObj' W D (.deferred none)) (fun e => by cases e; omega)).cell 0
    have hown := own_kept h4 (grownBy_putObj' W D (.deferred none)) (by omega)
    refine ⟨by simp, .inl ⟨_, _, rfl, run_takeDeferred hK, ?_⟩⟩
    refine ⟨.tuple #[v, .int .i64 0], ?_, ⟨hAX, .inr ⟨R, v, h1, rfl, World.ownsRow.mono hown (by omega)⟩⟩⟩
    have y4' : (W.putObj D (.deferred none)).cell? ⟨w.heap.size + 1 + 1, 0, none⟩ = some v := y4
    have y5' : (W.putObj D (.deferred none)).cell? ⟨w.heap.size + 1 + 1 + 1, 0, none⟩ = some (.int .i64 0) := y5
    clear y4 y5 hown hAX h4 h3 h2 ha
    generalize (W.putObj D (.deferred none)) = X at *
    simp [results, Tryz.results23, go_sem, y4', y5']
end Go.Proofs
end
