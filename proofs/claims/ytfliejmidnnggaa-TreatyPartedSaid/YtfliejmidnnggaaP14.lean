/- Merged by program out of the texts WkW Agr. -/
import Derived.Test.YtfliejmidnnggaaP13
import Derived.Scope
import Derived.LoopIn
import Derived.LoopNIn
section
/- Walks: Breaks. -/
namespace Go.Proofs
open Go.RowKit

def breaksE (T : Treaty) (R l : List Int) : Int := if readE T R = 0 then (if linedB T l then (if hasB T.starts (l.getD 0 0) then 0 else 9) else 2) else readE T R
/-- of the first legs those that a line does not keep -/
def brkTo (f : Nat → Nat → Nat → Bool) (l : List Int) (k : Nat) : List Int := ((List.range k).filter fun i => !f i (l.getD i 0).toNat (l.getD (i + 1) 0).toNat).map (fun i : Nat => (i : Int))
theorem brkTo_succ (f : Nat → Nat → Nat → Bool) (l : List Int) (k : Nat) : brkTo f l (k + 1) = brkTo f l k ++ (if f k (l.getD k 0).toNat (l.getD (k + 1) 0).toNat then [] else [(k : Int)]) := by
  unfold brkTo
  rw [List.range_succ, List.filter_append, List.map_append]
  congr 1
  cases h : f k (l.getD k 0).toNat (l.getD (k + 1) 0).toNat <;> (simp only [List.filter_cons, List.filter_nil, h]; rfl)
theorem brkTo_le (f : Nat → Nat → Nat → Bool) (l : List Int) (k : Nat) : (brkTo f l k).length ≤ k := by
  unfold brkTo
  rw [List.length_map]
  have := List.length_filter_le (fun i => !f i (l.getD i 0).toNat (l.getD (i + 1) 0).toNat) (List.range k)
  simpa using this

/-- What Breaks answers. -/
def BreaksR (w : World) (T : Treaty) (R l : List Int) (e : Ending) (w' : World) : Prop :=
  Aft w w' ∧ ((breaksE T R l ≠ 0 ∧ e = .returned (.tuple #[.slice none 0 0, .int .i64 (breaksE T R l)])) ∨ (breaksE T R l = 0 ∧ ∃ v, e = .returned (.tuple #[v, .int .i64 0]) ∧ w'.ownsRow w.heap.size 3 1 v (brkTo (leadsF T R) l T.legs.length).length ((brkTo (leadsF T R) l T.legs.length).map (Value.int .i64))))

theorem int_bool {l : List Int} {p : Int} (h : ∀ x ∈ l, 0 ≤ x ∧ x < p) {k : Nat} (hk : k < l.length) : ∃ n : Nat, l[k] = n ∧ (n : Int) < p ∧ (l.getD k 0).toNat = n := by
  have := h _ (List.getElem_mem hk)
  obtain ⟨n, hn⟩ := Int.eq_ofNat_of_zero_le this.1
  refine ⟨n, hn, by omega, ?_⟩
  rw [List.getD_eq_getElem?_getD, List.getElem?_eq_getElem hk, Option.getD_some, hn]; simp

set_option maxRecDepth 100000 in
set_option maxHeartbeats 2000000 in
theorem breaks_any (w : World) (T : Treaty) (a1 a2 a3 a4 : Option Addr) (c1 c2 c3 c4 : Nat) (R : List Int) (AR : Option Addr) (cR : Nat) (l : List Int) (Al : Option Addr) (cl : Nat) (hT : TRep w T a1 a2 a3 a4) (hR : Ints w AR R) (hA : Ints w Al l) :
    Calls Try.prog 18 #[.agg #[.int .i64 T.places, .slice a1 T.ways.length c1, .slice a2 T.words.length c2, .slice a3 T.starts.length c3, .slice a4 T.legs.length c4], .slice AR R.length cR, .slice Al l.length cl] w (BreaksR w T R l) := by
  have hal := hA.len
  by_cases hre : readE T R = 0
  · have HC := Lib.hid (read_good (c1 := c1) (c2 := c2) (c3 := c3) (c4 := c4) (cR := cR) hT hR hre)
    have ok := checkE_ok (readE_zero.1 hre).1
    have hl := ok.nlegs
    obtain ⟨p, hpp⟩ := Int.eq_ofNat_of_zero_le (show 0 ≤ T.places by have := ok.p1; omega)
    have hp12 : p ≤ 12 := by have := ok.p2; omega
    have HPP := Lib.hid hpp
    clear hpp
    have HRE := Lib.hid hre
    have HLI := Lib.hid (fun (W : World) (h : Aft w W) => lined_any W T a1 a2 a3 a4 c1 c2 c3 c4 l Al cl (hA.aft h) ok.p1 ok.p2 ok.nlegs)
    clear hre ok
    cases hli : linedB T l
    · have HL := Lib.hid hli
      clear hli
      go_enter Try.func18, Try.ntmps18
      go_wp2_with (first
        | (go_at_call 63; refine HC.out.mono ?_; rintro e w1 ⟨D, cs, rfl, hrd⟩; have HRD := Lib.hid hrd; have k0 := hrd.at0; have k1 := hrd.at1; have k2 := hrd.at2; have k3 := hrd.at3; have k4 := hrd.at4; clear hrd)
        | (go_at_call 67; refine (HLI.out _ HRD.out.aft).mono ?_; rintro e w2 ⟨rfl, ha⟩; rw [HL.out]))
      go_ret2
      have hE : breaksE T R l = 2 := by unfold breaksE; rw [if_pos HRE.out, HL.out]; rfl
      exact ⟨HRD.out.aft.trans ha, .inl ⟨by rw [hE]; decide, by rw [hE]; rfl⟩⟩
    · have hL := linedB_iff.1 hli
      have hlen := hL.1
      have HLL := Lib.hid hL.2
      have HL := Lib.hid hli
      have HLN := Lib.hid hlen
      clear hli hL
      have hpos : 0 < l.length := by omega
      obtain ⟨n0, hn0, hn0p, hn0d⟩ := int_bool HLL.out hpos
      have HN0 := Lib.hid (show l.getD 0 0 = n0 by rw [List.getD_eq_getElem?_getD, List.getElem?_eq_getElem hpos, Option.getD_some, hn0])
      have h0l : (0 : Int) < (l.length : Int) := by omega
      clear hn0d hlen
      cases hst : hasB T.starts n0
      · have HS := Lib.hid hst
        clear hst
        go_enter Try.func18, Try.ntmps18
        go_wp2_with (first
          | (go_at_call 63; refine HC.out.mono ?_; rintro e w1 ⟨D, cs, rfl, hrd⟩; have HRD := Lib.hid hrd; have k0 := hrd.at0; have k1 := hrd.at1; have k2 := hrd.at2; have k3 := hrd.at3; have k4 := hrd.at4; clear hrd)
          | (go_at_call 67; refine (HLI.out _ HRD.out.aft).mono ?_; rintro e w2 ⟨rfl, ha⟩; rw [HL.out]))
        obtain ⟨bl, ol, rfl, hbl, hcl⟩ := (hA.aft (HRD.out.aft.trans ha)).at hpos
        have cL : w2.drew.cell? ⟨bl, ol, none⟩ = some (.int .i64 n0) := by have := hcl 0 hpos; rw [hn0] at this; exact this
        have k32 : w2.drew.cell? ⟨w.heap.size, 3, none⟩ = some (.slice a3 T.starts.length c3) := (HRD.out.later ha).at3
        have HCT := Lib.hid (show Calls Try.prog 68 #[.slice a3 T.starts.length c3, .int .i64 n0] w2.drew (fun e w' => e = .returned (.bool false) ∧ w' = w2.drew) from (contains_any a3 T.starts c3 n0 w2.drew ((hT.starts.aft (HRD.out.aft.trans ha)).aft (Aft.drew _))).mono fun _ _ ⟨h1, h2⟩ => ⟨by rw [h1, HS.out], h2.symm⟩)
        clear hcl k0 k1 k2 k3 k4 hn0
        refine wp_region_tail 7 (by kernel_rfl) (by kernel_rfl) ?_
        simp only [List.take_succ_cons, List.take_zero, List.drop_succ_cons, List.drop_zero]
        repeat (first | go_big_quiet_skip | (go_big_quiet_want; go_big_quiet_op; go_big_quiet_on))
        (go_big_quiet_want; go_big_quiet_op; refine ⟨_, HCT.out, ?_⟩; go_big_quiet_on)
        repeat (first | go_big_quiet_skip | (go_big_quiet_want; go_big_quiet_op; go_big_quiet_on))
        refine wpQuiet_nil ?_
        go_wp2_with fail
        go_ret2
        have hE : breaksE T R l = 9 := by unfold breaksE; rw [if_pos HRE.out, HL.out, HN0.out, HS.out]; rfl
        exact ⟨(HRD.out.aft.trans ha).then_drew, .inl ⟨by rw [hE]; decide, by rw [hE]; rfl⟩⟩
      · have HS := Lib.hid hst
        clear hst
        go_enter Try.func18, Try.ntmps18
        go_wp2_with (first
          | (go_at_call 63; refine HC.out.mono ?_; rintro e w1 ⟨D, cs, rfl, hrd⟩; have HRD := Lib.hid hrd; have k0 := hrd.at0; have k1 := hrd.at1; have k2 := hrd.at2; have k3 := hrd.at3; have k4 := hrd.at4; clear hrd)
          | (go_at_call 67; refine (HLI.out _ HRD.out.aft).mono ?_; rintro e w2 ⟨rfl, ha⟩; rw [HL.out]))
        obtain ⟨bl, ol, rfl, hbl, hcl⟩ := (hA.aft (HRD.out.aft.trans ha)).at hpos
        have cL : w2.drew.cell? ⟨bl, ol, none⟩ = some (.int .i64 n0) := by have := hcl 0 hpos; rw [hn0] at this; exact this
        have k32 : w2.drew.cell? ⟨w.heap.size, 3, none⟩ = some (.slice a3 T.starts.length c3) := (HRD.out.later ha).at3
        have k42 : w2.drew.cell? ⟨w.heap.size, 4, none⟩ = some (.slice a4 T.legs.length c4) := (HRD.out.later ha).at4
        have HCT := Lib.hid (show Calls Try.prog 68 #[.slice a3 T.starts.length c3, .int .i64 n0] w2.drew (fun e w' => e = .returned (.bool true) ∧ w' = w2.drew) from (contains_any a3 T.starts c3 n0 w2.drew ((hT.starts.aft (HRD.out.aft.trans ha)).aft (Aft.drew _))).mono fun _ _ ⟨h1, h2⟩ => ⟨by rw [h1, HS.out], h2.symm⟩)
        clear hcl k0 k1 k2 k3 k4 hn0
        refine wp_region_tail 7 (by kernel_rfl) (by kernel_rfl) ?_
        simp only [List.take_succ_cons, List.take_zero, List.drop_succ_cons, List.drop_zero]
        repeat (first | go_big_quiet_skip | (go_big_quiet_want; go_big_quiet_op; go_big_quiet_on))
        (go_big_quiet_want; go_big_quiet_op; refine ⟨_, HCT.out, ?_⟩; go_big_quiet_on)
        repeat (first | go_big_quiet_skip | (go_big_quiet_want; go_big_quiet_op; go_big_quiet_on))
        refine wpQuiet_nil ?_
        go_wp2_with fail
        have hrd3 := HRD.out.later ha.then_drew
        have hE : breaksE T R l = 0 := by unfold breaksE; rw [if_pos HRE.out, HL.out, HN0.out, HS.out]; rfl
        have HE := Lib.hid hE
        have HRD3 := Lib.hid hrd3
        clear hE hrd3 HRD HC HLI cL k32 k42 HCT ha
        generalize w2.drew = w3 at *
        go_loopw [11, 41] (fun v i wr => ∃ k : Nat, i = .int .i64 k ∧ k ≤ T.legs.length ∧ Aft w3 wr ∧ wr.ownsRow w3.heap.size 3 1 v (brkTo (leadsF T R) l k).length ((brkTo (leadsF T R) l k).map (Value.int .i64))) (fun _ i _ => T.legs.length - (intOf i).toNat)
        case atStart => exact ⟨0, rfl, by omega, Aft.refl _, World.ownsRow_nil _ _ 3 1⟩
        case round =>
          obtain ⟨k, rfl, hk, hw, hown⟩ := hrel
          have HO := Lib.hid hown
          clear hown
          by_cases hkl : k < T.legs.length
          · have hk1 : k < l.length := by have := HLN.out; omega
            have hk2 : k + 1 < l.length := by have := HLN.out; omega
            obtain ⟨x, hx, hxp, hxd⟩ := int_bool HLL.out hk1
            obtain ⟨y, hy, hyp, hyd⟩ := int_bool HLL.out hk2
            have hsu := brkTo_succ (leadsF T R) l k
            rw [hxd, hyd] at hsu
            have HSU := Lib.hid hsu
            have hle := brkTo_le (leadsF T R) l k
            have hai := (hA.aft (HRD3.out.aft.trans hw)).aft (Aft.drew wr)
            obtain ⟨b', o', e, _, hcl⟩ := hai.at hk1
            cases e
            have cx : wr.drew.cell? ⟨bl, ol + k, none⟩ = some (.int .i64 x) := by have := hcl k hk1; rwa [hx] at this
            have cy : wr.drew.cell? ⟨bl, ol + (k + 1), none⟩ = some (.int .i64 y) := by have := hcl (k + 1) hk2; rwa [hy] at this
            have hdk := (HRD3.out.later hw.then_drew).desk
            have hca := can_any D T a1 a2 a3 a4 c1 c2 c3 c4 (leadsF T R) k x y wr.drew hdk (by omega) (by omega) (by omega) (by rw [HPP.out] at hxp; omega) (by omega) (by rw [HPP.out] at hyp; omega)
            simp only [Int.toNat_natCast] at hca
            have i1 : (0 : Int) ≤ (k : Int) ∧ (k : Int) < (l.length : Int) := by omega
            have i2 : (0 : Int) ≤ ((k + 1 : Nat) : Int) ∧ ((k + 1 : Nat) : Int) < (l.length : Int) := by omega
            have w1' : IntKind.i64.wrap ((k : Int) + 1) = ((k + 1 : Nat) : Int) := by rw [IntWalk.i64_in _ (by omega)]; omega
            clear hsu hx hy hxd hyd hcl hai hdk hxp hyp
            cases hf : leadsF T R k x y
            all_goals
              rw [hf] at hca HSU
              have HCA := Lib.hid (hca.mono (R' := fun e w'' => e = .returned _ ∧ w'' = wr.drew) fun _ _ ⟨h1, h2⟩ => ⟨h1, h2.symm⟩)
              clear hf hca
              go_wp2_with fail
              refine wp_region_tail 12 (by kernel_rfl) (by kernel_rfl) ?_
              simp only [List.take_succ_cons, List.take_zero, List.drop_succ_cons, List.drop_zero]
              repeat (first | go_big_quiet_skip | (go_big_quiet_want; go_big_quiet_op; go_big_quiet_on))
              (go_big_quiet_want; go_big_quiet_op; refine ⟨_, HCA.out, ?_⟩; go_big_quiet_on)
              repeat (first | go_big_quiet_skip | (go_big_quiet_want; go_big_quiet_op; go_big_quiet_on))
              refine wpQuiet_nil ?_
              clear w1'
            · have F1 : w3.heap.size ≤ ((wr.alloc (.cells #[.int .i64 k] 3)).drew).heap.size := ((hw.then_alloc _).then_drew).size
              have F2 : ((wr.alloc (.cells #[.int .i64 k] 3)).drew).cell? ⟨wr.heap.size, 0, none⟩ = some (.int .i64 k) := by simp
              go_wp2_with (at_builtin; refine wpList_push rfl _ _ rfl (own_aft HO.out ((Aft.alloc _ _).then_drew)) F1 rfl rfl F2 (by omega) ?_; intro v' w5 hown5 hg5)
              have hlt : ∀ g, u11.ownBlock = some g → w3.heap.size ≤ g := fun g hg => (HO.out.lt g hg).1
              refine ⟨⟨k + 1, by go_num, by omega, (((hw.then_alloc _).then_drew).grown hg5 hlt), ?_⟩, by simp [intOf]; omega⟩
              rw [HSU.out]
              exact hown5
            · go_wp2_with fail
              refine ⟨⟨k + 1, by go_num, by omega, hw.then_drew, ?_⟩, by simp [intOf]; omega⟩
              rw [HSU.out]
              simpa using own_aft HO.out (Aft.drew _)
          · obtain rfl : k = T.legs.length := by omega
            go_wp2_with fail
            go_ret2
            exact ⟨HRD3.out.aft.trans hw, .inr ⟨HE.out, _, rfl, World.ownsRow.mono HO.out HRD3.out.aft.size⟩⟩
  · have hb : (readE T R != 0) = true := by simpa using hre
    have HC := Lib.hid (read_bad (c1 := c1) (c2 := c2) (c3 := c3) (c4 := c4) (cR := cR) hT hR hre)
    have HRE := Lib.hid hre
    clear hre
    go_enter Try.func18, Try.ntmps18
    go_wp2_with (go_at_call 63; refine HC.out.mono ?_; rintro e w' ⟨rfl, ha⟩)
    go_ret2
    have hE : breaksE T R l = readE T R := if_neg HRE.out
    exact ⟨ha, .inl ⟨by rw [hE]; exact HRE.out, by rw [hE]; rfl⟩⟩
end Go.Proofs
end

section
/- Walks: Agrees, of a line that may agree. -/
namespace Go.Proofs
open Go.RowKit
attribute [local go_sem] Oper.semAt_some

/-- whether a line keeps each leg -/
def keepsTo (f : Nat → Nat → Nat → Bool) (l : List Int) (k : Nat) : Bool := (List.range k).all fun i => f i (l.getD i 0).toNat (l.getD (i + 1) 0).toNat
theorem keepsTo_succ (f : Nat → Nat → Nat → Bool) (l : List Int) (k : Nat) : keepsTo f l (k + 1) = (keepsTo f l k && f k (l.getD k 0).toNat (l.getD (k + 1) 0).toNat) := by
  unfold keepsTo; rw [List.range_succ, List.all_append]; simp
theorem keepsTo_le {f : Nat → Nat → Nat → Bool} {l : List Int} {k m : Nat} (h : k ≤ m) (hk : keepsTo f l k = false) : keepsTo f l m = false := by
  unfold keepsTo at hk ⊢
  rw [List.all_eq_false] at hk ⊢
  obtain ⟨x, h1, h2⟩ := hk
  exact ⟨x, List.mem_range.2 (by have := List.mem_range.1 h1; omega), h2⟩
noncomputable def keepsR (T : Treaty) (l : List Int) (R : List Int) : Bool := keepsTo (leadsF T R) l T.legs.length
/-- the first reading in which a line agrees -/
noncomputable def agreesF (T : Treaty) (l : List Int) : Option (List Int) := (readingsL T).find? (keepsR T l)

def AgreesG (w : World) (T : Treaty) (l : List Int) (e : Ending) (w' : World) : Prop :=
  Aft w w' ∧ ((agreesF T l = none ∧ e = .returned (.tuple #[.slice none 0 0, .int .i64 7])) ∨ (∃ R v, agreesF T l = some R ∧ e = .returned (.tuple #[v, .int .i64 0]) ∧ w'.ownsRow w.heap.size 3 1 v R.length (R.map (Value.int .i64))))

theorem find_at {T : Treaty} {l : List Int} {k : Nat} (hk : k < prodN (lensOf T)) (h1 : ∀ i, i < k → keepsR T l (dig (lensOf T) i) = false) (h2 : keepsR T l (dig (lensOf T) k) = true) : agreesF T l = some (dig (lensOf T) k) := by
  unfold agreesF readingsL
  rw [List.find?_eq_some_iff_getElem]
  refine ⟨h2, k, by simpa using hk, by simp, fun j hj => ?_⟩
  simpa using h1 j hj
theorem find_none {T : Treaty} {l : List Int} (h1 : ∀ i, i < prodN (lensOf T) → keepsR T l (dig (lensOf T) i) = false) : agreesF T l = none := by
  unfold agreesF readingsL
  rw [List.find?_eq_none]
  intro x hx
  obtain ⟨i, hi, rfl⟩ := List.mem_map.1 hx
  simp [h1 i (List.mem_range.1 hi)]

/-- Between two rounds of Agrees. -/
structure AgrI (w : World) (T : Treaty) (a1 a2 a3 a4 : Option Addr) (c1 c2 c3 c4 : Nat) (Al : Option Addr) (l : List Int) (cl S k : Nat) (W : World) : Prop where
  aft : Aft w W
  box : Blk W w.heap.size 27 #[.int .i64 T.places, .slice a1 T.ways.length c1, .slice a2 T.words.length c2, .slice a3 T.starts.length c3, .slice a4 T.legs.length c4]
  line : Blk W (w.heap.size + 1) 24 #[.slice Al l.length cl]
  box2 : Blk W S 27 #[.int .i64 T.places, .slice a1 T.ways.length c1, .slice a2 T.words.length c2, .slice a3 T.starts.length c3, .slice a4 T.legs.length c4]
  r4 : ∃ c, Blk W (w.heap.size + 2) 24 #[c]
  r5 : ∃ c, Blk W (w.heap.size + 3) 38 #[c]
  none : ∀ i, i < k → keepsR T l (dig (lensOf T) i) = false
/-- A round has returned. -/
structure AgrX (w : World) (T : Treaty) (l : List Int) (S : Nat) (W : World) : Prop where
  aft : Aft w W
  out : ∃ R v, agreesF T l = some R ∧ Blk W (w.heap.size + 2) 24 #[v] ∧ Blk W (w.heap.size + 3) 38 #[.int .i64 0] ∧ W.ownsRow (S + 4) 3 1 v R.length (R.map (Value.int .i64))
theorem AgrI.three {w : World} {T : Treaty} {a1 a2 a3 a4 : Option Addr} {c1 c2 c3 c4 : Nat} {Al : Option Addr} {l : List Int} {cl S : Nat} (hS : w.heap.size + 3 < S) : Three (S + 1) (fun k W => AgrI w T a1 a2 a3 a4 c1 c2 c3 c4 Al l cl S k W) := by
  rintro k W W' r ⟨h1, h2, h3, h4, ⟨c, h5⟩, ⟨c', h6⟩, h7⟩ hg hr1 hr2
  exact ⟨h1.grown hg (fun k e => by cases e; omega), h2.grown hg (fun e => by cases e; omega), h3.grown hg (fun e => by cases e; omega), h4.grown hg (fun e => by cases e; omega), ⟨c, h5.grown hg (fun e => by cases e; omega)⟩, ⟨c', h6.grown hg (fun e => by cases e; omega)⟩, h7⟩
theorem AgrX.three {w : World} {T : Treaty} {l : List Int} {S : Nat} (hS : w.heap.size + 3 < S) (c : Code) : Three (S + 1) (fun (_ : Unit) W => c = .ret ∧ AgrX w T l S W) := by
  rintro _ W W' r ⟨h0, h1, R, v, h2, h3, h4, h5⟩ hg hr1 hr2
  exact ⟨h0, h1.grown hg (fun k e => by cases e; omega), R, v, h2, h3.grown hg (fun e => by cases e; omega), h4.grown hg (fun e => by cases e; omega), own_kept h5 hg (by omega)⟩

set_option maxRecDepth 100000 in
set_option maxHeartbeats 2000000 in
theorem agrees_good (w : World) (T : Treaty) (a1 a2 a3 a4 : Option Addr) (c1 c2 c3 c4 : Nat) (l : List Int) (Al : Option Addr) (cl : Nat) (hT : TRep w T a1 a2 a3 a4) (hA : Ints w Al l) (hc : checkE T = 0) (hli : linedB T l = true) (hst : hasB T.starts (l.getD 0 0) = true) :
    Calls Try.prog 21 #[.agg #[.int .i64 T.places, .slice a1 T.ways.length c1, .slice a2 T.words.length c2, .slice a3 T.starts.length c3, .slice a4 T.legs.length c4], .slice Al l.length cl] w (AgreesG w T l) := by
  have hal := hA.len
  have ok := checkE_ok hc
  have HC := Lib.hid hc
  have HT := Lib.hid hT
  have HL := Lib.hid hli
  obtain ⟨hlen, hL2⟩ := linedB_iff.1 hli
  have HLL := Lib.hid hL2
  have HAI := Lib.hid hA
  have hpos : 0 < l.length := by omega
  obtain ⟨n0, hn0, hn0p, hn0d⟩ := int_bool hL2 hpos
  have hn1 : l.getD 0 0 = n0 := by rw [List.getD_eq_getElem?_getD, List.getElem?_eq_getElem hpos, Option.getD_some, hn0]
  rw [hn1] at hst
  have HS := Lib.hid hst
  have HN0 := Lib.hid hn0
  have h0l : (0 : Int) < (l.length : Int) := by omega
  have HCK : Hid (∀ W, Aft w W → Calls Try.prog 13 #[.agg #[.int .i64 T.places, .slice a1 T.ways.length c1, .slice a2 T.words.length c2, .slice a3 T.starts.length c3, .slice a4 T.legs.length c4]] W fun e w' => e = .returned (.int .i64 (checkE T)) ∧ Aft W w') := Lib.hid fun W ha => check_any T a1 a2 a3 a4 c1 c2 c3 c4 W (HT.out.aft ha)
  rw [HC.out] at HCK
  have HLI := Lib.hid (fun (W : World) (h : Aft w W) => lined_any W T a1 a2 a3 a4 c1 c2 c3 c4 l Al cl (hA.aft h) ok.p1 ok.p2 ok.nlegs)
  rw [HL.out] at HLI
  have HLN := Lib.hid hlen
  have OK := Lib.hid ok
  clear hc hT hA hli hst hn0 hn1 hn0d hL2 hlen ok
  refine (callsIn_wide (n := 5)).1 ?_
  refine callsIn_of_wp_marks Try.func21 rfl trivial ?_ rfl
  simp only [Try.ntmps21, List.size_toArray, List.length_cons, List.length_nil, Nat.reduceAdd, Nat.reduceSub, Array.replicate_succ, Array.replicate_zero, List.push_toArray, List.append_toArray, List.nil_append, List.cons_append]
  refine wpIn_wide.2 ?_
  have hA0 : Aft w ((((w.alloc (.cells #[.int .i64 T.places, .slice a1 T.ways.length c1, .slice a2 T.words.length c2, .slice a3 T.starts.length c3, .slice a4 T.legs.length c4] 27)).alloc (.cells #[.slice Al l.length cl] 24)).alloc (.cells #[.slice none 0 0] 24)).alloc (.cells #[.int .i64 0] 38)) := (((Aft.alloc w _).then_alloc _).then_alloc _).then_alloc _
  have hb0 := (((Blk.new w 27 #[.int .i64 T.places, .slice a1 T.ways.length c1, .slice a2 T.words.length c2, .slice a3 T.starts.length c3, .slice a4 T.legs.length c4]).alloc (.cells #[.slice Al l.length cl] 24)).alloc (.cells #[.slice none 0 0] 24)).alloc (.cells #[.int .i64 0] 38)
  have hl0 := ((Blk.new (w.alloc (.cells #[.int .i64 T.places, .slice a1 T.ways.length c1, .slice a2 T.words.length c2, .slice a3 T.starts.length c3, .slice a4 T.legs.length c4] 27)) 24 #[.slice Al l.length cl]).alloc (.cells #[.slice none 0 0] 24)).alloc (.cells #[.int .i64 0] 38)
  have hr0 := (Blk.new ((w.alloc (.cells #[.int .i64 T.places, .slice a1 T.ways.length c1, .slice a2 T.words.length c2, .slice a3 T.starts.length c3, .slice a4 T.legs.length c4] 27)).alloc (.cells #[.slice Al l.length cl] 24)) 24 #[.slice none 0 0]).alloc (.cells #[.int .i64 0] 38)
  have hs0 := Blk.new (((w.alloc (.cells #[.int .i64 T.places, .slice a1 T.ways.length c1, .slice a2 T.words.length c2, .slice a3 T.starts.length c3, .slice a4 T.legs.length c4] 27)).alloc (.cells #[.slice Al l.length cl] 24)).alloc (.cells #[.slice none 0 0] 24)) 38 #[.int .i64 0]
  simp only [World.size_alloc] at hl0 hr0 hs0
  have HA0 := Lib.hid hA0
  have HB0 := Lib.hid hb0
  have HL0 := Lib.hid hl0
  have HR0 := Lib.hid hr0
  have HS0 := Lib.hid hs0
  clear hA0 hb0 hl0 hr0 hs0
  go_wp2_with fail
  refine wp_scope_straight ?_
  go_wp2_with (first
      | (go_at_call 13; refine (HCK.out _ HA0.out).mono ?_; rintro e w1 ⟨rfl, ha1⟩; have hb1 := HB0.out.aft ha1; have hlt1 := hb1.lt; obtain ⟨k0, k1, k2, k3, k4⟩ := box_cells hb1; have hl1 := HL0.out.aft ha1; have kl : w1.cell? ⟨w.heap.size + 1, 0, none⟩ = some (.slice Al l.length cl) := hl1.cell 0; have hlt1' := hl1.lt; have HA1 := Lib.hid ha1; clear ha1)
      | (go_at_call 67; refine (HLI.out _ (HA0.out.trans HA1.out)).mono ?_; rintro e w2 ⟨rfl, ha2⟩; have HA2 := Lib.hid (HA1.out.trans ha2); clear ha2))
  obtain ⟨bl, ol, rfl, hbl, hcl⟩ := (HAI.out.aft (HA0.out.trans HA2.out)).at hpos
  have cL : w2.drew.cell? ⟨bl, ol, none⟩ = some (.int .i64 n0) := by have := hcl 0 hpos; rw [HN0.out] at this; exact this
  have k32 : w2.drew.cell? ⟨w.heap.size, 3, none⟩ = some (.slice a3 T.starts.length c3) := (box_cells (HB0.out.aft HA2.out).drew).2.2.2.1
  have kl2 : w2.drew.cell? ⟨w.heap.size + 1, 0, none⟩ = some (.slice (some ⟨bl, ol, none⟩) l.length cl) := (HL0.out.aft HA2.out).drew.cell 0
  have HCT := Lib.hid (show Calls Try.prog 68 #[.slice a3 T.starts.length c3, .int .i64 n0] w2.drew (fun e w' => e = .returned (.bool true) ∧ w' = w2.drew) from (contains_any a3 T.starts c3 n0 w2.drew ((HT.out.starts.aft (HA0.out.trans HA2.out)).aft (Aft.drew _))).mono fun _ _ ⟨h1, h2⟩ => ⟨by rw [h1, HS.out], h2.symm⟩)
  clear hcl k0 k1 k2 k3 k4 kl hl1
  refine wp_region_tail 7 (by kernel_rfl) (by kernel_rfl) ?_
  simp only [List.take_succ_cons, List.take_zero, List.drop_succ_cons, List.drop_zero]
  repeat (first | go_big_quiet_skip | (go_big_quiet_want; go_big_quiet_op; go_big_quiet_on))
  (go_big_quiet_want; go_big_quiet_op; refine ⟨_, HCT.out, ?_⟩; go_big_quiet_on)
  repeat (first | go_big_quiet_skip | (go_big_quiet_want; go_big_quiet_op; go_big_quiet_on))
  refine wpQuiet_nil ?_
  have HA3 := Lib.hid (HA2.out.then_drew)
  have hb3 := HB0.out.aft HA3.out
  have hlt3 := hb3.lt
  obtain ⟨k0, k1, k2, k3, k4⟩ := box_cells hb3
  clear HA2 cL k32 kl2 HCT hb1 hlt1 hlt1' HA1
  generalize w2.drew = w3 at *
  go_wp2_with fail
  refine wp_label ?_
  go_upto_block 1 with (go_at_call 73; refine (readings_any T a1 a2 a3 a4 c1 c2 c3 c4 _).mono ?_; rintro e w4 ⟨rfl, rfl⟩)
  have hA4 : Aft w (w3.alloc (.cells #[.int .i64 T.places, .slice a1 T.ways.length c1, .slice a2 T.words.length c2, .slice a3 T.starts.length c3, .slice a4 T.legs.length c4] 27)) := (HA0.out.trans HA3.out).then_alloc _
  have hb4 := hb3.alloc (.cells #[.int .i64 T.places, .slice a1 T.ways.length c1, .slice a2 T.words.length c2, .slice a3 T.starts.length c3, .slice a4 T.legs.length c4] 27)
  have hl4 := (HL0.out.aft HA3.out).alloc (.cells #[.int .i64 T.places, .slice a1 T.ways.length c1, .slice a2 T.words.length c2, .slice a3 T.starts.length c3, .slice a4 T.legs.length c4] 27)
  have hr4 := (HR0.out.aft HA3.out).alloc (.cells #[.int .i64 T.places, .slice a1 T.ways.length c1, .slice a2 T.words.length c2, .slice a3 T.starts.length c3, .slice a4 T.legs.length c4] 27)
  have hs4 := (HS0.out.aft HA3.out).alloc (.cells #[.int .i64 T.places, .slice a1 T.ways.length c1, .slice a2 T.words.length c2, .slice a3 T.starts.length c3, .slice a4 T.legs.length c4] 27)
  have he4 := Blk.new w3 27 #[.int .i64 T.places, .slice a1 T.ways.length c1, .slice a2 T.words.length c2, .slice a3 T.starts.length c3, .slice a4 T.legs.length c4]
  have hz4 : (w3.alloc (.cells #[.int .i64 T.places, .slice a1 T.ways.length c1, .slice a2 T.words.length c2, .slice a3 T.starts.length c3, .slice a4 T.legs.length c4] 27)).heap.size = w3.heap.size + 1 := by simp
  have hS3 : w.heap.size + 3 < w3.heap.size := (HS0.out.aft HA3.out).lt
  clear k0 k1 k2 k3 k4 hb3
  generalize (w3.alloc (.cells #[.int .i64 T.places, .slice a1 T.ways.length c1, .slice a2 T.words.length c2, .slice a3 T.starts.length c3, .slice a4 T.legs.length c4] 27)) = w4 at *
  generalize w3.heap.size = S at *
  have HI0 : Hid (AgrI w T a1 a2 a3 a4 c1 c2 c3 c4 (some ⟨bl, ol, none⟩) l cl S 0 w4) := Lib.hid ⟨hA4, hb4, hl4, he4, ⟨_, hr4⟩, ⟨_, hs4⟩, fun i hi => by omega⟩
  clear hA4 hb4 hl4 he4 hr4 hs4
  refine wp_block ?_
  refine (wpIn_wide (n := 5)).1 ?_
  refine wpIn_range3 (gf := 109) (lb := #[.pointer (some ⟨S, 0, none⟩)]) rfl (fun args w => by simp [go_sem]) (iter109 _ S _ T a2 c2 OK.out) (fun k W0 W v r o h hr => h.put hr o)
    (fun k W => AgrI w T a1 a2 a3 a4 c1 c2 c3 c4 (some ⟨bl, ol, none⟩) l cl S k W) (fun c W => c = .ret ∧ AgrX w T l S W) (by rw [hz4]; exact AgrI.three hS3) (fun c => by rw [hz4]; exact AgrX.three hS3 c) (fun k W h => ⟨(box_cells h.box2).2.2.1, (HT.out.aft h.aft).words⟩) HI0.out
    (fun v => { tmps := #[.agg #[.int .i64 T.places, .slice a1 T.ways.length c1, .slice a2 T.words.length c2, .slice a3 T.starts.length c3, .slice a4 T.legs.length c4], .slice (some ⟨bl, ol, none⟩) l.length cl, .pointer (some ⟨w.heap.size, 0, none⟩), .pointer (some ⟨w.heap.size + 1, 0, none⟩), .pointer (some ⟨w.heap.size + 1 + 1, 0, none⟩), .pointer (some ⟨w.heap.size + 1 + 1 + 1, 0, none⟩), .int .i64 0, v, undef, undef, .agg #[.int .i64 T.places, .slice a1 T.ways.length c1, .slice a2 T.words.length c2, .slice a3 T.starts.length c3, .slice a4 T.legs.length c4], .int .i64 0, .bool false, .int .i64 0, .bool false, undef, .bool false, .agg #[.int .i64 T.places, .slice a1 T.ways.length c1, .slice a2 T.words.length c2, .slice a3 T.starts.length c3, .slice a4 T.legs.length c4], .slice (some ⟨bl, ol, none⟩) l.length cl, .bool true, .bool false, .bool false, .pointer (some ⟨w.heap.size, 3, none⟩), .slice a3 T.starts.length c3, .slice (some ⟨bl, ol, none⟩) l.length cl, .pointer (some ⟨bl, ol, none⟩), .int .i64 n0, .bool true, .bool false, .agg #[.int .i64 T.places, .slice a1 T.ways.length c1, .slice a2 T.words.length c2, .slice a3 T.starts.length c3, .slice a4 T.legs.length c4], .func (.func 109) #[] #[.pointer (some ⟨S, 0, none⟩)], v, undef, undef, undef, undef, undef, undef, undef, undef, undef, undef, undef, undef, undef, undef, undef, undef, undef, undef, undef, undef, undef, undef, undef, undef], defers := [] }) ?assign ?body ?done ?stop
  case assign =>
    intro l v W K hK
    gi_wp2_with fail
    exact hK
  case body =>
    intro ll k v W0 W hk hI ha hB hv
    have hdl : (dig (lensOf T) k).length ≤ 6 := by rw [dig_len]; simp only [lensOf, List.length_map]; exact OK.out.nwords
    obtain ⟨AR, cR, rfl, _, hir⟩ := own_ints hv (by omega)
    have hTW := HT.out.aft (hI.aft.trans ha)
    have hro := readOk_iff.2 (dig_ok _ _ OK.out.lens hk)
    have HOP := Lib.hid (opened_any W T a1 a2 a3 a4 c1 c2 c3 c4 (dig (lensOf T) k) AR cR hTW hir OK.out hro)
    have HFD := Lib.hid (fun h => find_at (l := l) hk hI.none h)
    have HNO : Hid (keepsR T l (dig (lensOf T) k) = false → ∀ i, i < k + 1 → keepsR T l (dig (lensOf T) i) = false) := Lib.hid fun h i hi => by
      by_cases e : i = k
      · rw [e]; exact h
      · exact hI.none i (by omega)
    have HII := Lib.hid hI
    have HV : Hid (W.ownsRow W0.heap.size 3 1 (.slice AR (dig (lensOf T) k).length cR) (dig (lensOf T) k).length ((dig (lensOf T) k).map (Value.int .i64))) := Lib.hid hv
    have HAA := Lib.hid ha
    have hbW := hI.box.aft ha
    obtain ⟨k0, k1, k2, k3, k4⟩ := box_cells hbW
    have hltW := hbW.lt
    have HBW := Lib.hid hbW
    clear hTW hro hI hv ha hir hbW
    unfold keepsR at HFD HNO
    generalize hRR : dig (lensOf T) k = R at *
    clear hRR
    refine wpIn_block ?_
    refine wpIn_seq_k fun K1 H1 => ?_
    refine wpIn_region_of_list (by kernel_rfl) ?_
    go_wp2_with (go_at_call 74; refine HOP.out.mono ?_; rintro e w5 ⟨D, cs, rfl, hD, ha5, hbD, hgD⟩; have hd5 := hgD.desk hbD; have HD5 := Lib.hid hd5; have HA5 := Lib.hid ha5; have hb5 := HBW.out.aft ha5; have hlt5 := hb5.lt; obtain ⟨m0, m1, m2, m3, m4⟩ := box_cells hb5; clear hbD hgD hd5 ha5 HOP)
    change K1 _ _
    refine H1 _ _ ?_
    clear H1
    have hl5 : w5.cell? ⟨w.heap.size + 1, 0, none⟩ = some (.slice (some ⟨bl, ol, none⟩) l.length cl) := ((HII.out.line.aft HAA.out).aft HA5.out).cell 0
    have hl5' := ((HII.out.line.aft HAA.out).aft HA5.out).lt
    have hnl := OK.out.nlegs
    gi_wp2_with fail
    gi_loopw [38] (fun i wr => ∃ j m : Nat, i = .int .i64 j ∧ j ≤ T.legs.length ∧ keepsTo (leadsF T R) l j = true ∧ wr = w5.drewN m) (fun i _ => T.legs.length - (intOf i).toNat)
    case atStart => exact ⟨0, 0, rfl, by omega, rfl, rfl⟩
    case round =>
      obtain ⟨j, m, rfl, hj, hke, rfl⟩ := hrel
      have HKE := Lib.hid hke
      clear hke
      by_cases hjl : j < T.legs.length
      · have hk1 : j < l.length := by have := HLN.out; omega
        have hk2 : j + 1 < l.length := by have := HLN.out; omega
        obtain ⟨x, hx, hxp, hxd⟩ := int_bool HLL.out hk1
        obtain ⟨y, hy, hyp, hyd⟩ := int_bool HLL.out hk2
        have hsu := keepsTo_succ (leadsF T R) l j
        rw [hxd, hyd] at hsu
        have HSU := Lib.hid hsu
        have hai := HAI.out.aft (HII.out.aft.trans (HAA.out.trans HA5.out))
        obtain ⟨b', o', e, _, hcl⟩ := hai.at hk1
        cases e
        have cx : w5.cell? ⟨bl, ol + j, none⟩ = some (.int .i64 x) := by have := hcl j hk1; rwa [hx] at this
        have cy : w5.cell? ⟨bl, ol + (j + 1), none⟩ = some (.int .i64 y) := by have := hcl (j + 1) hk2; rwa [hy] at this
        have hdk := HD5.out.aft (Aft.drewN w5 m).then_drew
        have hp12 := OK.out.p2
        have hca := can_any D T a1 a2 a3 a4 c1 c2 c3 c4 (leadsF T R) j x y (w5.drewN m).drew hdk (by omega) (by omega) (by omega) (by omega) (by omega) (by omega)
        simp only [Int.toNat_natCast] at hca
        have i1 : (0 : Int) ≤ (j : Int) ∧ (j : Int) < (l.length : Int) := by omega
        have i2 : (0 : Int) ≤ ((j + 1 : Nat) : Int) ∧ ((j + 1 : Nat) : Int) < (l.length : Int) := by omega
        have w1' : IntKind.i64.wrap ((j : Int) + 1) = ((j + 1 : Nat) : Int) := by rw [IntWalk.i64_in _ (by omega)]; omega
        clear hsu hx hy hxd hyd hcl hai hdk hxp hyp hp12
        cases hf : leadsF T R j x y
        all_goals
          rw [hf] at hca HSU
          have HCA := Lib.hid (hca.mono (R' := fun e w'' => e = .returned _ ∧ w'' = (w5.drewN m).drew) fun _ _ ⟨h1, h2⟩ => ⟨h1, h2.symm⟩)
          clear hf hca
          have cx' : (w5.drewN m).drew.cell? ⟨bl, ol + j, none⟩ = some (.int .i64 x) := cx
          have cy' : (w5.drewN m).drew.cell? ⟨bl, ol + (j + 1), none⟩ = some (.int .i64 y) := cy
          have cl' : (w5.drewN m).drew.cell? ⟨w.heap.size + 1, 0, none⟩ = some (.slice (some ⟨bl, ol, none⟩) l.length cl) := hl5
          gi_wp2_with fail
          refine wpIn_region_tail' 12 (by kernel_rfl) (by kernel_rfl) (by kernel_rfl) ?_
          simp only [List.take_succ_cons, List.take_zero, List.drop_succ_cons, List.drop_zero]
          repeat (first | go_big_quiet_skip | (go_big_quiet_want; go_big_quiet_op; go_big_quiet_on))
          (go_big_quiet_want; go_big_quiet_op; refine ⟨_, HCA.out, ?_⟩; go_big_quiet_on)
          repeat (first | go_big_quiet_skip | (go_big_quiet_want; go_big_quiet_op; go_big_quiet_on))
          refine wpQuiet_nil ?_
          clear cx' cy' cl' HCA w1' i1 i2
          go_wp2_with fail
          refine OnlyN.normal ?_
          gi_wp2_with fail
        · change Kept3 w4.heap.size W (w5.drewN m).drew ∧ AgrI w T a1 a2 a3 a4 c1 c2 c3 c4 (some ⟨bl, ol, none⟩) l cl S (k + 1) (w5.drewN m).drew
          have hA7 := HA5.out.trans ((Aft.drewN w5 m).then_drew)
          have hA8 := HAA.out.trans hA7
          have hsz := HAA.out.size
          obtain ⟨v4, h4⟩ := HII.out.r4
          obtain ⟨v5, h5⟩ := HII.out.r5
          rw [hz4] at hB ⊢
          exact ⟨Kept3.of_aft hA7 (by omega), HII.out.aft.trans hA8, HII.out.box.aft hA8, HII.out.line.aft hA8, HII.out.box2.aft hA8, ⟨v4, h4.aft hA8⟩, ⟨v5, h5.aft hA8⟩, HNO.out (keepsTo_le (k := j + 1) (by omega) (by rw [HSU.out]; simp))⟩
        · exact ⟨⟨j + 1, m + 1, by go_num, by omega, by rw [HSU.out, HKE.out]; rfl, rfl⟩, by simp [intOf]; omega⟩
      · obtain rfl : j = T.legs.length := by omega
        obtain ⟨v4, h4⟩ := HII.out.r4
        obtain ⟨v5, h5⟩ := HII.out.r5
        have hA7 := HA5.out.trans (Aft.drewN w5 m)
        have hA8 := HAA.out.trans hA7
        have g4 := h4.aft hA8
        have g5 := h5.aft hA8
        have q4 : (w5.drewN m).cell? ⟨w.heap.size + 1 + 1, 0, none⟩ = some v4 := g4.cell 0
        have q5 : (w5.drewN m).cell? ⟨w.heap.size + 1 + 1 + 1, 0, none⟩ = some v5 := g5.cell 0
        have z4 : (w5.drewN m).frozen? ⟨w.heap.size + 1 + 1, 0, none⟩ = false := g4.frozen 0
        have z5 : (w5.drewN m).frozen? ⟨w.heap.size + 1 + 1 + 1, 0, none⟩ = false := g5.frozen 0
        have HG4 := Lib.hid g4
        have HG5 := Lib.hid g5
        have HA8 := Lib.hid hA8
        have HA7 := Lib.hid hA7
        clear g4 g5 hA8 hA7 h4 h5
        gi_wp2_with fail
        change Kept3 w4.heap.size W (((w5.drewN m).setCell ⟨w.heap.size + 2, 0, none⟩ (.slice AR R.length cR)).setCell ⟨w.heap.size + 3, 0, none⟩ (.int .i64 0)) ∧ Code.ret = .ret ∧ AgrX w T l S (((w5.drewN m).setCell ⟨w.heap.size + 2, 0, none⟩ (.slice AR R.length cR)).setCell ⟨w.heap.size + 3, 0, none⟩ (.int .i64 0))
        have hsz := HAA.out.size
        rw [hz4] at hB ⊢
        refine ⟨((Kept3.of_aft HA7.out (by omega)).setCell (.inl (by show w.heap.size + 2 < S + 1; omega)) _).setCell (.inl (by show w.heap.size + 3 < S + 1; omega)) _, rfl, ?_⟩
        refine ⟨((HII.out.aft.trans HA8.out).then_setCell (p := ⟨w.heap.size + 2, 0, none⟩) (by show w.heap.size ≤ w.heap.size + 2; omega) _).then_setCell (p := ⟨w.heap.size + 3, 0, none⟩) (by show w.heap.size ≤ w.heap.size + 3; omega) _,
          R, .slice AR R.length cR, HFD.out HKE.out, (HG4.out.store 0 _).far (by show w.heap.size + 2 ≠ w.heap.size + 3; omega) _, (HG5.out.far (by show w.heap.size + 3 ≠ w.heap.size + 2; omega) _).store 0 _, ?_⟩
        exact own_kept (own_kept (World.ownsRow.mono (own_aft HV.out HA7.out) (by omega)) (grownBy_setCell' (w5.drewN m) (w.heap.size + 2) _) (by omega)) (grownBy_setCell' _ (w.heap.size + 3) _) (by omega)
  case done =>
    intro D W hD hI hK
    obtain ⟨v4, h4⟩ := hI.r4
    obtain ⟨v5, h5⟩ := hI.r5
    have q4 : W.cell? ⟨w.heap.size + 1 + 1, 0, none⟩ = some v4 := h4.cell 0
    have q5 : W.cell? ⟨w.heap.size + 1 + 1 + 1, 0, none⟩ = some v5 := h5.cell 0
    have z4 : W.frozen? ⟨w.heap.size + 1 + 1, 0, none⟩ = false := h4.frozen 0
    have z5 : W.frozen? ⟨w.heap.size + 1 + 1 + 1, 0, none⟩ = false := h5.frozen 0
    have HA := Lib.hid hI.aft
    have HNN := Lib.hid (find_none hI.none)
    have HG4 := Lib.hid h4
    have HG5 := Lib.hid h5
    have HKD := Lib.hid hK
    have hDz : D = S + 1 := by omega
    clear hI h4 h5 hK hD
    go_wp2_with fail
    have hX4 := (HG4.out.store 0 (.slice none 0 0)).far (p := ⟨w.heap.size + 3, 0, none⟩) (by show w.heap.size + 2 ≠ w.heap.size + 3; omega) (.int .i64 7)
    have hX5 := (HG5.out.far (p := ⟨w.heap.size + 2, 0, none⟩) (by show w.heap.size + 3 ≠ w.heap.size + 2; omega) (.slice none 0 0)).store 0 (.int .i64 7)
    have hKX : ((W.setCell ⟨w.heap.size + 2, 0, none⟩ (.slice none 0 0)).setCell ⟨w.heap.size + 3, 0, none⟩ (.int .i64 7)).heap[D]? = some (.deferred (some [])) := (Below.heap_setCell _ _ _ D (by show D ≠ w.heap.size + 3; omega)).trans ((Below.heap_setCell _ _ _ D (by show D ≠ w.heap.size + 2; omega)).trans HKD.out)
    have hAX := ((HA.out.then_setCell (p := ⟨w.heap.size + 2, 0, none⟩) (by show w.heap.size ≤ w.heap.size + 2; omega) (.slice none 0 0)).then_setCell (p := ⟨w.heap.size + 3, 0, none⟩) (by show w.heap.size ≤ w.heap.size + 3; omega) (.int .i64 7)).grown (grownBy_putObj' _ D (.deferred none)) (fun k e => by cases e; omega)
    have y4 := (hX4.grown (grownBy_putObj' _ D (.deferred none)) (fun e => by cases e; omega)).cell 0
    have y5 := (hX5.grown (grownBy_putObj' _ D (.deferred none)) (fun e => by cases e; omega)).cell 0
    refine ⟨by simp, .inl ⟨_, _, rfl, run_takeDeferred hKX, ?_⟩⟩
    refine ⟨.tuple #[.slice none 0 0, .int .i64 7], ?_, ⟨hAX, .inl ⟨HNN.out, rfl⟩⟩⟩
    clear hX4 hX5 hKX hAX
    generalize (((W.setCell ⟨w.heap.size + 2, 0, none⟩ (.slice none 0 0)).setCell ⟨w.heap.size + 3, 0, none⟩ (.int .i64 7)).putObj D (.deferred none)) = X at *
    have y4' : X.cell? ⟨w.heap.size + 1 + 1, 0, none⟩ = some (.slice none 0 0) := y4
    have y5' : X.cell? ⟨w.heap.size + 1 + 1 + 1, 0, none⟩ = some (.int .i64 7) := y5
    simp [results, Try.results21, go_sem, y4', y5']
  case stop =>
    rintro D c W hD ⟨rfl, hX⟩ hK
    have hDz : D = S + 1 := by omega
    refine wpIn_ret ?_
    obtain ⟨ha, R, v, h1, h2, h3, h4⟩ := hX
    have hAX := ha.grown (grownBy_putObj' W D (.deferred none)) (fun k e => by cases e; omega)
    have y4 := (h2.grown (grownBy_putObj' W D (.deferred none)) (fun e => by cases e; omega)).cell 0
    have y5 := (h3.grown (grownBy_putObj' W D (.deferred none)) (fun e => by cases e; omega)).cell 0
    have hown := own_kept h4 (grownBy_putObj' W D (.deferred none)) (by omega)
    refine ⟨by simp, .inl ⟨_, _, rfl, run_takeDeferred hK, ?_⟩⟩
    refine ⟨.tuple #[v, .int .i64 0], ?_, ⟨hAX, .inr ⟨R, v, h1, rfl, World.ownsRow.mono hown (by omega)⟩⟩⟩
    have y4' : (W.putObj D (.deferred none)).cell? ⟨w.heap.size + 1 + 1, 0, none⟩ = some v := y4
    have y5' : (W.putObj D (.deferred none)).cell? ⟨w.heap.size + 1 + 1 + 1, 0, none⟩ = some (.int .i64 0) := y5
    clear y4 y5 hown hAX h4 h3 h2 ha
    generalize (W.putObj D (.deferred none)) = X at *
    simp [results, Try.results21, go_sem, y4', y5']
end Go.Proofs
end
