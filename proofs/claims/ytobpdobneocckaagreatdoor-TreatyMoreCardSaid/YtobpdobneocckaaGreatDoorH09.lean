/- Own texts, merged: WkW Rdg Xf It Few. -/
import Derived.Test.YtobpdobneocckaaGreatDoorH08
import Derived.Deep.LoopGhost
import Derived.Deep.Cut
set_option linter.unusedSimpArgs false
set_option linter.unusedVariables false
section
/- Walks: Breaks. -/
namespace Go.Proofs
open Go.RowKit

def breaksE (T : Treaty) (R l : List Int) : Int := if readE T R = 0 then (if linedB T l then (if hasB T.starts (l.getD 0 0) then 0 else 9) else 2) else readE T R
/-- of the first legs those that a line does not keep -/
def brkTo (f : Nat → Nat → Nat → Bool) (l : List Int) (k : Nat) : List Int := ((List.range k).filter fun i => !f i (l.getD i 0).toNat (l.getD (i + 1) 0).toNat).map (fun i : Nat => (i : Int))
theorem brkTo_succ (f : Nat → Nat → Nat → Bool) (l : List Int) (k : Nat) : brkTo f l (k + 1) = brkTo f l k ++ (if f k (l.getD k 0).toNat (l.getD (k + 1) 0).toNat then [] else [(k : Int)]) := by
  unfold brkTo
  rw [List.range_succ, List.filter_append, List.map_append]
  congr 1
  cases h : f k (l.getD k 0).toNat (l.getD (k + 1) 0).toNat <;> (simp only [List.filter_cons, List.filter_nil, h]; rfl)
theorem brkTo_le (f : Nat → Nat → Nat → Bool) (l : List Int) (k : Nat) : (brkTo f l k).length ≤ k := by
  unfold brkTo
  rw [List.length_map]
  have := List.length_filter_le (fun i => !f i (l.getD i 0).toNat (l.getD (i + 1) 0).toNat) (List.range k)
  simpa using this

/-- What Breaks answers. -/
def BreaksR (w : World) (T : Treaty) (R l : List Int) (e : Ending) (w' : World) : Prop :=
  Aft w w' ∧ ((breaksE T R l ≠ 0 ∧ e = .returned (.tuple #[.slice none 0 0, .int .i64 (breaksE T R l)])) ∨ (breaksE T R l = 0 ∧ ∃ v, e = .returned (.tuple #[v, .int .i64 0]) ∧ w'.ownsRow w.heap.size 3 1 v (brkTo (leadsF T R) l T.legs.length).length ((brkTo (leadsF T R) l T.legs.length).map (Value.int .i64))))

theorem int_bool {l : List Int} {p : Int} (h : ∀ x ∈ l, 0 ≤ x ∧ x < p) {k : Nat} (hk : k < l.length) : ∃ n : Nat, l[k] = n ∧ (n : Int) < p ∧ (l.getD k 0).toNat = n := by
  have := h _ (List.getElem_mem hk)
  obtain ⟨n, hn⟩ := Int.eq_ofNat_of_zero_le this.1
  refine ⟨n, hn, by omega, ?_⟩
  rw [List.getD_eq_getElem?_getD, List.getElem?_eq_getElem hk, Option.getD_some, hn]; simp

set_option maxRecDepth 100000 in
set_option maxHeartbeats 2000000 in
theorem breaks_any (w : World) (T : Treaty) (a1 a2 a3 a4 : Option Addr) (c1 c2 c3 c4 : Nat) (R : List Int) (AR : Option Addr) (cR : Nat) (l : List Int) (Al : Option Addr) (cl : Nat) (hT : TRep w T a1 a2 a3 a4) (hR : Ints w AR R) (hA : Ints w Al l) :
    Calls Tryz.prog 24 #[.agg #[.int .i64 T.places, .slice a1 T.ways.length c1, .slice a2 T.words.length c2, .slice a3 T.starts.length c3, .slice a4 T.legs.length c4], .slice AR R.length cR, .slice Al l.length cl] w (BreaksR w T R l) := by
  have hal := hA.len
  by_cases hre : readE T R = 0
  · have HC := Lib.hid (read_good (c1 := c1) (c2 := c2) (c3 := c3) (c4 := c4) (cR := cR) hT hR hre)
    have ok := checkE_ok (readE_zero.1 hre).1
    have hl := ok.nlegs
    obtain ⟨p, hpp⟩ := Int.eq_ofNat_of_zero_le (show 0 ≤ T.places by have := ok.p1; omega)
    have hp12 : p ≤ 12 := by have := ok.p2; omega
    have HPP := Lib.hid hpp
    clear hpp
    have HRE := Lib.hid hre
    have HLI := Lib.hid (fun (W : World) (h : Aft w W) => lined_any W T a1 a2 a3 a4 c1 c2 c3 c4 l Al cl (hA.aft h) ok.p1 ok.p2 ok.nlegs)
    clear hre ok
    cases hli : linedB T l
    · have HL := Lib.hid hli
      clear hli
      go_enter Tryz.func24, Tryz.ntmps24
      go_wp2_with (first
        | (go_at_call 69; refine HC.out.mono ?_; rintro e w1 ⟨D, cs, rfl, hrd⟩; have HRD := Lib.hid hrd; have k0 := hrd.at0; have k1 := hrd.at1; have k2 := hrd.at2; have k3 := hrd.at3; have k4 := hrd.at4; clear hrd)
        | (go_at_call 68; refine (HLI.out _ HRD.out.aft).mono ?_; rintro e w2 ⟨rfl, ha⟩; rw [HL.out]))
      go_ret2
      have hE : breaksE T R l = 2 := by unfold breaksE; rw [if_pos HRE.out, HL.out]; rfl
      exact ⟨HRD.out.aft.trans ha, .inl ⟨by rw [hE]; decide, by rw [hE]; rfl⟩⟩
    · have hL := linedB_iff.1 hli
      have hlen := hL.1
      have HLL := Lib.hid hL.2
      have HL := Lib.hid hli
      have HLN := Lib.hid hlen
      clear hli hL
      have hpos : 0 < l.length := by omega
      obtain ⟨n0, hn0, hn0p, hn0d⟩ := int_bool HLL.out hpos
      have HN0 := Lib.hid (show l.getD 0 0 = n0 by rw [List.getD_eq_getElem?_getD, List.getElem?_eq_getElem hpos, Option.getD_some, hn0])
      have h0l : (0 : Int) < (l.length : Int) := by omega
      clear hn0d hlen
      cases hst : hasB T.starts n0
      · have HS := Lib.hid hst
        clear hst
        go_enter Tryz.func24, Tryz.ntmps24
        go_wp2_with (first
          | (go_at_call 69; refine HC.out.mono ?_; rintro e w1 ⟨D, cs, rfl, hrd⟩; have HRD := Lib.hid hrd; have k0 := hrd.at0; have k1 := hrd.at1; have k2 := hrd.at2; have k3 := hrd.at3; have k4 := hrd.at4; clear hrd)
          | (go_at_call 68; refine (HLI.out _ HRD.out.aft).mono ?_; rintro e w2 ⟨rfl, ha⟩; rw [HL.out]))
        obtain ⟨bl, ol, rfl, hbl, hcl⟩ := (hA.aft (HRD.out.aft.trans ha)).at hpos
        have cL : w2.drew.cell? ⟨bl, ol, none⟩ = some (.int .i64 n0) := by have := hcl 0 hpos; rw [hn0] at this; exact this
        have k32 : w2.drew.cell? ⟨w.heap.size, 3, none⟩ = some (.slice a3 T.starts.length c3) := (HRD.out.later ha).at3
        have HCT := Lib.hid (show Calls Tryz.prog 60 #[.slice a3 T.starts.length c3, .int .i64 n0] w2.drew (fun e w' => e = .returned (.bool false) ∧ w' = w2.drew) from (contains_any a3 T.starts c3 n0 w2.drew ((hT.starts.aft (HRD.out.aft.trans ha)).aft (Aft.drew _))).mono fun _ _ ⟨h1, h2⟩ => ⟨by rw [h1, HS.out], h2.symm⟩)
        clear hcl k0 k1 k2 k3 k4 hn0
        refine wp_region_tail 7 (by kernel_rfl) (by kernel_rfl) ?_
        simp only [List.take_succ_cons, List.take_zero, List.drop_succ_cons, List.drop_zero]
        repeat (first | go_big_quiet_skip | (go_big_quiet_want; go_big_quiet_op; go_big_quiet_on))
        (go_big_quiet_want; go_big_quiet_op; refine ⟨_, HCT.out, ?_⟩; go_big_quiet_on)
        repeat (first | go_big_quiet_skip | (go_big_quiet_want; go_big_quiet_op; go_big_quiet_on))
        refine wpQuiet_nil ?_
        go_wp2_with fail
        go_ret2
        have hE : breaksE T R l = 9 := by unfold breaksE; rw [if_pos HRE.out, HL.out, HN0.out, HS.out]; rfl
        exact ⟨(HRD.out.aft.trans ha).then_drew, .inl ⟨by rw [hE]; decide, by rw [hE]; rfl⟩⟩
      · have HS := Lib.hid hst
        clear hst
        go_enter Tryz.func24, Tryz.ntmps24
        go_wp2_with (first
          | (go_at_call 69; refine HC.out.mono ?_; rintro e w1 ⟨D, cs, rfl, hrd⟩; have HRD := Lib.hid hrd; have k0 := hrd.at0; have k1 := hrd.at1; have k2 := hrd.at2; have k3 := hrd.at3; have k4 := hrd.at4; clear hrd)
          | (go_at_call 68; refine (HLI.out _ HRD.out.aft).mono ?_; rintro e w2 ⟨rfl, ha⟩; rw [HL.out]))
        obtain ⟨bl, ol, rfl, hbl, hcl⟩ := (hA.aft (HRD.out.aft.trans ha)).at hpos
        have cL : w2.drew.cell? ⟨bl, ol, none⟩ = some (.int .i64 n0) := by have := hcl 0 hpos; rw [hn0] at this; exact this
        have k32 : w2.drew.cell? ⟨w.heap.size, 3, none⟩ = some (.slice a3 T.starts.length c3) := (HRD.out.later ha).at3
        have k42 : w2.drew.cell? ⟨w.heap.size, 4, none⟩ = some (.slice a4 T.legs.length c4) := (HRD.out.later ha).at4
        have HCT := Lib.hid (show Calls Tryz.prog 60 #[.slice a3 T.starts.length c3, .int .i64 n0] w2.drew (fun e w' => e = .returned (.bool true) ∧ w' = w2.drew) from (contains_any a3 T.starts c3 n0 w2.drew ((hT.starts.aft (HRD.out.aft.trans ha)).aft (Aft.drew _))).mono fun _ _ ⟨h1, h2⟩ => ⟨by rw [h1, HS.out], h2.symm⟩)
        clear hcl k0 k1 k2 k3 k4 hn0
        refine wp_region_tail 7 (by kernel_rfl) (by kernel_rfl) ?_
        simp only [List.take_succ_cons, List.take_zero, List.drop_succ_cons, List.drop_zero]
        repeat (first | go_big_quiet_skip | (go_big_quiet_want; go_big_quiet_op; go_big_quiet_on))
        (go_big_quiet_want; go_big_quiet_op; refine ⟨_, HCT.out, ?_⟩; go_big_quiet_on)
        repeat (first | go_big_quiet_skip | (go_big_quiet_want; go_big_quiet_op; go_big_quiet_on))
        refine wpQuiet_nil ?_
        go_wp2_with fail
        have hrd3 := HRD.out.later ha.then_drew
        have hE : breaksE T R l = 0 := by unfold breaksE; rw [if_pos HRE.out, HL.out, HN0.out, HS.out]; rfl
        have HE := Lib.hid hE
        have HRD3 := Lib.hid hrd3
        clear hE hrd3 HRD HC HLI cL k32 k42 HCT ha
        generalize w2.drew = w3 at *
        go_loopw [11, 41] (fun v i wr => ∃ k : Nat, i = .int .i64 k ∧ k ≤ T.legs.length ∧ Aft w3 wr ∧ wr.ownsRow w3.heap.size 3 1 v (brkTo (leadsF T R) l k).length ((brkTo (leadsF T R) l k).map (Value.int .i64))) (fun _ i _ => T.legs.length - (intOf i).toNat)
        case atStart => exact ⟨0, rfl, by omega, Aft.refl _, World.ownsRow_nil _ _ 3 1⟩
        case round =>
          obtain ⟨k, rfl, hk, hw, hown⟩ := hrel
          have HO := Lib.hid hown
          clear hown
          by_cases hkl : k < T.legs.length
          · have hk1 : k < l.length := by have := HLN.out; omega
            have hk2 : k + 1 < l.length := by have := HLN.out; omega
            obtain ⟨x, hx, hxp, hxd⟩ := int_bool HLL.out hk1
            obtain ⟨y, hy, hyp, hyd⟩ := int_bool HLL.out hk2
            have hsu := brkTo_succ (leadsF T R) l k
            rw [hxd, hyd] at hsu
            have HSU := Lib.hid hsu
            have hle := brkTo_le (leadsF T R) l k
            have hai := (hA.aft (HRD3.out.aft.trans hw)).aft (Aft.drew wr)
            obtain ⟨b', o', e, _, hcl⟩ := hai.at hk1
            cases e
            have cx : wr.drew.cell? ⟨bl, ol + k, none⟩ = some (.int .i64 x) := by have := hcl k hk1; rwa [hx] at this
            have cy : wr.drew.cell? ⟨bl, ol + (k + 1), none⟩ = some (.int .i64 y) := by have := hcl (k + 1) hk2; rwa [hy] at this
            have hdk := (HRD3.out.later hw.then_drew).desk
            have hca := can_any D T a1 a2 a3 a4 c1 c2 c3 c4 (leadsF T R) k x y wr.drew hdk (by omega) (by omega) (by omega) (by rw [HPP.out] at hxp; omega) (by omega) (by rw [HPP.out] at hyp; omega)
            simp only [Int.toNat_natCast] at hca
            have i1 : (0 : Int) ≤ (k : Int) ∧ (k : Int) < (l.length : Int) := by omega
            have i2 : (0 : Int) ≤ ((k + 1 : Nat) : Int) ∧ ((k + 1 : Nat) : Int) < (l.length : Int) := by omega
            have w1' : IntKind.i64.wrap ((k : Int) + 1) = ((k + 1 : Nat) : Int) := by rw [IntWalk.i64_in _ (by omega)]; omega
            clear hsu hx hy hxd hyd hcl hai hdk hxp hyp
            cases hf : leadsF T R k x y
            all_goals
              rw [hf] at hca HSU
              have HCA := Lib.hid (hca.mono (R' := fun e w'' => e = .returned _ ∧ w'' = wr.drew) fun _ _ ⟨h1, h2⟩ => ⟨h1, h2.symm⟩)
              clear hf hca
              go_wp2_with fail
              refine wp_region_tail 12 (by kernel_rfl) (by kernel_rfl) ?_
              simp only [List.take_succ_cons, List.take_zero, List.drop_succ_cons, List.drop_zero]
              repeat (first | go_big_quiet_skip | (go_big_quiet_want; go_big_quiet_op; go_big_quiet_on))
              (go_big_quiet_want; go_big_quiet_op; refine ⟨_, HCA.out, ?_⟩; go_big_quiet_on)
              repeat (first | go_big_quiet_skip | (go_big_quiet_want; go_big_quiet_op; go_big_quiet_on))
              refine wpQuiet_nil ?_
              clear w1'
            · have F1 : w3.heap.size ≤ ((wr.alloc (.cells #[.int .i64 k] 3)).drew).heap.size := ((hw.then_alloc _).then_drew).size
              have F2 : ((wr.alloc (.cells #[.int .i64 k] 3)).drew).cell? ⟨wr.heap.size, 0, none⟩ = some (.int .i64 k) := by simp
              go_wp2_with (at_builtin; refine wpList_push rfl _ _ rfl (own_aft HO.out ((Aft.alloc _ _).then_drew)) F1 rfl rfl F2 (by omega) ?_; intro v' w5 hown5 hg5)
              have hlt : ∀ g, u11.ownBlock = some g → w3.heap.size ≤ g := fun g hg => (HO.out.lt g hg).1
              refine ⟨⟨k + 1, by go_num, by omega, (((hw.then_alloc _).then_drew).grown hg5 hlt), ?_⟩, by simp [intOf]; omega⟩
              rw [HSU.out]
              exact hown5
            · go_wp2_with fail
              refine ⟨⟨k + 1, by go_num, by omega, hw.then_drew, ?_⟩, by simp [intOf]; omega⟩
              rw [HSU.out]
              simpa using own_aft HO.out (Aft.drew _)
          · obtain rfl : k = T.legs.length := by omega
            go_wp2_with fail
            go_ret2
            exact ⟨HRD3.out.aft.trans hw, .inr ⟨HE.out, _, rfl, World.ownsRow.mono HO.out HRD3.out.aft.size⟩⟩
  · have hb : (readE T R != 0) = true := by simpa using hre
    have HC := Lib.hid (read_bad (c1 := c1) (c2 := c2) (c3 := c3) (c4 := c4) (cR := cR) hT hR hre)
    have HRE := Lib.hid hre
    clear hre
    go_enter Tryz.func24, Tryz.ntmps24
    go_wp2_with (go_at_call 69; refine HC.out.mono ?_; rintro e w' ⟨rfl, ha⟩)
    go_ret2
    have hE : breaksE T R l = readE T R := if_neg HRE.out
    exact ⟨ha, .inl ⟨by rw [hE]; exact HRE.out, by rw [hE]; rfl⟩⟩
end Go.Proofs
end

section
/- Plain: the readings of a treaty, in their order. -/
namespace Go.Proofs

def prodN : List Nat → Nat
  | [] => 1
  | n :: ns => n * prodN ns
/-- the digits of a number, the last one turning first -/
def dig : List Nat → Nat → List Int
  | [], _ => []
  | _ :: ns, k => ((k / prodN ns : Nat) : Int) :: dig ns (k % prodN ns)
/-- the next digits -/
def inc : List Nat → List Int → Option (List Int)
  | n :: ns, d :: ds => match inc ns ds with
    | some ds' => some (d :: ds')
    | none => if d = (n : Int) - 1 then none else some ((d + 1) :: ds.map fun _ => 0)
  | _, _ => none

theorem prodN_pos : ∀ {ns : List Nat}, (∀ n ∈ ns, 1 ≤ n) → 1 ≤ prodN ns
  | [], _ => Nat.le_refl _
  | n :: ns, h => Nat.mul_pos (h n (by simp)) (prodN_pos fun m hm => h m (by simp [hm]))
theorem dig_len : ∀ (ns : List Nat) (k : Nat), (dig ns k).length = ns.length
  | [], _ => rfl
  | _ :: ns, k => by simp [dig, dig_len ns]
theorem dig_zero : ∀ (ns : List Nat), dig ns 0 = ns.map fun _ => 0
  | [] => rfl
  | _ :: ns => by simp [dig, dig_zero ns]
theorem map_zero_len {α β : Type} : ∀ (l : List α) (l' : List β), l.length = l'.length → (l.map fun _ => (0 : Int)) = l'.map fun _ => 0
  | [], [], _ => rfl
  | _ :: l, _ :: l', h => by simp at h ⊢; have := map_zero_len l l' h; simpa using this
theorem inc_dig : ∀ (ns : List Nat) (k : Nat), (∀ n ∈ ns, 1 ≤ n) → k < prodN ns → inc ns (dig ns k) = if k + 1 < prodN ns then some (dig ns (k + 1)) else none
  | [], k, _, hk => by
    have : k = 0 := by unfold prodN at hk; omega
    subst this; rfl
  | n :: ns, k, h, hk => by
    have hp := prodN_pos (ns := ns) fun m hm => h m (by simp [hm])
    have ih := inc_dig ns (k % prodN ns) (fun m hm => h m (by simp [hm])) (Nat.mod_lt _ hp)
    have hk' : k < n * prodN ns := hk
    have hq : k / prodN ns < n := Nat.div_lt_of_lt_mul (by rwa [Nat.mul_comm] at hk')
    have hdm := Nat.div_add_mod k (prodN ns)
    have hml := Nat.mod_lt k hp
    show (match inc ns (dig ns (k % prodN ns)) with
      | some ds' => some (((k / prodN ns : Nat) : Int) :: ds')
      | none => if ((k / prodN ns : Nat) : Int) = (n : Int) - 1 then none else some ((((k / prodN ns : Nat) : Int) + 1) :: (dig ns (k % prodN ns)).map fun _ => 0)) = if k + 1 < n * prodN ns then some (((((k + 1) / prodN ns : Nat) : Int)) :: dig ns ((k + 1) % prodN ns)) else none
    rw [ih]
    generalize hQ : k / prodN ns = q at *
    generalize hR : k % prodN ns = r at *
    generalize hP : prodN ns = P at *
    have hmul : (q + 1) * P ≤ n * P := Nat.mul_le_mul_right _ hq
    have hqp : (q + 1) * P = P * q + P := by rw [Nat.add_mul, Nat.mul_comm]; omega
    by_cases e : r + 1 < P
    · rw [if_pos e]
      have e1 : (k + 1) / P = q := by
        rw [← hdm, Nat.add_assoc, Nat.mul_add_div hp, Nat.div_eq_of_lt e]; rfl
      have e2 : (k + 1) % P = r + 1 := by
        rw [← hdm, Nat.add_assoc, Nat.mul_add_mod, Nat.mod_eq_of_lt e]
      have h1 : k + 1 < n * P := by omega
      rw [if_pos h1, e1, e2]
    · rw [if_neg e]
      have er : r + 1 = P := by omega
      have ek : k + 1 = P * (q + 1) := by rw [Nat.mul_add]; omega
      by_cases eq : q + 1 = n
      · have h1 : ¬ k + 1 < n * P := by rw [ek, ← eq, Nat.mul_comm]; omega
        rw [if_neg h1]
        show (if (q : Int) = (n : Int) - 1 then none else _) = none
        rw [if_pos (by omega)]
      · have h2 : (q + 1 + 1) * P ≤ n * P := Nat.mul_le_mul_right _ (by omega)
        have h3 : (q + 1 + 1) * P = P * (q + 1) + P := by rw [Nat.add_mul, Nat.mul_comm]; omega
        have h4 : k + 1 < n * P := by omega
        rw [if_pos h4]
        show (if (q : Int) = (n : Int) - 1 then none else _) = _
        rw [if_neg (by omega), ek, Nat.mul_div_cancel_left _ hp, Nat.mul_mod_right, dig_zero, map_zero_len (dig ns r) ns (dig_len _ _)]
        rfl

theorem inc_none_step {ns : List Nat} {ds : List Int} {i : Nat} (hn : i < ns.length) (hd : i < ds.length) (h : inc (ns.drop (i + 1)) (ds.drop (i + 1)) = none) (e : ds[i] = (ns[i] : Int) - 1) : inc (ns.drop i) (ds.drop i) = none := by
  rw [List.drop_eq_getElem_cons hn, List.drop_eq_getElem_cons hd]
  unfold inc
  rw [h]
  simp [e]
theorem inc_some_step {ns : List Nat} {ds : List Int} {i : Nat} (hn : i < ns.length) (hd : i < ds.length) (h : inc (ns.drop (i + 1)) (ds.drop (i + 1)) = none) (e : ds[i] ≠ (ns[i] : Int) - 1) : inc (ns.drop i) (ds.drop i) = some ((ds[i] + 1) :: (ds.drop (i + 1)).map fun _ => 0) := by
  rw [List.drop_eq_getElem_cons hn, List.drop_eq_getElem_cons hd]
  unfold inc
  rw [h]
  simp [e]
theorem inc_front {x : List Int} : ∀ {ns : List Nat} {ds : List Int} {i : Nat}, i ≤ ns.length → i ≤ ds.length → inc (ns.drop i) (ds.drop i) = some x → inc ns ds = some (ds.take i ++ x)
  | ns, ds, 0, _, _, h => by simpa using h
  | [], _, i + 1, h, _, _ => by simp at h
  | _ :: _, [], i + 1, _, h, _ => by simp at h
  | n :: ns, d :: ds, i + 1, h1, h2, h => by
    have := inc_front (ns := ns) (ds := ds) (i := i) (by simpa using h1) (by simpa using h2) (by simpa using h)
    unfold inc
    rw [this]
    simp

def lensOf (T : Treaty) : List Nat := T.words.map List.length
/-- all readings, in their order -/
def readingsL (T : Treaty) : List (List Int) := (List.range (prodN (lensOf T))).map (dig (lensOf T))
theorem readingsL_len (T : Treaty) : (readingsL T).length = prodN (lensOf T) := by simp [readingsL]
theorem readingsL_get (T : Treaty) {k : Nat} (h : k < (readingsL T).length) : (readingsL T)[k] = dig (lensOf T) k := by simp [readingsL]
theorem foldl_prod (l : List (List Mean)) (n : Nat) : l.foldl (fun n w => n * w.length) n = n * prodN (l.map List.length) := by
  induction l generalizing n with
  | nil => simp [prodN]
  | cons w l ih => rw [List.foldl_cons, ih, List.map_cons, prodN, Nat.mul_assoc]
theorem prodLen_eq (T : Treaty) : prodLen T.words = prodN (lensOf T) := by unfold prodLen lensOf; rw [foldl_prod, Nat.one_mul]

/-- right digits -/
def DigOk : List Nat → List Int → Prop
  | [], [] => True
  | n :: ns, d :: ds => 0 ≤ d ∧ d < n ∧ DigOk ns ds
  | _, _ => False
theorem dig_ok : ∀ (ns : List Nat) (k : Nat), (∀ n ∈ ns, 1 ≤ n) → k < prodN ns → DigOk ns (dig ns k)
  | [], _, _, _ => trivial
  | n :: ns, k, h, hk => by
    have hp := prodN_pos (ns := ns) fun m hm => h m (by simp [hm])
    have hk' : k < n * prodN ns := hk
    refine ⟨Int.natCast_nonneg _, Int.ofNat_lt.2 (Nat.div_lt_of_lt_mul (by rwa [Nat.mul_comm] at hk')), dig_ok ns _ (fun m hm => h m (by simp [hm])) (Nat.mod_lt _ hp)⟩
theorem dig_onto : ∀ (ns : List Nat) (ds : List Int), DigOk ns ds → ∃ k, k < prodN ns ∧ dig ns k = ds
  | [], [], _ => ⟨0, Nat.zero_lt_one, rfl⟩
  | [], _ :: _, h => h.elim
  | _ :: _, [], h => h.elim
  | n :: ns, d :: ds, ⟨h0, h1, h2⟩ => by
    obtain ⟨k, hk, e⟩ := dig_onto ns ds h2
    obtain ⟨q, rfl⟩ := Int.eq_ofNat_of_zero_le h0
    have hq : q < n := by omega
    have hm : (q + 1) * prodN ns ≤ n * prodN ns := Nat.mul_le_mul_right _ hq
    have h3 : (q + 1) * prodN ns = prodN ns * q + prodN ns := by rw [Nat.add_mul, Nat.mul_comm]; omega
    refine ⟨prodN ns * q + k, by show _ < n * prodN ns; omega, ?_⟩
    show (((prodN ns * q + k) / prodN ns : Nat) : Int) :: dig ns ((prodN ns * q + k) % prodN ns) = _
    rw [Nat.mul_add_div (by omega), Nat.div_eq_of_lt hk, Nat.mul_add_mod, Nat.mod_eq_of_lt hk, e]
    rfl
theorem digOk_iff : ∀ (ws : List (List Mean)) (ds : List Int), DigOk (ws.map List.length) ds ↔ ds.length = ws.length ∧ ∀ k, (h : k < ds.length) → (h' : k < ws.length) → 0 ≤ ds[k] ∧ ds[k] < ws[k].length
  | [], [] => by simp [DigOk]
  | [], _ :: _ => by simp [DigOk]
  | _ :: _, [] => by simp [DigOk]
  | w :: ws, d :: ds => by
    have ih := digOk_iff ws ds
    show (0 ≤ d ∧ d < (w.length : Nat) ∧ DigOk (ws.map List.length) ds) ↔ _
    rw [ih]
    constructor
    · rintro ⟨h0, h1, h2, h3⟩
      refine ⟨by simp [h2], fun k h h' => ?_⟩
      cases k with
      | zero => exact ⟨h0, h1⟩
      | succ k => exact h3 k (by simpa using h) (by simpa using h')
    · rintro ⟨h2, h3⟩
      have := h3 0 (by simp) (by simp)
      exact ⟨this.1, this.2, by simpa using h2, fun k h h' => h3 (k + 1) (by simpa using h) (by simpa using h')⟩
theorem readOk_iff {T : Treaty} {R : List Int} : ReadOk T R ↔ DigOk (lensOf T) R := (digOk_iff T.words R).symm
theorem TOk.lens {T : Treaty} (ok : TOk T) : ∀ n ∈ lensOf T, 1 ≤ n := fun n hn => by
  obtain ⟨l, hl, rfl⟩ := List.mem_map.1 hn
  exact (ok.wlen l hl).1
theorem mem_readings {T : Treaty} (ok : TOk T) {R : List Int} : R ∈ readingsL T ↔ ReadOk T R := by
  rw [readOk_iff]
  unfold readingsL
  rw [List.mem_map]
  constructor
  · rintro ⟨k, hk, rfl⟩
    exact dig_ok _ _ ok.lens (List.mem_range.1 hk)
  · intro h
    obtain ⟨k, hk, e⟩ := dig_onto _ _ h
    exact ⟨k, List.mem_range.2 hk, e⟩
theorem readings_many {T : Treaty} (ok : TOk T) : (readingsL T).length ≤ 256 ∧ 1 ≤ (readingsL T).length := by
  rw [readingsL_len, ← prodLen_eq]
  exact ⟨ok.prod, by rw [prodLen_eq]; exact prodN_pos ok.lens⟩
end Go.Proofs
end

section
/- Walks: lists of lists cloned, and compared. -/
namespace Go.Proofs
open Go.RowKit


set_option maxRecDepth 100000 in
set_option maxHeartbeats 1000000 in
theorem equalAll_any (w : World) (A A' : Option Addr) (l l' : List (List Int)) (c c' : Nat) (hA : Lists w A l) (hA' : Lists w A' l') :
    Calls Tryz.prog 14 #[.slice A l.length c, .slice A' l'.length c'] w fun e w' => e = .returned (.bool (eqB l l')) ∧ Aft w w' := by
  have hl := hA.len
  have hl' := hA'.len
  go_enter Tryz.func14, Tryz.ntmps14
  go_wp2_with fail
  go_loopw [8] (fun i wr => ∃ k : Nat, i = .int .i64 k ∧ k ≤ l.length ∧ k ≤ l'.length ∧ (∀ j, (h : j < l.length) → (h' : j < l'.length) → j < k → l[j] = l'[j]) ∧ Aft w wr) (fun i _ => l.length - (intOf i).toNat)
  case atStart => exact ⟨0, rfl, by omega, by omega, fun j _ _ h => by omega, Aft.refl _⟩
  case round =>
    obtain ⟨k, rfl, hk, hk', hh, hw⟩ := hrel
    have HH := Lib.hid hh
    clear hh
    by_cases hkl : k < l.length
    · by_cases hkl' : k < l'.length
      · obtain ⟨b, o, rfl, hb, hc⟩ := (hA.aft hw.then_drew).at hkl
        obtain ⟨A1, c1, h1, h2⟩ := hc k hkl
        obtain ⟨b', o', rfl, hb', hc'⟩ := (hA'.aft hw.then_drew).at hkl'
        obtain ⟨A2, c2, h1', h2'⟩ := hc' k hkl'
        have HEQ := Lib.hid (kitEqual_int A1 A2 l[k] l'[k] c1 c2 wr.drew h2 h2')
        have HST := Lib.hid (show l[k] = l'[k] → ∀ j, (h : j < l.length) → (h' : j < l'.length) → j < k + 1 → l[j] = l'[j] from fun e j h h' hj => by
          by_cases e2 : j = k
          · subst e2; exact e
          · exact HH.out j h h' (by omega))
        have HNE := Lib.hid (show ¬ l[k] = l'[k] → eqB l l' = false from fun e => decide_eq_false fun e2 => e (by subst e2; rfl))
        have hge : decide (l'.length ≤ k) = false := by simp; omega
        have i1 : (0 : Int) ≤ (k : Int) ∧ (k : Int) < (l.length : Int) := by omega
        have i2 : (0 : Int) ≤ (k : Int) ∧ (k : Int) < (l'.length : Int) := by omega
        clear hc hc' h2 h2'
        generalize l[k] = r at *
        generalize l'[k] = r' at *
        cases he : eqB r r'
        all_goals
          rw [he] at HEQ
          have HE := Lib.hid he
          clear he
          go_wp2_with fail
          refine wp_region_tail 13 (by kernel_rfl) (by kernel_rfl) ?_
          simp only [List.take_succ_cons, List.take_zero, List.drop_succ_cons, List.drop_zero]
          repeat (first | go_big_quiet_skip | (go_big_quiet_want; go_big_quiet_op; go_big_quiet_on))
          refine wpQuiet_nil ?_
          go_wp2_with (go_at_call 27; refine HEQ.out.mono ?_; rintro e w2 ⟨rfl, ha⟩)
        · go_ret
          exact ⟨ret_bool (HNE.out (of_decide_eq_false HE.out)).symm, hw.then_drew.trans ha⟩
        · refine ⟨⟨k + 1, by go_num, by omega, by omega, HST.out (of_decide_eq_true HE.out), hw.then_drew.trans ha⟩, by simp [intOf]; omega⟩
      · have hge : decide (l'.length ≤ k) = true := by simp; omega
        go_wp2_with fail
        refine wp_region_tail 13 (by kernel_rfl) (by kernel_rfl) ?_
        simp only [List.take_succ_cons, List.take_zero, List.drop_succ_cons, List.drop_zero]
        repeat (first | go_big_quiet_skip | (go_big_quiet_want; go_big_quiet_op; go_big_quiet_on))
        refine wpQuiet_nil ?_
        go_wp2_with fail
        go_ret
        exact ⟨ret_bool (decide_eq_false fun e => by subst e; omega).symm, hw.then_drew⟩
    · go_wp2_with fail
      go_ret
      refine ⟨ret_bool ?_, hw⟩
      unfold eqB
      by_cases e : l.length = l'.length
      · rw [e]
        have : l = l' := eq_of_steps l l' (fun i h h' => HH.out i h h' (by omega)) e
        rw [decide_eq_true this]; simp
      · rw [decide_eq_false (fun e2 => e (by rw [e2]))]
        simp; omega
end Go.Proofs
end

section
/- Walks: the iterator over a treaty's readings. -/
namespace Go.Proofs
open Go.RowKit
attribute [local go_sem] Oper.semAt_some

/-- The treaty's words, in the box of the treaty that the iterator holds. -/
def RepW (bt : Nat) (T : Treaty) (a2 : Option Addr) (c2 : Nat) (W : World) : Prop := W.cell? ⟨bt, 2, none⟩ = some (.slice a2 T.words.length c2) ∧ RowsP W a2 1 WordR T.words
/-- The k-th reading, in memory that was made since. -/
def GivesR (T : Treaty) (k : Nat) (W0 W : World) (v : Value) : Prop := W.ownsRow W0.heap.size 3 1 v (dig (lensOf T) k).length ((dig (lensOf T) k).map (Value.int .i64))
def IterR (J : Nat → World → Prop) (Jx : World → Prop) (N : Nat) (e : Ending) (W : World) : Prop := (∃ v, e = .returned v) ∧ (J N W ∨ Jx W)
def YieldR' (J : Nat → World → Prop) (Jx : World → Prop) (B k : Nat) (W1 : World) (e : Ending) (W' : World) : Prop :=
  (e = .returned (.bool true) ∧ J (k + 1) W' ∧ W'.heap[B + 2]? = W1.heap[B + 2]? ∧ W1.heap.size ≤ W'.heap.size) ∨ (e = .returned (.bool false) ∧ Jx W')
/-- The digits in the iterator's block: those that are turned back are zero. -/
def Turned (ns : List Nat) (k i : Nat) (l : List Int) : Prop := l = (dig ns k).take i ++ ((dig ns k).drop i).map (fun _ => 0) ∧ inc (ns.drop i) ((dig ns k).drop i) = none

theorem Turned.start {ns : List Nat} {k n : Nat} (hn : ns.length = n) : Turned ns k n (dig ns k) := by
  have h1 : (dig ns k).length = n := by rw [dig_len, hn]
  refine ⟨?_, ?_⟩
  · rw [List.take_of_length_le (by omega), List.drop_of_length_le (by omega)]; simp
  · rw [List.drop_of_length_le (by omega), List.drop_of_length_le (by omega)]; rfl
theorem Turned.len {ns : List Nat} {k i : Nat} {l : List Int} (h : Turned ns k i l) : l.length = ns.length := by
  rw [h.1, List.length_append, List.length_map, ← List.length_append, List.take_append_drop, dig_len]
theorem Turned.get {ns : List Nat} {k j : Nat} {l : List Int} (h : Turned ns k (j + 1) l) (hl : j < l.length) (hd : j < (dig ns k).length) : l[j] = (dig ns k)[j] := by
  have h1 := h.1
  subst h1
  rw [List.getElem_append_left (by simp; omega)]
  simp
theorem Turned.step {ns : List Nat} {k j : Nat} {l : List Int} (h : Turned ns k (j + 1) l) (hn : j < ns.length) (hl : j < l.length) (e : l[j] = (ns[j] : Int) - 1) : Turned ns k j (l.set j 0) := by
  have hd : j < (dig ns k).length := by rw [dig_len]; exact hn
  have e2 := h.get hl hd
  refine ⟨?_, inc_none_step hn hd h.2 (by rw [← e2]; exact e)⟩
  have h1 := h.1
  clear e e2 hl
  subst h1
  rw [List.take_succ_eq_append_getElem hd, List.append_assoc, List.set_append_right _ _ (by simp; omega)]
  rw [List.drop_eq_getElem_cons hd]
  have e3 : j - ((dig ns k).take j).length = 0 := by simp; omega
  rw [e3]
  rfl
theorem Turned.done {ns : List Nat} {k j : Nat} {l : List Int} (h : Turned ns k (j + 1) l) (hp : ∀ n ∈ ns, 1 ≤ n) (hk : k < prodN ns) (hn : j < ns.length) (hl : j < l.length) (e : l[j] ≠ (ns[j] : Int) - 1) : k + 1 < prodN ns ∧ l.set j (l[j] + 1) = dig ns (k + 1) := by
  have hd : j < (dig ns k).length := by rw [dig_len]; exact hn
  have e2 := h.get hl hd
  rw [e2] at e
  have h3 := inc_front (by omega) (by omega) (inc_some_step hn hd h.2 e)
  rw [inc_dig ns k hp hk] at h3
  split at h3
  · rename_i hlt
    refine ⟨hlt, ?_⟩
    injection h3 with h4
    have h1 := h.1
    rw [e2]
    clear e2 hl
    subst h1
    rw [h4, List.take_succ_eq_append_getElem hd, List.append_assoc, List.set_append_right _ _ (by simp; omega)]
    have e3 : j - ((dig ns k).take j).length = 0 := by simp; omega
    rw [e3]
    simp
  · cases h3
theorem Turned.end_ {ns : List Nat} {k : Nat} {l : List Int} (h : Turned ns k 0 l) (hp : ∀ n ∈ ns, 1 ≤ n) (hk : k < prodN ns) : k + 1 = prodN ns := by
  have h2 := h.2
  rw [List.drop_zero, List.drop_zero, inc_dig ns k hp hk] at h2
  split at h2
  · cases h2
  · omega

/-- Behind the digits that are turned back. -/
def AfterT (ns : List Nat) (n k B : Nat) (W3 : World) (s4 : Value) (wx : World) : Prop :=
  ∃ (i : Nat) (cs' : Array Value), s4 = .int .i64 ((i : Int) - 1) ∧ Blk wx (B + 2) 3 cs' ∧ cs'.size = n ∧ W3.grownBy wx (some (B + 2)) ∧
    ((i = 0 ∧ k + 1 = prodN ns) ∨ (∃ (j : Nat) (x : Int), i = j + 1 ∧ j < n ∧ k + 1 < prodN ns ∧ cs'[j]? = some (.int .i64 x) ∧ 0 ≤ x ∧ x ≤ 10 ∧ Nums (cs'.setIfInBounds j (.int .i64 (x + 1))) (dig ns (k + 1))))

set_option maxRecDepth 100000 in
set_option maxHeartbeats 2000000 in
theorem iter109 (n bt B : Nat) (T : Treaty) (a2 : Option Addr) (c2 : Nat) (ok : TOk T) : IterOk n 106 #[.pointer (some ⟨bt, 0, none⟩)] B (prodN (lensOf T)) (GivesR T) (RepW bt T a2 c2) := by
  intro l J Jx W hsz hJ hrep hY h0
  have hlen : T.words.length ≤ 6 := ok.nwords
  have HL : Hid (∀ j, (h : j < (lensOf T).length) → (h' : j < T.words.length) → (lensOf T)[j] = T.words[j].length) := Lib.hid fun j h h' => by simp [lensOf]
  have hll : (lensOf T).length = T.words.length := by simp [lensOf]
  have HLL := Lib.hid hll
  have HOK := Lib.hid ok
  obtain ⟨r1, r2⟩ := hrep 0 W h0
  have HJ := Lib.hid hJ
  have HR := Lib.hid hrep
  have HY : Hid (∀ k v W0 W1, k < prodN (lensOf T) → J k W0 → Aft W0 W1 → B + 3 ≤ W0.heap.size → GivesR T k W0 W1 v → YieldAt Fence.wide (n - 1) Tryz.prog l #[v] W1 (YieldR' J Jx B k W1)) := Lib.hid hY
  have H0 := Lib.hid h0
  have HP : Hid (1 ≤ prodN (lensOf T)) := Lib.hid (prodN_pos ok.lens)
  clear hJ hrep hY h0 hll ok
  refine callsIn_wide.2 ?_
  show Calls Tryz.prog 106 #[.func (.yield l) #[] #[], .pointer (some ⟨bt, 0, none⟩)] W (IterR J Jx (prodN (lensOf T)))
  have hbt2 := r1
  clear r2
  obtain ⟨i0, hi0, hz0, hz1, hz2⟩ := info_parts (show (Tryz.prog.info? 3).map (fun i => (i.zero, i.size, i.bytes)) = some (some (.int .i64 0), 1, 8) by kernel_rfl)
  have HI := Lib.hid hi0
  have HZ0 := Lib.hid hz0
  have HZ1 := Lib.hid hz1
  have HZ2 := Lib.hid hz2
  clear hi0 hz0 hz1 hz2 r1
  go_enter Tryz.func106, Tryz.ntmps106
  go_upto_block 0 with (at_make; refine wpList_make_row _ rfl _ _ 24 rfl 3 i0 (.int .i64 0) Tryz.underlying24 HI.out HZ0.out HZ1.out rfl .i64 .i64 T.words.length rfl rfl (by rw [HZ2.out]; omega) (by omega) ?_)
  have HB0 := Lib.hid (Blk.new W 3 (madeCells #[Value.int .i64 0] T.words.length))
  have HA0 := Lib.hid (Aft.alloc W (.cells (madeCells #[Value.int .i64 0] T.words.length) 3))
  have hz3 : (W.alloc (.cells (madeCells #[Value.int .i64 0] T.words.length) 3)).heap.size = B + 3 := by simp [hsz]
  rw [hsz] at HB0
  have HSZ := Lib.hid hsz
  clear hsz
  have HJ0 : Hid (J 0 (W.alloc (.cells (madeCells #[Value.int .i64 0] T.words.length) 3))) := Lib.hid (HJ.out _ _ _ H0.out (only_of_aft HA0.out _))
  generalize W.alloc (.cells (madeCells #[Value.int .i64 0] T.words.length) 3) = W1 at *
  clear hbt2
  refine wp_block ?_
  go_loopg [] (prodN (lensOf T)) (fun gk wr => ∃ k cs, k + gk = prodN (lensOf T) ∧ k < prodN (lensOf T) ∧ J k wr ∧ Blk wr (B + 2) 3 cs ∧ Nums cs (dig (lensOf T) k) ∧ cs.size = T.words.length ∧ B + 3 ≤ wr.heap.size)
  case atStart =>
    have hd0 : (dig (lensOf T) 0).length = T.words.length := by rw [dig_len]; exact HLL.out
    refine ⟨0, _, by omega, by have := HP.out; omega, HJ0.out, HB0.out, ⟨by rw [size_madeCells, hd0]; exact Nat.le_refl _, fun t ht => ?_⟩, size_madeCells _ _, by omega⟩
    rw [hd0] at ht
    have e0 : (dig (lensOf T) 0)[t] = 0 := by simp [dig_zero]
    rw [e0]
    simp [madeCells, ht, Nat.mod_one]
  case round =>
    obtain ⟨k, cs, hkg, hkN, hj, hb, hn, hcs, hsz⟩ := hrel
    have hdl : (dig (lensOf T) k).length = T.words.length := by rw [dig_len]; exact HLL.out
    have hin : Ints wr (some ⟨B + 2, 0, none⟩) (dig (lensOf T) k) := ⟨by omega, .inr ⟨B + 2, 0, rfl, hb.lt, fun i hi => ⟨_, rfl, rfl, fun j hj => by
      have : j = 0 := by simp at hj; omega
      subst this
      have := hb.cell i
      rw [hn.2 i hi] at this
      simpa using this⟩⟩⟩
    have HC : Hid (Calls Tryz.prog 107 #[.slice (some ⟨B + 2, 0, none⟩) T.words.length T.words.length] wr (OwnInts wr (dig (lensOf T) k))) := Lib.hid (by
      have := clone84 _ _ T.words.length wr hin
      rwa [hdl] at this)
    have HYK := Lib.hid fun v W1 => HY.out k v wr W1 hkN hj
    have HB := Lib.hid hb
    have HN := Lib.hid hn
    have HCS := Lib.hid hcs
    have HKG := Lib.hid hkg
    have HSZ2 := Lib.hid hsz
    clear hdl hin hb hn hcs hkg hj hsz hz3
    go_upto_region 1 with (fail)
    refine (wpIn_wide (n := n)).1 ?_
    gi_wp2_with (refine ⟨trivial, (fun h => by cases h), ?_⟩; gi_at_call 107; refine (callsIn_wide.2 HC.out).mono ?_; rintro e w1 ⟨v, rfl, hown, ha⟩; obtain ⟨fn, tmps, assign, body, hy, hR⟩ := HYK.out v w1 ha HSZ2.out hown)
    refine ⟨(fun h => by cases h), hR.mono ?_⟩
    rintro e W3 (⟨rfl, hJ3, hk3, hs3⟩ | ⟨rfl, hJx3⟩)
    · have hb3 : Blk W3 (B + 2) 3 cs := hk3.trans (HB.out.aft ha)
      have hs3' : B + 3 ≤ W3.heap.size := Nat.le_trans HSZ2.out (Nat.le_trans ha.size hs3)
      clear hy hR hown HC HYK HB
      have HJ3 := Lib.hid hJ3
      have HB3 := Lib.hid hb3
      clear hJ3 hb3 hk3 hs3 ha
      have hdl : (dig (lensOf T) k).length = T.words.length := by rw [dig_len]; exact HLL.out
      have HDL := Lib.hid hdl
      clear hdl
      gi_wp2_with fail
      go_upto_block 2 with (fail)
      go_cut [4] from 17 (fun s4 wx => AfterT (lensOf T) T.words.length k B W3 s4 wx)
      case first =>
        go_wp2_with fail
        go_loopw [4] (fun s4 wx => ∃ (i : Nat) (l : List Int) (cs' : Array Value), s4 = .int .i64 ((i : Int) - 1) ∧ i ≤ T.words.length ∧ Blk wx (B + 2) 3 cs' ∧ Nums cs' l ∧ cs'.size = T.words.length ∧ Turned (lensOf T) k i l ∧ W3.grownBy wx (some (B + 2))) (fun s4 _ => (intOf s4 + 1).toNat)
        case atStart => exact ⟨T.words.length, _, cs, rfl, Nat.le_refl _, HB3.out, HN.out, HCS.out, Turned.start HLL.out, only_refl _ _⟩
        case round =>
          obtain ⟨i, l', cs', rfl, hi, hb', hn', hcs', ht, hg⟩ := hrel
          have HB' := Lib.hid hb'
          have HN' := Lib.hid hn'
          have HCS' := Lib.hid hcs'
          have HT := Lib.hid ht
          have HG := Lib.hid hg
          clear hb' hn' hcs' ht hg
          by_cases hi0 : i = 0
          · subst hi0
            have em : (((0 : Nat) : Int) - 1) = -1 := rfl
            rw [em]
            clear em
            go_wp2_with fail
            go_quiet (fail)
            go_wp2_with fail
            go_meet
            case rel => exact ⟨0, cs', rfl, HB'.out.drewN _, HCS'.out, only_drewN HG.out _, .inl ⟨rfl, HT.out.end_ HOK.out.lens hkN⟩⟩
          · obtain ⟨j, rfl⟩ : ∃ j, i = j + 1 := ⟨i - 1, by omega⟩
            have em : (((j + 1 : Nat) : Int) - 1) = (j : Int) := by omega
            rw [em]
            have hrep := HR.out (k + 1) _ (HJ.out _ _ _ HJ3.out HG.out)
            have hj : j < T.words.length := by omega
            obtain ⟨r1, r2⟩ := hrep
            obtain ⟨bw, ow, rfl, hbw, hcw⟩ := r2.at hj
            obtain ⟨vs, v1, ⟨Aw, cw, rfl, -⟩, v3⟩ := hcw j hj
            have r3 : wr.cell? ⟨bw, ow + j, none⟩ = some (.slice Aw T.words[j].length cw) := by have := v3 0 (by simp); simpa using this
            have hjl : j < (lensOf T).length := by rw [HLL.out]; exact hj
            have hll' := HT.out.len
            have hjl' : j < l'.length := by omega
            have hdj : j < (dig (lensOf T) k).length := by rw [dig_len]; exact hjl
            obtain ⟨x0, x1⟩ := (readOk_iff.2 (dig_ok _ _ HOK.out.lens hkN)).2 j hdj hj
            have hwl := HOK.out.wlen _ (List.getElem_mem hj)
            have HGT := Lib.hid (HT.out.get hjl' hdj)
            have HLJ := Lib.hid (HL.out j hjl hj)
            have HST := Lib.hid (fun e => HT.out.step hjl hjl' e)
            have HDN := Lib.hid (fun e => HT.out.done HOK.out.lens hkN hjl hjl' e)
            have HNS := Lib.hid (fun y => HN'.out.set j y)
            have c1 : wr.cell? ⟨B + 2, j, none⟩ = some (.int .i64 l'[j]) := (HB'.out.cell j).trans (HN'.out.2 j hjl')
            have HCX : Hid (cs'[j]? = some (.int .i64 l'[j])) := Lib.hid (HN'.out.2 j hjl')
            have c2 := HB'.out.frozen j
            rw [← HGT.out] at x0 x1
            rw [HLJ.out] at HST HDN
            clear hcw v1 v3 r2 hll' HGT HLJ
            generalize l'[j] = x at *
            generalize T.words[j].length = m at *
            have i1 : (0 : Int) ≤ (j : Int) ∧ (j : Int) < (T.words.length : Int) := by omega
            by_cases hx : x = (m : Int) - 1
            · have t1 : (x == (m : Int) - 1) = true := by simpa using hx
              have HST2 := Lib.hid (HST.out hx)
              clear hx HDN HST
              go_wp2_with fail
              go_quiet (fail)
              go_wp2_with fail
              refine ⟨⟨j, _, _, rfl, by omega, (HB'.out.drewN _).store j _, HNS.out 0, by simpa using HCS'.out, HST2.out, only_setCell (only_drewN HG.out _) (.inl rfl) _⟩, by simp [intOf]⟩
            · have t1 : (x == (m : Int) - 1) = false := by simpa using hx
              obtain ⟨d1, d2⟩ := HDN.out hx
              have HNS2 := Lib.hid (HNS.out (x + 1))
              rw [d2] at HNS2
              clear hx HDN HST d2
              go_wp2_with fail
              go_quiet (fail)
              go_wp2_with fail
              go_meet
              case rel => exact ⟨j + 1, cs', by rw [em], HB'.out.drewN _, HCS'.out, only_drewN HG.out _, .inr ⟨j, x, rfl, hj, d1, HCX.out, x0, by omega, HNS2.out⟩⟩
      case rest =>
        obtain ⟨i, cs', rfl, hb', hcs', hg, (⟨rfl, he⟩ | ⟨j, x, rfl, hj, hk1, hcx, x0, x1, hn'⟩)⟩ := hcut
        · have HE := Lib.hid he
          have HG := Lib.hid hg
          clear he hg hb' hcs'
          have em : (((0 : Nat) : Int) - 1) = -1 := rfl
          rw [em]
          clear em
          go_wp2_with fail
          go_end0
          exact ⟨⟨_, rfl⟩, .inl (by rw [← HE.out]; exact HJ.out _ _ _ HJ3.out HG.out)⟩
        · have em : (((j + 1 : Nat) : Int) - 1) = (j : Int) := by omega
          rw [em]
          clear em
          have HB' := Lib.hid hb'
          have HN' := Lib.hid hn'
          have HCS' := Lib.hid hcs'
          have HG := Lib.hid hg
          have c1 : wc.cell? ⟨B + 2, j, none⟩ = some (.int .i64 x) := (hb'.cell j).trans hcx
          have c2 := hb'.frozen j
          have i1 : (0 : Int) ≤ (j : Int) ∧ (j : Int) < (T.words.length : Int) := by omega
          clear hb' hn' hcs' hg hcx
          go_wp2_with fail
          go_roundg (gk - 1)
          case measure => have := HKG.out; omega
          case rel => exact ⟨k + 1, _, by have := HKG.out; omega, hk1, HJ.out _ _ _ HJ3.out (only_setCell HG.out (.inl rfl) _), HB'.out.store j _, HN'.out, by simpa using HCS'.out, by have := HG.out.size; simp; omega⟩
    · gi_wp2_with fail
      go_wp2_with fail
      go_end0
      exact ⟨⟨_, rfl⟩, .inr hJx3⟩
end Go.Proofs
end

section
/- Walks: the maker of the iterator; Fewest. -/
namespace Go.Proofs
open Go.RowKit
attribute [local go_sem] Oper.semAt_some

theorem readings_any (T : Treaty) (a1 a2 a3 a4 : Option Addr) (c1 c2 c3 c4 : Nat) (w : World) : Calls Tryz.prog 48 #[.agg #[.int .i64 T.places, .slice a1 T.ways.length c1, .slice a2 T.words.length c2, .slice a3 T.starts.length c3, .slice a4 T.legs.length c4]] w fun e w' => e = .returned (.func (.func 106) #[] #[.pointer (some ⟨w.heap.size, 0, none⟩)]) ∧ w' = w.alloc (.cells #[.int .i64 T.places, .slice a1 T.ways.length c1, .slice a2 T.words.length c2, .slice a3 T.starts.length c3, .slice a4 T.legs.length c4] 27) := by
  go_enter Tryz.func48, Tryz.ntmps48
  go_wp2_with fail
  go_ret
  exact ⟨rfl, rfl⟩

theorem GivesR.put {T : Treaty} {k : Nat} {W0 W : World} {v : Value} (h : GivesR T k W0 W v) {r : Nat} (hr : r < W0.heap.size) (o : Obj) : GivesR T k (W0.putObj r o) (W.putObj r o) v := by
  unfold GivesR at h ⊢
  have hs : (W0.putObj r o).heap.size = W0.heap.size := by simp [World.putObj]
  rw [hs]
  refine h.kept (grownBy_putObj' W r o) ?_
  cases hb : v.ownBlock with
  | none => exact .inl rfl
  | some g => exact .inr fun e => by cases e; have := own_ge h _ hb; omega

/-- What a reading costs: how few legs must yield. -/
noncomputable def costL (T : Treaty) (R : List Int) : Int := flo T (leadsF T R) T.legs.length (lastAt T (leadsF T R))
noncomputable def fewStep (T : Treaty) (x : List Int × Int) (R : List Int) : List Int × Int := if costL T R < x.2 then (R, costL T R) else x
/-- The best of the first readings, and what it costs. -/
noncomputable def fewK (T : Treaty) (k : Nat) : List Int × Int := ((readingsL T).take k).foldl (fewStep T) ([], 11)
theorem fewK_succ (T : Treaty) {k : Nat} (h : k < prodN (lensOf T)) : fewK T (k + 1) = fewStep T (fewK T k) (dig (lensOf T) k) := by
  have h' : k < (readingsL T).length := by rw [readingsL_len]; exact h
  unfold fewK
  rw [List.take_succ_eq_append_getElem h', List.foldl_append, readingsL_get]
  rfl

/-- What Fewest answers. -/
def FewestR (w : World) (T : Treaty) (e : Ending) (w' : World) : Prop :=
  Aft w w' ∧ ((checkE T ≠ 0 ∧ e = .returned (.tuple #[.slice none 0 0, .int .i64 0, .int .i64 (checkE T)])) ∨
    (checkE T = 0 ∧ ∃ v, e = .returned (.tuple #[v, .int .i64 (fewK T (prodN (lensOf T))).2, .int .i64 0]) ∧ w'.ownsRow w.heap.size 3 1 v (fewK T (prodN (lensOf T))).1.length ((fewK T (prodN (lensOf T))).1.map (Value.int .i64))))

/-- Between two rounds of Fewest. -/
structure FewI (w : World) (T : Treaty) (a1 a2 a3 a4 : Option Addr) (c1 c2 c3 c4 : Nat) (S k : Nat) (W : World) : Prop where
  aft : Aft w W
  box : Blk W w.heap.size 27 #[.int .i64 T.places, .slice a1 T.ways.length c1, .slice a2 T.words.length c2, .slice a3 T.starts.length c3, .slice a4 T.legs.length c4]
  box2 : Blk W (S + 2) 27 #[.int .i64 T.places, .slice a1 T.ways.length c1, .slice a2 T.words.length c2, .slice a3 T.starts.length c3, .slice a4 T.legs.length c4]
  many : Blk W (S + 1) 3 #[.int .i64 (fewK T k).2]
  best : ∃ v, Blk W S 24 #[v] ∧ W.ownsRow (S + 6) 3 1 v (fewK T k).1.length ((fewK T k).1.map (Value.int .i64))
theorem FewI.three {w : World} {T : Treaty} {a1 a2 a3 a4 : Option Addr} {c1 c2 c3 c4 : Nat} {S : Nat} (hS : w.heap.size < S) : Three (S + 3) (fun k W => FewI w T a1 a2 a3 a4 c1 c2 c3 c4 S k W) := by
  rintro k W W' r ⟨h1, h2, h3, h4, v, h5, h6⟩ hg hr1 hr2
  refine ⟨h1.grown hg (fun k e => by cases e; omega), h2.grown hg (fun e => by cases e; omega), h3.grown hg (fun e => by cases e; omega), h4.grown hg (fun e => by cases e; omega), v, h5.grown hg (fun e => by cases e; omega), h6.kept hg ?_⟩
  cases hb : v.ownBlock with
  | none => exact .inl rfl
  | some g => exact .inr fun e => by cases e; have := own_ge h6 _ hb; omega
theorem box_cells {W : World} {g : Nat} {T : Treaty} {a1 a2 a3 a4 : Option Addr} {c1 c2 c3 c4 : Nat} (h : Blk W g 27 #[.int .i64 T.places, .slice a1 T.ways.length c1, .slice a2 T.words.length c2, .slice a3 T.starts.length c3, .slice a4 T.legs.length c4]) :
    W.cell? ⟨g, 0, none⟩ = some (.int .i64 T.places) ∧ W.cell? ⟨g, 1, none⟩ = some (.slice a1 T.ways.length c1) ∧ W.cell? ⟨g, 2, none⟩ = some (.slice a2 T.words.length c2) ∧ W.cell? ⟨g, 3, none⟩ = some (.slice a3 T.starts.length c3) ∧ W.cell? ⟨g, 4, none⟩ = some (.slice a4 T.legs.length c4) :=
  ⟨h.cell 0, h.cell 1, h.cell 2, h.cell 3, h.cell 4⟩

set_option maxRecDepth 100000 in
set_option maxHeartbeats 2000000 in
theorem fewest_any (w : World) (T : Treaty) (a1 a2 a3 a4 : Option Addr) (c1 c2 c3 c4 : Nat) (hT : TRep w T a1 a2 a3 a4) : Calls Tryz.prog 38 #[.agg #[.int .i64 T.places, .slice a1 T.ways.length c1, .slice a2 T.words.length c2, .slice a3 T.starts.length c3, .slice a4 T.legs.length c4]] w (FewestR w T) := by
  by_cases hc : checkE T = 0
  · have ok := checkE_ok hc
    have HC := Lib.hid hc
    have HT := Lib.hid hT
    clear hc hT
    have HCK : Hid (∀ W, Aft w W → Calls Tryz.prog 37 #[.agg #[.int .i64 T.places, .slice a1 T.ways.length c1, .slice a2 T.words.length c2, .slice a3 T.starts.length c3, .slice a4 T.legs.length c4]] W fun e w' => e = .returned (.int .i64 (checkE T)) ∧ Aft W w') := Lib.hid fun W ha => check_any T a1 a2 a3 a4 c1 c2 c3 c4 W (HT.out.aft ha)
    rw [HC.out] at HCK
    refine (callsIn_wide (n := 5)).1 ?_
    refine callsIn_of_wp_marks Tryz.func38 rfl trivial ?_ rfl
    simp only [Tryz.ntmps38, List.size_toArray, List.length_cons, List.length_nil, Nat.reduceAdd, Nat.reduceSub, Array.replicate_succ, Array.replicate_zero, List.push_toArray, List.append_toArray, List.nil_append, List.cons_append]
    refine wpIn_wide.2 ?_
    go_upto_block 0 with (first
      | (go_at_call 37; refine (HCK.out _ (Aft.alloc _ _)).mono ?_; rintro e w1 ⟨rfl, ha1⟩; have hb1 := (Blk.new w 27 _).aft ha1; have hlt1 := hb1.lt; obtain ⟨k0, k1, k2, k3, k4⟩ := box_cells hb1)
      | (go_at_call 48; refine (readings_any T a1 a2 a3 a4 c1 c2 c3 c4 _).mono ?_; rintro e w4 ⟨rfl, rfl⟩))
    have hA4 : Aft w (((w1.alloc (.cells #[.slice none 0 0] 24)).alloc (.cells #[.int .i64 11] 3)).alloc (.cells #[.int .i64 T.places, .slice a1 T.ways.length c1, .slice a2 T.words.length c2, .slice a3 T.starts.length c3, .slice a4 T.legs.length c4] 27)) := ((((Aft.alloc w _).trans ha1).then_alloc _).then_alloc _).then_alloc _
    have hb4 := ((hb1.alloc (.cells #[.slice none 0 0] 24)).alloc (.cells #[.int .i64 11] 3)).alloc (.cells #[.int .i64 T.places, .slice a1 T.ways.length c1, .slice a2 T.words.length c2, .slice a3 T.starts.length c3, .slice a4 T.legs.length c4] 27)
    have hc4 := ((Blk.new w1 24 #[.slice none 0 0]).alloc (.cells #[.int .i64 11] 3)).alloc (.cells #[.int .i64 T.places, .slice a1 T.ways.length c1, .slice a2 T.words.length c2, .slice a3 T.starts.length c3, .slice a4 T.legs.length c4] 27)
    have hd4 := (Blk.new (w1.alloc (.cells #[.slice none 0 0] 24)) 3 #[.int .i64 11]).alloc (.cells #[.int .i64 T.places, .slice a1 T.ways.length c1, .slice a2 T.words.length c2, .slice a3 T.starts.length c3, .slice a4 T.legs.length c4] 27)
    have he4 := Blk.new ((w1.alloc (.cells #[.slice none 0 0] 24)).alloc (.cells #[.int .i64 11] 3)) 27 #[.int .i64 T.places, .slice a1 T.ways.length c1, .slice a2 T.words.length c2, .slice a3 T.starts.length c3, .slice a4 T.legs.length c4]
    have hz4 : (((w1.alloc (.cells #[.slice none 0 0] 24)).alloc (.cells #[.int .i64 11] 3)).alloc (.cells #[.int .i64 T.places, .slice a1 T.ways.length c1, .slice a2 T.words.length c2, .slice a3 T.starts.length c3, .slice a4 T.legs.length c4] 27)).heap.size = w1.heap.size + 3 := by simp
    simp only [World.size_alloc] at hd4 he4
    clear k0 k1 k2 k3 k4 hb1 ha1
    generalize (((w1.alloc (.cells #[.slice none 0 0] 24)).alloc (.cells #[.int .i64 11] 3)).alloc (.cells #[.int .i64 T.places, .slice a1 T.ways.length c1, .slice a2 T.words.length c2, .slice a3 T.starts.length c3, .slice a4 T.legs.length c4] 27)) = w4 at *
    generalize w1.heap.size = S at *
    have HI0 : Hid (FewI w T a1 a2 a3 a4 c1 c2 c3 c4 S 0 w4) := Lib.hid ⟨hA4, hb4, he4, hd4, _, hc4, World.ownsRow_nil _ _ 3 1⟩
    clear hA4 hb4 hc4 hd4 he4
    refine wp_block ?_
    refine (wpIn_wide (n := 5)).1 ?_
    refine wpIn_range3 (gf := 106) (lb := #[.pointer (some ⟨S + 1 + 1, 0, none⟩)]) rfl (fun args w => by simp [go_sem]) (iter109 _ (S + 1 + 1) _ T a2 c2 ok) (fun k W0 W v r o h hr => h.put hr o)
      (fun k W => FewI w T a1 a2 a3 a4 c1 c2 c3 c4 S k W) (fun _ _ => False) (by rw [hz4]; exact FewI.three hlt1) (fun _ _ _ _ _ h _ _ _ => h) (fun k W h => ⟨(box_cells h.box2).2.2.1, (HT.out.aft h.aft).words⟩) HI0.out
      (fun v => { tmps := #[.agg #[.int .i64 T.places, .slice a1 T.ways.length c1, .slice a2 T.words.length c2, .slice a3 T.starts.length c3, .slice a4 T.legs.length c4], .pointer (some ⟨w.heap.size, 0, none⟩), .slice none 0 0, .int .i64 0, .int .i64 0, .int .i64 0, .pointer (some ⟨S, 0, none⟩), .pointer (some ⟨S + 1, 0, none⟩), v, undef, undef, undef, .agg #[.int .i64 T.places, .slice a1 T.ways.length c1, .slice a2 T.words.length c2, .slice a3 T.starts.length c3, .slice a4 T.legs.length c4], .int .i64 0, .int .i64 0, .bool false, undef, .agg #[.int .i64 T.places, .slice a1 T.ways.length c1, .slice a2 T.words.length c2, .slice a3 T.starts.length c3, .slice a4 T.legs.length c4], .func (.func 106) #[] #[.pointer (some ⟨S + 1 + 1, 0, none⟩)], v, undef, undef, undef, undef, undef, undef, undef, undef, undef, undef, undef, undef, undef, undef, undef, undef, undef, undef, undef, undef, undef, undef, undef], defers := [] }) ?assign ?body ?done ?stop
    case assign =>
      intro l v W K hK
      gi_wp2_with fail
      exact hK
    case body =>
      intro l k v W0 W hk hI ha hB hv
      have hdl : (dig (lensOf T) k).length ≤ 6 := by rw [dig_len]; simp only [lensOf, List.length_map]; exact ok.nwords
      obtain ⟨AR, cR, rfl, _, hir⟩ := own_ints hv (by omega)
      have hTW := HT.out.aft (hI.aft.trans ha)
      have hro := readOk_iff.2 (dig_ok _ _ ok.lens hk)
      have HOP := Lib.hid (opened_any W T a1 a2 a3 a4 c1 c2 c3 c4 (dig (lensOf T) k) AR cR hTW hir ok hro)
      have HFS := Lib.hid (fewK_succ T hk)
      have HII := Lib.hid hI
      have HV : Hid (W.ownsRow W0.heap.size 3 1 (.slice AR (dig (lensOf T) k).length cR) (dig (lensOf T) k).length ((dig (lensOf T) k).map (Value.int .i64))) := Lib.hid hv
      have HAA := Lib.hid ha
      have hbW := hI.box.aft ha
      obtain ⟨k0, k1, k2, k3, k4⟩ := box_cells hbW
      have hltW := hbW.lt
      have hmW : W.cell? ⟨S + 1, 0, none⟩ = some (.int .i64 (fewK T k).2) := (hI.many.aft ha).cell 0
      have hmlt := (hI.many.aft ha).lt
      have hbB := hI.box
      have HBW := Lib.hid hbW
      have OK := Lib.hid ok
      clear hTW hro hI hv ha hir hbW ok hbB
      generalize dig (lensOf T) k = R at *
      have HFL := Lib.hid (fun (w5 : World) (D : Nat) (ha5 : Aft W w5) (hd : Desk w5 D T a1 a2 a3 a4 c1 c2 c3 c4 (leadsF T R)) => floors_any D T a1 a2 a3 a4 c1 c2 c3 c4 (leadsF T R) w5 hd (HT.out.starts.aft ((HII.out.aft.trans HAA.out).trans ha5)) OK.out.p1 OK.out.p2 OK.out.nlegs)
      gi_wp2_with (first
        | ((with_reducible refine And.intro ?_ ?_); (exact trivial); gi_at_call 49; refine (CallsIn.inRound l (callsIn_wide.2 HOP.out)).mono ?_; rintro e w5 ⟨D, cs, rfl, hD, ha5, hbD, hgD⟩; have hd5 := hgD.desk hbD; have HD5 := Lib.hid hd5; have HA5 := Lib.hid ha5; clear hbD hgD hd5 ha5 HOP)
        | ((with_reducible refine And.intro ?_ ?_); (exact trivial); gi_at_call 93; refine (CallsIn.inRound l (callsIn_wide.2 (HFL.out w5 D HA5.out HD5.out))).mono ?_; rintro e w6 ⟨L, cs2, g, rfl, hbL, hgL, hgf, hL, ha6⟩; have HBL := Lib.hid hbL; have HGL := Lib.hid hgL; have HGF := Lib.hid hgf; have HA6 := Lib.hid ha6; have HD6 := Lib.hid (HD5.out.aft ha6); clear hbL hgL hgf ha6 HFL HD5))
      have HAW := Lib.hid (HA5.out.trans HA6.out)
      have hb6 := HBW.out.aft HAW.out
      have hlt6 := hb6.lt
      have hL6 := HBL.out.lt
      have hS6 := Nat.lt_of_lt_of_le hmlt HAW.out.size
      obtain ⟨k0', k1', k2', k3', k4'⟩ := box_cells hb6
      have hm6 : w6.cell? ⟨S + 1, 0, none⟩ = some (.int .i64 (fewK T k).2) := cell_aftX HAW.out hmlt hmW
      have hnl := OK.out.nlegs
      have hp1 := OK.out.p1
      have hp2 := OK.out.p2
      obtain ⟨p, hpp⟩ := Int.eq_ofNat_of_zero_le (show 0 ≤ T.places by omega)
      have hb0 : argmin (g T.legs.length) T.places.toNat = lastAt T (leadsF T R) := argmin_congr (fun j hj => HGF.out _ j (Nat.le_refl _) hj) (fun _ => HGF.out _ 0 (Nat.le_refl _) (by omega)) _ (Nat.le_refl _)
      have hblt : lastAt T (leadsF T R) < T.places.toNat := by unfold lastAt; exact argmin_lt _ _ _ (by omega) (by omega)
      have hcost : w6.cell? ⟨L, T.legs.length * 12 + lastAt T (leadsF T R), none⟩ = some (.int .i64 (costL T R)) := by
        have := (HBL.out.cell (T.legs.length * 12 + lastAt T (leadsF T R))).trans (HGL.out.at_ T.legs.length (lastAt T (leadsF T R)) (by omega) (by omega))
        rw [this, HGF.out _ _ (Nat.le_refl _) hblt]; rfl
      have HEN : Hid (∀ X, Aft w6 X → Calls Tryz.prog 94 #[.pointer (some ⟨D, 0, none⟩), .pointer (some ⟨L, 0, none⟩)] X fun e w' => e = .returned (.int .i64 (lastAt T (leadsF T R) : Nat)) ∧ Aft X w') := Lib.hid fun X hX => by
        have := end_any D L T a1 a2 a3 a4 c1 c2 c3 c4 (leadsF T R) cs2 g X (HD6.out.aft hX) (HBL.out.aft hX) HGL.out hp1 hp2 hnl
        rwa [hb0] at this
      have hal : lastAt T (leadsF T R) < 12 := by omega
      clear k0 k1 k2 k3 k4 hmW hb6 hb0 hblt hpp
      have HCO := Lib.hid (show costL T R = costL T R from rfl)
      generalize lastAt T (leadsF T R) = la at *
      generalize hcs : costL T R = co at hcost
      have HCS := Lib.hid hcs
      clear hcs HCO
      have hmx : Tryz.prog.follows .mixedOrders = true := by kernel_rfl
      refine wpIn_region_vals hmx (by kernel_rfl) 43 rfl (by kernel_rfl) [.pointer (some ⟨L, 0, none⟩), .pointer (some ⟨w.heap.size, 4, none⟩), .slice a4 T.legs.length c4, .int .i64 T.legs.length, .pointer (some ⟨D, 0, none⟩), .pointer (some ⟨L, 0, none⟩), .int .i64 la, .pointer (some ⟨L, 0, none⟩), .pointer (some ⟨L, T.legs.length * 12, none⟩), .pointer (some ⟨L, T.legs.length * 12 + la, none⟩), .int .i64 co, .int .i64 co] rfl (fun X => Aft w6 X) (Aft.drew _) ?step ?fin
      case step =>
        intro i o v ho hv a X hk hX K hK
        match i, ho, hv with
        | 0, ho, hv =>
          cases ho; cases hv
          have e : a.eval (.tmp 10) = .pointer (some ⟨L, 0, none⟩) := (hk.same 10 (by decide)).trans rfl
          exact op_val (by simp [go_sem, ev' e]) (hK _ hX)
        | 1, ho, hv =>
          cases ho; cases hv
          have e : a.eval (.tmp 1) = .pointer (some ⟨w.heap.size, 0, none⟩) := (hk.same 1 (by decide)).trans rfl
          exact op_val (by simp [go_sem, ev' e]) (hK _ hX)
        | 2, ho, hv =>
          cases ho; cases hv
          have e : a.eval (.tmp 26) = .pointer (some ⟨w.heap.size, 4, none⟩) := hk.at_ 1 _ 26 _ rfl (by decide) _ rfl rfl rfl
          have hc := cell_aftX hX hlt6 k4'
          exact op_val (by simp [go_sem, ev' e, hc]) (hK _ hX)
        | 3, ho, hv =>
          cases ho; cases hv
          have e : a.eval (.tmp 27) = .slice a4 T.legs.length c4 := hk.at_ 2 _ 27 _ rfl (by decide) _ rfl rfl rfl
          exact op_val (by simp [go_sem, ev' e]) (hK _ hX)
        | 4, ho, hv =>
          cases ho; cases hv
          have e : a.eval (.tmp 9) = .pointer (some ⟨D, 0, none⟩) := (hk.same 9 (by decide)).trans rfl
          exact op_val (by simp [go_sem, ev' e]) (hK _ hX)
        | 5, ho, hv =>
          cases ho; cases hv
          have e : a.eval (.tmp 10) = .pointer (some ⟨L, 0, none⟩) := (hk.same 10 (by decide)).trans rfl
          exact op_val (by simp [go_sem, ev' e]) (hK _ hX)
        | 6, ho, hv =>
          cases ho; cases hv
          have e : a.eval (.tmp 29) = .pointer (some ⟨D, 0, none⟩) := hk.at_ 4 _ 29 _ rfl (by decide) _ rfl rfl rfl
          have e2 : a.eval (.tmp 30) = .pointer (some ⟨L, 0, none⟩) := hk.at_ 5 _ 30 _ rfl (by decide) _ rfl rfl rfl
          refine op_call2 Tryz.func94 (by kernel_rfl) (by kernel_rfl) _ _ rfl e e2 (HEN.out X hX) ?_
          rintro e w' ⟨rfl, ha7⟩
          exact ⟨_, rfl, hK _ (hX.trans ha7)⟩
        | 7, ho, hv =>
          cases ho; cases hv
          have e : a.eval (.tmp 25) = .pointer (some ⟨L, 0, none⟩) := hk.at_ 0 _ 25 _ rfl (by decide) _ rfl rfl rfl
          exact op_val (by simp [go_sem, ev' e]) (hK _ hX)
        | 8, ho, hv =>
          cases ho; cases hv
          have e : a.eval (.tmp 32) = .pointer (some ⟨L, 0, none⟩) := hk.at_ 7 _ 32 _ rfl (by decide) _ rfl rfl rfl
          have e2 : a.eval (.tmp 28) = .int .i64 T.legs.length := hk.at_ 3 _ 28 _ rfl (by decide) _ rfl rfl rfl
          have i1 : (0 : Int) ≤ (T.legs.length : Int) ∧ (T.legs.length : Int) < 11 := by omega
          exact op_val (by simp [go_sem, ev' e, ev' e2, i1]) (hK _ hX)
        | 9, ho, hv =>
          cases ho; cases hv
          have e : a.eval (.tmp 33) = .pointer (some ⟨L, T.legs.length * 12, none⟩) := hk.at_ 8 _ 33 _ rfl (by decide) _ rfl rfl rfl
          have e2 : a.eval (.tmp 31) = .int .i64 la := hk.at_ 6 _ 31 _ rfl (by decide) _ rfl rfl rfl
          have i1 : (0 : Int) ≤ (la : Int) ∧ (la : Int) < 12 := by omega
          exact op_val (by simp [go_sem, ev' e, ev' e2, i1]) (hK _ hX)
        | 10, ho, hv =>
          cases ho; cases hv
          have e : a.eval (.tmp 34) = .pointer (some ⟨L, T.legs.length * 12 + la, none⟩) := hk.at_ 9 _ 34 _ rfl (by decide) _ rfl rfl rfl
          have hc := cell_aftX hX hL6 hcost
          exact op_val (by simp [go_sem, ev' e, hc]) (hK _ hX)
        | 11, ho, hv =>
          cases ho; cases hv
          have e : a.eval (.tmp 35) = .int .i64 co := hk.at_ 10 _ 35 _ rfl (by decide) _ rfl rfl rfl
          exact op_val (by simp [go_sem, ev' e]) (hK _ hX)
        | _ + 12, ho, _ => cases ho
      case fin =>
        intro X hX
        simp only [List.zip_cons_cons, List.zip_nil_right, putAll, Act.put, List.setIfInBounds_toArray, List.set_cons_succ, List.set_cons_zero]
        have hA7 := HAA.out.trans (HAW.out.trans hX)
        have hmB := HII.out.many.aft hA7
        obtain ⟨bv, hbv1, hbv2⟩ := HII.out.best
        have hsB := hbv1.aft hA7
        have c7 : X.cell? ⟨S + 1, 0, none⟩ = some (.int .i64 (fewK T k).2) := hmB.cell 0
        have c8 : X.cell? ⟨S, 0, none⟩ = some bv := hsB.cell 0
        have f7 := hmB.frozen 0
        have f8 := hsB.frozen 0
        have hl7 := hmB.lt
        have HX := Lib.hid hX
        have HMB := Lib.hid hmB
        have HSB := Lib.hid hsB
        have HBV := Lib.hid hbv2
        have HA7 := Lib.hid hA7
        clear hX hmB hsB hbv1 hbv2 hA7 hm6 k0' k1' k2' k3' k4' hcost
        by_cases hcm : co < (fewK T k).2
        · have HFK : Hid (fewK T (k + 1) = (R, co)) := Lib.hid (by rw [HFS.out]; unfold fewStep; rw [HCS.out, if_pos hcm])
          gi_wp2_with fail
          rw [hz4] at hB ⊢
          have hWW := HAW.out.trans HX.out
          have hsz := HAA.out.size
          refine ⟨((Kept3.of_aft hWW (by omega)).setCell (.inl (by show S < S + 3; omega)) _).setCell (.inl (by show S + 1 < S + 3; omega)) _, ?_⟩
          refine ⟨((HII.out.aft.trans HA7.out).then_setCell (p := ⟨S, 0, none⟩) (by show _ ≤ S; omega) _).then_setCell (p := ⟨S + 1, 0, none⟩) (by show _ ≤ S + 1; omega) _, ((HII.out.box.aft HA7.out).far (by show w.heap.size ≠ S; omega) _).far (by show w.heap.size ≠ S + 1; omega) _,
            ((HII.out.box2.aft HA7.out).far (by show S + 2 ≠ S; omega) _).far (by show S + 2 ≠ S + 1; omega) _, ?_, .slice AR R.length cR, (HSB.out.store 0 _).far (by show S ≠ S + 1; omega) _, ?_⟩
          · rw [HFK.out]
            exact (HMB.out.far (by show S + 1 ≠ S; omega) _).store 0 _
          · rw [HFK.out]
            exact own_kept (own_kept (World.ownsRow.mono (own_aft HV.out hWW) (by omega)) (grownBy_setCell' X S _) (by omega)) (grownBy_setCell' _ (S + 1) _) (by omega)
        · have HFK : Hid (fewK T (k + 1) = fewK T k) := Lib.hid (by rw [HFS.out]; unfold fewStep; rw [HCS.out, if_neg hcm])
          gi_wp2_with fail
          rw [hz4] at hB
          have hWW := HAW.out.trans HX.out
          have hsz := HAA.out.size
          refine ⟨Kept3.of_aft hWW (by omega), ?_⟩
          refine ⟨HII.out.aft.trans HA7.out, HII.out.box.aft HA7.out, HII.out.box2.aft HA7.out, by rw [HFK.out]; exact HMB.out, bv, HSB.out, by rw [HFK.out]; exact own_aft HBV.out HA7.out⟩
    case done =>
      intro D W hD hI hK
      obtain ⟨v, hb1, hb2⟩ := hI.best
      have c1 : W.cell? ⟨S, 0, none⟩ = some v := hb1.cell 0
      have c2 : W.cell? ⟨S + 1, 0, none⟩ = some (.int .i64 (fewK T (prodN (lensOf T))).2) := hI.many.cell 0
      have HA := Lib.hid hI.aft
      have HB2 := Lib.hid hb2
      have HKD := Lib.hid hK
      have hlt2 := hI.many.lt
      have hlt3 := hb1.lt
      have hDz : D = S + 3 := by omega
      clear hI hb1 hb2 hK hD
      obtain ⟨m2, hm2⟩ : ∃ m2, m2 = (fewK T (prodN (lensOf T))).2 := ⟨_, rfl⟩
      rw [← hm2] at c2
      have HM2 := Lib.hid hm2
      clear hm2
      go_wp2_with fail
      go_quiet (fail)
      go_wp2_with fail
      refine ⟨by simp, .inl ⟨_, _, rfl, run_takeDeferred (w := W.drewN nq) HKD.out, ?_⟩⟩
      refine ⟨.tuple #[v, .int .i64 m2, .int .i64 0], by simp [results, go_sem], ?_⟩
      rw [HM2.out]
      exact ⟨(HA.out.then_drewN _).grown (grownBy_putObj' _ _ _) (fun k e => by cases e; omega), .inr ⟨HC.out, v, rfl, World.ownsRow.mono (own_kept (own_aft HB2.out (Aft.drewN _ _)) (grownBy_putObj' _ D _) (by omega)) (by omega)⟩⟩
    case stop =>
      intro D c W _ h _
      exact h.elim
  · have HC := Lib.hid hc
    have hne : (checkE T != 0) = true := by simpa using hc
    have HCK : Hid (∀ W, Aft w W → Calls Tryz.prog 37 #[.agg #[.int .i64 T.places, .slice a1 T.ways.length c1, .slice a2 T.words.length c2, .slice a3 T.starts.length c3, .slice a4 T.legs.length c4]] W fun e w' => e = .returned (.int .i64 (checkE T)) ∧ Aft W w') := Lib.hid fun W ha => check_any T a1 a2 a3 a4 c1 c2 c3 c4 W (hT.aft ha)
    clear hc hT
    generalize hE : checkE T = E at *
    have HE := Lib.hid hE
    clear hE
    go_enter Tryz.func38, Tryz.ntmps38
    go_wp2_with (go_at_call 37; refine (HCK.out _ (Aft.alloc _ _)).mono ?_; rintro e w1 ⟨rfl, ha1⟩)
    refine bodyPost_ret (v := .tuple #[.slice none 0 0, .int .i64 0, .int .i64 E]) (by simp [results, Tryz.results38, go_sem]) rfl ?_
    exact ⟨(Aft.alloc _ _).trans ha1, .inl ⟨by rw [HE.out]; exact HC.out, by rw [HE.out]⟩⟩
end Go.Proofs
end
