/- Own texts, merged: WkD WkE Rep WkI WkJ WkK. -/
import Derived.Test.YtobpdobneocckaaGreatDoorH01
import Derived.Handy
import Derived.Deep.RegionHeld3
import Derived.Laws.EntriesVeiled
import Derived.Deep.CutBlock
set_option linter.unusedSimpArgs false
set_option linter.unusedVariables false
section
/- Walks: slices.DeleteFunc at numbers; what lists have in common. -/
namespace Go.Proofs
open Go.RowKit

theorem setCells_blk {g : Nat} {t : TypeId} : ∀ (vs : List Value) (o : Nat) (w : World) (cs : Array Value), Blk w g t cs →
    ∃ cs', cs'.size = cs.size ∧ Blk (w.setCells g o vs) g t cs' ∧ ∀ i, i < o → cs'[i]? = cs[i]?
  | [], _, _, cs, h => ⟨cs, rfl, h, fun _ _ => rfl⟩
  | v :: r, o, w, cs, h => by
    obtain ⟨cs', h1, h2, h3⟩ := setCells_blk r (o + 1) (w.setCell ⟨g, o, none⟩ v) _ (h.store o v)
    refine ⟨cs', by simpa using h1, h2, fun i hi => ?_⟩
    rw [h3 i (by omega), Array.getElem?_setIfInBounds, if_neg (by omega)]
theorem only_setCells {a : World} {g : Nat} : ∀ (vs : List Value) (o : Nat) (w : World), a.grownBy w (some g) → a.grownBy (w.setCells g o vs) (some g)
  | [], _, _, h => h
  | v :: r, o, _, h => only_setCells r (o + 1) _ (only_setCell h (.inl rfl) v)

theorem Nums.ints {w : World} {g : Nat} {cs : Array Value} {l : List Int} (hb : Blk w g 3 cs) (hn : Nums cs l) (hl : l.length ≤ 17592186043904) : Ints w (some ⟨g, 0, none⟩) l :=
  ⟨by omega, .inr ⟨g, 0, rfl, hb.lt, fun i hi => ⟨_, by simp, rfl, fun j hj => by
    simp at hj; subst hj
    simpa using (hb.cell _).trans (hn.at hi)⟩⟩⟩

/-- What DeleteFunc has kept when the first j are looked at. -/
structure DelAt (p : Int → Bool) (l : List Int) (j : Nat) (cs : Array Value) : Prop where
  le : j ≤ l.length
  size : l.length ≤ cs.size
  few : ((l.take j).filter (fun x => !p x)).length < j
  kept : Nums cs ((l.take j).filter (fun x => !p x))
  rest : ∀ t, (h : t < l.length) → j ≤ t → cs[t]? = some (.int .i64 l[t])

theorem DelAt.skip {p : Int → Bool} {l : List Int} {j : Nat} {cs : Array Value} (h : DelAt p l j cs) (hj : j < l.length) (hp : p l[j] = true) : DelAt p l (j + 1) cs := by
  have e : (l.take (j + 1)).filter (fun x => !p x) = (l.take j).filter (fun x => !p x) := by rw [List.take_succ_eq_append_getElem hj, List.filter_append]; simp [hp]
  exact ⟨by omega, h.size, by rw [e]; have := h.few; omega, by rw [e]; exact h.kept, fun t ht hjt => h.rest t ht (by omega)⟩
theorem DelAt.keep {p : Int → Bool} {l : List Int} {j : Nat} {cs : Array Value} (h : DelAt p l j cs) (hj : j < l.length) (hp : p l[j] = false) :
    DelAt p l (j + 1) (cs.setIfInBounds ((l.take j).filter (fun x => !p x)).length (.int .i64 l[j])) := by
  have e : (l.take (j + 1)).filter (fun x => !p x) = (l.take j).filter (fun x => !p x) ++ [l[j]] := by rw [List.take_succ_eq_append_getElem hj, List.filter_append]; simp [hp]
  refine ⟨by omega, by simpa using h.size, by rw [e]; have := h.few; simp; omega, ?_, fun t ht hjt => ?_⟩
  · have hs := h.size
    have hf := h.few
    have hk := h.kept
    rw [e]
    generalize (l.take j).filter (fun x => !p x) = m at hf hk ⊢
    refine ⟨by simp; omega, fun t ht => ?_⟩
    rw [Array.getElem?_setIfInBounds]
    by_cases et : m.length = t
    · subst et; simp; omega
    · have : t < m.length := by simp at ht; omega
      rw [if_neg et, hk.2 t this, List.getElem_append_left this]
  · have hf := h.few
    rw [Array.getElem?_setIfInBounds, if_neg (by omega)]
    exact h.rest t ht (by omega)
theorem filter_kept_succ {p : Int → Bool} {l : List Int} {j : Nat} (hj : j < l.length) (hp : p l[j] = false) :
    ((l.take (j + 1)).filter (fun x => !p x)).length = ((l.take j).filter (fun x => !p x)).length + 1 := by
  rw [List.take_succ_eq_append_getElem hj, List.filter_append]; simp [hp]
theorem filter_kept_same {p : Int → Bool} {l : List Int} {j : Nat} (hj : j < l.length) (hp : p l[j] = true) :
    ((l.take (j + 1)).filter (fun x => !p x)).length = ((l.take j).filter (fun x => !p x)).length := by
  rw [List.take_succ_eq_append_getElem hj, List.filter_append]; simp [hp]
theorem filter_none {p : Int → Bool} {l : List Int} (h : l.any p = false) : l.filter (fun x => !p x) = l := by
  rw [List.filter_eq_self]; intro x hx; rw [List.any_eq_false] at h; simpa using h x hx

def Kept (p : Int → Bool) (l : List Int) (g c : Nat) (sz : Nat) (w : World) (e : Ending) (w' : World) : Prop :=
  e = .returned (.slice (some ⟨g, 0, none⟩) (l.filter (fun x => !p x)).length c) ∧ w.grownBy w' (some g) ∧ ∃ cs', cs'.size = sz ∧ Blk w' g 3 cs' ∧ Nums cs' (l.filter (fun x => !p x))

theorem zero3 (w : World) : (zeroValue 3).run Tryz.prog w = .ok (.int .i64 0) w := by kernel_rfl

set_option maxHeartbeats 1600000 in
theorem deleteFunc_blk (I : World → Prop) (g : Nat) (hIa : ∀ W W', I W → Aft W W' → I W') (hIs : ∀ W i v, I W → I (W.setCell ⟨g, i, none⟩ v)) (K : FuncId) (cap : List Value) (p : Int → Bool)
    (l : List Int) (c : Nat) (cs : Array Value) (w : World) (hl : l.length ≤ 17592186043904) (hb : Blk w g 3 cs) (hn : Nums cs l) (hlc : l.length ≤ c) (hI : I w)
    (hK : ∀ args w, (callFunc K args).run Tryz.prog w = .ok (.enter K args) w)
    (hp : ∀ x ∈ l, ∀ W, I W → Calls Tryz.prog K (.int .i64 x :: cap).toArray W fun e w' => e = .returned (.bool (p x)) ∧ Aft W w') :
    Calls Tryz.prog 142 #[.slice (some ⟨g, 0, none⟩) l.length c, .func (.func K) #[] cap.toArray] w (Kept p l g c cs.size w) := by
  have hA := Nums.ints hb hn hl
  have hi := indexFunc_int IntR K cap p _ l c w hA hK (fun x hx v hv u => by cases hv; exact hp x hx _ (hIa _ _ hI ⟨u, rfl⟩))
  have HI := Lib.hid hi
  have HP := Lib.hid hp
  have HS := Lib.hid hIs
  have HAf := Lib.hid hIa
  clear hi hp hIs hIa hA
  go_enter Tryz.func142, Tryz.ntmps142
  go_wp2_with (go_at_call 111; refine HI.out.mono ?_; rintro e w1 ⟨(⟨rfl, hany⟩ | ⟨k, hkl, rfl, hpk, hany⟩), u, rfl⟩)
  · have HA := Lib.hid hany; clear hany
    go_wp2
    go_ret
    refine ⟨by rw [filter_none HA.out]; rfl, only_of_aft (Aft.lat _ _) _, cs, rfl, hb.lat u, ?_⟩
    rw [filter_none HA.out]; exact hn
  · have HA := Lib.hid hany; clear hany
    have HPK := Lib.hid hpk; clear hpk
    have hk0 : (0 : Int) ≤ (k : Int) := by omega
    have hkm : ((k : Int) == -1) = false := by rw [beq_eq_false_iff_ne]; omega
    go_wp2
    rw [hkm]
    go_loopw [5, 6] (fun i j wr => ∃ n : Nat, j = .int .i64 n ∧ n ≤ l.length ∧ i = .int .i64 ((l.take n).filter (fun x => !p x)).length ∧ I wr ∧ w.grownBy wr (some g) ∧ ∃ cs', cs'.size = cs.size ∧ Blk wr g 3 cs' ∧ DelAt p l n cs')
      (fun _ j _ => l.length - (intOf j).toNat)
    case atStart =>
      have e : (l.take (k + 1)).filter (fun x => !p x) = l.take k := by
        rw [List.take_succ_eq_append_getElem hkl, List.filter_append, filter_none HA.out]; simp [HPK.out]
      have hkk : (l.take k).length = k := by simp; omega
      exact ⟨k + 1, by go_num, by omega, by rw [e, hkk], HAf.out _ _ hI (Aft.lat _ _), only_of_aft (Aft.lat _ _) _, cs, rfl, hb.lat u, by omega, hn.1, by rw [e, hkk]; omega,
        by rw [e]; exact ⟨by have := hn.1; omega, fun t ht => by rw [hn.2 t (by omega)]; simp⟩, fun t ht _ => hn.2 t ht⟩
    case round =>
      obtain ⟨n, rfl, hnl, rfl, hIw, hg, cs', hs, hb', hd⟩ := hrel
      have hfew := hd.few
      have hsz := hd.size
      by_cases hlt : n < l.length
      · have c1 : wr.cell? ⟨g, n, none⟩ = some (.int .i64 l[n]) := by rw [hb'.cell]; exact hd.rest n hlt (Nat.le_refl _)
        have hcall := HP.out l[n] (List.getElem_mem hlt) wr hIw
        cases hpn : p l[n]
        · have HB := Lib.hid hpn; clear hpn
          rw [HB.out] at hcall
          have e1 := filter_kept_succ hlt HB.out
          have hd' := hd.keep hlt HB.out
          generalize (l.take n).filter (fun x => !p x) = m at *
          have E1 := Lib.hid e1; clear e1
          have HD := Lib.hid hd'; clear hd'
          obtain ⟨x, hx⟩ : ∃ x, cs'[m.length]? = some x := ⟨_, Array.getElem?_eq_getElem (by omega)⟩
          have c2 : wr.cell? ⟨g, m.length, none⟩ = some x := (hb'.cell _).trans hx
          have f2 := hb'.frozen m.length
          have hgl := hb'.lt
          go_wp2_with (refine hcall.mono ?_; rintro e w' ⟨rfl, u1, rfl⟩; clear hcall)
          go_roundw
          case rel =>
            exact ⟨n + 1, by go_num, by omega, by rw [E1.out]; go_num, HS.out _ _ _ (HAf.out _ _ hIw (Aft.lat _ _)), only_setCell (only_aft hg (Aft.lat _ _)) (.inl rfl) _, _, by simp [hs], (hb'.lat u1).store _ _, HD.out⟩
          case measure => simp [intOf]; omega
        · have HB := Lib.hid hpn; clear hpn
          rw [HB.out] at hcall
          have e1 := filter_kept_same hlt HB.out
          have E1 := Lib.hid e1; clear e1
          go_wp2_with (refine hcall.mono ?_; rintro e w' ⟨rfl, u1, rfl⟩; clear hcall)
          go_roundw
          case rel => exact ⟨n + 1, by go_num, by omega, by rw [E1.out], HAf.out _ _ hIw (Aft.lat _ _), only_aft hg (Aft.lat _ _), cs', hs, hb'.lat u1, hd.skip hlt HB.out⟩
          case measure => simp [intOf]; omega
      · have hnn : n = l.length := by omega
        have hall : (l.take n).filter (fun x => !p x) = l.filter (fun x => !p x) := by rw [List.take_of_length_le (by omega)]
        have hkept := hd.kept
        rw [hall] at hkept hfew ⊢
        have HALL := Lib.hid hall
        clear hall
        have hle : n ≤ l.length := by omega
        have hge : l.length ≤ n := by omega
        clear hnn
        generalize hM : l.filter (fun x => !p x) = m at *
        have HM := Lib.hid hM; clear hM
        have hcl : ∀ ty, (Builtin.clear_ #[24] ty #[.slice (some ⟨g, m.length, none⟩) (l.length - m.length) (c - m.length)]).run Tryz.prog wr = .ok (.tuple #[]) (wr.setCells g m.length (List.replicate (l.length - m.length) (.int .i64 0))) := fun ty =>
          Lib.run_clear_slice wr 24 3 ty (.int .i64 0) Tryz.underlying24 zero3 rfl rfl g m.length _ _ (by omega)
            (fun j hj => by rw [hb'.cell, Array.getElem?_eq_getElem (by omega)]; rfl) (fun j hj => hb'.frozen _)
        go_wp2
        go_ret
        obtain ⟨cs'', h1, h2, h3⟩ := setCells_blk (g := g) (t := 3) (List.replicate (l.length - m.length) (.int .i64 0)) m.length wr cs' hb'
        refine ⟨by rw [HM.out]; rfl, only_setCells _ _ _ hg, cs'', by omega, h2, ?_⟩
        rw [HM.out]
        exact ⟨by have := hkept.1; omega, fun t ht => (h3 t ht).trans (hkept.2 t ht)⟩

/-- slices.DeleteFunc at a slice of the call's own; what is asked leaves alone whatever lay before it. -/
theorem deleteFunc_own {w0 w : World} {v : Value} {l : List Int} (h : w.ownsRow w0.heap.size 3 1 v l.length (l.map (Value.int .i64))) (h0 : Aft w0 w) (hl : l.length ≤ 17592186043904)
    (I : World → Prop) (hIa : ∀ W W', I W → Aft W W' → I W') (hIs : ∀ W g i x, v.ownBlock = some g → I W → I (W.setCell ⟨g, i, none⟩ x)) (hI : I w) (K : FuncId) (cap : List Value) (p : Int → Bool)
    (hK : ∀ args w, (callFunc K args).run Tryz.prog w = .ok (.enter K args) w)
    (hp : ∀ x ∈ l, ∀ W, I W → Calls Tryz.prog K (.int .i64 x :: cap).toArray W fun e w' => e = .returned (.bool (p x)) ∧ Aft W w') :
    Calls Tryz.prog 142 #[v, .func (.func K) #[] cap.toArray] w fun e w' => OwnInts w0 (l.filter (fun x => !p x)) e w' ∧ w.grownBy w' v.ownBlock := by
  rcases own_blk h with ⟨rfl, rfl⟩ | ⟨g, c, cs, rfl, hg, hb, hn, hs, hlc, hm⟩
  · have hi := indexFunc_int IntR K cap p none [] 0 w ⟨by simp, .inl rfl⟩ hK (fun x hx => by cases hx)
    have HI := Lib.hid hi
    clear hi hp hIs hIa
    go_enter Tryz.func142, Tryz.ntmps142
    go_wp2_with (go_at_call 111; refine HI.out.mono ?_; rintro e w1 ⟨(⟨rfl, hany⟩ | ⟨k, hkl, _⟩), u, rfl⟩; rotate_left; (exfalso; simp at hkl))
    go_ret
    exact ⟨⟨_, rfl, World.ownsRow_nil _ _ _ _, h0.then_lat u⟩, only_of_aft (Aft.lat _ _) _⟩
  · refine (deleteFunc_blk I g hIa (fun W i x => hIs W g i x rfl) K cap p l c cs w hl hb hn hlc hI hK hp).mono fun e w' ⟨he, hgr, cs', hs', hb', hn'⟩ => ⟨⟨_, he, ?_, ?_⟩, hgr⟩
    · have := blk_own (base := w0.heap.size) (c := c) hg hb' hn' (by omega) (Nat.le_trans (List.length_filter_le _ _) hlc) hm
      exact this
    · exact h0.grown hgr (fun k hk => by cases hk; exact hg)
end Go.Proofs
end

section
/- Walks: what lists have in common; lists of lists. -/
namespace Go.Proofs
open Go.RowKit

theorem Ints.grown {w w' : World} {A : Option Addr} {l : List Int} {row : Option Nat} (h : Ints w A l) (hg : w.grownBy w' row) (hr : ∀ b o, A = some ⟨b, o, none⟩ → some b ≠ row) : Ints w' A l := by
  refine ⟨h.1, ?_⟩
  rcases h.2 with h | ⟨b, o, rfl, hb, hc⟩
  · exact .inl h
  · refine .inr ⟨b, o, rfl, Nat.lt_of_lt_of_le hb hg.size, fun i hi => ?_⟩
    obtain ⟨vs, h1, h2, h3⟩ := hc i hi
    exact ⟨vs, h1, h2, fun j hj => (World.cell?_of_block (hg.block b hb (hr b o rfl))).trans (h3 j hj)⟩

/-- A list of numbers as an element of a slice of slices. -/
def ListR : World → List Int → List Value → Prop := fun w l vs => ∃ A c, vs = [.slice A l.length c] ∧ Ints w A l
theorem ListR.mono : MonoR ListR := fun _ u _ _ ⟨A, c, h1, h2⟩ => ⟨A, c, h1, h2.lat u⟩
def Lists (w : World) (A : Option Addr) (l : List (List Int)) : Prop := RowsP w A 1 ListR l
theorem Lists.lat {w : World} {A : Option Addr} {l : List (List Int)} (h : Lists w A l) (u : Later w) : Lists (w.lat u) A l := RowsP.lat ListR.mono h u
theorem Lists.aft {w w' : World} {A : Option Addr} {l : List (List Int)} (h : Lists w A l) (hl : Aft w w') : Lists w' A l := RowsP.aft ListR.mono h hl
theorem Lists.len {w : World} {A : Option Addr} {l : List (List Int)} (h : Lists w A l) : l.length ≤ 17592186043904 := RowsP.len h (by decide)
theorem Lists.at {w : World} {A : Option Addr} {l : List (List Int)} (h : Lists w A l) {k : Nat} (hk : k < l.length) :
    ∃ b o, A = some ⟨b, o, none⟩ ∧ b < w.heap.size ∧ ∀ i, (h : i < l.length) → ∃ Ai ci, w.cell? ⟨b, o + i, none⟩ = some (.slice Ai l[i].length ci) ∧ Ints w Ai l[i] := by
  obtain ⟨b, o, rfl, hb, hc⟩ := RowsP.at h hk
  refine ⟨b, o, rfl, hb, fun i hi => ?_⟩
  obtain ⟨vs, h1, ⟨Ai, ci, rfl, h2⟩, h3⟩ := hc i hi
  exact ⟨Ai, ci, by simpa using h3 0 (by simp), h2⟩

/-- what a list has that all others have -/
def commonL (first : List Int) (ls : List (List Int)) : List Int := ls.foldl (fun out x => out.filter (hasB x)) first
theorem commonL_le (first : List Int) (ls : List (List Int)) : (commonL first ls).length ≤ first.length := by
  unfold commonL
  induction ls generalizing first with
  | nil => exact Nat.le_refl _
  | cons x r ih => exact Nat.le_trans (ih _) (List.length_filter_le _ _)
theorem commonL_succ (first : List Int) (ls : List (List Int)) (k : Nat) (h : k < ls.length) : commonL first (ls.take (k + 1)) = (commonL first (ls.take k)).filter (fun n => !(!hasB ls[k] n)) := by
  unfold commonL
  rw [List.take_succ_eq_append_getElem h, List.foldl_append]
  simp only [List.foldl_cons, List.foldl_nil, Bool.not_not]

theorem common1_any (A : Option Addr) (l : List Int) (c : Nat) (n : Int) (b : Nat) (w : World) (hA : Ints w A l) (hc : w.cell? ⟨b, 0, none⟩ = some (.slice A l.length c)) :
    Calls Tryz.prog 143 #[.int .i64 n, .pointer (some ⟨b, 0, none⟩)] w fun r w' => r = .returned (.bool (!hasB l n)) ∧ w = w' := by
  go_enter Tryz.func143, Tryz.ntmps143
  go_wp2_with (go_at_call 60; refine (contains_any _ _ _ _ _ hA).mono ?_; rintro e w' ⟨rfl, rfl⟩)
  go_ret
  exact ⟨rfl, rfl⟩
theorem runs_119 (args : Array Value) (w : World) : (callFunc 143 args).run Tryz.prog w = .ok (.enter 143 args) w := by simp [go_sem]

set_option maxHeartbeats 1000000 in
theorem common_any (A : Option Addr) (l : List Int) (c : Nat) (A' : Option Addr) (ls : List (List Int)) (c' : Nat) (w : World) (hA : Ints w A l) (hA' : Lists w A' ls) :
    Calls Tryz.prog 108 #[.slice A l.length c, .slice A' ls.length c'] w (OwnInts w (commonL l ls)) := by
  have hl := hA.len
  have hls := hA'.len
  go_enter Tryz.func108, Tryz.ntmps108
  go_wp2_with (go_at_call 107; refine (clone84 _ _ _ _ hA).mono ?_; rintro e w1 ⟨v, rfl, hown, u, rfl⟩)
  go_loopw [5, 12] (fun v i wr => ∃ k : Nat, i = .int .i64 k ∧ k ≤ ls.length ∧ wr.ownsRow w.heap.size 3 1 v (commonL l (ls.take k)).length ((commonL l (ls.take k)).map (Value.int .i64)) ∧ Aft w wr)
    (fun _ i _ => ls.length - (intOf i).toNat)
  case atStart => exact ⟨0, rfl, by omega, hown, _, rfl⟩
  case round =>
    obtain ⟨k, rfl, hk, hown', hw⟩ := hrel
    have hle := Nat.le_trans (commonL_le l (ls.take k)) hl
    by_cases hlt : k < ls.length
    · obtain ⟨b, o, rfl, hb, hc⟩ := hA'.at hlt
      obtain ⟨Ai, ci, h1, h2⟩ := hc k hlt
      clear hc
      have h2r : Ints wr Ai ls[k] := h2.aft hw
      have H3 := Lib.hid (commonL_succ l ls k hlt)
      have hwb : b < wr.heap.size := Nat.lt_of_lt_of_le hb hw.size
      have h1r : wr.cell? ⟨b, o + k, none⟩ = some (.slice Ai ls[k].length ci) := by obtain ⟨u', rfl⟩ := hw; rw [World.lat_cell _ _ _ _ hb]; exact h1
      have hne : ∀ b' o', Ai = some ⟨b', o', none⟩ → some b' ≠ u5.ownBlock ∨ ls[k] = [] := by
        intro b' o' e
        rcases h2.2 with h0 | ⟨b2, o2, e2, hb2, _⟩
        · exact .inr h0
        · left; intro e3; rw [e] at e2; cases e2; have := own_ge hown' b' e3.symm; omega
      have HN := Lib.hid hne
      clear hne h1
      have hcall := deleteFunc_own (w0 := w) (w := wr.alloc (.cells #[.slice Ai ls[k].length ci] 24)) (hown'.alloc _) (hw.then_alloc _) hle
        (fun W => (wr.alloc (.cells #[.slice Ai ls[k].length ci] 24)).grownBy W u5.ownBlock)
        (fun W W' hI ha => only_aft hI ha) (fun W g i x hg hI => by rw [hg] at hI ⊢; exact only_setCell hI (.inl rfl) x) (only_refl _ _)
        143 [.pointer (some ⟨wr.heap.size, 0, none⟩)] (fun n => !hasB ls[k] n) runs_119
        (fun x _ W hI => (common1_any Ai ls[k] ci x wr.heap.size W
          (by
            have h3 : Ints (wr.alloc (.cells #[.slice Ai ls[k].length ci] 24)) Ai ls[k] := h2r.aft (Aft.alloc _ _)
            by_cases h0 : ls[k] = []
            · rw [h0]; exact ⟨by simp, .inl rfl⟩
            · exact Ints.grown h3 hI (fun b' o' e => (HN.out b' o' e).resolve_right h0))
          (by
            have hnb : some wr.heap.size ≠ u5.ownBlock := fun e => by have := (hown'.lt _ e.symm).2; omega
            rw [World.cell?_of_block (hI.block wr.heap.size (by simp) hnb)]; simp)).mono fun _ _ ⟨e1, e2⟩ => ⟨e1, e2 ▸ Aft.refl _⟩)
      have HC := Lib.hid hcall
      clear hcall h2 h2r
      go_wp2_with (go_at_call 142; refine HC.out.mono ?_; rintro e w' ⟨⟨v', rfl, hown2, ha2⟩, _⟩)
      go_roundw
      case rel => exact ⟨k + 1, by go_num, by omega, by rw [H3.out]; exact hown2, ha2⟩
      case measure => simp [intOf]; omega
    · go_wp2
      go_ret
      have e : ls.take k = ls := List.take_of_length_le (by omega)
      rw [e] at hown'
      exact ⟨_, rfl, hown', hw⟩
end Go.Proofs
end

section
/- What the treaty's data are, and how they lie in memory; plain functions that the program computes. -/
namespace Go.Proofs
open Go.RowKit

structure Way where
  a : Int
  b : Int
  kind : Int
  deriving DecidableEq
structure Mean where
  kinds : List Int
  ends : List Int
  deriving DecidableEq
structure Leg where
  word : Int
  other : Int
  deriving DecidableEq
structure Treaty where
  places : Int
  ways : List Way
  words : List (List Mean)
  starts : List Int
  legs : List Leg
  deriving DecidableEq

def WayR : World → Way → List Value → Prop := fun _ x vs => vs = [.int .i64 x.a, .int .i64 x.b, .int .i64 x.kind]
theorem WayR.mono : MonoR WayR := fun _ _ _ _ h => h
def LegR : World → Leg → List Value → Prop := fun _ x vs => vs = [.int .i64 x.word, .int .i64 x.other]
theorem LegR.mono : MonoR LegR := fun _ _ _ _ h => h
def MeanR : World → Mean → List Value → Prop := fun w m vs => ∃ A c A' c', vs = [.slice A m.kinds.length c, .slice A' m.ends.length c'] ∧ Ints w A m.kinds ∧ Ints w A' m.ends
theorem MeanR.mono : MonoR MeanR := fun _ u _ _ ⟨A, c, A', c', h1, h2, h3⟩ => ⟨A, c, A', c', h1, h2.lat u, h3.lat u⟩
def WordR : World → List Mean → List Value → Prop := fun w l vs => ∃ A c, vs = [.slice A l.length c] ∧ RowsP w A 2 MeanR l
theorem WordR.mono : MonoR WordR := fun _ u _ _ ⟨A, c, h1, h2⟩ => ⟨A, c, h1, h2.lat MeanR.mono u⟩

/-- A treaty's slices lie in memory so. -/
structure TRep (w : World) (T : Treaty) (a1 a2 a3 a4 : Option Addr) : Prop where
  ways : RowsP w a1 3 WayR T.ways
  words : RowsP w a2 1 WordR T.words
  starts : Ints w a3 T.starts
  legs : RowsP w a4 2 LegR T.legs

theorem TRep.lat {w : World} {T : Treaty} {a1 a2 a3 a4 : Option Addr} (h : TRep w T a1 a2 a3 a4) (u : Later w) : TRep (w.lat u) T a1 a2 a3 a4 :=
  ⟨h.ways.lat WayR.mono u, h.words.lat WordR.mono u, h.starts.lat u, h.legs.lat LegR.mono u⟩
theorem TRep.aft {w w' : World} {T : Treaty} {a1 a2 a3 a4 : Option Addr} (h : TRep w T a1 a2 a3 a4) (ha : Aft w w') : TRep w' T a1 a2 a3 a4 := by
  obtain ⟨u, rfl⟩ := ha; exact h.lat u

/-- A desk: the treaty's five cells, then whether each leg leads from a place to another one. -/
structure Desk (w : World) (D : Nat) (T : Treaty) (a1 a2 a3 a4 : Option Addr) (c1 c2 c3 c4 : Nat) (f : Nat → Nat → Nat → Bool) : Prop where
  lt : D < w.heap.size
  k0 : w.cell? ⟨D, 0, none⟩ = some (.int .i64 T.places)
  k1 : w.cell? ⟨D, 1, none⟩ = some (.slice a1 T.ways.length c1)
  k2 : w.cell? ⟨D, 2, none⟩ = some (.slice a2 T.words.length c2)
  k3 : w.cell? ⟨D, 3, none⟩ = some (.slice a3 T.starts.length c3)
  k4 : w.cell? ⟨D, 4, none⟩ = some (.slice a4 T.legs.length c4)
  lead : ∀ i a b, i < 10 → a < 12 → b < 12 → w.cell? ⟨D, 5 + i * 144 + a * 12 + b, none⟩ = some (.bool (f i a b))

theorem Desk.lat {w : World} {D : Nat} {T : Treaty} {a1 a2 a3 a4 : Option Addr} {c1 c2 c3 c4 : Nat} {f : Nat → Nat → Nat → Bool} (h : Desk w D T a1 a2 a3 a4 c1 c2 c3 c4 f) (u : Later w) : Desk (w.lat u) D T a1 a2 a3 a4 c1 c2 c3 c4 f :=
  ⟨Nat.lt_of_lt_of_le h.lt (w.lat_size u), (w.lat_cell u D 0 h.lt).trans h.k0, (w.lat_cell u D 1 h.lt).trans h.k1, (w.lat_cell u D 2 h.lt).trans h.k2, (w.lat_cell u D 3 h.lt).trans h.k3, (w.lat_cell u D 4 h.lt).trans h.k4,
    fun i a b hi ha hb => (w.lat_cell u D _ h.lt).trans (h.lead i a b hi ha hb)⟩
theorem Desk.aft {w w' : World} {D : Nat} {T : Treaty} {a1 a2 a3 a4 : Option Addr} {c1 c2 c3 c4 : Nat} {f : Nat → Nat → Nat → Bool} (h : Desk w D T a1 a2 a3 a4 c1 c2 c3 c4 f) (ha : Aft w w') : Desk w' D T a1 a2 a3 a4 c1 c2 c3 c4 f := by
  obtain ⟨u, rfl⟩ := ha; exact h.lat u

/-- A table of numbers or bools, row by row. -/
structure Grid (cs : Array Value) (h wd : Nat) (enc : Nat → Nat → Value) : Prop where
  size : cs.size = h * wd
  at_ : ∀ i j, i < h → j < wd → cs[i * wd + j]? = some (enc i j)
theorem Grid.set {cs : Array Value} {h wd : Nat} {enc : Nat → Nat → Value} (hg : Grid cs h wd enc) {i j : Nat} (hi : i < h) (hj : j < wd) (v : Value) :
    Grid (cs.setIfInBounds (i * wd + j) v) h wd (fun i' j' => if i' = i ∧ j' = j then v else enc i' j') := by
  have hlt : i * wd + j < cs.size := by
    rw [hg.size]
    have : (i + 1) * wd ≤ h * wd := Nat.mul_le_mul_right _ (by omega)
    rw [Nat.add_mul] at this; omega
  refine ⟨by simpa using hg.size, fun i' j' hi' hj' => ?_⟩
  rw [Array.getElem?_setIfInBounds]
  by_cases e : i' = i ∧ j' = j
  · obtain ⟨rfl, rfl⟩ := e
    simp [hlt]
  · rw [if_neg e, if_neg, hg.at_ i' j' hi' hj']
    intro e2
    apply e
    have h1 : (i * wd + j) / wd = i := by rw [Nat.mul_comm, Nat.mul_add_div (by omega), Nat.div_eq_of_lt hj]; omega
    have h2 : (i' * wd + j') / wd = i' := by rw [Nat.mul_comm, Nat.mul_add_div (by omega), Nat.div_eq_of_lt hj']; omega
    have h3 : i = i' := by rw [← h1, ← h2, e2]
    subst h3
    omega
theorem Grid.congr {cs : Array Value} {h wd : Nat} {enc enc' : Nat → Nat → Value} (hg : Grid cs h wd enc) (he : ∀ i j, i < h → j < wd → enc i j = enc' i j) : Grid cs h wd enc' :=
  ⟨hg.size, fun i j hi hj => by rw [hg.at_ i j hi hj, he i j hi hj]⟩

/-- how few legs lines break that come to a place behind so many legs; at most 11 -/
def flo (T : Treaty) (f : Nat → Nat → Nat → Bool) : Nat → Nat → Int
  | 0, b => if hasB T.starts b then 0 else 11
  | leg + 1, b => (List.range T.places.toNat).foldl (fun m a => min m (flo T f leg a + if f leg a b then 0 else 1)) 11

/-- whether k legs, from one on, can be kept from a place -/
def ahd (T : Treaty) (f : Nat → Nat → Nat → Bool) : Nat → Nat → Nat → Bool
  | 0, _, _ => true
  | k + 1, leg, a => (List.range T.places.toNat).any fun b => f leg a b && ahd T f k (leg + 1) b

end Go.Proofs
end

section
/- Walks: what Check asks of words, meanings and legs. -/
namespace Go.Proofs
open Go.RowKit

theorem runs_50 (args : Array Value) (w : World) : (callFunc 83 args).run Tryz.prog w = .ok (.enter 83 args) w := by simp [go_sem]
theorem runs_53 (args : Array Value) (w : World) : (callFunc 86 args).run Tryz.prog w = .ok (.enter 86 args) w := by simp [go_sem]
theorem runs_55 (args : Array Value) (w : World) : (callFunc 88 args).run Tryz.prog w = .ok (.enter 88 args) w := by simp [go_sem]
theorem runs_57 (args : Array Value) (w : World) : (callFunc 90 args).run Tryz.prog w = .ok (.enter 90 args) w := by simp [go_sem]
theorem runs_58 (args : Array Value) (w : World) : (callFunc 91 args).run Tryz.prog w = .ok (.enter 91 args) w := by simp [go_sem]
theorem runs_101 (args : Array Value) (w : World) : (callFunc 132 args).run Tryz.prog w = .ok (.enter 132 args) w := by simp [go_sem]


/-- each(l, below(end)) where the end's box lies at B -/
theorem each_below (A : Option Addr) (l : List Int) (c : Nat) (B : Nat) (e : Int) (w : World) (hA : Ints w A l) (hB : B < w.heap.size) (hc : w.cell? ⟨B, 0, none⟩ = some (.int .i64 e)) (he : -1000000000000000 ≤ e) (he' : e ≤ 1000000000000000) :
    Calls Tryz.prog 87 #[.slice A l.length c, .func (.func 131) #[] #[.pointer (some ⟨B, 0, none⟩)]] w fun r w' => r = .returned (.bool (l.all fun x => fromB x 0 (e - 1))) ∧ Aft w w' :=
  each_int IntR IntR.mono 131 [.pointer (some ⟨B, 0, none⟩)] (fun x => fromB x 0 (e - 1)) A l c w hA runs_100
    (fun x _ u v0 hv => by cases hv; exact below1_asks x e B _ (Nat.lt_of_lt_of_le hB (w.lat_size u)) (by rw [World.lat_cell _ _ _ _ hB]; exact hc) he he')

theorem check1_asks (l : List Mean) (v : Value) (w : World) (h : WordR w l [v]) : Asks Tryz.prog 83 [] w v (fromB l.length 1 4) := by
  obtain ⟨A, c, hv, hA⟩ := h
  cases hv
  intro u
  have hl := hA.len (by decide)
  go_enter Tryz.func83, Tryz.ntmps83
  go_wp2_with (go_at_call 81; refine (from_any _ _ _ _).mono ?_; rintro e w' ⟨rfl, rfl⟩)
  go_ret
  exact ⟨rfl, Aft.refl _⟩

theorem check2_asks (m : Mean) (v0 v1 : Value) (w : World) (h : MeanR w m [v0, v1]) : Asks Tryz.prog 86 [] w (.agg #[v0, v1]) (m.kinds.all fun x => fromB x 0 7) := by
  obtain ⟨A, c, A', c', hv, hA, _⟩ := h
  simp only [List.cons.injEq, and_true] at hv
  obtain ⟨rfl, rfl⟩ := hv
  intro u
  have hA' := hA.lat u
  generalize w.lat u = W at *
  go_enter Tryz.func86, Tryz.ntmps86
  go_wp2_with fail
  go_region_held3 (fun w' => w'.cell? ⟨W.heap.size, 0, none⟩ = some (.slice A m.kinds.length c)) (first | go_keep | (simp [go_sem]; done))
    (first
      | (go_at_call 84; refine (below_any _ _).mono ?_; rintro e w' ⟨rfl, rfl⟩)
      | (go_at_call 87; refine (each_below _ _ _ _ 8 _ ?_ (by simp) (by simp [go_sem]) (by omega) (by omega)).mono ?_; (exact hA'.aft ((Aft.alloc _ _).trans ((Aft.drew _).trans (Aft.alloc _ _)))); rintro e w' ⟨rfl, u2, rfl⟩))
  go_wp2_with fail
  go_ret
  exact ⟨rfl, ((((Aft.alloc _ _).trans (Aft.alloc _ _)).then_drew).then_lat _)⟩

theorem check3_asks (m : Mean) (v0 v1 : Value) (B B2 : Nat) (e : Int) (w : World) (h : MeanR w m [v0, v1]) (hB : B < w.heap.size) (hc : w.cell? ⟨B, 0, none⟩ = some (.func (.func 131) #[] #[.pointer (some ⟨B2, 0, none⟩)]))
    (hB2 : B2 < w.heap.size) (hc2 : w.cell? ⟨B2, 0, none⟩ = some (.int .i64 e)) (he : -1000000000000000 ≤ e) (he' : e ≤ 1000000000000000) :
    Asks Tryz.prog 88 [.pointer (some ⟨B, 0, none⟩)] w (.agg #[v0, v1]) (m.ends.all fun x => fromB x 0 (e - 1)) := by
  obtain ⟨A, c, A', c', hv, _, hA⟩ := h
  simp only [List.cons.injEq, and_true] at hv
  obtain ⟨rfl, rfl⟩ := hv
  intro u
  have hA' := hA.lat u
  have k1 : (w.lat u).cell? ⟨B, 0, none⟩ = some (.func (.func 131) #[] #[.pointer (some ⟨B2, 0, none⟩)]) := by rw [World.lat_cell _ _ _ _ hB]; exact hc
  have k2 : (w.lat u).cell? ⟨B2, 0, none⟩ = some (.int .i64 e) := by rw [World.lat_cell _ _ _ _ hB2]; exact hc2
  have l1 : B < (w.lat u).heap.size := Nat.lt_of_lt_of_le hB (w.lat_size u)
  have l2 : B2 < (w.lat u).heap.size := Nat.lt_of_lt_of_le hB2 (w.lat_size u)
  clear hA hB hB2 hc hc2
  generalize w.lat u = W at *
  go_enter Tryz.func88, Tryz.ntmps88
  go_wp2_with (go_at_call 87; refine (each_below _ _ _ B2 e _ (hA'.aft (Aft.alloc _ _)) (by simp; omega) (by simpa [go_sem, l2] using k2) he he').mono ?_; rintro e w' ⟨rfl, u2, rfl⟩)
  go_ret
  exact ⟨rfl, (Aft.alloc _ _).then_lat _⟩

def legOk (nw : Int) (l : Leg) : Bool := fromB l.word 0 (nw - 1) && (decide (l.other = -1) || fromB l.other 0 (nw - 1))

set_option maxHeartbeats 400000 in
theorem check4_asks (l : Leg) (B B2 : Nat) (e : Int) (w : World) (hB : B < w.heap.size) (hc : w.cell? ⟨B, 0, none⟩ = some (.func (.func 131) #[] #[.pointer (some ⟨B2, 0, none⟩)]))
    (hB2 : B2 < w.heap.size) (hc2 : w.cell? ⟨B2, 0, none⟩ = some (.int .i64 e)) (he : -1000000000000000 ≤ e) (he' : e ≤ 1000000000000000) :
    Asks Tryz.prog 90 [.pointer (some ⟨B, 0, none⟩)] w (.agg #[.int .i64 l.word, .int .i64 l.other]) (legOk e l) := by
  intro u
  have k1 : (w.lat u).cell? ⟨B, 0, none⟩ = some (.func (.func 131) #[] #[.pointer (some ⟨B2, 0, none⟩)]) := by rw [World.lat_cell _ _ _ _ hB]; exact hc
  have k2 : (w.lat u).cell? ⟨B2, 0, none⟩ = some (.int .i64 e) := by rw [World.lat_cell _ _ _ _ hB2]; exact hc2
  have l1 : B < (w.lat u).heap.size := Nat.lt_of_lt_of_le hB (w.lat_size u)
  have l2 : B2 < (w.lat u).heap.size := Nat.lt_of_lt_of_le hB2 (w.lat_size u)
  clear hB hB2 hc hc2
  generalize w.lat u = W at *
  have hW : Aft W (W.alloc (.cells #[.int .i64 l.word, .int .i64 l.other] 70)) := Aft.alloc _ _
  have k2' : (W.alloc (.cells #[.int .i64 l.word, .int .i64 l.other] 70)).cell? ⟨B2, 0, none⟩ = some (.int .i64 e) := by simpa [go_sem, l2] using k2
  have K2 := Lib.hid k2'
  clear k2 k2'
  have C1 := Lib.hid (below1_any l.word e B2 _ K2.out he he')
  have C2 := Lib.hid (below1_any l.other e B2 _ K2.out he he')
  cases h1 : fromB l.word 0 (e - 1) <;> cases h2 : fromB l.other 0 (e - 1)
  all_goals
    rw [h1] at C1; rw [h2] at C2
    have H1 := Lib.hid h1
    have H2 := Lib.hid h2
    clear h1 h2
    by_cases ho : l.other = -1
    · have ho' : (l.other == -1) = true := by rw [beq_iff_eq]; exact ho
      have HO := Lib.hid ho
      clear ho
      go_enter Tryz.func90, Tryz.ntmps90
      go_wp2_with (first | (go_at_call_of 131 (Value.int IntKind.i64 l.word); refine C1.out.mono ?_; rintro e w' ⟨rfl, rfl⟩) | (go_at_call_of 131 (Value.int IntKind.i64 l.other); refine C2.out.mono ?_; rintro e w' ⟨rfl, rfl⟩))
      go_ret
      exact ⟨ret_bool (by unfold legOk; simp [H1.out, HO.out]), hW⟩
    · have ho' : (l.other == -1) = false := by rw [beq_eq_false_iff_ne]; exact ho
      have HO := Lib.hid ho
      clear ho
      go_enter Tryz.func90, Tryz.ntmps90
      go_wp2_with (first | (go_at_call_of 131 (Value.int IntKind.i64 l.word); refine C1.out.mono ?_; rintro e w' ⟨rfl, rfl⟩) | (go_at_call_of 131 (Value.int IntKind.i64 l.other); refine C2.out.mono ?_; rintro e w' ⟨rfl, rfl⟩))
      go_ret
      exact ⟨ret_bool (by unfold legOk; simp [H1.out, H2.out, HO.out]), hW⟩

set_option maxHeartbeats 400000 in
theorem check5_asks (m : Mean) (v0 v1 : Value) (w : World) (h : MeanR w m [v0, v1]) : Asks Tryz.prog 91 [] w (.agg #[v0, v1]) (risesB m.kinds && risesB m.ends) := by
  obtain ⟨A, c, A', c', hv, hA, hA'⟩ := h
  simp only [List.cons.injEq, and_true] at hv
  obtain ⟨rfl, rfl⟩ := hv
  intro u
  have hA2 := hA.lat u
  have hA2' := hA'.lat u
  clear hA hA'
  generalize w.lat u = W at *
  have C1 := Lib.hid (rises_any A m.kinds c _ (hA2.aft (Aft.alloc W (.cells #[.slice A m.kinds.length c, .slice A' m.ends.length c'] 67))))
  have C2 := fun u' => rises_any A' m.ends c' _ ((hA2'.aft (Aft.alloc W (.cells #[.slice A m.kinds.length c, .slice A' m.ends.length c'] 67))).lat u')
  have HC2 := Lib.hid C2
  clear C2
  cases h1 : risesB m.kinds
  all_goals
    rw [h1] at C1
    have H1 := Lib.hid h1
    clear h1
    go_enter Tryz.func91, Tryz.ntmps91
    go_wp2_with (first | (go_at_call_of 92 (Value.slice A m.kinds.length c); refine C1.out.mono ?_; rintro e w' ⟨rfl, u1, rfl⟩) | (go_at_call_of 92 (Value.slice A' m.ends.length c'); refine (HC2.out _).mono ?_; rintro e w' ⟨rfl, u1, rfl⟩))
    go_ret
    exact ⟨rfl, by repeat (first | exact Aft.alloc _ _ | refine Aft.then_lat ?_ _)⟩

set_option maxHeartbeats 400000 in
/-- (Treaty).meanings: whether something is so for all meanings -/
theorem meanings_any (T : Treaty) (a1 a2 a3 a4 : Option Addr) (c1 c2 c3 c4 : Nat) (K : FuncId) (cap : List Value) (p : Mean → Bool) (w : World) (hT : TRep w T a1 a2 a3 a4)
    (hK : ∀ args w, (callFunc K args).run Tryz.prog w = .ok (.enter K args) w)
    (hp : ∀ l ∈ T.words, ∀ m ∈ l, ∀ u v0 v1, MeanR (w.lat u) m [v0, v1] → Asks Tryz.prog K cap (w.lat u) (.agg #[v0, v1]) (p m)) :
    Calls Tryz.prog 85 #[.agg #[.int .i64 T.places, .slice a1 T.ways.length c1, .slice a2 T.words.length c2, .slice a3 T.starts.length c3, .slice a4 T.legs.length c4], .func (.func K) #[] cap.toArray] w fun e w' => e = .returned (.bool (T.words.all fun l => l.all p)) ∧ Aft w w' := by
  have HP := Lib.hid hp
  clear hp
  have hw1 : Aft w ((w.alloc (.cells #[.int .i64 T.places, .slice a1 T.ways.length c1, .slice a2 T.words.length c2, .slice a3 T.starts.length c3, .slice a4 T.legs.length c4] 27)).alloc (.cells #[.func (.func K) #[] cap.toArray] 138)) := (Aft.alloc _ _).then_alloc _
  have hc9 : ((w.alloc (.cells #[.int .i64 T.places, .slice a1 T.ways.length c1, .slice a2 T.words.length c2, .slice a3 T.starts.length c3, .slice a4 T.legs.length c4] 27)).alloc (.cells #[.func (.func K) #[] cap.toArray] 138)).cell? ⟨w.heap.size + 1, 0, none⟩ = some (.func (.func K) #[] cap.toArray) := by simp [go_sem]
  have hs9 : w.heap.size + 1 < ((w.alloc (.cells #[.int .i64 T.places, .slice a1 T.ways.length c1, .slice a2 T.words.length c2, .slice a3 T.starts.length c3, .slice a4 T.legs.length c4] 27)).alloc (.cells #[.func (.func K) #[] cap.toArray] 138)).heap.size := by simp
  have hwd := hT.words.aft WordR.mono hw1
  have hc := each_words WordR WordR.mono 132 [.pointer (some ⟨w.heap.size + 1, 0, none⟩)] (fun l => l.all p) a2 T.words c2 _ hwd runs_101 (fun l hl u v0 hv => by
    obtain ⟨A, c, he, hA⟩ := hv
    cases he
    obtain ⟨u9, hu9⟩ := hw1
    intro u2
    have hA2 := hA.lat MeanR.mono u2
    have k9 : ((((w.alloc (.cells #[.int .i64 T.places, .slice a1 T.ways.length c1, .slice a2 T.words.length c2, .slice a3 T.starts.length c3, .slice a4 T.legs.length c4] 27)).alloc (.cells #[.func (.func K) #[] cap.toArray] 138)).lat u).lat u2).cell? ⟨w.heap.size + 1, 0, none⟩ = some (.func (.func K) #[] cap.toArray) := by
      rw [World.lat_cell _ _ _ _ (Nat.lt_of_lt_of_le hs9 (World.lat_size _ _)), World.lat_cell _ _ _ _ hs9]; exact hc9
    have hal : ∃ u3, (((w.alloc (.cells #[.int .i64 T.places, .slice a1 T.ways.length c1, .slice a2 T.words.length c2, .slice a3 T.starts.length c3, .slice a4 T.legs.length c4] 27)).alloc (.cells #[.func (.func K) #[] cap.toArray] 138)).lat u).lat u2 = w.lat u3 := by
      obtain ⟨u3, h3⟩ := (((Aft.alloc w (.cells #[.int .i64 T.places, .slice a1 T.ways.length c1, .slice a2 T.words.length c2, .slice a3 T.starts.length c3, .slice a4 T.legs.length c4] 27)).then_alloc (.cells #[.func (.func K) #[] cap.toArray] 138)).then_lat u).then_lat u2
      exact ⟨u3, h3⟩
    generalize ((((w.alloc (.cells #[.int .i64 T.places, .slice a1 T.ways.length c1, .slice a2 T.words.length c2, .slice a3 T.starts.length c3, .slice a4 T.legs.length c4] 27)).alloc (.cells #[.func (.func K) #[] cap.toArray] 138)).lat u).lat u2) = W at *
    obtain ⟨u3, rfl⟩ := hal
    have hcall := each_mean MeanR MeanR.mono K cap p A l c (w.lat u3) hA2 hK (fun m hm u4 v0 v1 hv => HP.out l hl m hm (u3.trans u4) v0 v1 hv)
    have HC := Lib.hid hcall
    clear hcall
    go_enter Tryz.func132, Tryz.ntmps132
    go_wp2_with (go_at_call 133; refine HC.out.mono ?_; rintro e w' ⟨rfl, u5, rfl⟩)
    go_ret
    exact ⟨rfl, Aft.lat _ _⟩)
  have HC := Lib.hid hc
  clear hc hwd
  go_enter Tryz.func85, Tryz.ntmps85
  go_wp2_with (go_at_call 82; refine HC.out.mono ?_; rintro e w' ⟨rfl, u5, rfl⟩)
  go_ret
  exact ⟨rfl, hw1.then_lat _⟩
end Go.Proofs
end

section
/- Walks: Check. -/
namespace Go.Proofs
open Go.RowKit

def wayErr (p : Int) (x : Way) : Int := if (!fromB x.a 0 (p - 1) || !fromB x.b 0 (p - 1) || decide (x.a = x.b)) = true then 2 else if fromB x.kind 0 7 = true then 0 else 4
def waysErr (p : Int) : List Way → Int
  | [] => 0
  | x :: r => if wayErr p x = 0 then waysErr p r else wayErr p x
theorem waysErr_zero (p : Int) (l : List Way) : waysErr p l = 0 ↔ ∀ x ∈ l, wayErr p x = 0 := by
  induction l with
  | nil => simp [waysErr]
  | cons x r ih =>
    unfold waysErr
    by_cases h : wayErr p x = 0
    · rw [if_pos h, ih]; simp [h]
    · rw [if_neg h]; simp [h]
theorem waysErr_at (p : Int) (l : List Way) (k : Nat) (hk : k < l.length) (h0 : ∀ x ∈ l.take k, wayErr p x = 0) (h1 : wayErr p l[k] ≠ 0) : waysErr p l = wayErr p l[k] := by
  induction l generalizing k with
  | nil => simp at hk
  | cons x r ih =>
    cases k with
    | zero => unfold waysErr; simp at h1 ⊢; exact fun h => absurd h h1
    | succ k =>
      unfold waysErr
      rw [if_pos (h0 x (by simp))]
      simp only [List.getElem_cons_succ] at h1 ⊢
      exact ih k (by simpa using hk) (fun y hy => h0 y (by simp [hy])) h1

def prodLen (l : List (List Mean)) : Nat := l.foldl (fun n w => n * w.length) 1
theorem prodLen_succ (l : List (List Mean)) (k : Nat) (h : k < l.length) : prodLen (l.take (k + 1)) = prodLen (l.take k) * l[k].length := by
  unfold prodLen; rw [List.take_succ_eq_append_getElem h, List.foldl_append]; rfl
theorem prodLen_le (l : List (List Mean)) (h : ∀ w ∈ l, w.length ≤ 4) (k : Nat) (hk : k ≤ l.length) : prodLen (l.take k) ≤ 4 ^ k := by
  induction k with
  | zero => simp [prodLen]
  | succ k ih =>
    rw [prodLen_succ l k (by omega), Nat.pow_succ]
    exact Nat.mul_le_mul (ih (by omega)) (h _ (List.getElem_mem _))

def cntBad (T : Treaty) : Bool := !fromB T.places 1 12 || decide (40 < T.ways.length) || decide (6 < T.words.length) || !fromB T.starts.length 1 T.places || decide (10 < T.legs.length)

/-- P1.1: the error of a treaty, 0 if there is none -/
def checkE (T : Treaty) : Int :=
  if cntBad T = true then 3
  else if T.words.all (fun l => fromB l.length 1 4) = false then 3
  else if waysErr T.places T.ways ≠ 0 then waysErr T.places T.ways
  else if T.words.all (fun l => l.all fun m => m.kinds.all fun x => fromB x 0 7) = false then 4
  else if T.words.all (fun l => l.all fun m => m.ends.all fun x => fromB x 0 (T.places - 1)) = false then 2
  else if T.starts.all (fun x => fromB x 0 (T.places - 1)) = false then 2
  else if T.legs.all (legOk T.words.length) = false then 2
  else if (T.words.all (fun l => l.all fun m => risesB m.kinds && risesB m.ends) && risesB T.starts) = false then 5
  else if 256 < prodLen T.words then 11 else 0

theorem fromB_iff {n a b : Int} : fromB n a b = true ↔ a ≤ n ∧ n ≤ b := by unfold fromB; simp

set_option maxRecDepth 100000 in
set_option maxHeartbeats 1000000 in
theorem check_cnt (T : Treaty) (a1 a2 a3 a4 : Option Addr) (c1 c2 c3 c4 : Nat) (w : World) (hT : TRep w T a1 a2 a3 a4) (hbad : cntBad T = true) :
    Calls Tryz.prog 37 #[.agg #[.int .i64 T.places, .slice a1 T.ways.length c1, .slice a2 T.words.length c2, .slice a3 T.starts.length c3, .slice a4 T.legs.length c4]] w fun e w' => e = .returned (.int .i64 3) ∧ Aft w w' := by
  have hl1 := hT.ways.len (by decide)
  have hl2 := hT.words.len (by decide)
  have hl3 := hT.starts.len
  have hl4 := hT.legs.len (by decide)
  unfold cntBad at hbad
  cases h1 : fromB T.places 1 12
  · have H1 := Lib.hid h1; clear h1 hbad
    go_enter Tryz.func37, Tryz.ntmps37
    go_wp2_with (go_at_call_of 81 (Value.int IntKind.i64 T.places); refine (from_any _ _ _ _).mono ?_; rintro e w' ⟨rfl, rfl⟩; rw [H1.out])
    go_ret
    exact ⟨rfl, Aft.alloc _ _⟩
  have H1 := Lib.hid h1
  rw [h1] at hbad
  clear h1
  by_cases h2 : (40 : Int) < T.ways.length
  · clear hbad
    go_enter Tryz.func37, Tryz.ntmps37
    go_wp2_with (go_at_call_of 81 (Value.int IntKind.i64 T.places); refine (from_any _ _ _ _).mono ?_; rintro e w' ⟨rfl, rfl⟩; rw [H1.out])
    go_ret
    exact ⟨rfl, Aft.alloc _ _⟩
  by_cases h3 : (6 : Int) < T.words.length
  · clear hbad
    go_enter Tryz.func37, Tryz.ntmps37
    go_wp2_with (go_at_call_of 81 (Value.int IntKind.i64 T.places); refine (from_any _ _ _ _).mono ?_; rintro e w' ⟨rfl, rfl⟩; rw [H1.out])
    go_ret
    exact ⟨rfl, Aft.alloc _ _⟩
  cases h4 : fromB T.starts.length 1 T.places
  · have H4 := Lib.hid h4; clear h4 hbad
    go_enter Tryz.func37, Tryz.ntmps37
    go_wp2_with (first | (go_at_call_of 81 (Value.int IntKind.i64 T.places); refine (from_any _ _ _ _).mono ?_; rintro e w' ⟨rfl, rfl⟩; rw [H1.out]) | (go_at_call_of 81 (Value.int IntKind.i64 (T.starts.length : Int)); refine (from_any _ _ _ _).mono ?_; rintro e w' ⟨rfl, rfl⟩; rw [H4.out]))
    go_ret
    exact ⟨rfl, Aft.alloc _ _⟩
  have H4 := Lib.hid h4
  rw [h4] at hbad
  clear h4
  have h5 : (10 : Int) < T.legs.length := by simp at hbad; omega
  clear hbad
  go_enter Tryz.func37, Tryz.ntmps37
  go_wp2_with (first | (go_at_call_of 81 (Value.int IntKind.i64 T.places); refine (from_any _ _ _ _).mono ?_; rintro e w' ⟨rfl, rfl⟩; rw [H1.out]) | (go_at_call_of 81 (Value.int IntKind.i64 (T.starts.length : Int)); refine (from_any _ _ _ _).mono ?_; rintro e w' ⟨rfl, rfl⟩; rw [H4.out]))
  go_ret
  exact ⟨rfl, Aft.alloc _ _⟩
end Go.Proofs
end

section
/- Walks: Check, where the counts are right. -/
namespace Go.Proofs
open Go.RowKit


set_option maxRecDepth 100000 in
set_option maxHeartbeats 2000000 in
theorem check_main (T : Treaty) (a1 a2 a3 a4 : Option Addr) (c1 c2 c3 c4 : Nat) (w : World) (hT : TRep w T a1 a2 a3 a4) (hbad : cntBad T = false) :
    Calls Tryz.prog 37 #[.agg #[.int .i64 T.places, .slice a1 T.ways.length c1, .slice a2 T.words.length c2, .slice a3 T.starts.length c3, .slice a4 T.legs.length c4]] w fun e w' => e = .returned (.int .i64 (checkE T)) ∧ Aft w w' := by
  have hfin : checkE T = checkE T := rfl
  conv at hfin => rhs; unfold checkE; rw [if_neg (by rw [hbad]; decide)]
  have HF := Lib.hid hfin
  clear hfin
  simp only [cntBad, Bool.or_eq_false_iff, Bool.not_eq_false', decide_eq_false_iff_not] at hbad
  obtain ⟨⟨⟨⟨b1, b2⟩, b3⟩, b4⟩, b5⟩ := hbad
  have B1 := Lib.hid b1
  have B4 := Lib.hid b4
  have p1 := fromB_iff.1 b1
  have p4 := fromB_iff.1 b4
  clear b1 b4
  obtain ⟨p1, p2⟩ := p1
  obtain ⟨p3, p4⟩ := p4
  have b2' : decide ((40 : Int) < T.ways.length) = false := by simp; omega
  have b3' : decide ((6 : Int) < T.words.length) = false := by simp; omega
  have b5' : decide ((10 : Int) < T.legs.length) = false := by simp; omega
  have hwd := Lib.hid (fun W (ha : Aft w W) => each_words WordR WordR.mono 83 [] (fun l => fromB l.length 1 4) a2 T.words c2 W (hT.words.aft WordR.mono ha) runs_50 (fun l _ u v0 hv => check1_asks l v0 _ hv))
  go_enter Tryz.func37, Tryz.ntmps37
  go_wp2_with (first | (go_at_call_of 81 (Value.int IntKind.i64 T.places); refine (from_any _ _ _ _).mono ?_; rintro e w' ⟨rfl, rfl⟩; rw [B1.out]) | (go_at_call_of 81 (Value.int IntKind.i64 (T.starts.length : Int)); refine (from_any _ _ _ _).mono ?_; rintro e w' ⟨rfl, rfl⟩; rw [B4.out]))
  refine (hwd.out _ (Aft.alloc _ _)).mono ?_
  rintro e w' ⟨rfl, u1, rfl⟩
  have haf : Aft w ((w.alloc (.cells #[.int .i64 T.places, .slice a1 T.ways.length c1, .slice a2 T.words.length c2, .slice a3 T.starts.length c3, .slice a4 T.legs.length c4] 27)).lat u1) := (Aft.alloc _ _).then_lat _
  have hlt : w.heap.size < ((w.alloc (.cells #[.int .i64 T.places, .slice a1 T.ways.length c1, .slice a2 T.words.length c2, .slice a3 T.starts.length c3, .slice a4 T.legs.length c4] 27)).lat u1).heap.size := Nat.lt_of_lt_of_le (by simp) (World.lat_size _ _)
  have k0 : ((w.alloc (.cells #[.int .i64 T.places, .slice a1 T.ways.length c1, .slice a2 T.words.length c2, .slice a3 T.starts.length c3, .slice a4 T.legs.length c4] 27)).lat u1).cell? ⟨w.heap.size, 0, none⟩ = some (.int .i64 T.places) := by simp [go_sem]
  have k1 : ((w.alloc (.cells #[.int .i64 T.places, .slice a1 T.ways.length c1, .slice a2 T.words.length c2, .slice a3 T.starts.length c3, .slice a4 T.legs.length c4] 27)).lat u1).cell? ⟨w.heap.size, 1, none⟩ = some (.slice a1 T.ways.length c1) := by simp [go_sem]
  have k2 : ((w.alloc (.cells #[.int .i64 T.places, .slice a1 T.ways.length c1, .slice a2 T.words.length c2, .slice a3 T.starts.length c3, .slice a4 T.legs.length c4] 27)).lat u1).cell? ⟨w.heap.size, 2, none⟩ = some (.slice a2 T.words.length c2) := by simp [go_sem]
  have k3 : ((w.alloc (.cells #[.int .i64 T.places, .slice a1 T.ways.length c1, .slice a2 T.words.length c2, .slice a3 T.starts.length c3, .slice a4 T.legs.length c4] 27)).lat u1).cell? ⟨w.heap.size, 3, none⟩ = some (.slice a3 T.starts.length c3) := by simp [go_sem]
  have k4 : ((w.alloc (.cells #[.int .i64 T.places, .slice a1 T.ways.length c1, .slice a2 T.words.length c2, .slice a3 T.starts.length c3, .slice a4 T.legs.length c4] 27)).lat u1).cell? ⟨w.heap.size, 4, none⟩ = some (.slice a4 T.legs.length c4) := by simp [go_sem]
  generalize (w.alloc (.cells #[.int .i64 T.places, .slice a1 T.ways.length c1, .slice a2 T.words.length c2, .slice a3 T.starts.length c3, .slice a4 T.legs.length c4] 27)).lat u1 = W1 at *
  generalize w.heap.size = Bt at *
  cases q1 : T.words.all (fun l => fromB l.length 1 4)
  · have Q1 := Lib.hid q1; clear q1
    go_wp2
    go_ret
    exact ⟨ret_int (by rw [HF.out, if_pos Q1.out]), haf⟩
  have Q1 := Lib.hid q1; clear q1
  go_wp2_with (go_at_call 84; refine (below_any _ _).mono ?_; rintro e w' ⟨rfl, rfl⟩)
  have haf2 : Aft w ((W1.alloc (.cells #[.int .i64 T.places] 3)).alloc (.cells #[.func (.func 131) #[] #[.pointer (some ⟨W1.heap.size, 0, none⟩)]] 100)) := (haf.then_alloc _).then_alloc _
  have hlt2 : W1.heap.size + 1 < ((W1.alloc (.cells #[.int .i64 T.places] 3)).alloc (.cells #[.func (.func 131) #[] #[.pointer (some ⟨W1.heap.size, 0, none⟩)]] 100)).heap.size := by simp
  have k0' := (show _ = _ from (by simp [go_sem, hlt, k0] : ((W1.alloc (.cells #[.int .i64 T.places] 3)).alloc (.cells #[.func (.func 131) #[] #[.pointer (some ⟨W1.heap.size, 0, none⟩)]] 100)).cell? ⟨Bt, 0, none⟩ = some (.int .i64 T.places)))
  have k1' := (show _ = _ from (by simp [go_sem, hlt, k1] : ((W1.alloc (.cells #[.int .i64 T.places] 3)).alloc (.cells #[.func (.func 131) #[] #[.pointer (some ⟨W1.heap.size, 0, none⟩)]] 100)).cell? ⟨Bt, 1, none⟩ = some (.slice a1 T.ways.length c1)))
  have k2' := (show _ = _ from (by simp [go_sem, hlt, k2] : ((W1.alloc (.cells #[.int .i64 T.places] 3)).alloc (.cells #[.func (.func 131) #[] #[.pointer (some ⟨W1.heap.size, 0, none⟩)]] 100)).cell? ⟨Bt, 2, none⟩ = some (.slice a2 T.words.length c2)))
  have k3' := (show _ = _ from (by simp [go_sem, hlt, k3] : ((W1.alloc (.cells #[.int .i64 T.places] 3)).alloc (.cells #[.func (.func 131) #[] #[.pointer (some ⟨W1.heap.size, 0, none⟩)]] 100)).cell? ⟨Bt, 3, none⟩ = some (.slice a3 T.starts.length c3)))
  have k4' := (show _ = _ from (by simp [go_sem, hlt, k4] : ((W1.alloc (.cells #[.int .i64 T.places] 3)).alloc (.cells #[.func (.func 131) #[] #[.pointer (some ⟨W1.heap.size, 0, none⟩)]] 100)).cell? ⟨Bt, 4, none⟩ = some (.slice a4 T.legs.length c4)))
  have kp := (show _ = _ from (by simp [go_sem] : ((W1.alloc (.cells #[.int .i64 T.places] 3)).alloc (.cells #[.func (.func 131) #[] #[.pointer (some ⟨W1.heap.size, 0, none⟩)]] 100)).cell? ⟨W1.heap.size, 0, none⟩ = some (.int .i64 T.places)))
  have kf := (show _ = _ from (by simp [go_sem] : ((W1.alloc (.cells #[.int .i64 T.places] 3)).alloc (.cells #[.func (.func 131) #[] #[.pointer (some ⟨W1.heap.size, 0, none⟩)]] 100)).cell? ⟨W1.heap.size + 1, 0, none⟩ = some (.func (.func 131) #[] #[.pointer (some ⟨W1.heap.size, 0, none⟩)])))
  clear k0 k1 k2 k3 k4
  generalize (W1.alloc (.cells #[.int .i64 T.places] 3)).alloc (.cells #[.func (.func 131) #[] #[.pointer (some ⟨W1.heap.size, 0, none⟩)]] 100) = W2 at *
  have hs1 : W1.heap.size < W2.heap.size := by omega
  have hs0 : Bt < W2.heap.size := by omega
  generalize W1.heap.size = Bp at *
  have hTw : TRep W2 T a1 a2 a3 a4 := hT.aft haf2
  have hwl := hTw.ways.len (by decide)
  go_loopw [51] (fun i wr => ∃ k : Nat, i = .int .i64 k ∧ k ≤ T.ways.length ∧ (∀ x ∈ T.ways.take k, wayErr T.places x = 0) ∧ Aft W2 wr) (fun i _ => T.ways.length - (intOf i).toNat)
  case atStart => exact ⟨0, rfl, by omega, by simp, Aft.refl _⟩
  case round =>
    obtain ⟨k, rfl, hk, hok, u, rfl⟩ := hrel
    have HO := Lib.hid hok
    clear hok
    by_cases hlk : k < T.ways.length
    · obtain ⟨bw, ow, rfl, hbw, hc⟩ := hTw.ways.at hlk
      obtain ⟨vs, hv1, hv2, hv3⟩ := hc k hlk
      cases hv2
      have cA : W2.cell? ⟨bw, ow + k * 3, none⟩ = some (.int .i64 T.ways[k].a) := hv3 0 (by simp)
      have cB : W2.cell? ⟨bw, ow + k * 3 + 1, none⟩ = some (.int .i64 T.ways[k].b) := hv3 1 (by simp)
      have cK : W2.cell? ⟨bw, ow + k * 3 + 2, none⟩ = some (.int .i64 T.ways[k].kind) := hv3 2 (by simp)
      have hat := Lib.hid (waysErr_at T.places T.ways k hlk HO.out)
      have hstep : Hid (wayErr T.places T.ways[k] = 0 → ∀ x ∈ T.ways.take (k + 1), wayErr T.places x = 0) := Lib.hid fun h x hx => by
        rw [List.take_succ_eq_append_getElem hlk, List.mem_append] at hx
        rcases hx with hx | hx
        · exact HO.out x hx
        · rw [List.mem_singleton] at hx; subst hx; exact h
      clear hc hv1 hv3
      generalize T.ways[k] = x at *
      have CA := Lib.hid (fun W (h : W.cell? ⟨Bp, 0, none⟩ = some (.int .i64 T.places)) => below1_any x.a T.places Bp W h (by omega) (by omega))
      have CB := Lib.hid (fun W (h : W.cell? ⟨Bp, 0, none⟩ = some (.int .i64 T.places)) => below1_any x.b T.places Bp W h (by omega) (by omega))
      have CK := Lib.hid (fun W => from_any x.kind 0 7 W)
      go_wp2_with fail
      refine (CA.out _ (by simp [go_sem, hs1, kp])).mono ?_
      rintro e w' ⟨rfl, rfl⟩
      cases ha : fromB x.a 0 (T.places - 1)
      · have HA := Lib.hid ha; clear ha
        go_wp2
        go_ret
        have e2 : wayErr T.places x = 2 := by unfold wayErr; simp [HA.out]
        exact ⟨ret_int (by rw [HF.out, if_neg (by rw [Q1.out]; decide), hat.out (by rw [e2]; decide), e2]; rfl), haf2.trans ((Aft.lat _ _).then_alloc _)⟩
      have HA := Lib.hid ha; clear ha
      go_wp2_with fail
      refine (CB.out _ (by simp [go_sem, hs1, kp])).mono ?_
      rintro e w' ⟨rfl, rfl⟩
      cases hb : fromB x.b 0 (T.places - 1)
      · have HB := Lib.hid hb; clear hb
        go_wp2
        go_ret
        have e2 : wayErr T.places x = 2 := by unfold wayErr; simp [HB.out]
        exact ⟨ret_int (by rw [HF.out, if_neg (by rw [Q1.out]; decide), hat.out (by rw [e2]; decide), e2]; rfl), haf2.trans ((Aft.lat _ _).then_alloc _)⟩
      have HB := Lib.hid hb; clear hb
      by_cases hab : x.a = x.b
      · have hab' : (x.a == x.b) = true := by rw [beq_iff_eq]; exact hab
        have hba' : (x.b == x.a) = true := by rw [beq_iff_eq]; exact hab.symm
        have HAB := Lib.hid hab; clear hab
        go_wp2_with fail
        go_ret
        have e2 : wayErr T.places x = 2 := by unfold wayErr; simp [HAB.out]
        exact ⟨ret_int (by rw [HF.out, if_neg (by rw [Q1.out]; decide), hat.out (by rw [e2]; decide), e2]; rfl), haf2.trans ((Aft.lat _ _).then_alloc _)⟩
      · have hab' : (x.a == x.b) = false := by rw [beq_eq_false_iff_ne]; exact hab
        have hba' : (x.b == x.a) = false := by rw [beq_eq_false_iff_ne]; exact fun h => hab h.symm
        have HAB := Lib.hid hab; clear hab
        go_wp2_with fail
        refine (CK.out _).mono ?_
        rintro e w' ⟨rfl, rfl⟩
        cases hk7 : fromB x.kind 0 7
        · have HK := Lib.hid hk7; clear hk7
          go_wp2_with fail
          go_ret
          have e2 : wayErr T.places x = 4 := by unfold wayErr; simp [HA.out, HB.out, HAB.out, HK.out]
          exact ⟨ret_int (by rw [HF.out, if_neg (by rw [Q1.out]; decide), hat.out (by rw [e2]; decide), e2]; rfl), haf2.trans ((Aft.lat _ _).then_alloc _)⟩
        · have HK := Lib.hid hk7; clear hk7
          go_wp2_with fail
          go_roundw
          case rel =>
            have e2 : wayErr T.places x = 0 := by unfold wayErr; simp [HA.out, HB.out, HAB.out, HK.out]
            exact ⟨k + 1, by go_num, by omega, hstep.out e2, (Aft.lat _ _).then_alloc _⟩
          case measure => simp [intOf]; omega
    · have hz : waysErr T.places T.ways = 0 := (waysErr_zero _ _).2 (by have := HO.out; rwa [List.take_of_length_le (by omega)] at this)
      have HZ := Lib.hid hz
      clear hz HO
      have hwl2 := hTw.words.len (by decide)
      -- the meanings' kinds
      have M1 := Lib.hid (fun W (ha : Aft W2 W) => meanings_any T a1 a2 a3 a4 c1 c2 c3 c4 86 [] (fun m => m.kinds.all fun x => fromB x 0 7) W (hTw.aft ha) runs_53 (fun l _ m _ u' v0 v1 hv => check2_asks m v0 v1 _ hv))
      have M2 := Lib.hid (fun W (ha : Aft W2 W) => meanings_any T a1 a2 a3 a4 c1 c2 c3 c4 88 [.pointer (some ⟨Bp + 1, 0, none⟩)] (fun m => m.ends.all fun x => fromB x 0 (T.places - 1)) W (hTw.aft ha) runs_55 (fun l _ m _ u' v0 v1 hv => by
        obtain ⟨u0, rfl⟩ := ha
        exact check3_asks m v0 v1 (Bp + 1) Bp T.places _ hv (Nat.lt_of_lt_of_le hlt2 ((Aft.lat W2 u0).then_lat u').size) (by simp [go_sem, hlt2, kf]) (Nat.lt_of_lt_of_le hs1 ((Aft.lat W2 u0).then_lat u').size) (by simp [go_sem, hs1, kp]) (by omega) (by omega)))
      have M3 := Lib.hid (fun W (ha : Aft W2 W) => each_below a3 T.starts c3 Bp T.places W (hTw.starts.aft ha) (Nat.lt_of_lt_of_le hs1 ha.size) (by obtain ⟨u0, rfl⟩ := ha; simp [go_sem, hs1, kp]) (by omega) (by omega))
      have M5 := Lib.hid (fun W (ha : Aft W2 W) => meanings_any T a1 a2 a3 a4 c1 c2 c3 c4 91 [] (fun m => risesB m.kinds && risesB m.ends) W (hTw.aft ha) runs_58 (fun l _ m _ u' v0 v1 hv => check5_asks m v0 v1 _ hv))
      have M6 := Lib.hid (fun W (ha : Aft W2 W) => rises_any a3 T.starts c3 W (hTw.starts.aft ha))
      go_wp2_with fail
      refine (below_any _ _).mono ?_
      rintro e w' ⟨rfl, rfl⟩
      go_upto_block 2 with (fail)
      have haf3 : Aft W2 (((W2.lat u).alloc (.cells #[.int .i64 T.words.length] 3)).alloc (.cells #[.func (.func 131) #[] #[.pointer (some ⟨(W2.lat u).heap.size, 0, none⟩)]] 100)) := ((Aft.lat _ _).then_alloc _).then_alloc _
      have hq1 : (W2.lat u).heap.size + 1 < (((W2.lat u).alloc (.cells #[.int .i64 T.words.length] 3)).alloc (.cells #[.func (.func 131) #[] #[.pointer (some ⟨(W2.lat u).heap.size, 0, none⟩)]] 100)).heap.size := by simp
      have kq : (((W2.lat u).alloc (.cells #[.int .i64 T.words.length] 3)).alloc (.cells #[.func (.func 131) #[] #[.pointer (some ⟨(W2.lat u).heap.size, 0, none⟩)]] 100)).cell? ⟨(W2.lat u).heap.size, 0, none⟩ = some (.int .i64 T.words.length) := by simp [go_sem]
      have kg : (((W2.lat u).alloc (.cells #[.int .i64 T.words.length] 3)).alloc (.cells #[.func (.func 131) #[] #[.pointer (some ⟨(W2.lat u).heap.size, 0, none⟩)]] 100)).cell? ⟨(W2.lat u).heap.size + 1, 0, none⟩ = some (.func (.func 131) #[] #[.pointer (some ⟨(W2.lat u).heap.size, 0, none⟩)]) := by simp [go_sem]
      generalize ((W2.lat u).alloc (.cells #[.int .i64 T.words.length] 3)).alloc (.cells #[.func (.func 131) #[] #[.pointer (some ⟨(W2.lat u).heap.size, 0, none⟩)]] 100) = W3 at *
      have hq0 : (W2.lat u).heap.size < W3.heap.size := by omega
      generalize (W2.lat u).heap.size = Bq at *
      have r0 : W3.cell? ⟨Bt, 0, none⟩ = some (.int .i64 T.places) := by obtain ⟨u', rfl⟩ := haf3; rw [World.lat_cell _ _ _ _ hs0]; exact k0'
      have r1 : W3.cell? ⟨Bt, 1, none⟩ = some (.slice a1 T.ways.length c1) := by obtain ⟨u', rfl⟩ := haf3; rw [World.lat_cell _ _ _ _ hs0]; exact k1'
      have r2 : W3.cell? ⟨Bt, 2, none⟩ = some (.slice a2 T.words.length c2) := by obtain ⟨u', rfl⟩ := haf3; rw [World.lat_cell _ _ _ _ hs0]; exact k2'
      have r3 : W3.cell? ⟨Bt, 3, none⟩ = some (.slice a3 T.starts.length c3) := by obtain ⟨u', rfl⟩ := haf3; rw [World.lat_cell _ _ _ _ hs0]; exact k3'
      have r4 : W3.cell? ⟨Bt, 4, none⟩ = some (.slice a4 T.legs.length c4) := by obtain ⟨u', rfl⟩ := haf3; rw [World.lat_cell _ _ _ _ hs0]; exact k4'
      have rf : W3.cell? ⟨Bp + 1, 0, none⟩ = some (.func (.func 131) #[] #[.pointer (some ⟨Bp, 0, none⟩)]) := by obtain ⟨u', rfl⟩ := haf3; rw [World.lat_cell _ _ _ _ hlt2]; exact kf
      have z0 : Bt < W3.heap.size := Nat.lt_of_lt_of_le hs0 haf3.size
      have z1 : Bp + 1 < W3.heap.size := Nat.lt_of_lt_of_le hlt2 haf3.size
      have M4 := Lib.hid (fun W (ha : Aft W3 W) => each_leg LegR LegR.mono 90 [.pointer (some ⟨Bq + 1, 0, none⟩)] (legOk T.words.length) a4 T.legs c4 W (hTw.legs.aft LegR.mono (haf3.trans ha)) runs_57 (fun l _ u' v0 v1 hv => by
        cases hv
        obtain ⟨u0, rfl⟩ := ha
        exact check4_asks l (Bq + 1) Bq T.words.length _ (Nat.lt_of_lt_of_le hq1 ((Aft.lat _ u0).then_lat u').size) (by rw [World.lat_cell _ _ _ _ (Nat.lt_of_lt_of_le hq1 (World.lat_size _ _)), World.lat_cell _ _ _ _ hq1]; exact kg)
          (Nat.lt_of_lt_of_le hq0 ((Aft.lat _ u0).then_lat u').size) (by rw [World.lat_cell _ _ _ _ (Nat.lt_of_lt_of_le hq0 (World.lat_size _ _)), World.lat_cell _ _ _ _ hq0]; exact kq) (by omega) (by omega)))
      clear kq kg k0' k1' k2' k3' k4' kp kf hs0 hs1 hlt2
      have hafw := haf2.trans haf3
      go_wp2_with fail
      refine (M1.out _ (haf3)).mono ?_
      rintro e w' ⟨rfl, ha⟩
      obtain ⟨u9, rfl⟩ := ha
      cases q3 : T.words.all (fun l => l.all fun m => m.kinds.all fun x => fromB x 0 7)
      · have Q3 := Lib.hid q3; clear q3
        go_wp2_with fail
        go_ret
        exact ⟨ret_int (by rw [HF.out, if_neg (by rw [Q1.out]; decide), if_neg (by rw [HZ.out]; decide), if_pos Q3.out]), hafw.trans (Aft.lat _ _)⟩
      have Q3 := Lib.hid q3; clear q3
      go_wp2_with fail
      refine (M2.out _ (haf3.trans (Aft.lat _ _))).mono ?_
      rintro e w' ⟨rfl, ha⟩
      obtain ⟨u9, rfl⟩ := (Aft.lat _ _).trans ha
      clear ha
      cases q4 : T.words.all (fun l => l.all fun m => m.ends.all fun x => fromB x 0 (T.places - 1))
      · have Q4 := Lib.hid q4; clear q4
        go_wp2_with fail
        go_ret
        exact ⟨ret_int (by rw [HF.out, if_neg (by rw [Q1.out]; decide), if_neg (by rw [HZ.out]; decide), if_neg (by rw [Q3.out]; decide), if_pos Q4.out]), hafw.trans (Aft.lat _ _)⟩
      have Q4 := Lib.hid q4; clear q4
      go_wp2_with fail
      refine (M3.out _ (haf3.trans (Aft.lat _ _))).mono ?_
      rintro e w' ⟨rfl, ha⟩
      obtain ⟨u9, rfl⟩ := (Aft.lat _ _).trans ha
      clear ha
      cases q5 : T.starts.all (fun x => fromB x 0 (T.places - 1))
      · have Q5 := Lib.hid q5; clear q5
        go_wp2_with fail
        go_ret
        exact ⟨ret_int (by rw [HF.out, if_neg (by rw [Q1.out]; decide), if_neg (by rw [HZ.out]; decide), if_neg (by rw [Q3.out]; decide), if_neg (by rw [Q4.out]; decide), if_pos Q5.out]), hafw.trans (Aft.lat _ _)⟩
      have Q5 := Lib.hid q5; clear q5
      go_wp2_with fail
      refine (M4.out _ (Aft.lat _ _)).mono ?_
      rintro e w' ⟨rfl, ha⟩
      obtain ⟨u9, rfl⟩ := (Aft.lat _ _).trans ha
      clear ha
      cases q6 : T.legs.all (legOk T.words.length)
      · have Q6 := Lib.hid q6; clear q6
        go_wp2_with fail
        go_ret
        exact ⟨ret_int (by rw [HF.out, if_neg (by rw [Q1.out]; decide), if_neg (by rw [HZ.out]; decide), if_neg (by rw [Q3.out]; decide), if_neg (by rw [Q4.out]; decide), if_neg (by rw [Q5.out]; decide), if_pos Q6.out]), hafw.trans (Aft.lat _ _)⟩
      have Q6 := Lib.hid q6; clear q6
      go_wp2_with fail
      refine (M5.out _ (haf3.trans (Aft.lat _ _))).mono ?_
      rintro e w' ⟨rfl, ha⟩
      obtain ⟨u9, rfl⟩ := (Aft.lat _ _).trans ha
      clear ha
      have hnofin : (T.words.all (fun l => l.all fun m => risesB m.kinds && risesB m.ends) && risesB T.starts) = false → checkE T = 5 := fun h => by
        rw [HF.out, if_neg (by rw [Q1.out]; decide), if_neg (by rw [HZ.out]; decide), if_neg (by rw [Q3.out]; decide), if_neg (by rw [Q4.out]; decide), if_neg (by rw [Q5.out]; decide), if_neg (by rw [Q6.out]; decide), if_pos h]
      have hyes : (T.words.all (fun l => l.all fun m => risesB m.kinds && risesB m.ends) && risesB T.starts) = true → checkE T = if 256 < prodLen T.words then 11 else 0 := fun h => by
        rw [HF.out, if_neg (by rw [Q1.out]; decide), if_neg (by rw [HZ.out]; decide), if_neg (by rw [Q3.out]; decide), if_neg (by rw [Q4.out]; decide), if_neg (by rw [Q5.out]; decide), if_neg (by rw [Q6.out]; decide), if_neg (by rw [h]; decide)]
      have HNO := Lib.hid hnofin
      have HYES := Lib.hid hyes
      clear hnofin hyes
      cases q7 : T.words.all (fun l => l.all fun m => risesB m.kinds && risesB m.ends)
      · have Q7 := Lib.hid q7; clear q7
        go_wp2_with fail
        go_ret
        exact ⟨ret_int (by rw [HNO.out (by rw [Q7.out]; rfl)]), hafw.trans (Aft.lat _ _)⟩
      have Q7 := Lib.hid q7; clear q7
      go_wp2_with fail
      refine (M6.out _ (haf3.trans (Aft.lat _ _))).mono ?_
      rintro e w' ⟨rfl, ha⟩
      obtain ⟨u9, rfl⟩ := (Aft.lat _ _).trans ha
      clear ha
      cases q8 : risesB T.starts
      · have Q8 := Lib.hid q8; clear q8
        go_wp2_with fail
        go_ret
        exact ⟨ret_int (by rw [HNO.out (by rw [Q8.out, Bool.and_false])]), hafw.trans (Aft.lat _ _)⟩
      have Q8 := Lib.hid q8; clear q8
      have HY := Lib.hid (HYES.out (by rw [Q7.out, Q8.out]; rfl))
      go_wp2_with fail
      clear HNO HYES M1 M2 M3 M4 M5 M6
      have hle4 : ∀ l ∈ T.words, l.length ≤ 4 := fun l hl => by have := fromB_iff.1 (List.all_eq_true.1 Q1.out l hl); omega
      have HP4 := Lib.hid (fun k hk => prodLen_le T.words hle4 k hk)
      have HL4 := Lib.hid hle4
      clear hle4
      have hTz := hTw.words.aft WordR.mono (haf3.trans (Aft.lat _ u9))
      have hz9 := hafw.trans (Aft.lat _ u9)
      generalize W3.lat u9 = W9 at *
      go_loop [7, 121] (fun m i => ∃ k : Nat, i = .int .i64 k ∧ k ≤ T.words.length ∧ m = .int .i64 (prodLen (T.words.take k))) (fun _ i => T.words.length - (intOf i).toNat)
      case atStart => exact ⟨0, rfl, by omega, rfl⟩
      case round =>
        obtain ⟨k, rfl, hk, rfl⟩ := hrel
        by_cases hlk : k < T.words.length
        · obtain ⟨bw, ow, rfl, hbw, hc⟩ := hTz.at hlk
          obtain ⟨vs, hv1, ⟨A, c, hv2, _⟩, hv3⟩ := hc k hlk
          cases hv2
          have cA : W9.cell? ⟨bw, ow + k, none⟩ = some (.slice A T.words[k].length c) := by simpa using hv3 0 (by simp)
          have hpk := prodLen_succ T.words k hlk
          have h1 := HP4.out k hk
          have h2 := HL4.out T.words[k] (List.getElem_mem hlk)
          have h3 : 4 ^ k ≤ 4 ^ 6 := Nat.pow_le_pow_right (by decide) (by omega)
          have h4 : prodLen (T.words.take k) ≤ 4096 := Nat.le_trans h1 (Nat.le_trans h3 (by decide))
          have HPK := Lib.hid hpk
          clear hc hv1 hv3 hpk h1 h3
          generalize T.words[k].length = n at *
          generalize prodLen (T.words.take k) = m at *
          have h5 : m * n ≤ 4096 * 4 := Nat.mul_le_mul h4 h2
          have e5 : IntKind.i64.wrap ((m : Int) * (n : Int)) = ((m * n : Nat) : Int) := by rw [IntWalk.i64_in _ (by rw [← Int.natCast_mul]; omega), Int.natCast_mul]
          go_wp2_with fail
          go_round
          case rel => exact ⟨k + 1, by go_num, by omega, by rw [HPK.out, Int.natCast_mul]⟩
          case measure => simp [intOf]; omega
        · have hpp := HP4.out k hk
          have h3 : 4 ^ k ≤ 4 ^ 6 := Nat.pow_le_pow_right (by decide) (by omega)
          have h4 : prodLen (T.words.take k) ≤ 4096 := Nat.le_trans hpp (Nat.le_trans h3 (by decide))
          have e : T.words.take k = T.words := List.take_of_length_le (by omega)
          rw [e] at h4 ⊢
          clear hpp h3 e
          by_cases h256 : (256 : Int) < prodLen T.words
          · go_wp2_with fail
            go_ret
            exact ⟨ret_int (by rw [HY.out, if_pos (by omega)]), hz9⟩
          · go_wp2_with fail
            go_ret
            exact ⟨ret_int (by rw [HY.out, if_neg (by omega)]), hz9⟩

/-- P1.1: Check -/
theorem check_any (T : Treaty) (a1 a2 a3 a4 : Option Addr) (c1 c2 c3 c4 : Nat) (w : World) (hT : TRep w T a1 a2 a3 a4) :
    Calls Tryz.prog 37 #[.agg #[.int .i64 T.places, .slice a1 T.ways.length c1, .slice a2 T.words.length c2, .slice a3 T.starts.length c3, .slice a4 T.legs.length c4]] w fun e w' => e = .returned (.int .i64 (checkE T)) ∧ Aft w w' := by
  cases h : cntBad T
  · exact check_main T a1 a2 a3 a4 c1 c2 c3 c4 w hT h
  · refine (check_cnt T a1 a2 a3 a4 c1 c2 c3 c4 w hT h).mono fun e w' ⟨he, ha⟩ => ⟨?_, ha⟩
    rw [he]
    unfold checkE
    rw [if_pos h]
end Go.Proofs
end
