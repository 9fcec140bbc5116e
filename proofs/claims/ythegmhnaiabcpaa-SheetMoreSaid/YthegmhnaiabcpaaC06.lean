/- Own texts, merged: Pp Rn4 Sr. -/
import Derived.Test.YthegmhnaiabcpaaC05
set_option linter.unusedSimpArgs false
set_option linter.unusedVariables false
set_option linter.unnecessarySimpa false
section
/- Plain: a set's numbers as the program keeps them: rows of twelve. -/
namespace Go.Proofs
open Go.RowKit

def rowOf (n : Nat) (ap : Nat → Int) (a : Nat) (c : Nat) : Int := if c < n then ap (12 * a + c) else Sheet.far
def byOf (bf : Nat → Nat × Bool) (a : Nat) (c : Nat) : Nat × Bool := bf (12 * a + c)
theorem rowOf_set {n : Nat} {ap : Nat → Int} {a c : Nat} (hc : c < n) (x : Int) : rowOf n (updF ap (12 * a + c) x) a = Sheet.upd (rowOf n ap a) c x := by
  funext i
  unfold rowOf updF Sheet.upd
  by_cases e : i = c
  · subst e; simp [hc]
  · simp [e, show ¬ (12 * a + i = 12 * a + c) by omega]
theorem byOf_set {bf : Nat → Nat × Bool} {a c : Nat} (g : Nat × Bool) : byOf (updF bf (12 * a + c) g) a = Sheet.upd (byOf bf a) c g := by
  funext i
  unfold byOf updF Sheet.upd
  by_cases e : i = c
  · subst e; simp
  · simp [e, show ¬ (12 * a + i = 12 * a + c) by omega]
section
variable {S : SetL} {north : Bool}
theorem from_of (h : SetOk S) {g : Nat × Bool} (hg : g.1 < S.J.length) : (Sheet.from_ (joOf north S.J) g : Int) = fromQ S.J g ∧ Sheet.from_ (joOf north S.J) g < S.n.toNat := by
  have h1 := h.ends _ (List.getElem_mem hg)
  have hq : fromQ S.J g = fromI S.J[g.1] g.2 := by unfold fromQ; rw [List.getElem?_eq_getElem hg]
  rw [hq]
  unfold Sheet.from_ fromI
  rw [jo_of north S.J hg]
  cases g.2 <;> simp <;> omega
theorem into_of (h : SetOk S) {g : Nat × Bool} (hg : g.1 < S.J.length) : (Sheet.into (joOf north S.J) g : Int) = intoI S.J[g.1] g.2 ∧ Sheet.into (joOf north S.J) g < S.n.toNat := by
  have h1 := h.ends _ (List.getElem_mem hg)
  unfold Sheet.into intoI
  rw [jo_of north S.J hg]
  cases g.2 <;> simp <;> omega
theorem num_of {g : Nat × Bool} (hg : g.1 < S.J.length) : Sheet.num (joOf north S.J) g = numI north S.J[g.1] g.2 := by
  unfold Sheet.num numI
  rw [jo_of north S.J hg]
theorem way_le (h : SetOk S) (north : Bool) : ∀ j ∈ S.J, -1000000 ≤ way1 north j ∧ way1 north j ≤ 1000000 := by
  intro j hj
  have := h.nums j hj
  unfold way1
  cases north
  · exact this.1
  · exact this.2
theorem num_le (h : SetOk S) {g : Nat × Bool} (hg : g.1 < S.J.length) : -1000000 ≤ numI north S.J[g.1] g.2 ∧ numI north S.J[g.1] g.2 ≤ 1000000 := by
  have := way_le h north _ (List.getElem_mem hg)
  unfold numI
  cases g.2 <;> simp <;> omega
/-- A play within its limits. -/
structure PlayOk (N D : Int) : Prop where
  d1 : 1 ≤ D
  d2 : D ≤ 1000
  n1 : 0 ≤ N
  n2 : N ≤ 1000000000
theorem wt_le (h : SetOk S) {N D : Int} (hp : PlayOk N D) {g : Nat × Bool} (hg : g.1 < S.J.length) : -2000000000 ≤ Sheet.wt (joOf north S.J) D N g ∧ Sheet.wt (joOf north S.J) D N g ≤ 2000000000 := by
  have h1 := num_le (north := north) h hg
  unfold Sheet.wt
  rw [num_of hg]
  generalize numI north S.J[g.1] g.2 = x at *
  have h2 : x * D ≤ 1000000 * D := Int.mul_le_mul_of_nonneg_right h1.2 (by have := hp.d1; omega)
  have h3 : -1000000 * D ≤ x * D := Int.mul_le_mul_of_nonneg_right h1.1 (by have := hp.d1; omega)
  have := hp.d1; have := hp.d2; have := hp.n1; have := hp.n2
  omega

/-- In a pass from sheet a, at sheet b: 'tr' of its legs have been tried. -/
structure PsW (S : SetL) (north : Bool) (D N : Int) (a : Nat) (B0 : Nat) (row0 : Nat → Int) (by0 : Nat → Nat × Bool) (ap0 : Nat → Int) (b : Nat) (tr : Nat × Bool → Prop) (x : Int) (ap : Nat → Int) (bf : Nat → Nat × Bool) : Prop where
  ps : Sheet.Ps S.n.toNat (joOf north S.J) D N a row0 by0 (rowOf S.n.toNat ap a) (byOf bf a) b tr
  at_ : (x = -1 ∧ rowOf S.n.toNat ap a = row0) ∨ ∃ c : Nat, c < S.n.toNat ∧ x = c ∧ Sheet.opt (rowOf S.n.toNat ap a c) ≠ Sheet.opt (row0 c)
  rest : ∀ i, i / 12 ≠ a → ap i = ap0 i
  lens : Sheet.Lens (joOf north S.J) D N a (rowOf S.n.toNat ap a) B0
variable {D N : Int} {a B0 : Nat} {row0 : Nat → Int} {by0 : Nat → Nat × Bool} {ap0 : Nat → Int} {b : Nat} {tr : Nat × Bool → Prop} {x : Int} {ap : Nat → Int} {bf : Nat → Nat × Bool}
theorem PsW.small (h : PsW S north D N a B0 row0 by0 ap0 b tr x ap bf) (hS : SetOk S) (hp : PlayOk N D) (hB : B0 ≤ 200) {c : Nat} (hc : rowOf S.n.toNat ap a c ≠ Sheet.far) : -400000000000 ≤ rowOf S.n.toNat ap a c ∧ rowOf S.n.toNat ap a c ≤ 400000000000 := by
  have := h.lens.small (M := 2000000000) (fun g hg => wt_le hS hp (by rwa [joOf_len] at hg)) (by decide) hc
  omega
/-- A leg that does not shorten. -/
theorem PsW.leave (h : PsW S north D N a B0 row0 by0 ap0 b tr x ap bf) {g : Nat × Bool} (hle : rowOf S.n.toNat ap a (Sheet.into (joOf north S.J) g) ≤ rowOf S.n.toNat ap a b + Sheet.wt (joOf north S.J) D N g) : PsW S north D N a B0 row0 by0 ap0 b (fun y => tr y ∨ y = g) x ap bf :=
  ⟨h.ps.leave hle, h.at_, h.rest, h.lens⟩
/-- A leg that does. -/
theorem PsW.take (h : PsW S north D N a (B0 + 1) row0 by0 ap0 b tr x ap bf) (hS : SetOk S) {g : Nat × Bool} (hg : g.1 < S.J.length) (hf : Sheet.from_ (joOf north S.J) g = b) (hb : rowOf S.n.toNat ap a b ≠ Sheet.far)
    (hlt : rowOf S.n.toNat ap a b + Sheet.wt (joOf north S.J) D N g < rowOf S.n.toNat ap a (Sheet.into (joOf north S.J) g)) (hfar : rowOf S.n.toNat ap a b + Sheet.wt (joOf north S.J) D N g < Sheet.far)
    (hw : ∃ l, l ≤ B0 ∧ Sheet.Wk (Sheet.sc D N (Sheet.legs (joOf north S.J))) a b l (rowOf S.n.toNat ap a b)) :
    PsW S north D N a (B0 + 1) row0 by0 ap0 b (fun y => tr y ∨ y = g) (Sheet.into (joOf north S.J) g : Nat) (updF ap (12 * a + Sheet.into (joOf north S.J) g) (rowOf S.n.toNat ap a b + Sheet.wt (joOf north S.J) D N g)) (updF bf (12 * a + Sheet.into (joOf north S.J) g) g) ∧
      rowOf S.n.toNat (updF ap (12 * a + Sheet.into (joOf north S.J) g) (rowOf S.n.toNat ap a b + Sheet.wt (joOf north S.J) D N g)) a b = rowOf S.n.toNat ap a b := by
  have hi := into_of (north := north) hS hg
  have hn2 := hS.n2
  obtain ⟨h1, h2⟩ := h.ps.take (hS.ok north) (by rwa [joOf_len]) hf hb hlt hfar
  have e := rowOf_set (ap := ap) (a := a) hi.2 (rowOf S.n.toNat ap a b + Sheet.wt (joOf north S.J) D N g)
  have hne := (hS.ok north).ne (g := g) (by rwa [joOf_len])
  refine ⟨⟨by rw [e, byOf_set]; exact h1, .inr ⟨_, hi.2, rfl, by rw [e]; exact h2⟩, fun i hi' => ?_, ?_⟩, ?_⟩
  · unfold updF
    rw [if_neg]
    · exact h.rest i hi'
    · intro e2
      apply hi'
      omega
  · rw [e]
    subst hf
    exact h.lens.take (by rwa [joOf_len]) hw
  · rw [e]
    unfold Sheet.upd
    rw [if_neg]
    rw [← hf]
    exact hne
/-- All legs of b have been tried, or b is not met. -/
theorem PsW.next (h : PsW S north D N a B0 row0 by0 ap0 b tr x ap bf) (hS : SetOk S) (hp : PlayOk N D) (hB : B0 ≤ 200) (hall : rowOf S.n.toNat ap a b ≠ Sheet.far → ∀ g, g ∈ legsOf S.J b → tr g) : PsW S north D N a B0 row0 by0 ap0 (b + 1) (fun _ => False) x ap bf := by
  refine ⟨h.ps.next fun hne => ⟨fun g hg hf => hall hne g ?_, fun g hg hf => ?_⟩, h.at_, h.rest, h.lens⟩
  · rw [joOf_len] at hg
    have := (from_of (north := north) hS hg).1
    rw [hf] at this
    exact mem_legsOf.2 ⟨hg, this.symm⟩
  · rw [joOf_len] at hg
    have h1 := wt_le (north := north) hS hp hg
    have h2 := h.small hS hp hB hne
    show _ < (36028797018963968 : Int)
    omega
theorem PsW.more (h : PsW S north D N a B0 row0 by0 ap0 b tr x ap bf) {B : Nat} (hB : B0 ≤ B) : PsW S north D N a B row0 by0 ap0 b tr x ap bf := ⟨h.ps, h.at_, h.rest, h.lens.more hB⟩
theorem PsW.start (h : Sheet.RowI (joOf north S.J) D N a (rowOf S.n.toNat ap a) (byOf bf a)) (hl : Sheet.Lens (joOf north S.J) D N a (rowOf S.n.toNat ap a) B0) : PsW S north D N a B0 (rowOf S.n.toNat ap a) (byOf bf a) ap 0 (fun _ => False) (-1) ap bf :=
  ⟨Sheet.Ps.start h, .inl ⟨rfl, rfl⟩, fun _ _ => rfl, hl⟩
theorem PsW.congr (h : PsW S north D N a B0 row0 by0 ap0 b tr x ap bf) {tr' : Nat × Bool → Prop} (ht : ∀ g, tr' g → tr g) : PsW S north D N a B0 row0 by0 ap0 b tr' x ap bf :=
  ⟨⟨h.ps.core, h.ps.mid, fun g hg => h.ps.tried g (ht g hg)⟩, h.at_, h.rest, h.lens⟩
end
end Go.Proofs
end

section
/- Words: a range over an iterator, each round of which begins by laying memory. -/
namespace Go.Proofs
open Go.RowKit

/-- 'for x := range seq' over such an iterator, where each round begins by laying memory. -/
theorem wpIn_range4 {g : Operand} {p : Tmp} {assign body : Code} {Q : Exit → Act → World → Prop} {a : Act} {w : World} {n : Nat} {gf : Nat} {lb : Array Value} (hg : a.eval g = .func (.func gf) #[] lb) (eg : ∀ args w, (callFunc gf args).run Try.prog w = .ok (.enter gf args) w)
    {N : Nat} {Gv : Nat → World → World → Value → Prop} {Rep : World → Prop} (hseq : IterOk (n - 1) gf lb w.heap.size N Gv Rep)
    (I : Nat → World → Prop) (Ix : Code → World → Prop) (hI : Three w.heap.size I) (hIx : ∀ c, Three w.heap.size (fun (_ : Unit) => Ix c)) (hrep : ∀ k W, I k W → Rep W) (h0 : I 0 w) (a₁ : World → Value → Act) (aw : World → Value → World) (haw : ∀ W v, Aft W (aw W v))
    (hassign : ∀ (l k : Nat) (v : Value) (W0 W : World) (K : Act → World → Prop), Gv k W0 W v → K (a₁ W v) (aw W v) →
      assign.wpIn (Fence.wide.inRound l) (n - 1 - 1) Try.prog (Exit.then K (fun _ _ _ => False)) { tmps := a.tmps.setIfInBounds p v, defers := [] } W)
    (hbody : ∀ (l k : Nat) (v : Value) (W0 W : World), k < N → I k W0 → Aft W0 W → w.heap.size + 3 ≤ W0.heap.size → Gv k W0 W v → ∀ X, (∃ o, X = (aw W v).putObj (w.heap.size + 1) o) → body.wpIn (Fence.wide.inRound l) (n - 1 - 1) Try.prog (post3 w.heap.size I Ix (k + 1) X) (a₁ W v) X)
    (hdone : ∀ (D : Nat) (W : World), w.heap.size = D → I N W → W.heap[D]? = some (.deferred (some [])) → Q .normal { a with defers := { target := .collected D, args := #[] } :: a.defers } W)
    (hstop : ∀ (D : Nat) (c : Code) (W : World), w.heap.size = D → Ix c W → W.heap[D]? = some (.deferred (some [])) → c.wpIn Fence.wide n Try.prog Q { a with defers := { target := .collected D, args := #[] } :: a.defers } W) :
    (Code.rangeFunc g #[p] assign body).wpIn Fence.wide n Try.prog Q a w := by
  refine wpIn_rangeFunc ?_
  intro fn hfn
  obtain ⟨rec, hrec⟩ : ∃ rec : LoopState → Option Code → Loop, rec = fun st pe => { state := st, pending := pe, fn, tmps := a.tmps, params := #[p], assign, body, defers := w.heap.size } := ⟨_, rfl⟩
  obtain ⟨W1, hW1⟩ : ∃ W1, (w.alloc (.deferred (some []))).alloc (.loop (rec .ready none)) = W1 := ⟨_, rfl⟩
  have hL1 : W1.heap[w.heap.size + 1]? = some (.loop (rec .ready none)) := by
    rw [← hW1]; have := World.alloc_heap_new (w.alloc (.deferred (some []))) (.loop (rec .ready none)); rwa [World.size_alloc] at this
  have hK1 : W1.heap[w.heap.size]? = some (.deferred (some [])) := by
    rw [← hW1]; exact (Below.heap_alloc _ _ _ (by simp)).trans (World.alloc_heap_new w _)
  have hs1 : W1.heap.size = w.heap.size + 2 := by rw [← hW1]; simp
  have hI1 : I 0 W1 := by
    have := only_of_aft ((Aft.alloc w (.deferred (some []))).then_alloc (.loop (rec .ready none))) (some w.heap.size)
    rw [hW1] at this
    exact hI _ _ _ _ h0 this (Nat.le_refl _) (by omega)
  refine ⟨w.heap.size + 1, [{ target := .collected w.heap.size, args := #[] }], W1, { target := .fn (.func gf) lb, args := #[.func (.yield (w.heap.size + 1)) #[] #[]] }, W1, gf,
    #[.func (.yield (w.heap.size + 1)) #[] #[]] ++ lb, W1, ?_, ?_, ?_, ?_, (fun h => by cases h), ?_⟩
  · rw [← hW1, hrec]; exact run_enterLoop_outer _ _ _ _ _
  · simp only [resolve, hg]
    simp [go_sem]
  · intro f' hf'; trivial
  · simp [invoke, go_sem, eg]
  · refine (hseq (w.heap.size + 1)
      (fun k W => I k W ∧ W.heap[w.heap.size + 1]? = some (.loop (rec .ready none)) ∧ W.heap[w.heap.size]? = some (.deferred (some [])))
      (fun W => ∃ c, Ix c W ∧ W.heap[w.heap.size + 1]? = some (.loop (rec .done (some c))) ∧ W.heap[w.heap.size]? = some (.deferred (some [])))
      W1 hs1 ?_ (fun k W h => hrep k W h.1) ?_ ⟨hI1, hL1, hK1⟩).mono ?_
    · rintro k W W' ⟨hi, hl, hk⟩ hg'
      have hl1 := (Array.getElem?_eq_some_iff.1 hl).1
      have hl0 := (Array.getElem?_eq_some_iff.1 hk).1
      exact ⟨hI _ _ _ _ hi hg' (by omega) (Nat.le_refl _), (hg'.block _ hl1 (by simp)).trans hl, (hg'.block _ hl0 (by simp)).trans hk⟩
    · rintro k v W0 W hkN ⟨hi, hl', hk'⟩ ha hB hgv
      have hl : W.heap[w.heap.size + 1]? = some (.loop (rec .ready none)) := (ha.below.block _ (by omega)).trans hl'
      have hk : W.heap[w.heap.size]? = some (.deferred (some [])) := (ha.below.block _ (by omega)).trans hk'
      have hlt : w.heap.size + 1 < W.heap.size := (Array.getElem?_eq_some_iff.1 hl).1
      have hy := run_yield (P := Try.prog) (args := #[v]) hl (by rw [hrec]; rfl)
      rw [hrec] at hy
      have hz : ((#[p] : Array Tmp).zip #[v]).foldl (fun tmps (t, a) => tmps.setIfInBounds t a) a.tmps = a.tmps.setIfInBounds p v := by simp
      dsimp only at hy
      rw [hz] at hy
      refine ⟨fn, _, assign, body, hy, ?_⟩
      refine roundIn_of_wpIn hfn ?_
      refine hassign _ k v W0 W _ hgv ?_
      have hs0 := (haw W v).size
      have hl'' : (aw W v).heap[w.heap.size + 1]? = some (.loop (rec .ready none)) := ((haw W v).below.block _ hlt).trans hl
      have hk'' : (aw W v).heap[w.heap.size]? = some (.deferred (some [])) := ((haw W v).below.block _ (by omega)).trans hk
      have h2'' : (aw W v).heap[w.heap.size + 2]? = W.heap[w.heap.size + 2]? := (haw W v).below.block _ (by have := ha.size; omega)
      have hbody2 := hbody (w.heap.size + 1) k v W0 W
      obtain ⟨Wa, hWa⟩ : ∃ Wa, aw W v = Wa := ⟨_, rfl⟩
      rw [hWa] at hl'' hk'' h2'' hs0 hbody2 ⊢
      have hlta : w.heap.size + 1 < Wa.heap.size := (Array.getElem?_eq_some_iff.1 hl'').1
      refine ⟨_, run_beginRound hl'' (by rw [hrec]), ?_⟩
      have hl2 : (Wa.putObj (w.heap.size + 1) (.loop { rec .ready none with state := .busy })).heap[w.heap.size + 1]? = some (.loop { rec .ready none with state := .busy }) := World.putObj_heap_same hlta
      have hk2 : (Wa.putObj (w.heap.size + 1) (.loop { rec .ready none with state := .busy })).heap[w.heap.size]? = some (.deferred (some [])) := (World.putObj_heap_other (by omega)).trans hk''
      have hsz2 : (Wa.putObj (w.heap.size + 1) (.loop { rec .ready none with state := .busy })).heap.size = Wa.heap.size := by simp [World.putObj]
      refine wpIn_mono (hbody2 hkN hi ha hB hgv _ ⟨_, rfl⟩) ?_
      have fin : ∀ (jump : Option Code) (W3 : World), Kept3 w.heap.size (Wa.putObj (w.heap.size + 1) (.loop { rec .ready none with state := .busy })) W3 →
          (Instr.endRound (w.heap.size + 1) jump).run Try.prog W3 = .ok (.bool jump.isNone) (W3.putObj (w.heap.size + 1) (.loop (rec (if jump.isNone then .ready else .done) jump))) ∧
          (W3.putObj (w.heap.size + 1) (.loop (rec (if jump.isNone then .ready else .done) jump))).heap[w.heap.size + 1]? = some (.loop (rec (if jump.isNone then .ready else .done) jump)) ∧
          (W3.putObj (w.heap.size + 1) (.loop (rec (if jump.isNone then .ready else .done) jump))).heap[w.heap.size]? = some (.deferred (some [])) ∧
          (W3.putObj (w.heap.size + 1) (.loop (rec (if jump.isNone then .ready else .done) jump))).heap[w.heap.size + 2]? = W.heap[w.heap.size + 2]? ∧ W.heap.size ≤ (W3.putObj (w.heap.size + 1) (.loop (rec (if jump.isNone then .ready else .done) jump))).heap.size := fun jump W3 hk3 => by
        have hl3 := (hk3.same _ (by omega) (by omega)).trans hl2
        have := run_endRound (P := Try.prog) jump hl3
        rw [hrec] at this ⊢
        exact ⟨this, World.putObj_heap_same (Array.getElem?_eq_some_iff.1 hl3).1, (World.putObj_heap_other (by omega)).trans ((hk3.same _ (by omega) (by omega)).trans hk2), (World.putObj_heap_other (by omega)).trans (((hk3.same _ (by omega) (by omega)).trans (World.putObj_heap_other (by omega))).trans h2''), by have := hk3.size; simp [World.putObj] at this ⊢; omega⟩
      rintro e a3 W3 hp
      cases e with
      | normal =>
        obtain ⟨hk3, hi3⟩ := hp
        obtain ⟨hr, hl4, hk4, h5, h6⟩ := fin none W3 hk3
        exact ⟨_, _, hr, .inl ⟨rfl, ⟨hI _ _ _ _ hi3 (grownBy_putObj' _ _ _) (by omega) (by omega), hl4, hk4⟩, h5, h6⟩⟩
      | ret =>
        obtain ⟨hk3, hi3⟩ := hp
        obtain ⟨hr, hl4, hk4, h5, h6⟩ := fin (some .ret) W3 hk3
        exact ⟨_, _, hr, .inr ⟨rfl, .ret, hIx _ () _ _ _ hi3 (grownBy_putObj' _ _ _) (by omega) (by omega), hl4, hk4⟩⟩
      | exit id =>
        obtain ⟨hk3, hi3⟩ := hp
        obtain ⟨hr, hl4, hk4, h5, h6⟩ := fin (some (.exit id)) W3 hk3
        exact ⟨_, _, hr, .inr ⟨rfl, .exit id, hIx _ () _ _ _ hi3 (grownBy_putObj' _ _ _) (by omega) (by omega), hl4, hk4⟩⟩
      | goto t =>
        obtain ⟨hk3, hi3⟩ := hp
        obtain ⟨hr, hl4, hk4, h5, h6⟩ := fin (some (.goto t)) W3 hk3
        exact ⟨_, _, hr, .inr ⟨rfl, .goto t, hIx _ () _ _ _ hi3 (grownBy_putObj' _ _ _) (by omega) (by omega), hl4, hk4⟩⟩
      | panic ch => exact hp.elim
      | outgrown => exact hp.elim
    · rintro e W2 ⟨⟨v, rfl⟩, (⟨hi, hl, hk⟩ | ⟨c, hi, hl, hk⟩)⟩
      · exact ⟨none, _, by have := run_endLoop (P := Try.prog) hl (by rw [hrec]; simp); rw [hrec] at this; exact this, hdone _ _ rfl (hI _ _ _ _ hi (grownBy_putObj' _ _ _) (by omega) (by omega)) ((World.putObj_heap_other (by omega)).trans hk)⟩
      · exact ⟨some c, _, by have := run_endLoop (P := Try.prog) hl (by rw [hrec]; simp); rw [hrec] at this; exact this, hstop _ c _ rfl (hIx c () _ _ _ hi (grownBy_putObj' _ _ _) (by omega) (by omega)) ((World.putObj_heap_other (by omega)).trans hk)⟩
end Go.Proofs
end

section
/- Words: own boxes beside a block that is written, and marks; a range over the legs of a sheet. -/
namespace Go
/-- Marks among the deferred calls are taken away, one after the other. -/
theorem leaves_marks {F : Fence} {n : Nat} {P : Program} {fn : Func} {tmps : Array Value} {R : Ending → World → Prop} (base : World) : ∀ (Ds : List Nat) (w : World), Aft base w → (∀ D ∈ Ds, base.heap.size ≤ D ∧ w.heap[D]? = some (.deferred (some []))) → Ds.Nodup →
    (∀ w', Aft base w' → w'.heap.size = w.heap.size → (∀ k, k ∉ Ds → w'.heap[k]? = w.heap[k]?) → ∃ v, (results fn tmps).run P w' = .ok v w' ∧ R (.returned v) w') → LeavesInM F n P fn tmps R (Ds.map fun D => { target := .collected D, args := #[] }) .returning w
  | [], w, ha, _, _, h => h w ha rfl (fun _ _ => rfl)
  | D :: Ds, w, ha, hD, hn, h => by
    have hd := hD D List.mem_cons_self
    have hsz : (w.putObj D (.deferred none)).heap.size = w.heap.size := by simp [World.putObj]
    refine ⟨by simp, .inl ⟨D, _, rfl, run_takeDeferred hd.2, ?_⟩⟩
    refine leaves_marks base Ds (w.putObj D (.deferred none)) (ha.grown (grownBy_putObj' _ _ _) (fun k e => by cases e; exact hd.1)) (fun D' hD' => ?_) (List.nodup_cons.1 hn).2 fun w' ha' hs' hw' => h w' ha' (hs'.trans hsz) fun k hk => ?_
    · have h1 := hD D' (List.mem_cons_of_mem _ hD')
      exact ⟨h1.1, (World.putObj_heap_other (fun e => by subst e; exact (List.nodup_cons.1 hn).1 hD')).trans h1.2⟩
    · rw [hw' k (fun h => hk (List.mem_cons_of_mem _ h))]
      exact World.putObj_heap_other (fun e => hk (by rw [e]; exact List.mem_cons_self))
end Go
namespace Go.Proofs
open Go.RowKit
attribute [local go_sem] Oper.semAt_some

abbrev mark (D : Nat) : Deferred := { target := .collected D, args := #[] }
/-- Own boxes ahead of block B, and marks; of what was there block d alone may have turned. -/
structure FrD (w : World) (d B : Nat) (bs : List (Nat × TypeId × Array Value)) (Ds : List Nat) (W : World) : Prop where
  grow : w.grownBy W (some d)
  blks : ∀ x ∈ bs, x.1 < B ∧ w.heap.size ≤ x.1 ∧ Blk W x.1 x.2.1 x.2.2
  size : B ≤ W.heap.size
  ge : w.heap.size ≤ B
  lt : d < w.heap.size
  marks : ∀ D ∈ Ds, w.heap.size ≤ D ∧ D < B ∧ W.heap[D]? = some (.deferred (some []))
section
variable {w W W' : World} {d B : Nat} {bs : List (Nat × TypeId × Array Value)} {Ds : List Nat}
theorem FrD.start (w : World) {d : Nat} (hd : d < w.heap.size) : FrD w d w.heap.size [] [] w := ⟨only_refl _ _, (fun x hx => by cases hx), Nat.le_refl _, Nat.le_refl _, hd, fun D hD => by cases hD⟩
theorem FrD.alloc (h : FrD w d B bs Ds W) (hB : W.heap.size = B) (t : TypeId) (cs : Array Value) : FrD w d (B + 1) (bs ++ [(B, t, cs)]) Ds (W.alloc (.cells cs t)) :=
  ⟨only_aft h.grow (Aft.alloc _ _), fun x hx => by
    rcases List.mem_append.1 hx with hx | hx
    · obtain ⟨h1, h2, h3⟩ := h.blks x hx
      exact ⟨by omega, h2, h3.alloc _⟩
    · rw [List.mem_singleton] at hx
      subst hx
      subst hB
      exact ⟨by simp, h.ge, Blk.new _ _ _⟩, by rw [World.size_alloc]; omega, by have := h.ge; omega, h.lt, fun D hD => let ⟨h1, h2, h3⟩ := h.marks D hD; ⟨h1, by omega, (Below.heap_alloc _ _ D (Array.getElem?_eq_some_iff.1 h3).1).trans h3⟩⟩
theorem FrD.later (h : FrD w d B bs Ds W) (ha : Aft W W') : FrD w d B bs Ds W' := ⟨only_aft h.grow ha, fun x hx => let ⟨h1, h2, h3⟩ := h.blks x hx; ⟨h1, h2, h3.aft ha⟩, Nat.le_trans h.size ha.size, h.ge, h.lt, fun D hD => let ⟨h1, h2, h3⟩ := h.marks D hD; ⟨h1, h2, (ha.below.block D (Array.getElem?_eq_some_iff.1 h3).1).trans h3⟩⟩
theorem only_trans2 {a b c : World} {d r : Nat} (h : a.grownBy b (some d)) (hg : b.grownBy c (some r)) (hr : r = d ∨ a.heap.size ≤ r) : a.grownBy c (some d) :=
  ⟨hg.os.trans h.os, hg.tape.trans h.tape, hg.output.trans h.output, Nat.le_trans h.size hg.size, fun i hi hne => (hg.block i (Nat.lt_of_lt_of_le hi h.size) (fun e => by
    rcases hr with rfl | hr
    · exact hne e
    · cases e; omega)).trans (h.block i hi hne)⟩
theorem FrD.grown (h : FrD w d B bs Ds W) {r : Nat} (hg : W.grownBy W' (some r)) (hr : r = d ∨ B ≤ r) : FrD w d B bs Ds W' :=
  ⟨only_trans2 h.grow hg (by rcases hr with h1 | h1; exact .inl h1; exact .inr (Nat.le_trans h.ge h1)), fun x hx => let ⟨h1, h2, h3⟩ := h.blks x hx; ⟨h1, h2, h3.grown hg (fun e => by cases e; rcases hr with rfl | hr; (have := h.lt; omega); omega)⟩, Nat.le_trans h.size hg.size, h.ge, h.lt,
    fun D hD => let ⟨h1, h2, h3⟩ := h.marks D hD; ⟨h1, h2, (hg.block D (Array.getElem?_eq_some_iff.1 h3).1 (fun e => by cases e; rcases hr with rfl | hr; (have := h.lt; omega); omega)).trans h3⟩⟩
theorem FrD.blk (h : FrD w d B bs Ds W) {g : Nat} {t : TypeId} {cs : Array Value} (hx : (g, t, cs) ∈ bs) : Blk W g t cs := (h.blks _ hx).2.2
theorem FrD.nth (h : FrD w d B bs Ds W) (i : Nat) {g : Nat} {t : TypeId} {cs : Array Value} (hx : bs[i]? = some (g, t, cs)) : Blk W g t cs := h.blk (List.mem_of_getElem? hx)
theorem FrD.sub (h : FrD w d B bs Ds W) {bs' : List (Nat × TypeId × Array Value)} (hs : ∀ x ∈ bs', x ∈ bs) : FrD w d B bs' Ds W := ⟨h.grow, fun x hx => h.blks x (hs x hx), h.size, h.ge, h.lt, h.marks⟩
theorem FrD.up (h : FrD w d B bs Ds W) {B' : Nat} (hB : B ≤ B') (hs : B' ≤ W.heap.size) : FrD w d B' bs Ds W :=
  ⟨h.grow, fun x hx => ⟨Nat.lt_of_lt_of_le (h.blks x hx).1 hB, (h.blks x hx).2⟩, hs, Nat.le_trans h.ge hB, h.lt, fun D hD => let ⟨h1, h2, h3⟩ := h.marks D hD; ⟨h1, by omega, h3⟩⟩
/-- A store into one of them. -/
theorem FrD.store (h : FrD w d B bs Ds W) {g : Nat} {t : TypeId} {cs : Array Value} (hx : (g, t, cs) ∈ bs) (i : Nat) (v : Value) {bs' : List (Nat × TypeId × Array Value)} (hs : ∀ x ∈ bs', x = (g, t, cs.setIfInBounds i v) ∨ (x ∈ bs ∧ x.1 ≠ g)) : FrD w d B bs' Ds (W.setCell ⟨g, i, none⟩ v) :=
  have hg := only_setCell (only_refl W (some g)) (p := ⟨g, i, none⟩) (.inl rfl) v
  have hx1 := h.blks _ hx
  ⟨only_trans2 h.grow hg (.inr hx1.2.1), fun x hx' => by
    rcases hs x hx' with rfl | ⟨h1, h2⟩
    · exact ⟨hx1.1, hx1.2.1, hx1.2.2.store i v⟩
    · exact ⟨(h.blks _ h1).1, (h.blks _ h1).2.1, (h.blks _ h1).2.2.far (p := ⟨g, i, none⟩) h2 _⟩, by have := h.size; simpa [World.setCell] using this, h.ge, h.lt, fun D hD => by
    obtain ⟨h1, h2, h3⟩ := h.marks D hD
    refine ⟨h1, h2, (Below.heap_setCell W ⟨g, i, none⟩ v D (fun e => ?_)).trans h3⟩
    have e : D = g := e
    subst e
    have := hx1.2.2
    unfold Blk at this
    rw [h3] at this
    cases this⟩
/-- Fewer of them, and no marks. -/
theorem FrD.cut {W0 : World} {B0 : Nat} {bs0 : List (Nat × TypeId × Array Value)} {Ds0 : List Nat} (h : FrD w d B bs Ds W) (h0 : FrD w d B0 bs0 Ds0 W0) (hB : B0 ≤ B) (hs : ∀ x ∈ bs, x.1 < B0) : FrD w d B0 bs [] W :=
  ⟨h.grow, fun x hx => ⟨hs x hx, (h.blks x hx).2⟩, Nat.le_trans hB h.size, h0.ge, h.lt, fun D hD => by cases hD⟩
/-- With marks, as many as there are. -/
theorem FrD.upM (h : FrD w d B bs [] W) {Ds : List Nat} (hm : ∀ D ∈ Ds, w.heap.size ≤ D ∧ W.heap[D]? = some (.deferred (some []))) {B' : Nat} (hB : B ≤ B') (hs : W.heap.size = B') : FrD w d B' bs Ds W :=
  ⟨h.grow, fun x hx => ⟨Nat.lt_of_lt_of_le (h.blks x hx).1 hB, (h.blks x hx).2⟩, by omega, Nat.le_trans h.ge hB, h.lt, fun D hD => ⟨(hm D hD).1, by rw [← hs]; exact (Array.getElem?_eq_some_iff.1 (hm D hD).2).1, (hm D hD).2⟩⟩
end

/-- A value that is a leg. -/
def unI : Value → Nat
  | .int _ n => n.toNat
  | _ => 0
def unB : Value → Bool
  | .bool b => b
  | _ => false
def unV : Value → Nat × Bool
  | .agg c => (unI (c.getD 0 undef), unB (c.getD 1 undef))
  | _ => (0, false)
theorem unV_gV (x : Nat × Bool) : unV (gV x) = x := by
  unfold gV unV
  simp [unI, unB]
/-- A range over the legs that begin at a sheet. -/
theorem wpIn_legs {g : Operand} {p : Tmp} {assign body : Code} {Q : Exit → Act → World → Prop} {a : Act} {w : World} {n : Nat} {w0 : World} {bw bs d : Nat} {S : SetL} {A : Option Addr} {c : Nat} {s : Int}
    (hg : a.eval g = .func (.func 120) #[] #[.pointer (some ⟨bw, 0, none⟩), .pointer (some ⟨bs, 0, none⟩)])
    (I : Nat → World → Prop) (hI : Three w.heap.size I) (hIa : ∀ k W W', I k W → Aft W W' → I k W') (hrep : ∀ k W, I k W → RepL w0 bw bs d S A c s W) (h0 : I 0 w) (a₁ : Nat → Nat × Bool → Act)
    (hassign : ∀ (l : Nat) (x : Nat × Bool) (W : World) (K : Act → World → Prop), K (a₁ W.heap.size x) (W.alloc (.cells #[.int .i64 (x.1 : Nat), .bool x.2] 120)) →
      assign.wpIn (Fence.wide.inRound l) (n - 1 - 1) Try.prog (Exit.then K (fun _ _ _ => False)) { tmps := a.tmps.setIfInBounds p (.agg #[.int .i64 (x.1 : Nat), .bool x.2]), defers := [] } W)
    (hbody : ∀ (l k : Nat) (x : Nat × Bool) (z : Nat) (W : World), (legsOf S.J s)[k]? = some x → I k W → w.heap.size + 3 ≤ z → Blk W z 120 #[.int .i64 (x.1 : Nat), .bool x.2] → body.wpIn (Fence.wide.inRound l) (n - 1 - 1) Try.prog (post3 w.heap.size I (fun _ _ => False) (k + 1) W) (a₁ z x) W)
    (hdone : ∀ (D : Nat) (W : World), w.heap.size = D → I (legsOf S.J s).length W → W.heap[D]? = some (.deferred (some [])) → Q .normal { a with defers := { target := .collected D, args := #[] } :: a.defers } W) :
    (Code.rangeFunc g #[p] assign body).wpIn Fence.wide n Try.prog Q a w := by
  refine wpIn_range4 hg runs_120 (iter120 (n - 1) w0 bw bs d w.heap.size S A c s) I (fun _ _ => False) hI (fun _ _ _ _ _ h => h.elim) hrep h0 (fun W v => a₁ W.heap.size (unV v)) (fun W v => W.alloc (.cells #[.int .i64 ((unV v).1 : Nat), .bool (unV v).2] 120)) (fun W v => Aft.alloc _ _)
    (fun l k v W0 W K hgv hK => ?_) (fun l k v W0 W hk hi ha hB hgv X hX => ?_) hdone (fun D c W _ h => h.elim)
  · obtain ⟨x, _, rfl⟩ := hgv
    rw [unV_gV] at hK
    exact hassign l x W K hK
  · obtain ⟨x, hx, rfl⟩ := hgv
    obtain ⟨o, rfl⟩ := hX
    rw [unV_gV]
    have hz : w.heap.size + 3 ≤ W.heap.size := Nat.le_trans hB ha.size
    refine hbody l k x W.heap.size _ hx ?_ hz ?_
    · exact hI _ _ _ _ (hIa _ _ _ hi (ha.then_alloc _)) (grownBy_putObj' _ _ _) (by omega) (by omega)
    · exact (World.putObj_heap_other (by omega)).trans (Blk.new W 120 _)
end Go.Proofs
end
