/- Own texts, merged: PJt PPs PBk PTd PRk Sn Si. -/
import Derived.Test.YthegmhnaiabcpaaC04
set_option linter.unusedSimpArgs false
set_option linter.unusedVariables false
set_option linter.unnecessarySimpa false
section
/- Plain: joints and legs as the program has them, one way (to the east, or to the north); a row of numbers with 'far', and the legs by which they came. -/
namespace Sheet
/-- A joint one way: from A, to B, by so much. -/
abbrev Jo := Nat × Nat × Int
def legs (J : List Jo) : List Edge := J.flatMap fun j => [(j.1, j.2.1, j.2.2), (j.2.1, j.1, -j.2.2)]
def jo (J : List Jo) (i : Nat) : Jo := J.getD i (0, 0, 0)
def from_ (J : List Jo) (g : Nat × Bool) : Nat := if g.2 then (jo J g.1).2.1 else (jo J g.1).1
def into (J : List Jo) (g : Nat × Bool) : Nat := if g.2 then (jo J g.1).1 else (jo J g.1).2.1
def num (J : List Jo) (g : Nat × Bool) : Int := if g.2 then -(jo J g.1).2.2 else (jo J g.1).2.2
theorem jo_mem {J : List Jo} {i : Nat} (h : i < J.length) : jo J i ∈ J := by
  unfold jo
  rw [List.getD_eq_getElem?_getD, List.getElem?_eq_getElem h]
  exact List.getElem_mem h
theorem leg_mem {J : List Jo} {g : Nat × Bool} (h : g.1 < J.length) : (from_ J g, into J g, num J g) ∈ legs J := by
  refine List.mem_flatMap.2 ⟨jo J g.1, jo_mem h, ?_⟩
  unfold from_ into num
  cases g.2 <;> simp
theorem mem_leg {J : List Jo} {a b : Nat} {w : Int} (h : (a, b, w) ∈ legs J) : ∃ g : Nat × Bool, g.1 < J.length ∧ from_ J g = a ∧ into J g = b ∧ num J g = w := by
  obtain ⟨j, hj, he⟩ := List.mem_flatMap.1 h
  obtain ⟨i, hi, rfl⟩ := List.mem_iff_getElem.1 hj
  have e : jo J i = J[i] := by unfold jo; rw [List.getD_eq_getElem?_getD, List.getElem?_eq_getElem hi]; rfl
  simp only [List.mem_cons, List.not_mem_nil, or_false] at he
  rcases he with he | he
  · cases he
    exact ⟨(i, false), hi, by simp [from_, e], by simp [into, e], by simp [num, e]⟩
  · cases he
    exact ⟨(i, true), hi, by simp [from_, e], by simp [into, e], by simp [num, e]⟩
theorem legs_sym (J : List Jo) : Sym (legs J) := by
  intro a b w h
  obtain ⟨j, hj, he⟩ := List.mem_flatMap.1 h
  refine List.mem_flatMap.2 ⟨j, hj, ?_⟩
  simp only [List.mem_cons, List.not_mem_nil, or_false] at he ⊢
  rcases he with he | he
  · cases he; right; rfl
  · cases he; left; simp
/-- A set that is right: sheets below n, and no joint of a sheet with itself. -/
def Ok (n : Nat) (J : List Jo) : Prop := ∀ j ∈ J, j.1 < n ∧ j.2.1 < n ∧ j.1 ≠ j.2.1
theorem Ok.in {n : Nat} {J : List Jo} (h : Ok n J) : In (legs J) n := by
  intro a b w he
  obtain ⟨j, hj, he⟩ := List.mem_flatMap.1 he
  have := h j hj
  simp only [List.mem_cons, List.not_mem_nil, or_false] at he
  rcases he with he | he <;> cases he <;> omega
theorem Ok.in_sc {n : Nat} {J : List Jo} {D N : Int} (h : Ok n J) : In (sc D N (legs J)) n := by
  intro a b w he
  obtain ⟨w', h1, -⟩ := mem_sc he
  exact h.in a b w' h1
theorem Ok.ne {n : Nat} {J : List Jo} (h : Ok n J) {g : Nat × Bool} (hg : g.1 < J.length) : from_ J g ≠ into J g := by
  have := h _ (jo_mem hg)
  unfold from_ into
  cases g.2 <;> simp <;> omega
def far : Int := 36028797018963968
def opt (x : Int) : Option Int := if x = far then none else some x
theorem opt_some {x y : Int} : opt x = some y ↔ x = y ∧ x ≠ far := by
  unfold opt
  by_cases h : x = far
  · simp [h]
  · simp [h]
theorem opt_none {x : Int} : opt x = none ↔ x = far := by
  unfold opt
  by_cases h : x = far <;> simp [h]
/-- Has a place been met by a leg? -/
def touched (a : Nat) (row : Nat → Int) (c : Nat) : Bool := if c = a then decide (row c ≠ 0) else decide (row c ≠ far)
def viaOf (J : List Jo) (D N : Int) (a : Nat) (row : Nat → Int) (by_ : Nat → Nat × Bool) (c : Nat) : Option (Nat × Int) := if touched a row c then some (from_ J (by_ c), num J (by_ c) * D + N) else none
/-- A row of the program: how far sheets are from a, and the legs by which they came; no way so far is longer than B legs. -/
structure RowI (J : List Jo) (D N : Int) (a : Nat) (row : Nat → Int) (by_ : Nat → Nat × Bool) : Prop where
  core : Row (sc D N (legs J)) a (fun c => opt (row c)) (viaOf J D N a row by_)
  leg : ∀ c, touched a row c = true → (by_ c).1 < J.length ∧ into J (by_ c) = c
  home : row a ≠ far
theorem RowI.start (J : List Jo) (D N : Int) (a : Nat) (by_ : Nat → Nat × Bool) : RowI J D N a (fun c => if c = a then 0 else far) by_ := by
  have ht : ∀ c, touched a (fun c => if c = a then 0 else far) c = false := fun c => by
    unfold touched
    by_cases e : c = a <;> simp [e]
  refine ⟨?_, (fun c h => by rw [ht] at h; cases h), by simp [far]⟩
  have e1 : (fun c => opt (if c = a then 0 else far)) = fun c => if c = a then some 0 else none := by
    funext c
    by_cases e : c = a
    · simp [e, opt, far]
    · simp [e, opt]
  have e2 : viaOf J D N a (fun c => if c = a then 0 else far) by_ = fun _ => none := by
    funext c
    unfold viaOf
    rw [ht]
    rfl
  rw [e1, e2]
  exact row_start _ _
/-- A leg that shortens, in the program's words. -/
theorem RowI.shorten {n : Nat} {J : List Jo} (hJ : Ok n J) {D N : Int} {a : Nat} {row : Nat → Int} {by_ : Nat → Nat × Bool} (h : RowI J D N a row by_) {g : Nat × Bool} (hg : g.1 < J.length) (hb : row (from_ J g) ≠ far)
    (hlt : row (from_ J g) + (num J g * D + N) < row (into J g)) (hfar : row (from_ J g) + (num J g * D + N) < far) :
    RowI J D N a (upd row (into J g) (row (from_ J g) + (num J g * D + N))) (upd by_ (into J g) g) ∧
      (fun c => opt (upd row (into J g) (row (from_ J g) + (num J g * D + N)) c)) = upd (fun c => opt (row c)) (into J g) (some (row (from_ J g) + (num J g * D + N))) ∧
      viaOf J D N a (upd row (into J g) (row (from_ J g) + (num J g * D + N))) (upd by_ (into J g) g) = upd (viaOf J D N a row by_) (into J g) (some (from_ J g, num J g * D + N)) := by
  have hne := hJ.ne hg
  generalize ex : row (from_ J g) + (num J g * D + N) = x at *
  have hxf : x ≠ far := by omega
  -- a itself is 0 at most
  have ha0 : ∀ y, opt (row a) = some y → y ≤ 0 := fun y hy => by
    cases hv : viaOf J D N a row by_ a with
    | none => have := h.core.start hv; have this : opt (row a) = some 0 := this; rw [hy] at this; cases this; exact Int.le_refl _
    | some p => obtain ⟨z, h1, h2⟩ := h.core.neg p.1 p.2 hv; have h1 : opt (row a) = some z := h1; rw [hy] at h1; cases h1; omega
  have htc : touched a (upd row (into J g) x) (into J g) = true := by
    unfold touched
    by_cases e : into J g = a
    · rw [if_pos e]
      have h1 := ha0 (row a) (opt_some.2 ⟨rfl, h.home⟩)
      rw [e] at hlt
      simp [upd]
      omega
    · rw [if_neg e]
      simp [upd, hxf]
  have hto : ∀ c, c ≠ into J g → touched a (upd row (into J g) x) c = touched a row c := fun c e => by
    unfold touched
    simp [upd, e]
  have e1 : (fun c => opt (upd row (into J g) x c)) = upd (fun c => opt (row c)) (into J g) (some x) := by
    funext c
    by_cases e : c = into J g
    · simp [upd, e, opt, hxf]
    · simp [upd, e]
  have e2 : viaOf J D N a (upd row (into J g) x) (upd by_ (into J g) g) = upd (viaOf J D N a row by_) (into J g) (some (from_ J g, num J g * D + N)) := by
    funext c
    by_cases e : c = into J g
    · subst e
      unfold viaOf
      rw [htc]
      simp [upd]
    · unfold viaOf
      rw [hto c e]
      simp [upd, e]
  refine ⟨⟨?_, fun c hc => ?_, ?_⟩, e1, e2⟩
  · rw [e1, e2, ← ex]
    exact h.core.shorten (sc_mem (leg_mem hg)) (opt_some.2 ⟨rfl, hb⟩) hne fun y hy => by
      have := (opt_some.1 hy).1
      omega
  · by_cases e : c = into J g
    · subst e
      simp [upd, hg]
    · rw [hto c e] at hc
      simp [upd, e]
      exact h.leg c hc
  · by_cases e : a = into J g
    · rw [e]; simp [upd, hxf]
    · simp [upd, e]
      exact h.home
end Sheet
end

section
/- Plain: one pass of the program over all sheets, leg by leg; how long the ways can be; what n passes leave. -/
namespace Sheet
def wt (J : List Jo) (D N : Int) (g : Nat × Bool) : Int := num J g * D + N
/-- In a pass, at sheet b: 'tr': the legs that have been tried of those that begin at b. -/
structure Ps (n : Nat) (J : List Jo) (D N : Int) (a : Nat) (row0 : Nat → Int) (by0 : Nat → Nat × Bool) (row : Nat → Int) (by_ : Nat → Nat × Bool) (b : Nat) (tr : Nat × Bool → Prop) : Prop where
  core : RowI J D N a row by_
  mid : Mid (sc D N (legs J)) a (fun c => opt (row0 c)) (viaOf J D N a row0 by0) (fun c => opt (row c)) (viaOf J D N a row by_) (fun x => x < b)
  tried : ∀ g, tr g → g.1 < J.length → from_ J g = b → row (into J g) ≤ row b + wt J D N g
variable {n : Nat} {J : List Jo} {D N : Int} {a b : Nat} {row0 row : Nat → Int} {by0 by_ : Nat → Nat × Bool} {tr : Nat × Bool → Prop}
theorem Ps.start (h : RowI J D N a row by_) : Ps n J D N a row by_ row by_ 0 fun _ => False := by
  refine ⟨h, ?_, (fun _ h => h.elim)⟩
  have := Mid.start h.core
  exact ⟨this.row, this.mono, this.keep, (fun b h => absurd h (Nat.not_lt_zero _)), this.src⟩
/-- A leg that does not shorten. -/
theorem Ps.leave (h : Ps n J D N a row0 by0 row by_ b tr) {g : Nat × Bool} (hle : row (into J g) ≤ row b + wt J D N g) : Ps n J D N a row0 by0 row by_ b fun x => tr x ∨ x = g :=
  ⟨h.core, h.mid, fun x hx hl hf => by rcases hx with hx | rfl; exact h.tried x hx hl hf; exact hle⟩
/-- A leg that does. -/
theorem Ps.take (hJ : Ok n J) (h : Ps n J D N a row0 by0 row by_ b tr) {g : Nat × Bool} (hg : g.1 < J.length) (hf : from_ J g = b) (hb : row b ≠ far) (hlt : row b + wt J D N g < row (into J g)) (hfar : row b + wt J D N g < far) :
    Ps n J D N a row0 by0 (upd row (into J g) (row b + wt J D N g)) (upd by_ (into J g) g) b (fun x => tr x ∨ x = g) ∧ opt (upd row (into J g) (row b + wt J D N g) (into J g)) ≠ opt (row0 (into J g)) := by
  subst hf
  have hne := hJ.ne hg
  obtain ⟨h1, h2, h3⟩ := h.core.shorten hJ hg hb hlt hfar
  obtain ⟨m1, m2⟩ := h.mid.shorten (sc_mem (D := D) (N := N) (leg_mem hg)) (opt_some.2 ⟨rfl, hb⟩) hne fun y hy => by
    have := (opt_some.1 hy).1
    have e : row (from_ J g) + wt J D N g = row (from_ J g) + (num J g * D + N) := rfl
    omega
  refine ⟨⟨h1, ?_, fun x hx hl hfx => ?_⟩, ?_⟩
  · have e2 := h2
    have e3 := h3
    show Mid _ _ _ _ (fun c => opt (upd row (into J g) (row (from_ J g) + (num J g * D + N)) c)) (viaOf J D N a (upd row (into J g) (row (from_ J g) + (num J g * D + N))) (upd by_ (into J g) g)) _
    rw [e2, e3]
    exact m1
  · have hb' : upd row (into J g) (row (from_ J g) + wt J D N g) (from_ J g) = row (from_ J g) := by simp [upd, hne]
    rw [hb']
    by_cases e : into J x = into J g
    · rw [e]
      rcases hx with hx | rfl
      · have := h.tried x hx hl hfx
        rw [e] at this
        have e4 : upd row (into J g) (row (from_ J g) + wt J D N g) (into J g) = row (from_ J g) + wt J D N g := by simp [upd]
        rw [e4]
        omega
      · simp [upd]
    · have e4 : upd row (into J g) (row (from_ J g) + wt J D N g) (into J x) = row (into J x) := by simp [upd, e]
      rw [e4]
      rcases hx with hx | rfl
      · exact h.tried x hx hl hfx
      · exact absurd rfl e
  · have := congrFun h2 (into J g)
    have e5 : opt (upd row (into J g) (row (from_ J g) + wt J D N g) (into J g)) = upd (fun c => opt (row c)) (into J g) (some (row (from_ J g) + (num J g * D + N))) (into J g) := this
    rw [e5]
    exact m2
/-- All legs of b have been tried, or b is not met. -/
theorem Ps.next (h : Ps n J D N a row0 by0 row by_ b tr) (hall : row b ≠ far → (∀ g, g.1 < J.length → from_ J g = b → tr g) ∧ ∀ g, g.1 < J.length → from_ J g = b → row b + wt J D N g < far) : Ps n J D N a row0 by0 row by_ (b + 1) fun _ => False := by
  have hc : Calm (sc D N (legs J)) (fun c => opt (row c)) b := by
    intro c w y he hy
    obtain ⟨rfl, hne⟩ := opt_some.1 hy
    obtain ⟨w', h1, rfl⟩ := mem_sc he
    obtain ⟨g, g1, g2, g3, g4⟩ := mem_leg h1
    obtain ⟨a1, a2⟩ := hall hne
    have h2 := h.tried g (a1 g g1 g2) g1 g2
    have h3 := a2 g g1 g2
    have e : wt J D N g = w' * D + N := by unfold wt; rw [g4]
    rw [g3] at h2
    rw [e] at h2 h3
    exact ⟨row c, opt_some.2 ⟨rfl, by omega⟩, h2⟩
  have hm := h.mid.tried hc
  exact ⟨h.core, ⟨hm.row, hm.mono, hm.keep, fun x hx => hm.calm x (by omega), hm.src⟩, (fun _ h => h.elim)⟩
/-- A sheet that is met is one of them. -/
theorem RowI.met (hJ : Ok n J) (ha : a < n) (h : RowI J D N a row by_) {c : Nat} (hc : row c ≠ far) : c < n := by
  obtain ⟨k, hw⟩ := h.core.walk c (row c) (opt_some.2 ⟨rfl, hc⟩)
  have aux : ∀ {c k : Nat} {s : Int}, Wk (sc D N (legs J)) a c k s → c < n := fun hw => by
    cases hw with
    | nil => exact ha
    | snoc _ e => exact (hJ.in_sc _ _ _ e).2
  exact aux hw
/-- Behind a pass that shortened nothing all is calm. -/
theorem Ps.calm (hJ : Ok n J) (ha : a < n) (h : Ps n J D N a row0 by0 row by_ n tr) (hs : ∀ c, row c = row0 c) : ∀ b, Calm (sc D N (legs J)) (fun c => opt (row c)) b := by
  intro b
  by_cases hb : b < n
  · exact h.mid.calm b hb (by rw [hs b])
  · intro c w y _ hy
    obtain ⟨_, hne⟩ := opt_some.1 hy
    exact absurd (h.core.met hJ ha hne) hb
/-- Behind a pass: which places were shortened in it. -/
theorem Ps.lev (hJ : Ok n J) (ha : a < n) (h0 : RowI J D N a row0 by0) (h : Ps n J D N a row0 by0 row by_ n tr) {L : Nat → Nat} {k : Nat} (hL : Lev (sc D N (legs J)) a (fun c => opt (row0 c)) (viaOf J D N a row0 by0) L k) :
    ∃ L', Lev (sc D N (legs J)) a (fun c => opt (row c)) (viaOf J D N a row by_) L' (k + 1) ∧ ∀ c, opt (row c) ≠ opt (row0 c) → L' c = k + 1 := by
  refine ⟨_, Lev.pass h0.core hL h.mid fun b hb => ?_, fun c hc => if_neg hc⟩
  refine h.core.met hJ ha fun e => hb ?_
  exact opt_none.2 e
theorem lev_start (J : List Jo) (D N : Int) (a : Nat) (by_ : Nat → Nat × Bool) : Lev (sc D N (legs J)) a (fun c => opt (if c = a then 0 else far)) (viaOf J D N a (fun c => if c = a then 0 else far) by_) (fun _ => 0) 0 := by
  have e1 : (fun c => opt (if c = a then 0 else far)) = fun c => if c = a then some 0 else none := by
    funext c
    by_cases e : c = a
    · simp [e, opt, far]
    · simp [e, opt]
  have e2 : viaOf J D N a (fun c => if c = a then 0 else far) by_ = fun _ => none := by
    funext c
    unfold viaOf touched
    by_cases e : c = a <;> simp [e]
  rw [e1, e2]
  exact Lev.start _ _
/-- Ways are no longer than B legs. -/
def Lens (J : List Jo) (D N : Int) (a : Nat) (row : Nat → Int) (B : Nat) : Prop := ∀ c, row c ≠ far → ∃ l, l ≤ B ∧ Wk (sc D N (legs J)) a c l (row c)
theorem Lens.start : Lens J D N a (fun c => if c = a then 0 else far) 0 := by
  intro c hc
  by_cases e : c = a
  · subst e
    exact ⟨0, Nat.le_refl _, by simpa using Wk.nil c⟩
  · simp [e] at hc
theorem Lens.more {B B' : Nat} (h : Lens J D N a row B) (hB : B ≤ B') : Lens J D N a row B' := fun c hc => let ⟨l, h1, h2⟩ := h c hc; ⟨l, by omega, h2⟩
/-- A leg more from b, whose way has B legs at most. -/
theorem Lens.take {B : Nat} (h : Lens J D N a row (B + 1)) {g : Nat × Bool} (hg : g.1 < J.length) (hb : ∃ l, l ≤ B ∧ Wk (sc D N (legs J)) a (from_ J g) l (row (from_ J g))) : Lens J D N a (upd row (into J g) (row (from_ J g) + wt J D N g)) (B + 1) := by
  intro c hc
  by_cases e : c = into J g
  · subst e
    obtain ⟨l, h1, h2⟩ := hb
    refine ⟨l + 1, by omega, ?_⟩
    have := h2.snoc (sc_mem (D := D) (N := N) (leg_mem hg))
    simpa [upd, wt] using this
  · have e2 : upd row (into J g) (row (from_ J g) + wt J D N g) c = row c := by simp [upd, e]
    rw [e2] at hc ⊢
    exact h c hc
/-- Numbers of at most M a leg. -/
theorem Lens.small {B : Nat} {M : Int} (h : Lens J D N a row B) (hM : ∀ g : Nat × Bool, g.1 < J.length → -M ≤ wt J D N g ∧ wt J D N g ≤ M) (hM0 : 0 ≤ M) {c : Nat} (hc : row c ≠ far) : -(M * B) ≤ row c ∧ row c ≤ M * B := by
  obtain ⟨l, h1, h2⟩ := h c hc
  have hE : ∀ a b w, (a, b, w) ∈ sc D N (legs J) → -M ≤ w ∧ w ≤ M := fun a b w he => by
    obtain ⟨w', h3, rfl⟩ := mem_sc he
    obtain ⟨g, g1, g2, g3, g4⟩ := mem_leg h3
    have := hM g g1
    unfold wt at this
    rw [g4] at this
    exact this
  have b1 := h2.bound (p := 0) (q := 1) (M := M) fun a b w he => by have := hE a b w he; omega
  have b2 := h2.bound (p := 0) (q := -1) (M := M) fun a b w he => by have := hE a b w he; omega
  have b3 : M * (l : Int) ≤ M * B := Int.mul_le_mul_of_nonneg_left (by omega) hM0
  omega
end Sheet
end

section
/- Plain: legs that follow each other; a round that is found by going back along the legs by which sheets came. -/
namespace Sheet
/-- Legs that lead from a to b. -/
def IsWalk (J : List Jo) : Nat → List (Nat × Bool) → Nat → Prop
  | a, [], b => a = b
  | a, g :: r, b => g.1 < J.length ∧ from_ J g = a ∧ IsWalk J (into J g) r b
def sumN (J : List Jo) : List (Nat × Bool) → Int
  | [] => 0
  | g :: r => num J g + sumN J r
theorem sumN_append (J : List Jo) : ∀ l r : List (Nat × Bool), sumN J (l ++ r) = sumN J l + sumN J r
  | [], r => by simp [sumN]
  | g :: l, r => by simp only [List.cons_append, sumN, sumN_append J l r]; omega
theorem IsWalk.wk {J : List Jo} : ∀ {a b : Nat} {l : List (Nat × Bool)}, IsWalk J a l b → Wk (legs J) a b l.length (sumN J l)
  | a, b, [], h => by cases h; exact .nil a
  | a, b, g :: r, ⟨h1, h2, h3⟩ => by
    have := leg_mem h1
    rw [h2] at this
    exact ((Wk.one this).append h3.wk).of_eq (by simp; omega) rfl
/-- Gone back from f 0 to f m, leg by leg: the legs turned round lead from f m to f 0. -/
theorem back_walk {J : List Jo} {f : Nat → Nat} {g : Nat → Nat × Bool} : ∀ (m : Nat), (∀ j, j < m → (g j).1 < J.length ∧ into J (g j) = f j ∧ from_ J (g j) = f (j + 1)) → IsWalk J (f m) ((List.range m).map g).reverse (f 0)
  | 0, _ => rfl
  | m + 1, h => by
    have h1 := back_walk m fun j hj => h j (by omega)
    obtain ⟨a1, a2, a3⟩ := h m (by omega)
    rw [List.range_succ, List.map_append, List.reverse_append]
    refine ⟨a1, a3, ?_⟩
    show IsWalk J (into J (g m)) ((List.range m).map g).reverse (f 0)
    rw [a2]
    exact h1
theorem via_leg {J : List Jo} {D N : Int} {a : Nat} {row : Nat → Int} {by_ : Nat → Nat × Bool} {c : Nat} (h : touched a row c = true) : viaOf J D N a row by_ c = some (from_ J (by_ c), wt J D N (by_ c)) := by
  unfold viaOf
  rw [if_pos h]
  rfl
/-- Where one comes from is met. -/
theorem RowI.back {J : List Jo} {D N : Int} {a : Nat} {row : Nat → Int} {by_ : Nat → Nat × Bool} (h : RowI J D N a row by_) {c : Nat} (hc : touched a row c = true) : row (from_ J (by_ c)) ≠ far := by
  obtain ⟨x, y, _, h2, _⟩ := h.core.above _ _ _ (via_leg hc)
  have h2 : opt (row (from_ J (by_ c))) = some y := h2
  exact fun e => (opt_some.1 h2).2 e
/-- A round that the way back comes into. -/
theorem back_round {J : List Jo} {D N : Int} {a : Nat} {row : Nat → Int} {by_ : Nat → Nat × Bool} (h : RowI J D N a row by_) {f : Nat → Nat} {m : Nat} (hm : 0 < m) (hf : f m = f 0) (ht : ∀ j, j < m → touched a row (f j) = true) (hs : ∀ j, j < m → from_ J (by_ (f j)) = f (j + 1)) :
    IsWalk J (f 0) ((List.range m).map fun j => by_ (f j)).reverse (f 0) ∧ sumN J ((List.range m).map fun j => by_ (f j)).reverse * D + (m : Int) * N < 0 := by
  have hw := back_walk (J := J) (f := f) (g := fun j => by_ (f j)) m fun j hj => ⟨(h.leg _ (ht j hj)).1, (h.leg _ (ht j hj)).2, hs j hj⟩
  rw [hf] at hw
  refine ⟨hw, ?_⟩
  obtain ⟨t, h1, -, h3⟩ := h.core.below m f (fun j => wt J D N (by_ (f j))) hm hf fun j hj => by rw [via_leg (ht j hj), hs j hj]
  rw [sumG_eq] at h3
  have e : ∀ k, sumG (fun j => wt J D N (by_ (f j))) k = sumN J ((List.range k).map fun j => by_ (f j)).reverse * D + (k : Int) * N := by
    intro k
    induction k with
    | zero => simp [sumG, sumN]
    | succ k ih =>
      rw [List.range_succ, List.map_append, List.reverse_append]
      show sumG (fun j => wt J D N (by_ (f j))) k + wt J D N (by_ (f k)) = (num J (by_ (f k)) + sumN J ((List.range k).map fun j => by_ (f j)).reverse) * D + ((k + 1 : Nat) : Int) * N
      rw [ih, Int.add_mul, Int.natCast_add, Int.add_mul]
      unfold wt
      simp
      omega
  rw [← e m, ← h3]
  exact h1
/-- The way back from a sheet that was shortened in the n-th pass comes into a round. -/
theorem back_ends {n : Nat} {J : List Jo} {D N : Int} {a : Nat} {row : Nat → Int} {by_ : Nat → Nat × Bool} {L : Nat → Nat} (hJ : Ok n J) (ha : a < n) (h : RowI J D N a row by_) (hL : Lev (sc D N (legs J)) a (fun c => opt (row c)) (viaOf J D N a row by_) L n) {f : Nat → Nat} {m : Nat}
    (ht : ∀ j, j < m → touched a row (f j) = true) (hs : ∀ j, j < m → from_ J (by_ (f j)) = f (j + 1)) (hd : ∀ i j, i < j → j ≤ m → f i ≠ f j) (h0 : L (f 0) = n) (hm : row (f 0) ≠ far) (hend : touched a row (f m) = false) : False := by
  refine no_chain hL (f := f) (g := fun j => wt J D N (by_ (f j))) (m := m) (fun i hi => by rw [via_leg (ht i hi), hs i hi]) (fun i hi => ?_) hd h0 (by unfold viaOf; rw [hend]; rfl)
  cases i with
  | zero => exact h.met hJ ha hm
  | succ i =>
    have := h.back (ht i (by omega))
    rw [hs i (by omega)] at this
    exact h.met hJ ha this
end Sheet
end

section
/- Plain: which sheets are tied. -/
namespace Sheet
variable {E : List Edge} {n : Nat}
theorem Wk.first {a b l : Nat} {s : Int} (h : Wk E a b (l + 1) s) : ∃ c w t, (a, c, w) ∈ E ∧ Wk E c b l t := by
  obtain ⟨v, u, v0, vk, u0, uk, he⟩ := h.rows
  refine ⟨v 1, _, u (1 + l) - u 1, by have := he 0 (by omega); rw [v0] at this; exact this, ?_⟩
  have := Wk.of_rows (E := E) (v := v) (u := u) l 1 fun x _ h2 => he x (by omega)
  rw [show 1 + l = l + 1 by omega, vk] at this
  rw [show 1 + l = l + 1 by omega]
  exact this
end Sheet
end

section
/- Plain: what the program's reckon tells: all rows calm: the play is enough, and rows tell how far sheets lie apart; or a round that does not allow the play. -/
namespace Sheet
variable {n : Nat} {J : List Jo} {D N : Int}
/-- All rows are reckoned to their end. -/
def Calms (n : Nat) (J : List Jo) (D N : Int) (ap : Nat → Nat → Int) : Prop := ∀ a, a < n → (∃ by_, RowI J D N a (ap a) by_) ∧ ∀ b, Calm (sc D N (legs J)) (fun c => opt (ap a c)) b
theorem Calms.noNeg (hJ : Ok n J) {ap : Nat → Nat → Int} (h : Calms n J D N ap) : NoNeg (sc D N (legs J)) := by
  intro a k s hw
  by_cases hk : k = 0
  · have := (hw.none hk).1
    omega
  · have ha : a < n := by
      obtain ⟨c, w, t, he, -⟩ := Wk.first (hw.of_eq (show k = (k - 1) + 1 by omega) rfl)
      exact (hJ.in_sc _ _ _ he).1
    obtain ⟨⟨by_, h1⟩, h2⟩ := h a ha
    exact calm_round (d := fun c => opt (ap a c)) h2 hw (opt_some.2 ⟨rfl, h1.home⟩)
theorem Calms.most (hJ : Ok n J) {ap : Nat → Nat → Int} (h : Calms n J D N ap) : AtMost (legs J) N D := (noNeg_iff (legs_sym J)).1 (h.noNeg hJ)
theorem Calms.dist {ap : Nat → Nat → Int} (h : Calms n J D N ap) {a : Nat} (ha : a < n) (b : Nat) : Dist (sc D N (legs J)) a b (opt (ap a b)) := by
  obtain ⟨⟨by_, h1⟩, h2⟩ := h a ha
  exact h1.core.dist h2 b
/-- A round that does not allow the play. -/
def Clash (n : Nat) (J : List Jo) (D N : Int) (l : List (Nat × Bool)) : Prop := 0 < l.length ∧ l.length ≤ n ∧ ∃ c, IsWalk J c l c ∧ sumN J l * D + (l.length : Int) * N < 0
theorem Clash.not {l : List (Nat × Bool)} (h : Clash n J D N l) : ¬ AtMost (legs J) N D := by
  intro hm
  obtain ⟨h0, -, c, hw, hlt⟩ := h
  have := (noNeg_iff (legs_sym J)).2 hm c l.length _ (hw.wk.sc (D := D) (N := N))
  omega
/-- .. and a step of it. -/
theorem least_step {l : List (Nat × Bool)} (hp : Proved (legs J) n N D) (h : Clash n J D N l) : sumN J l < 0 ∧ Proved (legs J) n (low (-(sumN J l)) l.length).1 (low (-(sumN J l)) l.length).2 ∧ N * (low (-(sumN J l)) l.length).2 < (low (-(sumN J l)) l.length).1 * D := by
  obtain ⟨h0, hn, c, hw, hlt⟩ := h
  exact Proved.step (legs_sym J) hp.1 hp.2.1 hw.wk h0 hn hlt
end Sheet
end

section
/- Walks: ways, ends, number. -/
namespace Go.Proofs
open Go.RowKit
attribute [local go_sem] Oper.semAt_some

/-- One number of a joint. -/
def way1 (north : Bool) (j : Q4) : Int := if north then j.y else j.x
def joOf (north : Bool) (J : List Q4) : List Sheet.Jo := J.map fun j => (j.a.toNat, j.b.toNat, way1 north j)
/-- A set that is right. -/
structure SetOk (S : SetL) : Prop where
  n1 : 1 ≤ S.n
  n2 : S.n ≤ 12
  few : S.J.length ≤ 40
  ends : ∀ j ∈ S.J, (0 ≤ j.a ∧ j.a < S.n) ∧ (0 ≤ j.b ∧ j.b < S.n) ∧ j.a ≠ j.b
  nums : ∀ j ∈ S.J, (-1000000 ≤ j.x ∧ j.x ≤ 1000000) ∧ (-1000000 ≤ j.y ∧ j.y ≤ 1000000)
theorem setE_ok {S : SetL} (h : setE S = 0) : SetOk S := by
  unfold setE at h
  split at h
  · cases h
  rename_i h1
  split at h
  · cases h
  rename_i h2
  split at h
  · cases h
  rename_i h3
  simp only [Bool.or_eq_true, Bool.not_eq_true', decide_eq_true_eq, not_or, Bool.not_eq_false] at h1 h2 h3
  have a := fromB_iff.1 h1.1
  refine ⟨a.1, a.2, by omega, fun j hj => ?_, fun j hj => ?_⟩
  · have := List.all_eq_true.1 h2 j hj
    unfold okJ at this
    simp only [Bool.and_eq_true, fromB_iff, bne_iff_ne, ne_eq] at this
    exact ⟨by omega, by omega, this.2⟩
  · have := List.all_eq_true.1 h3 j hj
    unfold numJ at this
    simp only [Bool.and_eq_true, fromB_iff] at this
    exact this
theorem SetOk.ok {S : SetL} (h : SetOk S) (north : Bool) : Sheet.Ok S.n.toNat (joOf north S.J) := by
  intro j hj
  obtain ⟨q, hq, rfl⟩ := List.mem_map.1 hj
  have := h.ends q hq
  have := h.n1
  dsimp only
  omega
theorem joOf_len (north : Bool) (J : List Q4) : (joOf north J).length = J.length := by unfold joOf; rw [List.length_map]
theorem jo_of (north : Bool) (J : List Q4) {i : Nat} (h : i < J.length) : Sheet.jo (joOf north J) i = (J[i].a.toNat, J[i].b.toNat, way1 north J[i]) := by
  unfold Sheet.jo joOf
  rw [List.getD_eq_getElem?_getD, List.getElem?_map, List.getElem?_eq_getElem h]
  rfl

theorem of81 (a b x y : Int) (w : World) : Calls Try.prog 81 #[.agg #[.int .i64 a, .int .i64 b, .int .i64 x, .int .i64 y]] w fun e w' => e = .returned (.int .i64 x) ∧ w' = w.alloc (.cells #[.int .i64 a, .int .i64 b, .int .i64 x, .int .i64 y] 35) := by
  go_enter Try.func81, Try.ntmps81
  go_wp2
  go_ret
  exact ⟨rfl, rfl⟩
theorem of82 (a b x y : Int) (w : World) : Calls Try.prog 82 #[.agg #[.int .i64 a, .int .i64 b, .int .i64 x, .int .i64 y]] w fun e w' => e = .returned (.int .i64 y) ∧ w' = w.alloc (.cells #[.int .i64 a, .int .i64 b, .int .i64 x, .int .i64 y] 35) := by
  go_enter Try.func82, Try.ntmps82
  go_wp2
  go_ret
  exact ⟨rfl, rfl⟩
theorem both_any (w : World) : Calls Try.prog 47 #[] w fun e w' => e = .returned (.agg #[.func (.func 81) #[] #[], .func (.func 82) #[] #[]]) ∧ Aft w w' := by
  have h0 := Lib.hid (Aft.alloc w (.cells #[.func (.func 81) #[] #[], .func (.func 82) #[] #[]] 114))
  go_enter Try.func47, Try.ntmps47
  go_wp2
  refine bodyPost_ret (v := .agg #[.func (.func 81) #[] #[], .func (.func 82) #[] #[]]) (by simp [results, Try.results47, go_sem]) rfl ⟨rfl, h0.out⟩
/-- A function that takes one number of a joint. -/
structure WayOk (K : FuncId) (north : Bool) : Prop where
  runs : ∀ args w, (callFunc K args).run Try.prog w = .ok (.enter K args) w
  of : ∀ (a b x y : Int) w, Calls Try.prog K #[.agg #[.int .i64 a, .int .i64 b, .int .i64 x, .int .i64 y]] w fun e w' => e = .returned (.int .i64 (way1 north ⟨a, b, x, y⟩)) ∧ w' = w.alloc (.cells #[.int .i64 a, .int .i64 b, .int .i64 x, .int .i64 y] 35)
theorem way81 : WayOk 81 false := ⟨fun args w => by simp [go_sem], fun a b x y w => of81 a b x y w⟩
theorem way82 : WayOk 82 true := ⟨fun args w => by simp [go_sem], fun a b x y w => of82 a b x y w⟩

/-- The sheets from which and to which a leg goes. -/
def fromI (j : Q4) (bk : Bool) : Int := if bk then j.b else j.a
def intoI (j : Q4) (bk : Bool) : Int := if bk then j.a else j.b
def numI (north : Bool) (j : Q4) (bk : Bool) : Int := if bk then -(way1 north j) else way1 north j
set_option maxRecDepth 100000 in
set_option maxHeartbeats 2000000 in
theorem ends_any (S : SetL) (A : Option Addr) (c d : Nat) (ap : Nat → Int) (bf : Nat → Nat × Bool) (w0 w : World) (g : Nat) (bk : Bool) (hW : WorkAt w0 w d S A c ap bf) (hg : g < S.J.length) :
    Calls Try.prog 87 #[.pointer (some ⟨d, 0, none⟩), .agg #[.int .i64 (g : Nat), .bool bk]] w fun e w' => e = .returned (.tuple #[.int .i64 (fromI S.J[g] bk), .int .i64 (intoI S.J[g] bk)]) ∧ Aft w w' := by
  have hlen := hW.js.len
  obtain ⟨b, o, rfl, hb, hc⟩ := hW.js.at hg
  obtain ⟨x0, x1, x2, x3⟩ := hc g hg
  have hin : (0 : Int) ≤ (g : Int) ∧ (g : Int) < (S.J.length : Int) := by omega
  obtain ⟨W1, hW1⟩ : ∃ W1, w.alloc (.cells #[.int .i64 (g : Nat), .bool bk] 120) = W1 := ⟨_, rfl⟩
  have h1 : Aft w W1 := hW1 ▸ Aft.alloc _ _
  have HB := Lib.hid (hW1 ▸ Blk.new w 120 #[.int .i64 (g : Nat), .bool bk])
  have H1 := Lib.hid h1
  have HK : Hid (∀ W, Aft W1 W → W.cell? ⟨d, 1, none⟩ = some (.slice (some ⟨b, o, none⟩) S.J.length c)) := Lib.hid fun W h => cellA hW.k1 hW.lt (h1.trans h)
  have HX : Hid (∀ W, Aft W1 W → W.cell? ⟨b, o + g * 4, none⟩ = some (.int .i64 S.J[g].a) ∧ W.cell? ⟨b, o + g * 4 + 1, none⟩ = some (.int .i64 S.J[g].b) ∧ W.cell? ⟨b, o + g * 4 + 2, none⟩ = some (.int .i64 S.J[g].x) ∧ W.cell? ⟨b, o + g * 4 + 3, none⟩ = some (.int .i64 S.J[g].y)) :=
    Lib.hid fun W h => ⟨cellA x0 hb (h1.trans h), cellA x1 hb (h1.trans h), cellA x2 hb (h1.trans h), cellA x3 hb (h1.trans h)⟩
  unfold fromI intoI
  generalize S.J[g] = q at *
  obtain ⟨qa, qb, qx, qy⟩ := q
  dsimp only at HX ⊢
  clear x0 x1 x2 x3 hc hW h1
  go_enter Try.func87, Try.ntmps87
  go_upto_region 1 with fail
  generalize hs : w.heap.size = z at *
  clear hW1 hs
  refine wp_region_valsT (by kernel_rfl) 10 26 rfl (by kernel_rfl) (by kernel_rfl) (by kernel_rfl) [.pointer (some ⟨d, 0, none⟩), .pointer (some ⟨d, 0, none⟩), .pointer (some ⟨d, 0, none⟩), .pointer (some ⟨d, 1, none⟩), .slice (some ⟨b, o, none⟩) S.J.length c, .pointer (some ⟨z, 0, none⟩), .int .i64 (g : Nat), .pointer (some ⟨b, o + g * 4, none⟩), .agg #[.int .i64 qa, .int .i64 qb, .int .i64 qx, .int .i64 qy], .pointer (some ⟨W1.heap.size, 0, none⟩)] rfl (fun done W => Aft W1 W ∧ (if done 9 = true then W = W1.drew.alloc (.cells #[.int .i64 0, .int .i64 0, .int .i64 0, .int .i64 0] 35) else W = W1.drew)) (⟨Aft.drew _, by simp⟩) ?st1 ?fi1
  case st1 =>
    intro i o v ho hv
    match i, ho, hv with
    | 0, ho, hv =>
      cases ho; cases hv
      refine .inl ⟨rfl, fun done a W hd hp hk hw K hK => ?_⟩
      have e0 := hk.same 0 (by decide)
      exact op_val (by simp [go_sem, ev' e0]) (hK _ (⟨hw.1, by rw [upd_ne' (by decide)]; exact hw.2⟩))
    | 1, ho, hv =>
      cases ho; cases hv
      refine .inl ⟨rfl, fun done a W hd hp hk hw K hK => ?_⟩
      have e7 := hk.at_ 0 _ 7 _ rfl (by decide) _ rfl rfl rfl
      exact op_val (by simp [go_sem, ev' e7]) (hK _ (⟨hw.1, by rw [upd_ne' (by decide)]; exact hw.2⟩))
    | 2, ho, hv =>
      cases ho; cases hv
      refine .inl ⟨rfl, fun done a W hd hp hk hw K hK => ?_⟩
      have e8 := hk.at_ 1 _ 8 _ rfl (by decide) _ rfl rfl rfl
      exact op_val (by simp [go_sem, ev' e8]) (hK _ (⟨hw.1, by rw [upd_ne' (by decide)]; exact hw.2⟩))
    | 3, ho, hv =>
      cases ho; cases hv
      refine .inl ⟨rfl, fun done a W hd hp hk hw K hK => ?_⟩
      have e9 := hk.at_ 2 _ 9 _ rfl (by decide) _ rfl rfl rfl
      exact op_val (by simp [go_sem, ev' e9]) (hK _ (⟨hw.1, by rw [upd_ne' (by decide)]; exact hw.2⟩))
    | 4, ho, hv =>
      cases ho; cases hv
      refine .inl ⟨rfl, fun done a W hd hp hk hw K hK => ?_⟩
      have e10 := hk.at_ 3 _ 10 _ rfl (by decide) _ rfl rfl rfl
      exact op_val (by simp [go_sem, ev' e10, HK.out W hw.1]) (hK _ (⟨hw.1, by rw [upd_ne' (by decide)]; exact hw.2⟩))
    | 5, ho, hv =>
      cases ho; cases hv
      refine .inl ⟨rfl, fun done a W hd hp hk hw K hK => ?_⟩
      have e3 := hk.same 3 (by decide)
      exact op_val (by simp [go_sem, ev' e3]) (hK _ (⟨hw.1, by rw [upd_ne' (by decide)]; exact hw.2⟩))
    | 6, ho, hv =>
      cases ho; cases hv
      refine .inl ⟨rfl, fun done a W hd hp hk hw K hK => ?_⟩
      have e12 := hk.at_ 5 _ 12 _ rfl (by decide) _ rfl rfl rfl
      exact op_val (by simp [go_sem, ev' e12, (HB.out.aft hw.1).cell 0]) (hK _ (⟨hw.1, by rw [upd_ne' (by decide)]; exact hw.2⟩))
    | 7, ho, hv =>
      cases ho; cases hv
      refine .inl ⟨rfl, fun done a W hd hp hk hw K hK => ?_⟩
      have e11 := hk.at_ 4 _ 11 _ rfl (by decide) _ rfl rfl rfl
      have e13 := hk.at_ 6 _ 13 _ rfl (by decide) _ rfl rfl rfl
      exact op_val (by simp [go_sem, ev' e11, ev' e13, hin]) (hK _ (⟨hw.1, by rw [upd_ne' (by decide)]; exact hw.2⟩))
    | 8, ho, hv =>
      cases ho; cases hv
      refine .inl ⟨rfl, fun done a W hd hp hk hw K hK => ?_⟩
      have e14 := hk.at_ 7 _ 14 _ rfl (by decide) _ rfl rfl rfl
      exact op_val (by simp [go_sem, ev' e14, (HX.out W hw.1).1, (HX.out W hw.1).2.1, (HX.out W hw.1).2.2.1, (HX.out W hw.1).2.2.2]) (hK _ (⟨hw.1, by rw [upd_ne' (by decide)]; exact hw.2⟩))
    | 9, ho, hv =>
      cases ho; cases hv
      refine .inl ⟨rfl, fun done a W hd hp hk hw K hK => ?_⟩
      have h2 := hw.2
      rw [hd] at h2
      simp only [Bool.false_eq_true, if_false] at h2
      subst h2
      exact op_valW (v := .pointer (some ⟨W1.heap.size, 0, none⟩)) (w' := W1.drew.alloc (.cells #[.int .i64 0, .int .i64 0, .int .i64 0, .int .i64 0] 35)) (by simp [go_sem]) (hK _ ⟨(Aft.drew W1).then_alloc _, by rw [upd_same', if_pos rfl]⟩)
    | _ + 10, _, hv => cases hv
  intro done W hd hw
  simp only [List.drop_succ_cons, List.drop_zero, List.zip_cons_cons, List.zip_nil_right, putAll]
  simp only [Act.put, List.setIfInBounds_toArray, List.set]
  have hw2 := hw.2
  rw [if_pos (hd 9 (by decide))] at hw2
  clear hw hd
  subst hw2
  have k0 := HB.out.cell 0
  have k1 := HB.out.cell 1
  have hzlt := HB.out.lt
  simp only [List.getElem?_toArray, List.getElem?_cons_zero, List.getElem?_cons_succ] at k0 k1
  clear HB HK HX
  cases bk
  · go_wp2_with fail
    go_quiet (fail)
    go_wp2_with fail
    go_ret2
    exact ⟨rfl, (H1.out.then_alloc _).then_drewN _⟩
  · go_wp2_with fail
    go_quiet (fail)
    go_wp2_with fail
    go_ret2
    exact ⟨rfl, (H1.out.then_alloc _).then_drewN _⟩
set_option maxRecDepth 100000 in
set_option maxHeartbeats 2000000 in
theorem number_any {K : FuncId} {north : Bool} (hK : WayOk K north) (S : SetL) (A : Option Addr) (c d : Nat) (ap : Nat → Int) (bf : Nat → Nat × Bool) (w0 w : World) (g : Nat) (bk : Bool) (hW : WorkAt w0 w d S A c ap bf) (hg : g < S.J.length) (hnum : ∀ j ∈ S.J, -1000000 ≤ way1 north j ∧ way1 north j ≤ 1000000) :
    Calls Try.prog 105 #[.pointer (some ⟨d, 0, none⟩), .agg #[.int .i64 (g : Nat), .bool bk], .agg #[.func (.func K) #[] #[]]] w fun e w' => e = .returned (.int .i64 (numI north S.J[g] bk)) ∧ Aft w w' := by
  have hlen := hW.js.len
  have hrun := hK.runs
  have hbd := hnum _ (List.getElem_mem hg)
  obtain ⟨b, o, rfl, hb, hc⟩ := hW.js.at hg
  obtain ⟨x0, x1, x2, x3⟩ := hc g hg
  have hin : (0 : Int) ≤ (g : Int) ∧ (g : Int) < (S.J.length : Int) := by omega
  obtain ⟨W2, hW2⟩ : ∃ W2, (w.alloc (.cells #[.int .i64 (g : Nat), .bool bk] 120)).alloc (.cells #[.func (.func K) #[] #[]] 113) = W2 := ⟨_, rfl⟩
  have h2 : Aft w W2 := hW2 ▸ (Aft.alloc _ _).then_alloc _
  have HB := Lib.hid (hW2 ▸ (Blk.new w 120 #[.int .i64 (g : Nat), .bool bk]).alloc (.cells #[.func (.func K) #[] #[]] 113))
  have hY := Blk.new (w.alloc (.cells #[.int .i64 (g : Nat), .bool bk] 120)) 113 #[.func (.func K) #[] #[]]
  rw [hW2, World.size_alloc] at hY
  have HY := Lib.hid hY
  have H2 := Lib.hid h2
  have HK : Hid (∀ W, Aft W2 W → W.cell? ⟨d, 1, none⟩ = some (.slice (some ⟨b, o, none⟩) S.J.length c)) := Lib.hid fun W h => cellA hW.k1 hW.lt (h2.trans h)
  have HX : Hid (∀ W, Aft W2 W → W.cell? ⟨b, o + g * 4, none⟩ = some (.int .i64 S.J[g].a) ∧ W.cell? ⟨b, o + g * 4 + 1, none⟩ = some (.int .i64 S.J[g].b) ∧ W.cell? ⟨b, o + g * 4 + 2, none⟩ = some (.int .i64 S.J[g].x) ∧ W.cell? ⟨b, o + g * 4 + 3, none⟩ = some (.int .i64 S.J[g].y)) :=
    Lib.hid fun W h => ⟨cellA x0 hb (h2.trans h), cellA x1 hb (h2.trans h), cellA x2 hb (h2.trans h), cellA x3 hb (h2.trans h)⟩
  unfold numI
  generalize S.J[g] = q at *
  obtain ⟨qa, qb, qx, qy⟩ := q
  dsimp only at HX ⊢
  have HOF := Lib.hid (hK.of qa qb qx qy)
  obtain ⟨r, hr⟩ : ∃ r, way1 north ⟨qa, qb, qx, qy⟩ = r := ⟨_, rfl⟩
  rw [hr] at hbd HOF ⊢
  obtain ⟨z1, hz1⟩ : ∃ z1, w.heap.size + 1 = z1 := ⟨_, rfl⟩
  rw [hz1] at HY
  have k1 := (HB.out.cell 1)
  have hzlt := HB.out.lt
  simp only [List.getElem?_toArray, List.getElem?_cons_zero, List.getElem?_cons_succ] at k1
  clear x0 x1 x2 x3 hc hW h2 hY hnum hr hK
  cases bk
  · go_enter Try.func105, Try.ntmps105
    go_upto_region 1 with fail
    generalize hs : w.heap.size = z at *
    clear hW2 hs hz1
    go_upto_region 3 with fail
    clear k1
    refine wp_region_valsT (by kernel_rfl) 11 34 rfl (by kernel_rfl) (by kernel_rfl) (by kernel_rfl) [.pointer (some ⟨z1, 0, none⟩), .func (.func K) #[] #[], .pointer (some ⟨d, 0, none⟩), .pointer (some ⟨d, 0, none⟩), .pointer (some ⟨d, 0, none⟩), .pointer (some ⟨d, 1, none⟩), .slice (some ⟨b, o, none⟩) S.J.length c, .pointer (some ⟨z, 0, none⟩), .int .i64 (g : Nat), .pointer (some ⟨b, o + g * 4, none⟩), .agg #[.int .i64 qa, .int .i64 qb, .int .i64 qx, .int .i64 qy]] rfl (fun _ W => Aft W2 W) (Aft.drew _) ?st2 ?fi2
    case st2 =>
      intro i o v ho hv
      match i, ho, hv with
      | 0, ho, hv =>
        cases ho; cases hv
        refine .inl ⟨rfl, fun done a W hd hp hk hw K hK => ?_⟩
        have e5 := hk.same 5 (by decide)
        exact op_val (by simp [go_sem, ev' e5]) (hK _ hw)
      | 1, ho, hv =>
        cases ho; cases hv
        refine .inl ⟨rfl, fun done a W hd hp hk hw K hK => ?_⟩
        have e22 := hk.at_ 0 _ 22 _ rfl (by decide) _ rfl rfl rfl
        exact op_val (by simp [go_sem, ev' e22, (HY.out.aft hw).cell 0]) (hK _ hw)
      | 2, ho, hv =>
        cases ho; cases hv
        refine .inl ⟨rfl, fun done a W hd hp hk hw K hK => ?_⟩
        have e0 := hk.same 0 (by decide)
        exact op_val (by simp [go_sem, ev' e0]) (hK _ hw)
      | 3, ho, hv =>
        cases ho; cases hv
        refine .inl ⟨rfl, fun done a W hd hp hk hw K hK => ?_⟩
        have e24 := hk.at_ 2 _ 24 _ rfl (by decide) _ rfl rfl rfl
        exact op_val (by simp [go_sem, ev' e24]) (hK _ hw)
      | 4, ho, hv =>
        cases ho; cases hv
        refine .inl ⟨rfl, fun done a W hd hp hk hw K hK => ?_⟩
        have e25 := hk.at_ 3 _ 25 _ rfl (by decide) _ rfl rfl rfl
        exact op_val (by simp [go_sem, ev' e25]) (hK _ hw)
      | 5, ho, hv =>
        cases ho; cases hv
        refine .inl ⟨rfl, fun done a W hd hp hk hw K hK => ?_⟩
        have e26 := hk.at_ 4 _ 26 _ rfl (by decide) _ rfl rfl rfl
        exact op_val (by simp [go_sem, ev' e26]) (hK _ hw)
      | 6, ho, hv =>
        cases ho; cases hv
        refine .inl ⟨rfl, fun done a W hd hp hk hw K hK => ?_⟩
        have e27 := hk.at_ 5 _ 27 _ rfl (by decide) _ rfl rfl rfl
        exact op_val (by simp [go_sem, ev' e27, HK.out W hw]) (hK _ hw)
      | 7, ho, hv =>
        cases ho; cases hv
        refine .inl ⟨rfl, fun done a W hd hp hk hw K hK => ?_⟩
        have e4 := hk.same 4 (by decide)
        exact op_val (by simp [go_sem, ev' e4]) (hK _ hw)
      | 8, ho, hv =>
        cases ho; cases hv
        refine .inl ⟨rfl, fun done a W hd hp hk hw K hK => ?_⟩
        have e29 := hk.at_ 7 _ 29 _ rfl (by decide) _ rfl rfl rfl
        exact op_val (by simp [go_sem, ev' e29, (HB.out.aft hw).cell 0]) (hK _ hw)
      | 9, ho, hv =>
        cases ho; cases hv
        refine .inl ⟨rfl, fun done a W hd hp hk hw K hK => ?_⟩
        have e28 := hk.at_ 6 _ 28 _ rfl (by decide) _ rfl rfl rfl
        have e30 := hk.at_ 8 _ 30 _ rfl (by decide) _ rfl rfl rfl
        exact op_val (by simp [go_sem, ev' e28, ev' e30, hin]) (hK _ hw)
      | 10, ho, hv =>
        cases ho; cases hv
        refine .inl ⟨rfl, fun done a W hd hp hk hw K hK => ?_⟩
        have e31 := hk.at_ 9 _ 31 _ rfl (by decide) _ rfl rfl rfl
        exact op_val (by simp [go_sem, ev' e31, (HX.out W hw).1, (HX.out W hw).2.1, (HX.out W hw).2.2.1, (HX.out W hw).2.2.2]) (hK _ hw)
      | _ + 11, _, hv => cases hv
    intro done W hd hw
    simp only [List.drop_succ_cons, List.drop_zero, List.zip_cons_cons, List.zip_nil_right, putAll]
    simp only [Act.put, List.setIfInBounds_toArray, List.set]
    clear hd
    have h9 := H2.out.trans hw
    have H9 := Lib.hid h9
    clear hw h9 HB HX HK HY
    go_wp2_with (refine (HOF.out _).mono ?_; rintro e w9 ⟨rfl, rfl⟩)
    go_ret
    exact ⟨rfl, H9.out.then_alloc _⟩
  · go_enter Try.func105, Try.ntmps105
    go_upto_region 1 with fail
    generalize hs : w.heap.size = z at *
    clear hW2 hs hz1
    go_upto_region 2 with fail
    clear k1
    refine wp_region_valsT (by kernel_rfl) 11 34 rfl (by kernel_rfl) (by kernel_rfl) (by kernel_rfl) [.pointer (some ⟨z1, 0, none⟩), .func (.func K) #[] #[], .pointer (some ⟨d, 0, none⟩), .pointer (some ⟨d, 0, none⟩), .pointer (some ⟨d, 0, none⟩), .pointer (some ⟨d, 1, none⟩), .slice (some ⟨b, o, none⟩) S.J.length c, .pointer (some ⟨z, 0, none⟩), .int .i64 (g : Nat), .pointer (some ⟨b, o + g * 4, none⟩), .agg #[.int .i64 qa, .int .i64 qb, .int .i64 qx, .int .i64 qy]] rfl (fun _ W => Aft W2 W) (Aft.drew _) ?st3 ?fi3
    case st3 =>
      intro i o v ho hv
      match i, ho, hv with
      | 0, ho, hv =>
        cases ho; cases hv
        refine .inl ⟨rfl, fun done a W hd hp hk hw K hK => ?_⟩
        have e5 := hk.same 5 (by decide)
        exact op_val (by simp [go_sem, ev' e5]) (hK _ hw)
      | 1, ho, hv =>
        cases ho; cases hv
        refine .inl ⟨rfl, fun done a W hd hp hk hw K hK => ?_⟩
        have e9 := hk.at_ 0 _ 9 _ rfl (by decide) _ rfl rfl rfl
        exact op_val (by simp [go_sem, ev' e9, (HY.out.aft hw).cell 0]) (hK _ hw)
      | 2, ho, hv =>
        cases ho; cases hv
        refine .inl ⟨rfl, fun done a W hd hp hk hw K hK => ?_⟩
        have e0 := hk.same 0 (by decide)
        exact op_val (by simp [go_sem, ev' e0]) (hK _ hw)
      | 3, ho, hv =>
        cases ho; cases hv
        refine .inl ⟨rfl, fun done a W hd hp hk hw K hK => ?_⟩
        have e11 := hk.at_ 2 _ 11 _ rfl (by decide) _ rfl rfl rfl
        exact op_val (by simp [go_sem, ev' e11]) (hK _ hw)
      | 4, ho, hv =>
        cases ho; cases hv
        refine .inl ⟨rfl, fun done a W hd hp hk hw K hK => ?_⟩
        have e12 := hk.at_ 3 _ 12 _ rfl (by decide) _ rfl rfl rfl
        exact op_val (by simp [go_sem, ev' e12]) (hK _ hw)
      | 5, ho, hv =>
        cases ho; cases hv
        refine .inl ⟨rfl, fun done a W hd hp hk hw K hK => ?_⟩
        have e13 := hk.at_ 4 _ 13 _ rfl (by decide) _ rfl rfl rfl
        exact op_val (by simp [go_sem, ev' e13]) (hK _ hw)
      | 6, ho, hv =>
        cases ho; cases hv
        refine .inl ⟨rfl, fun done a W hd hp hk hw K hK => ?_⟩
        have e14 := hk.at_ 5 _ 14 _ rfl (by decide) _ rfl rfl rfl
        exact op_val (by simp [go_sem, ev' e14, HK.out W hw]) (hK _ hw)
      | 7, ho, hv =>
        cases ho; cases hv
        refine .inl ⟨rfl, fun done a W hd hp hk hw K hK => ?_⟩
        have e4 := hk.same 4 (by decide)
        exact op_val (by simp [go_sem, ev' e4]) (hK _ hw)
      | 8, ho, hv =>
        cases ho; cases hv
        refine .inl ⟨rfl, fun done a W hd hp hk hw K hK => ?_⟩
        have e16 := hk.at_ 7 _ 16 _ rfl (by decide) _ rfl rfl rfl
        exact op_val (by simp [go_sem, ev' e16, (HB.out.aft hw).cell 0]) (hK _ hw)
      | 9, ho, hv =>
        cases ho; cases hv
        refine .inl ⟨rfl, fun done a W hd hp hk hw K hK => ?_⟩
        have e15 := hk.at_ 6 _ 15 _ rfl (by decide) _ rfl rfl rfl
        have e17 := hk.at_ 8 _ 17 _ rfl (by decide) _ rfl rfl rfl
        exact op_val (by simp [go_sem, ev' e15, ev' e17, hin]) (hK _ hw)
      | 10, ho, hv =>
        cases ho; cases hv
        refine .inl ⟨rfl, fun done a W hd hp hk hw K hK => ?_⟩
        have e18 := hk.at_ 9 _ 18 _ rfl (by decide) _ rfl rfl rfl
        exact op_val (by simp [go_sem, ev' e18, (HX.out W hw).1, (HX.out W hw).2.1, (HX.out W hw).2.2.1, (HX.out W hw).2.2.2]) (hK _ hw)
      | _ + 11, _, hv => cases hv
    intro done W hd hw
    simp only [List.drop_succ_cons, List.drop_zero, List.zip_cons_cons, List.zip_nil_right, putAll]
    simp only [Act.put, List.setIfInBounds_toArray, List.set]
    clear hd
    have h9 := H2.out.trans hw
    have H9 := Lib.hid h9
    clear hw h9 HB HX HK HY
    go_wp2_with (refine (HOF.out _).mono ?_; rintro e w9 ⟨rfl, rfl⟩)
    go_ret
    exact ⟨rfl, H9.out.then_alloc _⟩
end Go.Proofs
end

section
/- Walks: legs, the iterator over the legs that begin at a sheet. -/
namespace Go.Proofs
open Go.RowKit
attribute [local go_sem] Oper.semAt_some

/-- Where a leg begins. -/
def fromQ (J : List Q4) (g : Nat × Bool) : Int := match J[g.1]? with | some j => fromI j g.2 | none => -1
def gOf (m : Nat) : Nat × Bool := (m / 2, decide (m % 2 = 1))
def gB (J : List Q4) (s : Int) (g : Nat × Bool) : Bool := decide (fromQ J g = s)
/-- The legs that begin at a sheet, of the first m in their order. -/
def legsTo (J : List Q4) (s : Int) (m : Nat) : List (Nat × Bool) := ((List.range m).map gOf).filter (gB J s)
def legsOf (J : List Q4) (s : Int) : List (Nat × Bool) := legsTo J s (2 * J.length)
theorem legsTo_succ (J : List Q4) (s : Int) (m : Nat) : legsTo J s (m + 1) = legsTo J s m ++ if gB J s (gOf m) then [gOf m] else [] := by
  unfold legsTo
  rw [List.range_succ, List.map_append, List.filter_append]
  congr 1
  by_cases e : gB J s (gOf m) = true
  · simp [e]
  · simp [e]
theorem legsTo_get (J : List Q4) (s : Int) (m : Nat) (h : m < 2 * J.length) (he : gB J s (gOf m) = true) : (legsOf J s)[(legsTo J s m).length]? = some (gOf m) := by
  have e : ∀ n, m + 1 ≤ n → ∃ r, legsTo J s n = legsTo J s (m + 1) ++ r := by
    intro n hn
    induction n with
    | zero => omega
    | succ n ih =>
      by_cases e : m + 1 = n + 1
      · exact ⟨[], by rw [e, List.append_nil]⟩
      · obtain ⟨r, hr⟩ := ih (by omega)
        exact ⟨r ++ _, by rw [legsTo_succ, hr, List.append_assoc]⟩
  obtain ⟨r, hr⟩ := e (2 * J.length) (by omega)
  unfold legsOf
  rw [hr, legsTo_succ, if_pos he, List.append_assoc, List.getElem?_append_right (Nat.le_refl _), Nat.sub_self]
  rfl
theorem gOf_even (i : Nat) : gOf (2 * i) = (i, false) := by unfold gOf; rw [Nat.mul_div_cancel_left _ (by decide), Nat.mul_mod_right]; rfl
theorem gOf_odd (i : Nat) : gOf (2 * i + 1) = (i, true) := by
  unfold gOf
  rw [show (2 * i + 1) / 2 = i by omega, show (2 * i + 1) % 2 = 1 by omega]
  rfl
theorem mem_legsOf {J : List Q4} {s : Int} {g : Nat × Bool} : g ∈ legsOf J s ↔ g.1 < J.length ∧ fromQ J g = s := by
  unfold legsOf legsTo gB
  rw [List.mem_filter, List.mem_map, decide_eq_true_eq]
  constructor
  · rintro ⟨⟨m, hm, rfl⟩, h⟩
    rw [List.mem_range] at hm
    exact ⟨by show m / 2 < _; omega, h⟩
  · rintro ⟨h1, h2⟩
    refine ⟨?_, h2⟩
    obtain ⟨i, b⟩ := g
    cases b
    · exact ⟨2 * i, List.mem_range.2 (by show 2 * i < _; have : i < _ := h1; omega), gOf_even i⟩
    · exact ⟨2 * i + 1, List.mem_range.2 (by have : i < _ := h1; omega), gOf_odd i⟩

/-- What the iterator wants: its two boxes, and the set at work. -/
def RepL (w0 : World) (bw bs d : Nat) (S : SetL) (A : Option Addr) (c : Nat) (s : Int) (W : World) : Prop :=
  W.cell? ⟨bw, 0, none⟩ = some (.pointer (some ⟨d, 0, none⟩)) ∧ W.cell? ⟨bs, 0, none⟩ = some (.int .i64 s) ∧ bw < W.heap.size ∧ bs < W.heap.size ∧ ∃ ap bf, WorkAt w0 W d S A c ap bf
def gV (g : Nat × Bool) : Value := .agg #[.int .i64 (g.1 : Nat), .bool g.2]
def GivesL (L : List (Nat × Bool)) (k : Nat) (_ _ : World) (v : Value) : Prop := ∃ g, L[k]? = some g ∧ v = gV g
def YieldL (J : Nat → World → Prop) (Jx : World → Prop) (B k : Nat) (W1 : World) (e : Ending) (W' : World) : Prop :=
  (e = .returned (.bool true) ∧ J (k + 1) W' ∧ W'.heap[B + 2]? = W1.heap[B + 2]? ∧ W1.heap.size ≤ W'.heap.size) ∨ (e = .returned (.bool false) ∧ Jx W')
def IterL (J : Nat → World → Prop) (Jx : World → Prop) (N : Nat) (e : Ending) (W : World) : Prop := (∃ v, e = .returned v) ∧ (J N W ∨ Jx W)

theorem legs_any (d : Nat) (s : Int) (w : World) :
    Calls Try.prog 104 #[.pointer (some ⟨d, 0, none⟩), .int .i64 s] w fun e w' => e = .returned (.func (.func 120) #[] #[.pointer (some ⟨w.heap.size, 0, none⟩), .pointer (some ⟨w.heap.size + 1, 0, none⟩)]) ∧ w' = (w.alloc (.cells #[.pointer (some ⟨d, 0, none⟩)] 100)).alloc (.cells #[.int .i64 s] 3) := by
  go_enter Try.func104, Try.ntmps104
  go_wp2_with fail
  go_ret
  exact ⟨rfl, rfl⟩
theorem runs_120 (args : Array Value) (w : World) : (callFunc 120 args).run Try.prog w = .ok (.enter 120 args) w := by simp [go_sem]
theorem idx186a (i : Nat) (w : World) : (Instr.index 186 (.agg #[.int .i64 i, .bool false, .int .i64 i, .bool true]) (.int .i64 0)).run Try.prog w = .ok (.agg #[.int .i64 i, .bool false]) w := by kernel_rfl
theorem idx186b (i : Nat) (w : World) : (Instr.index 186 (.agg #[.int .i64 i, .bool false, .int .i64 i, .bool true]) (.int .i64 1)).run Try.prog w = .ok (.agg #[.int .i64 i, .bool true]) w := by kernel_rfl
theorem idx186 (i : Nat) (k : Nat) (hk : k < 2) (w : World) : (Instr.index 186 (.agg #[.int .i64 i, .bool false, .int .i64 i, .bool true]) (.int .i64 k)).run Try.prog w = .ok (.agg #[.int .i64 i, .bool (decide (k = 1))]) w := by
  have h : k = 0 ∨ k = 1 := by omega
  rcases h with rfl | rfl
  · exact idx186a i w
  · exact idx186b i w
theorem gOf_add (i k : Nat) (hk : k < 2) : gOf (2 * i + k) = (i, decide (k = 1)) := by
  match k, hk with
  | 0, _ => exact gOf_even i
  | 1, _ => exact gOf_odd i

set_option maxRecDepth 100000 in
set_option maxHeartbeats 4000000 in
theorem iter120 (fu : Nat) (w0 : World) (bw bs d B : Nat) (S : SetL) (A : Option Addr) (c : Nat) (s : Int) :
    IterOk fu 120 #[.pointer (some ⟨bw, 0, none⟩), .pointer (some ⟨bs, 0, none⟩)] B (legsOf S.J s).length (GivesL (legsOf S.J s)) (RepL w0 bw bs d S A c s) := by
  intro l J Jx W hsz hJ hrep hY h0
  obtain ⟨k1, k2, k3, k4, f0, r0, hD⟩ := hrep 0 W h0
  have hll := hD.js.len
  have d1 := hD.k1
  have d2 := hD.lt
  have HJ := Lib.hid hJ
  have HR := Lib.hid hrep
  have HY : Hid (∀ k v W0 W1, k < (legsOf S.J s).length → J k W0 → Aft W0 W1 → B + 3 ≤ W0.heap.size → GivesL (legsOf S.J s) k W0 W1 v → YieldAt Fence.wide (fu - 1) Try.prog l #[v] W1 (YieldL J Jx B k W1)) := Lib.hid hY
  have H0 := Lib.hid h0
  have HT0 := Lib.hid (show legsTo S.J s (2 * 0) = [] from rfl)
  have HTE := Lib.hid (show legsTo S.J s (2 * S.J.length) = legsOf S.J s from rfl)
  clear hJ hrep hY h0 hD
  refine callsIn_wide.2 ?_
  show Calls Try.prog 120 #[.func (.yield l) #[] #[], .pointer (some ⟨bw, 0, none⟩), .pointer (some ⟨bs, 0, none⟩)] W (IterL J Jx (legsOf S.J s).length)
  go_enter Try.func120, Try.ntmps120
  go_wp2_with fail
  clear k1 k2 k3 k4 d1 d2
  go_loopw [15] (fun i wr => ∃ k : Nat, i = .int .i64 k ∧ k ≤ S.J.length ∧ J (legsTo S.J s (2 * k)).length wr ∧ B + 2 ≤ wr.heap.size) (fun i _ => S.J.length - (intOf i).toNat)
  case atStart => exact ⟨0, rfl, by omega, by rw [HT0.out]; exact H0.out, by omega⟩
  case round =>
    obtain ⟨i, rfl, hi, hj, hsz2⟩ := hrel
    have HJK := Lib.hid hj
    clear hj
    by_cases hil : i < S.J.length
    · have HIL := Lib.hid hil
      go_upto_block 2 with fail
      refine wp_block ?_
      obtain ⟨wo, rfl⟩ : ∃ wo : World, wo = wr := ⟨_, rfl⟩
      go_loopw [23] (fun j wr => ∃ k : Nat, j = .int .i64 k ∧ k ≤ 2 ∧ J (legsTo S.J s (2 * i + k)).length wr ∧ B + 2 ≤ wr.heap.size) (fun j _ => 2 - (intOf j).toNat)
      case atStart => exact ⟨0, rfl, by omega, HJK.out, hsz2⟩
      case round =>
        obtain ⟨k, rfl, hk, hj, hsz3⟩ := hrel
        have HJ2 := Lib.hid hj
        clear hj HJK
        by_cases hk2 : k < 2
        · have hix := idx186 i k hk2
          have HSU := Lib.hid (legsTo_succ S.J s (2 * i + k))
          have HGE := Lib.hid (legsTo_get S.J s (2 * i + k) (by omega))
          have hgo := gOf_add i k hk2
          rw [hgo] at HSU HGE
          clear hgo
          obtain ⟨bk, hbk⟩ : ∃ bk, decide (k = 1) = bk := ⟨_, rfl⟩
          rw [hbk] at hix HSU HGE
          clear hbk
          have hfr : fromQ S.J (i, bk) = fromI S.J[i] bk := by unfold fromQ; rw [List.getElem?_eq_getElem hil]; rfl
          have HFR := Lib.hid hfr
          obtain ⟨X0, hX0⟩ : ∃ X0, wr.alloc (.cells #[.int .i64 i, .bool bk] 120) = X0 := ⟨_, rfl⟩
          have hx0 : Aft wr X0 := hX0 ▸ Aft.alloc _ _
          have hsx : B + 3 ≤ X0.heap.size := by rw [← hX0, World.size_alloc]; omega
          have HBX := Lib.hid (hX0 ▸ Blk.new wr 120 #[.int .i64 i, .bool bk])
          have HX0 := Lib.hid hx0
          have HRX : Hid (∀ X, Aft X0 X → RepL w0 bw bs d S A c s X ∧ J (legsTo S.J s (2 * i + k)).length X) := Lib.hid fun X h => by
            have hj2 := HJ.out _ _ _ HJ2.out (only_of_aft (HX0.out.trans h) (some (B + 2)))
            exact ⟨HR.out _ _ hj2, hj2⟩
          have HEN : Hid (Calls Try.prog 87 #[.pointer (some ⟨d, 0, none⟩), .agg #[.int .i64 (i : Nat), .bool bk]] X0 fun e w' => e = .returned (.tuple #[.int .i64 (fromI S.J[i] bk), .int .i64 (intoI S.J[i] bk)]) ∧ Aft X0 w') := Lib.hid (by
            obtain ⟨ap, bf, hw⟩ := (HRX.out _ (Aft.refl _)).1.2.2.2.2
            exact ends_any S A c d ap bf w0 X0 i bk hw hil)
          obtain ⟨k1, k2, k3, k4, -⟩ := (HRX.out _ (Aft.refl _)).1
          have k5 := HBX.out.cell 0
          have k6 := HBX.out.cell 1
          have k7 := HBX.out.lt
          simp only [List.getElem?_toArray, List.getElem?_cons_zero, List.getElem?_cons_succ] at k5 k6
          obtain ⟨fr, hfr2⟩ : ∃ fr, fromI S.J[i] bk = fr := ⟨_, rfl⟩
          obtain ⟨into, hin2⟩ : ∃ into, intoI S.J[i] bk = into := ⟨_, rfl⟩
          rw [hfr2] at HFR HEN
          rw [hin2] at HEN
          clear hfr hfr2 hin2 hx0 hil
          go_upto_region 6 with fail
          generalize hz : wr.heap.size = z at *
          clear hX0 hz
          go_upto_region 7 with (go_at_call 87; refine HEN.out.mono ?_; rintro e X ⟨rfl, u, rfl⟩)
          have hax : Aft X0 (X0.lat u) := ⟨u, rfl⟩
          have HXX := Lib.hid (HRX.out _ hax)
          have hsX : B + 3 ≤ (X0.lat u).heap.size := Nat.le_trans hsx hax.size
          clear hax HEN HRX
          by_cases hfs : fr = s
          · have t1 : (fr == s) = true := by simpa using hfs
            have hgb : gB S.J s (i, bk) = true := by unfold gB; rw [HFR.out]; simpa using hfs
            have HSU2 : Hid (legsTo S.J s (2 * i + k + 1) = legsTo S.J s (2 * i + k) ++ [(i, bk)]) := Lib.hid (by rw [HSU.out, if_pos hgb])
            have HGE2 := Lib.hid (HGE.out hgb)
            have hlt3 : (legsTo S.J s (2 * i + k)).length < (legsOf S.J s).length := (List.getElem?_eq_some_iff.1 HGE2.out).1
            obtain ⟨fn, tmps, assign, body, hy, hR⟩ := HY.out _ (.agg #[.int .i64 (i : Nat), .bool bk]) (X0.lat u) (X0.lat u) hlt3 HXX.out.2 (Aft.refl _) hsX ⟨(i, bk), HGE2.out, rfl⟩
            have HRR := Lib.hid hR
            clear hR HSU HGE hgb hfs HGE2
            refine (wpIn_wide (n := fu)).1 ?_
            gi_wp2_with fail
            refine ⟨(fun h => by cases h), HRR.out.mono ?_⟩
            rintro e W3 (⟨rfl, hJ3, hk3, hs3⟩ | ⟨rfl, hJx3⟩)
            · have hs3' : B + 3 ≤ W3.heap.size := Nat.le_trans hsX hs3
              have HJ4 : Hid (J (legsTo S.J s (2 * i + k + 1)).length W3) := Lib.hid (by rw [HSU2.out, List.length_append]; exact hJ3)
              clear hy HRR hJ3 hk3 hs3
              gi_wp2_with fail
              go_wp2_with fail
              exact ⟨⟨k + 1, by go_num, by omega, HJ4.out, by omega⟩, by simp [intOf]; omega⟩
            · clear hy HRR
              gi_wp2_with fail
              go_wp2_with fail
              go_end0
              exact ⟨⟨_, rfl⟩, .inr hJx3⟩
          · have t1 : (fr == s) = false := by simpa using hfs
            have HSU2 : Hid (legsTo S.J s (2 * i + k + 1) = legsTo S.J s (2 * i + k)) := Lib.hid (by
              have hgb : gB S.J s (i, bk) = false := by unfold gB; rw [HFR.out]; simpa using hfs
              rw [HSU.out, hgb]; simp)
            clear HSU HGE hfs
            go_wp2_with fail
            exact ⟨⟨k + 1, by go_num, by omega, by rw [← Nat.add_assoc, HSU2.out]; exact HXX.out.2, by omega⟩, by simp [intOf]; omega⟩
        · obtain rfl : k = 2 := by omega
          have HJ3 : Hid (J (legsTo S.J s (2 * (i + 1))).length wr) := HJ2
          clear hk2
          go_wp2_with fail
          exact ⟨⟨i + 1, by go_num, by omega, HJ3.out, by omega⟩, by simp [intOf]; omega⟩
    · obtain rfl : i = S.J.length := by omega
      rw [HTE.out] at HJK
      go_wp2_with fail
      go_end0
      exact ⟨⟨_, rfl⟩, .inl HJK.out⟩
end Go.Proofs
end
