/- Own texts, merged: Fl Sc Rgf Rgj Rng Brg Rgv Rgw Rgx Rgt. -/
import Derived.Test.YthegmhnaiabcpaaE02
import Derived.Deep.RegionLaw
import Derived.Great.Frames
import Derived.RangeFuncNested
import Derived.RangeFuncBound
import Derived.RangeFuncCalls
import Derived.RangeFuncLeaves
import Derived.Test.YthegmhnaiabcpaaChecked
import Derived.Shelf.RegionOpen
set_option linter.unusedSimpArgs false
set_option linter.unusedVariables false
set_option linter.unnecessarySimpa false
section
/- Words: slices of flat records (pairs, joints, shifts, legs): how they read, what an own one is. -/
namespace Go.Proofs
open Go.RowKit

def FlatR {α : Type} (f : α → List Value) : World → α → List Value → Prop := fun _ x vs => vs = f x
theorem FlatR.mono {α : Type} {f : α → List Value} : MonoR (FlatR f) := fun _ _ _ _ h => h
section
variable {α : Type} {enc : α → List Value} {sz : Nat}
theorem flat_len (hs : ∀ x, (enc x).length = sz) : ∀ l : List α, (l.flatMap enc).length = l.length * sz
  | [] => by simp
  | x :: r => by rw [List.flatMap_cons, List.length_append, hs, flat_len hs r, List.length_cons, Nat.succ_mul]; omega
theorem flat_get (hs : ∀ x, (enc x).length = sz) : ∀ (l : List α) (i j : Nat) (hi : i < l.length), j < sz → (l.flatMap enc)[i * sz + j]? = (enc l[i])[j]?
  | x :: r, 0, j, hi, hj => by
    rw [List.flatMap_cons, List.getElem?_append_left (by rw [hs]; omega)]
    simp
  | x :: r, i + 1, j, hi, hj => by
    rw [List.flatMap_cons, List.getElem?_append_right (by rw [hs, Nat.succ_mul]; omega), hs]
    have : (i + 1) * sz + j - sz = i * sz + j := by rw [Nat.succ_mul]; omega
    rw [this, flat_get hs r i j (by simpa using hi) hj]
    simp
/-- What is owned reads as a list of records. -/
theorem own_flat (hs : ∀ x, (enc x).length = sz) {w : World} {base : Nat} {e : TypeId} {v : Value} {l : List α}
    (h : w.ownsRow base e sz v l.length (l.flatMap enc)) (hl : l.length * sz ≤ 17592186043904) : ∃ A c, v = .slice A l.length c ∧ l.length ≤ c ∧ RowsP w A sz (FlatR enc) l ∧ ∀ b o, A = some ⟨b, o, none⟩ → base ≤ b := by
  rcases h.2 with ⟨rfl, h0⟩ | ⟨g, cap, cur, rfl, hg, hh, hc, hm, hs', ht⟩
  · have : l = [] := List.eq_nil_of_length_eq_zero h0
    subst this
    exact ⟨none, 0, rfl, Nat.le_refl _, .nil, fun b o h => by cases h⟩
  · refine ⟨_, cap, rfl, hc, ⟨hl, .inr ⟨g, 0, rfl, (Array.getElem?_eq_some_iff.1 hh).1, fun i hi => ⟨enc l[i], hs _, rfl, fun j hj => ?_⟩⟩⟩, fun b o h => by cases h; exact hg⟩
    have hj' : j < sz := by rw [hs] at hj; exact hj
    have := h.cells (g := g) rfl (i * sz + j) (enc l[i])[j] (by rw [flat_get hs l i j hi hj', List.getElem?_eq_getElem hj])
    rw [Addr.add_lit] at this
    simpa [Nat.add_assoc] using this
theorem rows_src (hs : ∀ x, (enc x).length = sz) (hz : 0 < sz) {w : World} {A : Option Addr} {l : List α} (h : RowsP w A sz (FlatR enc) l) :
    ∀ ad, A = some ad → ∀ j u, (l.flatMap enc)[j]? = some u → w.cell? (ad.add j) = some u := by
  intro ad e j u hj
  have hlt : j < l.length * sz := by have := (List.getElem?_eq_some_iff.1 hj).1; rwa [flat_len hs] at this
  have hi : j / sz < l.length := Nat.div_lt_of_lt_mul (by rwa [Nat.mul_comm] at hlt)
  obtain ⟨b, o, e2, _, hc⟩ := h.at hi
  rw [e] at e2; cases e2
  obtain ⟨vs, h1, h2, h3⟩ := hc (j / sz) hi
  have h2 : vs = enc l[j / sz] := h2
  subst h2
  have hr : j % sz < sz := Nat.mod_lt _ hz
  have hjj : j / sz * sz + j % sz = j := by rw [Nat.mul_comm]; exact Nat.div_add_mod j sz
  rw [← hjj, flat_get hs l _ _ hi hr] at hj
  have hk : j % sz < (enc l[j / sz]).length := by rw [hs]; exact hr
  have h4 := h3 (j % sz) (by simpa using hk)
  rw [List.getElem?_eq_getElem hk] at hj
  cases hj
  rw [Addr.add_lit]
  have h5 : o + j / sz * sz + j % sz = o + j := by omega
  rw [← h5]
  simpa using h4
theorem rows_nil {R : World → α → List Value → Prop} {w : World} {A : Option Addr} {l : List α} (h : RowsP w A sz R l) (e : A = none) : l.length = 0 := by
  rcases Nat.eq_zero_or_pos l.length with h0 | h0
  · exact h0
  · obtain ⟨b, o, e2, _⟩ := h.at h0
    rw [e] at e2; cases e2
end
/-- Records in memory of the call's own. -/
def OwnF {α : Type} (e : TypeId) (sz : Nat) (enc : α → List Value) (w0 : World) (l : List α) (en : Ending) (w' : World) : Prop := ∃ v, en = .returned v ∧ w'.ownsRow w0.heap.size e sz v l.length (l.flatMap enc) ∧ Aft w0 w'

/-- Two numbers: a mark, a pair. -/
def enc2 (p : Int × Int) : List Value := [.int .i64 p.1, .int .i64 p.2]
def Prs (w : World) (A : Option Addr) (l : List (Int × Int)) : Prop := RowsP w A 2 (FlatR enc2) l
theorem Prs.aft {w w' : World} {A : Option Addr} {l : List (Int × Int)} (h : Prs w A l) (hl : Aft w w') : Prs w' A l := RowsP.aft FlatR.mono h hl
theorem Prs.len {w : World} {A : Option Addr} {l : List (Int × Int)} (h : Prs w A l) : l.length ≤ 17592186043904 := RowsP.len h (by decide)
theorem Prs.at {w : World} {A : Option Addr} {l : List (Int × Int)} (h : Prs w A l) {k : Nat} (hk : k < l.length) :
    ∃ b o, A = some ⟨b, o, none⟩ ∧ b < w.heap.size ∧ ∀ i, (h : i < l.length) → w.cell? ⟨b, o + i * 2, none⟩ = some (.int .i64 l[i].1) ∧ w.cell? ⟨b, o + i * 2 + 1, none⟩ = some (.int .i64 l[i].2) := by
  obtain ⟨b, o, rfl, hb, hc⟩ := RowsP.at h hk
  refine ⟨b, o, rfl, hb, fun i hi => ?_⟩
  obtain ⟨vs, h1, rfl, h3⟩ := hc i hi
  exact ⟨by simpa [enc2] using h3 0 (by simp [enc2]), by simpa [enc2] using h3 1 (by simp [enc2])⟩
/-- Four numbers: a joint, a shift. -/
structure Q4 where
  a : Int
  b : Int
  x : Int
  y : Int
deriving DecidableEq
def enc4 (p : Q4) : List Value := [.int .i64 p.a, .int .i64 p.b, .int .i64 p.x, .int .i64 p.y]
def Quads (w : World) (A : Option Addr) (l : List Q4) : Prop := RowsP w A 4 (FlatR enc4) l
theorem Quads.aft {w w' : World} {A : Option Addr} {l : List Q4} (h : Quads w A l) (hl : Aft w w') : Quads w' A l := RowsP.aft FlatR.mono h hl
theorem Quads.len {w : World} {A : Option Addr} {l : List Q4} (h : Quads w A l) : l.length ≤ 17592186043904 := RowsP.len h (by decide)
theorem Quads.at {w : World} {A : Option Addr} {l : List Q4} (h : Quads w A l) {k : Nat} (hk : k < l.length) :
    ∃ b o, A = some ⟨b, o, none⟩ ∧ b < w.heap.size ∧ ∀ i, (h : i < l.length) → w.cell? ⟨b, o + i * 4, none⟩ = some (.int .i64 l[i].a) ∧ w.cell? ⟨b, o + i * 4 + 1, none⟩ = some (.int .i64 l[i].b) ∧ w.cell? ⟨b, o + i * 4 + 2, none⟩ = some (.int .i64 l[i].x) ∧ w.cell? ⟨b, o + i * 4 + 3, none⟩ = some (.int .i64 l[i].y) := by
  obtain ⟨b, o, rfl, hb, hc⟩ := RowsP.at h hk
  refine ⟨b, o, rfl, hb, fun i hi => ?_⟩
  obtain ⟨vs, h1, rfl, h3⟩ := hc i hi
  exact ⟨by simpa [enc4] using h3 0 (by simp [enc4]), by simpa [enc4] using h3 1 (by simp [enc4]), by simpa [enc4] using h3 2 (by simp [enc4]), by simpa [enc4] using h3 3 (by simp [enc4])⟩
/-- A leg: of which joint, and whether back. -/
def encG (p : Int × Bool) : List Value := [.int .i64 p.1, .bool p.2]
def Gs (w : World) (A : Option Addr) (l : List (Int × Bool)) : Prop := RowsP w A 2 (FlatR encG) l
theorem Gs.aft {w w' : World} {A : Option Addr} {l : List (Int × Bool)} (h : Gs w A l) (hl : Aft w w') : Gs w' A l := RowsP.aft FlatR.mono h hl
theorem Gs.len {w : World} {A : Option Addr} {l : List (Int × Bool)} (h : Gs w A l) : l.length ≤ 17592186043904 := RowsP.len h (by decide)
theorem Gs.at {w : World} {A : Option Addr} {l : List (Int × Bool)} (h : Gs w A l) {k : Nat} (hk : k < l.length) :
    ∃ b o, A = some ⟨b, o, none⟩ ∧ b < w.heap.size ∧ ∀ i, (h : i < l.length) → w.cell? ⟨b, o + i * 2, none⟩ = some (.int .i64 l[i].1) ∧ w.cell? ⟨b, o + i * 2 + 1, none⟩ = some (.bool l[i].2) := by
  obtain ⟨b, o, rfl, hb, hc⟩ := RowsP.at h hk
  refine ⟨b, o, rfl, hb, fun i hi => ?_⟩
  obtain ⟨vs, h1, rfl, h3⟩ := hc i hi
  exact ⟨by simpa [encG] using h3 0 (by simp [encG]), by simpa [encG] using h3 1 (by simp [encG])⟩
theorem enc2_one (l : List (Int × Int)) : ∀ u ∈ l.flatMap enc2, u.oneCell' = true := by
  intro u hu; obtain ⟨x, _, hx⟩ := List.mem_flatMap.1 hu; simp [enc2] at hx; rcases hx with rfl | rfl <;> rfl
theorem encG_one (l : List (Int × Bool)) : ∀ u ∈ l.flatMap encG, u.oneCell' = true := by
  intro u hu; obtain ⟨x, _, hx⟩ := List.mem_flatMap.1 hu; simp [encG] at hx; rcases hx with rfl | rfl <;> rfl
end Go.Proofs
end

section
/- A call at a step of a region that draws its order. -/
namespace Go.Proofs
open Go.RowKit

theorem run_enters {f : Nat} {fn : Func} (h : Try.prog.funcs[f]? = some fn) (hn : (fn.name == "runtime.NumGoroutine") = false) (hb : fn.body.isNone = false) (args : Array Value) (w : World) :
    (callFunc f args).run Try.prog w = .ok (.enter f args) w := by
  unfold callFunc
  have h1 : ¬ fn.name = "runtime.NumGoroutine" := by simpa using hn
  have h2 : ¬ fn.body = none := by intro e; rw [e] at hb; cases hb
  simp [go_sem, h, h1, h2]


end Go.Proofs
end

section
/- A region that draws its order, by facts: what each operation yields, in whatever order they come up. -/
namespace Go

def Region.preds (o : Oper) : List Nat := (o.after.toList.filter (Region.binds .any)).map (·.on)
def dn (listed : Array Bool) (i : Nat) : Bool := listed.getD i false
def upd (done : Nat → Bool) (i : Nat) : Nat → Bool := fun j => if j = i then true else done j

/-- The state in which some of the operations are done. -/
structure Held (ops : Array Oper) (Fact : Nat → Value → World → Prop) (Wd : (Nat → Bool) → World → Prop) (a0 : Act) (done : Nat → Bool) (a : Act) (w : World) : Prop where
  wd : Wd done w
  size : a.tmps.size = a0.tmps.size
  defers : a.defers = a0.defers
  closed : ∀ i o, ops[i]? = some o → done i = true → ∀ j ∈ Region.preds o, done j = true
  old : ∀ s, (∀ i o, ops[i]? = some o → o.dst = some s → done i = false) → a.eval (.tmp s) = a0.eval (.tmp s)
  fact : ∀ (i : Nat) (o : Oper) (s : Nat), ops[i]? = some o → o.dst = some s → done i = true → Fact i (a.eval (.tmp s)) w

theorem mem_ready' {md : Region.Mode} {ops : Array Oper} {listed : Array Bool} {i : Nat} (hm : md = .any) (hs : listed.size = ops.size) (h : i ∈ Region.ready md ops listed) :
    ∃ o, ops[i]? = some o ∧ dn listed i = false ∧ ∀ j ∈ Region.preds o, dn listed j = true := by
  subst hm
  unfold Region.ready at h
  rw [List.mem_filter, List.mem_range, Bool.and_eq_true] at h
  obtain ⟨h1, h2, h3⟩ := h
  have ho : ops[i]? = some ops[i] := Array.getElem?_eq_getElem h1
  refine ⟨_, ho, ?_, fun j hj => ?_⟩
  · unfold dn
    rw [Array.getD_eq_getD_getElem?] at h2 ⊢
    rw [Array.getElem?_eq_getElem (by omega)] at h2 ⊢
    simpa using h2
  · rw [ho, Option.map_some, Option.getD_some] at h3
    unfold Region.preds at hj
    rw [List.mem_map] at hj
    obtain ⟨e, he, rfl⟩ := hj
    rw [List.mem_filter] at he
    have := Array.all_eq_true'.1 h3 e (by simpa using he.1)
    rw [he.2] at this
    simpa [dn] using this

theorem all_done {ops : Array Oper} {listed : Array Bool} (hs : listed.size = ops.size) (hlt : ∀ (i : Nat) (o : Oper), ops[i]? = some o → ∀ j ∈ Region.preds o, j < i) (h : Region.ready .any ops listed = []) : ∀ i, i < ops.size → dn listed i = true := by
  intro i
  induction i using Nat.strongRecOn with
  | _ i ih =>
    intro hi
    cases hd : dn listed i with
    | true => rfl
    | false =>
      exfalso
      have ho : ops[i]? = some ops[i] := Array.getElem?_eq_getElem hi
      have : i ∈ Region.ready .any ops listed := by
        unfold Region.ready
        rw [List.mem_filter, List.mem_range, Bool.and_eq_true]
        refine ⟨hi, ?_, ?_⟩
        · unfold dn at hd
          rw [Array.getD_eq_getD_getElem?] at hd ⊢
          rw [Array.getElem?_eq_getElem (by omega)] at hd ⊢
          simpa using hd
        · rw [ho, Option.map_some, Option.getD_some, Array.all_eq_true']
          intro e he
          cases hb : Region.binds .any e with
          | false => rfl
          | true =>
            have hm : e.on ∈ Region.preds ops[i] := List.mem_map.2 ⟨e, List.mem_filter.2 ⟨by simpa using he, hb⟩, rfl⟩
            have h1 := hlt i _ ho _ hm
            have h2 := ih e.on h1 (by omega)
            simpa [dn] using h2
      rw [h] at this
      cases this

def unl (ops : Array Oper) (done : Nat → Bool) : List Nat := (List.range ops.size).filter fun i => !done i
theorem unl_lt {ops : Array Oper} {done : Nat → Bool} {i : Nat} (hi : i < ops.size) (hd : done i = false) : (unl ops (upd done i)).length < (unl ops done).length := by
  have e : unl ops (upd done i) = (unl ops done).filter fun j => !upd done i j := by
    unfold unl
    rw [List.filter_filter]
    apply List.filter_congr
    intro j _
    unfold upd
    split <;> simp
  rw [e, List.length_filter_lt_length_iff_exists]
  exact ⟨i, List.mem_filter.2 ⟨List.mem_range.2 hi, by simp [hd]⟩, by simp [upd]⟩

section
variable {P : Program} {ops : Array Oper} {Q : Exit → Act → World → Prop} {Fact : Nat → Value → World → Prop} {Wd : (Nat → Bool) → World → Prop} {a0 : Act}

theorem dn_set {listed : Array Bool} {i : Nat} (hi : i < listed.size) : dn (listed.setIfInBounds i true) = upd (dn listed) i := by
  funext j
  unfold dn upd
  rw [Array.getD_eq_getD_getElem?, Array.getElem?_setIfInBounds]
  by_cases e : i = j
  · subst e; simp [hi]
  · rw [if_neg e, if_neg (fun h => e h.symm)]
    exact (Array.getD_eq_getD_getElem? ..).symm



theorem Held.same {done : Nat → Bool} {a : Act} {w : World} (h : Held ops Fact Wd a0 done a w) {s : Nat} (hs : s ∉ ops.toList.filterMap (·.dst)) : a.eval (.tmp s) = a0.eval (.tmp s) :=
  h.old s fun k ok hk he => absurd (List.mem_filterMap.2 ⟨ok, by rw [← Array.getElem?_toList] at hk; exact List.mem_of_getElem? hk, he⟩) hs


theorem nodup_dst : ∀ {xs : List Oper}, (xs.filterMap (·.dst)).Nodup → ∀ (i j : Nat) (oi oj : Oper) (s : Nat), xs[i]? = some oi → xs[j]? = some oj → oi.dst = some s → oj.dst = some s → i = j
  | [], _, i, _, _, _, _, h, _, _, _ => by simp at h
  | o :: xs, hn, i, j, oi, oj, s, hi, hj, h1, h2 => by
    rw [List.filterMap_cons] at hn
    have hsub : (xs.filterMap (·.dst)).Nodup := by
      cases hd : o.dst with
      | none => simpa [hd] using hn
      | some d => simp [hd] at hn; exact hn.2
    have hmem : ∀ (k : Nat) (ok : Oper), xs[k]? = some ok → ok.dst = some s → s ∈ xs.filterMap (·.dst) := fun k ok hk he => List.mem_filterMap.2 ⟨ok, List.mem_of_getElem? hk, he⟩
    cases i with
    | zero =>
      cases j with
      | zero => rfl
      | succ j =>
        simp at hi hj
        subst hi
        rw [h1] at hn
        simp at hn
        exact absurd (hmem j oj hj h2) (by simpa using hn.1)
    | succ i =>
      cases j with
      | zero =>
        simp at hi hj
        subst hj
        rw [h2] at hn
        simp at hn
        exact absurd (hmem i oi hi h1) (by simpa using hn.1)
      | succ j =>
        simp at hi hj
        rw [nodup_dst hsub i j oi oj s hi hj h1 h2]

end
end Go
end

section
/- A region that draws its order and whose operations may bear guards, by facts. -/
namespace Go

/-- The state in which some of the operations are done. -/
structure HeldG (ops : Array Oper) (Fact : (Nat → Bool) → Nat → Value → World → Prop) (Wd : (Nat → Bool) → Act → World → Prop) (a0 : Act) (done : Nat → Bool) (a : Act) (w : World) : Prop where
  wd : Wd done a w
  size : a.tmps.size = a0.tmps.size
  defers : a.defers = a0.defers
  closed : ∀ i o, ops[i]? = some o → done i = true → ∀ j ∈ Region.preds o, done j = true
  old : ∀ s, (∀ i o, ops[i]? = some o → o.dst = some s → done i = false) → a.eval (.tmp s) = a0.eval (.tmp s)
  fact : ∀ (i : Nat) (o : Oper) (s : Nat), ops[i]? = some o → o.dst = some s → done i = true → Fact done i (a.eval (.tmp s)) w

section
variable {P : Program} {ops : Array Oper} {Q : Exit → Act → World → Prop} {Fact : (Nat → Bool) → Nat → Value → World → Prop} {Wd : (Nat → Bool) → Act → World → Prop} {a0 : Act}

theorem HeldG.put {done : Nat → Bool} {a : Act} {w w' : World} {i : Nat} {o : Oper} {v : Value} (h : HeldG ops Fact Wd a0 done a w) (ho : ops[i]? = some o) (hd : done i = false) (hp : ∀ j ∈ Region.preds o, done j = true)
    (hdst : ∀ (i j : Nat) (oi oj : Oper) (s : Nat), ops[i]? = some oi → ops[j]? = some oj → oi.dst = some s → oj.dst = some s → i = j) (hin : ∀ (i : Nat) (o : Oper) (s : Nat), ops[i]? = some o → o.dst = some s → s < a0.tmps.size)
    (hf : Fact (Go.upd done i) i v w') (hw : Wd (Go.upd done i) (a.put o.dst v) w') (hk : ∀ (j : Nat) (oj : Oper) (s : Nat), ops[j]? = some oj → oj.dst = some s → done j = true → Fact done j (a.eval (.tmp s)) w → Fact (Go.upd done i) j (a.eval (.tmp s)) w') : HeldG ops Fact Wd a0 (Go.upd done i) (a.put o.dst v) w' := by
  refine ⟨hw, ?_, ?_, fun k ok hk' hdk j hj => ?_, fun s hs => ?_, fun k ok s hk' hs hdk => ?_⟩
  · rw [← h.size]; unfold Act.put; split <;> simp
  · rw [← h.defers]; unfold Act.put; split <;> rfl
  · unfold Go.upd at hdk ⊢
    by_cases e : j = i
    · rw [if_pos e]
    · rw [if_neg e]
      by_cases e2 : k = i
      · subst e2
        rw [ho] at hk'; cases hk'
        exact hp j hj
      · rw [if_neg e2] at hdk
        exact h.closed k ok hk' hdk j hj
  · have hne : ∀ d, o.dst = some d → (Operand.tmp s) ≠ .tmp d := fun d hd' e => by
      cases e
      have := hs i o ho hd'
      simp [Go.upd] at this
    rw [Act.eval_put hne]
    refine h.old s fun k ok hk' hs' => ?_
    have := hs k ok hk' hs'
    unfold Go.upd at this
    split at this
    · cases this
    · exact this
  · by_cases e : k = i
    · subst e
      rw [ho] at hk'; cases hk'
      rw [hs, Act.eval_put_same _ _ _ (by rw [h.size]; exact hin k o s ho hs)]
      exact hf
    · unfold Go.upd at hdk
      rw [if_neg e] at hdk
      have hne : ∀ d, o.dst = some d → (Operand.tmp s) ≠ .tmp d := fun d hd' e2 => by
        cases e2
        exact e (hdst k i ok o s hk' ho hs hd')
      rw [Act.eval_put hne]
      exact hk k ok s hk' hs hdk (h.fact k ok s hk' hs hdk)

theorem wpAny_factsG (hdst : ∀ (i j : Nat) (oi oj : Oper) (s : Nat), ops[i]? = some oi → ops[j]? = some oj → oi.dst = some s → oj.dst = some s → i = j) (hin : ∀ (i : Nat) (o : Oper) (s : Nat), ops[i]? = some o → o.dst = some s → s < a0.tmps.size)
    (hlt : ∀ (i : Nat) (o : Oper), ops[i]? = some o → ∀ j ∈ Region.preds o, j < i)
    (step : ∀ (i : Nat) (o : Oper), ops[i]? = some o → ∀ (done : Nat → Bool) (a : Act) (w : World), HeldG ops Fact Wd a0 done a w → done i = false → (∀ j ∈ Region.preds o, done j = true) → ∀ K : Act → World → Prop,
      (∀ (v : Value) (w' : World), Fact (Go.upd done i) i v w' → Wd (Go.upd done i) (a.put o.dst v) w' → (∀ (j : Nat) (oj : Oper) (s : Nat), ops[j]? = some oj → oj.dst = some s → done j = true → Fact done j (a.eval (.tmp s)) w → Fact (Go.upd done i) j (a.eval (.tmp s)) w') → K (a.put o.dst v) w') → if Region.wanted o (yielded ops a.tmps) = true then Oper.wp P o a w K Q else K (a.put o.dst undef) w)
    (fin : ∀ (done : Nat → Bool) (a : Act) (w : World), (∀ i, i < ops.size → done i = true) → HeldG ops Fact Wd a0 done a w → Q .normal a w) :
    ∀ (fuel : Nat) (listed : Array Bool) (a : Act) (w : World), listed.size = ops.size → HeldG ops Fact Wd a0 (dn listed) a w → (unl ops (dn listed)).length ≤ fuel → wpAny P .any ops Q fuel listed a w
  | 0, listed, a, w, hs, h, hf => by
    have hd : ∀ i, i < ops.size → dn listed i = true := fun i hi => by
      cases hd : dn listed i with
      | true => rfl
      | false =>
        have : i ∈ unl ops (dn listed) := List.mem_filter.2 ⟨List.mem_range.2 hi, by simp [hd]⟩
        have hz : unl ops (dn listed) = [] := List.eq_nil_of_length_eq_zero (by omega)
        rw [hz] at this
        cases this
    refine ⟨?_, fin _ a w hd h⟩
    cases hr : Region.ready .any ops listed with
    | nil => rfl
    | cons i r =>
      obtain ⟨o, ho, h1, _⟩ := mem_ready' rfl hs (show i ∈ Region.ready .any ops listed by rw [hr]; simp)
      rw [hd i (Array.getElem?_eq_some_iff.1 ho).1] at h1
      cases h1
  | fuel + 1, listed, a, w, hs, h, hf => by
    refine ⟨fun hr => fin _ a w (all_done hs hlt hr) h, fun i hi => ?_⟩
    obtain ⟨o, ho, h1, h2⟩ := mem_ready' rfl hs hi
    have hio := (Array.getElem?_eq_some_iff.1 ho).1
    unfold wpOp
    simp only [ho]
    have hst := step i o ho _ a w h h1 h2 (wpAny P .any ops Q fuel (listed.setIfInBounds i true)) fun v w' hf' hw' hk => by
      refine wpAny_factsG hdst hin hlt step fin fuel _ _ _ (by simpa using hs) ?_ ?_
      · rw [dn_set (by omega)]
        exact h.put ho h1 h2 hdst hin hf' hw' hk
      · rw [dn_set (by omega)]
        have := unl_lt (ops := ops) hio h1
        omega
    by_cases hw : Region.wanted o (yielded ops a.tmps) = true
    · rw [if_pos hw] at hst ⊢
      exact .inl hst
    · rw [if_neg hw] at hst ⊢
      exact hst

theorem HeldG.same {done : Nat → Bool} {a : Act} {w : World} (h : HeldG ops Fact Wd a0 done a w) {s : Nat} (hs : s ∉ ops.toList.filterMap (·.dst)) : a.eval (.tmp s) = a0.eval (.tmp s) :=
  h.old s fun k ok hk he => absurd (List.mem_filterMap.2 ⟨ok, by rw [← Array.getElem?_toList] at hk; exact List.mem_of_getElem? hk, he⟩) hs

/-- The facts of a region's text, asked by a Bool. -/
def factsGB (xs : List Oper) (n : Nat) : Bool :=
  decide ((xs.filterMap (·.dst)).Nodup) && (xs.all fun o => match o.dst with | some s => decide (s < n) | none => true) && ((List.range xs.length).all fun i => match xs[i]? with | some o => (Region.preds o).all fun j => decide (j < i) | none => true)

/-- **A region that draws its order, by facts.** -/
theorem wp_region_factsG {id : Nat} {xs : List Oper} {w : World} (hm : P.follows .mixedOrders = true) (n : Nat) (hn : a0.tmps.size = n) (hB : factsGB xs n = true)
    (Fact : (Nat → Bool) → Nat → Value → World → Prop) (Wd : (Nat → Bool) → Act → World → Prop) (h0 : Wd (fun _ => false) a0 w.drew)
    (step : ∀ (i : Nat) (o : Oper), xs[i]? = some o → ∀ (done : Nat → Bool) (a : Act) (w : World), HeldG xs.toArray Fact Wd a0 done a w → done i = false → (∀ j ∈ Region.preds o, done j = true) → ∀ K : Act → World → Prop,
      (∀ (v : Value) (w' : World), Fact (Go.upd done i) i v w' → Wd (Go.upd done i) (a.put o.dst v) w' → (∀ (j : Nat) (oj : Oper) (s : Nat), xs[j]? = some oj → oj.dst = some s → done j = true → Fact done j (a.eval (.tmp s)) w → Fact (Go.upd done i) j (a.eval (.tmp s)) w') → K (a.put o.dst v) w') → if Region.wanted o (yielded xs.toArray a.tmps) = true then Oper.wp P o a w K Q else K (a.put o.dst undef) w)
    (fin : ∀ (done : Nat → Bool) (a : Act) (w : World), (∀ i, i < xs.length → done i = true) → HeldG xs.toArray Fact Wd a0 done a w → Q .normal a w) : (Code.region id xs.toArray true).wp P Q a0 w := by
  unfold factsGB at hB
  rw [Bool.and_eq_true, Bool.and_eq_true] at hB
  obtain ⟨⟨h2, h3⟩, h4⟩ := hB
  refine wp_region_any hm ?_
  have e0 : dn (Array.replicate xs.toArray.size false) = fun _ => false := by
    funext i
    unfold dn
    rw [Array.getD_eq_getD_getElem?, Array.getElem?_replicate]
    split <;> rfl
  refine wpAny_factsG (Fact := Fact) (Wd := Wd) (a0 := a0) (fun i j oi oj s hi hj => nodup_dst (of_decide_eq_true h2) i j oi oj s (by simpa using hi) (by simpa using hj)) (fun i o s ho hs => ?_) (fun i o ho j hj => ?_)
    (fun i o ho done a w h hd hp K hK => step i o (by simpa using ho) done a w h hd hp K (fun v w' h1 h2 h3 => hK v w' h1 h2 (fun j oj s hj => h3 j oj s (by simpa using hj)))) (fun done a w hd => fin done a w (by simpa using hd)) _ _ _ _ (by simp) ?_ ?_
  · have := List.all_eq_true.1 h3 o (List.mem_of_getElem? (by simpa using ho))
    rw [hs] at this
    rw [hn]
    simpa using this
  · have ho' : xs[i]? = some o := by simpa using ho
    have := List.all_eq_true.1 h4 i (List.mem_range.2 (List.getElem?_eq_some_iff.1 ho').1)
    rw [ho'] at this
    have := List.all_eq_true.1 this j hj
    simpa using this
  · rw [e0]
    exact ⟨h0, rfl, rfl, (fun i o _ h => by cases h), (fun s _ => rfl), (fun i o s _ _ h => by cases h)⟩
  · have : (unl xs.toArray (dn (Array.replicate xs.toArray.size false))).length ≤ (List.range xs.toArray.size).length := List.length_filter_le _ _
    simpa using this
end
end Go
end

section
/- Words: a range over an iterator that keeps state in one block of its own. -/
namespace Go.Proofs
open Go.RowKit

/-- The loop's three blocks lie as they lay. -/
structure Kept3 (B : Nat) (W W' : World) : Prop where
  size : W.heap.size ≤ W'.heap.size
  same : ∀ j, B ≤ j → j ≤ B + 2 → W'.heap[j]? = W.heap[j]?
theorem Kept3.of_aft {B : Nat} {W W' : World} (h : Aft W W') (hB : B + 3 ≤ W.heap.size) : Kept3 B W W' := ⟨h.size, fun j _ h2 => h.below.block j (by omega)⟩

theorem Kept3.setCell {B : Nat} {W W' : World} (h : Kept3 B W W') {p : Addr} (hp : p.block < B ∨ B + 3 ≤ p.block) (v : Value) : Kept3 B W (W'.setCell p v) :=
  ⟨by have := h.size; simpa [World.setCell] using this, fun j h1 h2 => (Below.heap_setCell W' p v j (by omega)).trans (h.same j h1 h2)⟩

/-- It does not mind a turn of the loop's three blocks. -/
def Three {β : Type} (B : Nat) (I : β → World → Prop) : Prop := ∀ s W W' r, I s W → W.grownBy W' (some r) → B ≤ r → r ≤ B + 2 → I s W'

/-- How the body of a round may be left. -/
def post3 (B : Nat) (I : Nat → World → Prop) (Ix : Code → World → Prop) (k : Nat) (W : World) : Exit → Act → World → Prop
  | .normal, _, W' => Kept3 B W W' ∧ I k W'
  | .ret, _, W' => Kept3 B W W' ∧ Ix .ret W'
  | .exit id, _, W' => Kept3 B W W' ∧ Ix (.exit id) W'
  | .goto t, _, W' => Kept3 B W W' ∧ Ix (.goto t) W'
  | .panic _, _, _ => False
  | .outgrown, _, _ => False

/-- What an iterator promises that deals N values, the k-th of which 'Gv k W0 W v' says: v, in W, made since W0. -/
def IterOk (n : Nat) (gf : Nat) (lb : Array Value) (B N : Nat) (Gv : Nat → World → World → Value → Prop) (Rep : World → Prop) : Prop :=
  ∀ (l : Nat) (J : Nat → World → Prop) (Jx : World → Prop) (W : World), W.heap.size = B + 2 → (∀ k W W', J k W → W.grownBy W' (some (B + 2)) → J k W') → (∀ k W, J k W → Rep W) →
    (∀ k v W0 W1, k < N → J k W0 → Aft W0 W1 → B + 3 ≤ W0.heap.size → Gv k W0 W1 v → YieldAt Fence.wide (n - 1) Try.prog l #[v] W1 fun e W' =>
      (e = .returned (.bool true) ∧ J (k + 1) W' ∧ W'.heap[B + 2]? = W1.heap[B + 2]? ∧ W1.heap.size ≤ W'.heap.size) ∨ (e = .returned (.bool false) ∧ Jx W')) →
    J 0 W →
    CallsIn Fence.wide n Try.prog gf (#[.func (.yield l) #[] #[]] ++ lb) W fun e W' => (∃ v, e = .returned v) ∧ (J N W' ∨ Jx W')


end Go.Proofs
end

section
/- Words: operations, lists of them and regions inside a round, by what holds of them outside. -/
namespace Go
section
variable {P : Program} {ops : Array Oper} {Q : Exit → Act → World → Prop} {l n : Nat} {md : Region.Mode}

theorem Oper.in_round {o : Oper} {a : Act} {w : World} {K : Act → World → Prop} (hd : ∀ c, o.op ≠ .defer c) (h : o.wp P a w K Q) : o.wpIn (Fence.wide.inRound l) n P a w K Q := by
  unfold Oper.wpIn
  refine ⟨fun _ _ => trivial, ?_⟩
  show o.uponIn _ n P a K Q ((Oper.semAt (some l) a.eval o).run P w)
  rw [Oper.semAt_some l _ o hd]
  unfold Oper.wp at h
  generalize (execOp a.eval o).run P w = r at *
  cases r with
  | ok x w' =>
    cases x <;> simp only [Oper.upon, Oper.uponIn] at h ⊢
    case value u => exact h
    case skip => exact h
    case defer d => exact h
    case enter f args => exact ⟨(fun h => by cases h), CallsIn.inRound l (callsIn_wide.2 h)⟩
    case row r args =>
      refine ⟨(fun h => by cases h), fun c cs _ => ?_⟩
      obtain ⟨v, w2, h1, h2⟩ := h c cs
      exact ⟨v, w2, h1, stepsIn_wide.2 h2⟩
    all_goals exact h.elim
  | halt x w' => cases x <;> simp only [Oper.upon, Oper.uponIn] at h ⊢ <;> first | exact h | exact h.elim

/-- No operation defers. -/
def noDefers (l : List Oper) : Bool := l.all fun o => match o.op with | .defer _ => false | _ => true
theorem noDefers_at {l : List Oper} (h : noDefers l = true) {o : Oper} (ho : o ∈ l) : ∀ c, o.op ≠ .defer c := by
  intro c e
  have := List.all_eq_true.1 h o ho
  rw [e] at this
  cases this

theorem wpOp_in_round {i : Nat} {a : Act} {w : World} {K : Act → World → Prop} (hd : noDefers ops.toList = true) (hQ : ¬ LetsOut Q) (h : wpOp P ops Q i K a w) : wpOpIn (Fence.wide.inRound l) n P ops Q i K a w := by
  unfold wpOp at h
  unfold wpOpIn
  cases ho : ops[i]? with
  | none => simp only [ho] at h ⊢; exact h
  | some o =>
    simp only [ho] at h ⊢
    have hm : o ∈ ops.toList := by
      obtain ⟨hi, e⟩ := Array.getElem?_eq_some_iff.1 ho
      rw [← e]; exact Array.getElem_mem_toList hi
    split
    · rename_i hw
      rw [if_pos hw] at h
      exact Oper.in_round (noDefers_at hd hm) (h.resolve_right fun x => hQ x.2)
    · rename_i hw
      rw [if_neg hw] at h
      exact ⟨fun _ _ => trivial, h⟩

theorem wpAny_in_round (hd : noDefers ops.toList = true) (hQ : ¬ LetsOut Q) : ∀ (fuel : Nat) (listed : Array Bool) (a : Act) (w : World), wpAny P md ops Q fuel listed a w → wpAnyIn (Fence.wide.inRound l) n P md ops Q fuel listed a w
  | 0, _, _, _, h => h
  | fuel + 1, _, _, _, h => ⟨h.1, fun i hi => wpOpIn_mono (fun a w => wpAny_in_round hd hQ fuel _ a w) (wpOp_in_round hd hQ (h.2 i hi))⟩

theorem wpList_in_round (hQ : ¬ LetsOut Q) : ∀ (xs : List Oper) (a : Act) (w : World), noDefers xs = true → wpList P ops Q xs a w → wpListIn (Fence.wide.inRound l) n P ops Q xs a w
  | [], _, _, _, h => h
  | o :: rest, a, w, hd, h => by
    have hd' : noDefers rest = true := by
      unfold noDefers at hd ⊢
      rw [List.all_cons, Bool.and_eq_true] at hd
      exact hd.2
    unfold wpList at h
    unfold wpListIn
    split
    · rename_i hw
      rw [if_pos hw] at h
      exact Oper.wpIn_mono (fun a w => wpList_in_round hQ rest a w hd') (Oper.in_round (noDefers_at hd (by simp)) (h.resolve_right fun x => hQ x.2))
    · rename_i hw
      rw [if_neg hw] at h
      exact ⟨fun _ _ => trivial, wpList_in_round hQ rest _ _ hd' h⟩


end
end Go
end

section
/- A region that draws its order, whose operations yield known values in whatever order they come up. -/
namespace Go

def putAll (a : Act) : List (Oper × Value) → Act
  | [] => a
  | (o, v) :: r => putAll (a.put o.dst v) r
theorem put_size (a : Act) (d : Option Tmp) (v : Value) : (a.put d v).tmps.size = a.tmps.size := by unfold Act.put; split <;> simp
theorem put_defers (a : Act) (d : Option Tmp) (v : Value) : (a.put d v).defers = a.defers := by unfold Act.put; split <;> rfl
theorem putAll_size : ∀ (l : List (Oper × Value)) (a : Act), (putAll a l).tmps.size = a.tmps.size
  | [], _ => rfl
  | (o, v) :: r, a => (putAll_size r _).trans (put_size a o.dst v)
theorem putAll_defers : ∀ (l : List (Oper × Value)) (a : Act), (putAll a l).defers = a.defers
  | [], _ => rfl
  | (o, v) :: r, a => (putAll_defers r _).trans (put_defers a o.dst v)
theorem putAll_old {s : Nat} : ∀ (l : List (Oper × Value)) (a : Act), (∀ x ∈ l, x.1.dst ≠ some s) → (putAll a l).eval (.tmp s) = a.eval (.tmp s)
  | [], _, _ => rfl
  | (o, v) :: r, a, h => by
    unfold putAll
    rw [putAll_old r _ fun x hx => h x (by simp [hx])]
    exact Act.eval_put fun d hd e => by cases e; exact h (o, v) (by simp) hd
theorem putAll_at {s : Nat} : ∀ (l : List (Oper × Value)) (a : Act) (i : Nat) (o : Oper) (v : Value), (l.filterMap (·.1.dst)).Nodup → l[i]? = some (o, v) → o.dst = some s → s < a.tmps.size → (putAll a l).eval (.tmp s) = v
  | [], _, i, _, _, _, h, _, _ => by simp at h
  | (o', v') :: r, a, 0, o, v, hn, h, hs, hlt => by
    simp at h
    obtain ⟨rfl, rfl⟩ := h
    unfold putAll
    rw [List.filterMap_cons] at hn
    simp only [hs] at hn
    rw [putAll_old r _ fun x hx e => (List.nodup_cons.1 hn).1 (List.mem_filterMap.2 ⟨x, hx, e⟩), hs]
    exact Act.eval_put_same _ _ _ hlt
  | (o', v') :: r, a, i + 1, o, v, hn, h, hs, hlt => by
    unfold putAll
    refine putAll_at r _ i o v ?_ (by simpa using h) hs (by rw [put_size]; exact hlt)
    rw [List.filterMap_cons] at hn
    cases hd : o'.dst with
    | none => simpa [hd] using hn
    | some d => simp only [hd] at hn; exact (List.nodup_cons.1 hn).2
theorem act_ext {a b : Act} (h1 : a.tmps.size = b.tmps.size) (h2 : a.defers = b.defers) (h3 : ∀ s : Nat, a.eval (.tmp s) = b.eval (.tmp s)) : a = b := by
  obtain ⟨t, d⟩ := a
  obtain ⟨t', d'⟩ := b
  cases h2
  rw [Act.mk.injEq]
  refine ⟨Array.ext h1 fun i hi hi' => ?_, rfl⟩
  have := h3 i
  simp only [Act.eval, Array.getD_eq_getD_getElem?] at this
  rw [Array.getElem?_eq_getElem hi, Array.getElem?_eq_getElem hi'] at this
  exact this

section
variable {P : Program} {Q : Exit → Act → World → Prop} {a0 : Act}

theorem held_putAll {xs : List Oper} {vals : List Value} {Wd : (Nat → Bool) → World → Prop} {done : Nat → Bool} {a : Act} {w : World} (hl : xs.length = vals.length) (hn : (xs.filterMap (·.dst)).Nodup) (hin : ∀ o ∈ xs, ∀ s, o.dst = some s → s < a0.tmps.size)
    (hd : ∀ i, i < xs.length → done i = true) (h : Held xs.toArray (fun i v _ => vals[i]? = some v) Wd a0 done a w) : a = putAll a0 (xs.zip vals) := by
  have hz : (xs.zip vals).map (·.1) = xs := by rw [List.map_fst_zip]; omega
  have hfm : (xs.zip vals).filterMap (·.1.dst) = xs.filterMap (·.dst) := by
    conv => rhs; rw [← hz]
    rw [List.filterMap_map]; rfl
  refine act_ext (h.size.trans (putAll_size _ _).symm) (h.defers.trans (putAll_defers _ _).symm) fun s => ?_
  by_cases hs : s ∈ xs.filterMap (·.dst)
  · obtain ⟨o, ho, he⟩ := List.mem_filterMap.1 hs
    obtain ⟨i, hi, e⟩ := List.getElem_of_mem ho
    have ho' : xs.toArray[i]? = some o := by rw [← e]; simp [hi]
    have h1 := h.fact i o s ho' he (hd i hi)
    have h2 : (xs.zip vals)[i]? = some (o, a.eval (.tmp s)) := by
      rw [List.getElem?_zip_eq_some]
      exact ⟨by rw [← e]; simp [hi], h1⟩
    exact (putAll_at _ _ i o _ (by rw [hfm]; exact hn) h2 he (hin o ho s he)).symm
  · rw [h.same (by simpa using hs)]
    refine (putAll_old _ _ fun x hx e => hs ?_).symm
    rw [← hfm]
    exact List.mem_filterMap.2 ⟨x, hx, e⟩

/-- What is known when operation i comes up. -/
structure Knows (xs : List Oper) (vals : List Value) (a0 : Act) (i : Nat) (a : Act) : Prop where
  at_ : ∀ (j : Nat) (o : Oper) (s : Nat) (v : Value), xs[i]? = some o → j ∈ Region.preds o → ∀ oj, xs[j]? = some oj → oj.dst = some s → vals[j]? = some v → a.eval (.tmp s) = v
  same : ∀ s : Nat, s ∉ xs.filterMap (·.dst) → a.eval (.tmp s) = a0.eval (.tmp s)



/-- Q where the exit is normal, else no way out. -/
def OnlyN (Q : Exit → Act → World → Prop) : Exit → Act → World → Prop
  | .normal, a, w => Q .normal a w
  | _, _, _ => False
theorem OnlyN.imp {Q : Exit → Act → World → Prop} : ∀ (e : Exit) (a : Act) (w : World), OnlyN Q e a w → Q e a w := fun e a w h => by cases e <;> first | exact h | exact h.elim
theorem OnlyN.notOut {Q : Exit → Act → World → Prop} : ¬ LetsOut (OnlyN Q) := fun h => by
  obtain ⟨a, w, h⟩ := h
  exact h
/-- A region in a round, in the order of the text. -/
theorem wpIn_region_of_list {id l k : Nat} {xs : List Oper} {a : Act} {w : World} (hd : noDefers xs = true) (h : wpList P xs.toArray (OnlyN Q) xs a w) : (Code.region id xs.toArray false).wpIn (Fence.wide.inRound l) k P Q a w :=
  wpIn_mono (wpIn_region_lit (wpList_in_round OnlyN.notOut _ _ _ hd h)) OnlyN.imp
end

section
variable {P : Program} {w : World} {o : Oper} {a : Act} {K : Act → World → Prop} {Q : Exit → Act → World → Prop}
theorem ev' {a : Act} {s : Nat} {v : Value} (h : a.eval (.tmp s) = v) : a.tmps[s]?.getD undef = v := by rw [← h]; simp [Act.eval]
theorem op_val {v : Value} (h1 : (execOp a.eval o).run P w = .ok (.value v) w) (h : K (a.put o.dst v) w) : Oper.wp P o a w K Q := by
  unfold Oper.wp; rw [h1]; exact h
end
end Go
end

section
/- A region that draws its order, whose operations may bear guards and yield known values. -/
namespace Go

/-- whether an operation is wanted, by what is known -/
def wantedV (vals : List Value) (o : Oper) : Bool :=
  match o.guard with
  | none => true
  | some (j, b) => match vals[j]? with
    | some (.bool x) => x == b
    | _ => false
/-- Guards are asked of operations that come before. -/
def guardsB (xs : List Oper) : Bool := xs.all fun o => match o.guard with
  | none => true
  | some (j, _) => (Region.preds o).contains j && ((xs[j]?).bind (·.dst)).isSome

section
variable {P : Program} {Q : Exit → Act → World → Prop} {a0 : Act}
theorem wanted_eq {xs : List Oper} {vals : List Value} {Wd : (Nat → Bool) → Act → World → Prop} {done : Nat → Bool} {a : Act} {w : World} {o : Oper} (hin : ∀ o ∈ xs, ∀ s, o.dst = some s → s < a0.tmps.size)
    (h : HeldG xs.toArray (fun _ i v _ => vals[i]? = some v) Wd a0 done a w) (ho : o ∈ xs) (hp : ∀ j ∈ Region.preds o, done j = true) (hG : guardsB xs = true) : Region.wanted o (yielded xs.toArray a.tmps) = wantedV vals o := by
  have hg := List.all_eq_true.1 hG o ho
  unfold Region.wanted wantedV
  cases hgd : o.guard with
  | none => rfl
  | some p =>
    obtain ⟨j, b⟩ := p
    rw [hgd] at hg
    simp only [Bool.and_eq_true] at hg
    obtain ⟨h1, h2⟩ := hg
    obtain ⟨s, hs⟩ := Option.isSome_iff_exists.1 h2
    obtain ⟨oj, hoj, hdj⟩ := Option.bind_eq_some_iff.1 hs
    have hv := h.fact j oj s (by simpa using hoj) hdj (hp j (by simpa using h1))
    have hlt : s < a.tmps.size := by rw [h.size]; exact hin oj (List.mem_of_getElem? hoj) s hdj
    have hy : yielded xs.toArray a.tmps j = match a.eval (.tmp s) with | .bool b => some b | _ => none := by
      unfold yielded
      have : ((xs.toArray[j]?).bind (·.dst)).bind (a.tmps[·]?) = some (a.eval (.tmp s)) := by
        rw [List.getElem?_toArray, hs, Option.bind_some]
        simp only [Act.eval, Array.getD_eq_getD_getElem?]
        rw [Array.getElem?_eq_getElem hlt]
        rfl
      rw [this]
      cases a.eval (.tmp s) <;> rfl
    have hv' : vals[j]? = some (a.eval (.tmp s)) := hv
    simp only [hy, hv']
    cases a.eval (.tmp s) <;> simp

theorem wp_region_valsG {id : Nat} {xs : List Oper} {w : World} (hm : P.follows .mixedOrders = true) (n : Nat) (hn : a0.tmps.size = n) (hB : factsGB xs n = true) (hG : guardsB xs = true) (vals : List Value) (hl : xs.length = vals.length) (Wd : World → Prop) (h0 : Wd w.drew)
    (step : ∀ (i : Nat) (o : Oper) (v : Value), xs[i]? = some o → vals[i]? = some v → wantedV vals o = true ∧ (∀ (a : Act) (w : World), Knows xs vals a0 i a → Wd w → ∀ K : Act → World → Prop, (∀ w', Wd w' → K (a.put o.dst v) w') → Oper.wp P o a w K Q) ∨ wantedV vals o = false ∧ v = undef)
    (fin : ∀ w, Wd w → Q .normal (putAll a0 (xs.zip vals)) w) : (Code.region id xs.toArray true).wp P Q a0 w := by
  have hB' := hB
  unfold factsGB at hB'
  rw [Bool.and_eq_true, Bool.and_eq_true] at hB'
  obtain ⟨⟨h2, h3⟩, h4⟩ := hB'
  have hin : ∀ o ∈ xs, ∀ s, o.dst = some s → s < a0.tmps.size := fun o ho s hs => by
    have := List.all_eq_true.1 h3 o ho
    rw [hs] at this
    rw [hn]
    simpa using this
  refine wp_region_factsG hm n hn hB (fun _ i v _ => vals[i]? = some v) (fun _ _ w => Wd w) h0 (fun i o ho done a w hH hd hp K hK => ?_) (fun done a w hd hH => ?_)
  · have hi := (List.getElem?_eq_some_iff.1 ho).1
    have hv : vals[i]? = some vals[i] := List.getElem?_eq_getElem (by omega)
    have hk : Knows xs vals a0 i a := ⟨fun j o' s v hx hj oj hoj hs hvj => by
      rw [ho] at hx; cases hx
      have := hH.fact j oj s (by simpa using hoj) hs (hp j hj)
      rw [hvj] at this
      exact (Option.some.inj this).symm, fun s hs => hH.same (by simpa using hs)⟩
    rw [wanted_eq hin hH (List.mem_of_getElem? ho) hp hG]
    rcases step i o _ ho hv with ⟨hw, hs⟩ | ⟨hw, hs⟩
    · rw [if_pos hw]
      exact hs a w hk hH.wd K fun w' hw' => hK _ w' hv hw' fun _ _ _ _ _ _ h => h
    · rw [if_neg (by rw [hw]; decide)]
      rw [hs] at hv
      exact hK _ w hv hH.wd fun _ _ _ _ _ _ h => h
  · have hH' : Held xs.toArray (fun i v _ => vals[i]? = some v) (fun _ w => Wd w) a0 done a w := ⟨hH.wd, hH.size, hH.defers, hH.closed, hH.old, hH.fact⟩
    rw [held_putAll hl (of_decide_eq_true h2) hin hd hH']
    exact fin w hH.wd
end
end Go
end

section
/- A region that draws its order, whose operations may bear guards and yield known values, and whose last one, which yields nothing, waits for all others. -/
namespace Go
theorem zip_take_left {α β : Type} : ∀ (xs : List α) (ys : List β) (m : Nat), ys.length ≤ m → (xs.take m).zip ys = xs.zip ys
  | [], _, m, _ => by simp
  | _ :: _, [], m, _ => by simp
  | x :: xs, y :: ys, 0, h => by simp at h
  | x :: xs, y :: ys, m + 1, h => by
    rw [List.take_succ_cons, List.zip_cons_cons, List.zip_cons_cons, zip_take_left xs ys m (by simpa using h)]
section
variable {P : Program} {Q : Exit → Act → World → Prop} {a0 : Act}


end
end Go
end

section
/- A region that draws its order among its first operations, whose values are known, and ends in a chain, in the order of the text. -/
namespace Go

theorem wpAny_more {P : Program} {md : Region.Mode} {ops : Array Oper} {Q : Exit → Act → World → Prop} : ∀ (k : Nat) (listed : Array Bool) (a : Act) (w : World), wpAny P md ops Q k listed a w → wpAny P md ops Q (k + 1) listed a w
  | 0, _, _, _, h => ⟨fun _ => h.2, fun i hi => by rw [h.1] at hi; cases hi⟩
  | k + 1, _, _, _, h => ⟨h.1, fun i hi => wpOp_mono (fun a w => wpAny_more k _ a w) (h.2 i hi)⟩
theorem wpAny_up {P : Program} {md : Region.Mode} {ops : Array Oper} {Q : Exit → Act → World → Prop} {k k' : Nat} (hk : k ≤ k') {listed : Array Bool} {a : Act} {w : World} (h : wpAny P md ops Q k listed a w) : wpAny P md ops Q k' listed a w := by
  obtain ⟨d, rfl⟩ := Nat.exists_eq_add_of_le hk
  induction d with
  | zero => exact h
  | succ d ih => exact wpAny_more _ _ _ _ (ih (by omega))

/-- The first m operations are all done ahead of number m, and those behind it come one after the other. -/
def tailB (xs : List Oper) (m : Nat) : Bool :=
  decide (m < xs.length) && ((List.range m).all fun j => (List.range (m + 1)).any fun k => decide (j < k) && (match xs[k]? with | some o => (Region.preds o).contains j | none => false)) &&
  ((List.range xs.length).all fun i => decide (i ≤ m) || (match xs[i]? with | some o => (Region.preds o).any fun k => decide (m ≤ k) && decide (k < i) | none => true)) &&
  Region.seqB .any xs.toArray (xs.length - m) m ((List.range xs.length).map fun j => decide (j < m)).toArray

section
variable {P : Program} {Q : Exit → Act → World → Prop} {a0 : Act}

theorem all_before {xs : List Oper} {m : Nat} {Fact : (Nat → Bool) → Nat → Value → World → Prop} {Wd : (Nat → Bool) → Act → World → Prop} {done : Nat → Bool} {a : Act} {w : World} (h : HeldG xs.toArray Fact Wd a0 done a w)
    (hT : ((List.range m).all fun j => (List.range (m + 1)).any fun k => decide (j < k) && (match xs[k]? with | some o => (Region.preds o).contains j | none => false)) = true)
    {om : Oper} (hom : xs[m]? = some om) (hp : ∀ j ∈ Region.preds om, done j = true) : ∀ j, j < m → done j = true := by
  have key : ∀ d j, j + d = m → 0 < d → done j = true := by
    intro d
    induction d using Nat.strongRecOn with
    | _ d ih =>
      intro j hj hd
      have h1 := List.all_eq_true.1 hT j (List.mem_range.2 (by omega))
      obtain ⟨k, hk, h2⟩ := List.any_eq_true.1 h1
      rw [List.mem_range] at hk
      rw [Bool.and_eq_true, decide_eq_true_eq] at h2
      obtain ⟨hjk, h3⟩ := h2
      cases ho : xs[k]? with
      | none => rw [ho] at h3; cases h3
      | some o =>
        rw [ho] at h3
        have hm : j ∈ Region.preds o := by simpa using h3
        by_cases e : k = m
        · subst e
          rw [hom] at ho; cases ho
          exact hp j hm
        · exact h.closed k o (by simpa using ho) (ih (m - k) (by omega) k (by omega) (by omega)) j hm
  exact fun j hj => key (m - j) j (by omega) (by omega)

theorem listed_eq {n m : Nat} {listed : Array Bool} (hs : listed.size = n) (h1 : ∀ j, j < m → dn listed j = true) (h2 : ∀ j, m ≤ j → dn listed j = false) : listed = ((List.range n).map fun j => decide (j < m)).toArray := by
  apply Array.ext
  · simp [hs]
  · intro i hi hi'
    have : dn listed i = listed[i] := by unfold dn; simp [Array.getD_eq_getD_getElem?, Array.getElem?_eq_getElem hi]
    rw [← this]
    simp only [List.getElem_toArray, List.getElem_map, List.getElem_range]
    by_cases e : i < m
    · rw [h1 i e, decide_eq_true e]
    · rw [h2 i (by omega), decide_eq_false e]

theorem any_valsT {xs : List Oper} (m n : Nat) (hn : a0.tmps.size = n) (hB : factsGB xs n = true) (hG : guardsB xs = true) (hT : tailB xs m = true) (vals : List Value) (hl : vals.length = m) (Wd : (Nat → Bool) → World → Prop)
    (step : ∀ (i : Nat) (o : Oper) (v : Value), xs[i]? = some o → vals[i]? = some v → wantedV vals o = true ∧ (∀ (done : Nat → Bool) (a : Act) (w : World), done i = false → (∀ j ∈ Region.preds o, done j = true) → Knows xs vals a0 i a → Wd done w → ∀ K : Act → World → Prop, (∀ w', Wd (Go.upd done i) w' → K (a.put o.dst v) w') → Oper.wp P o a w K Q) ∨ wantedV vals o = false ∧ v = undef ∧ (∀ done w, Wd done w → Wd (Go.upd done i) w))
    (fin : ∀ done w, (∀ j, j < m → done j = true) → Wd done w → wpList P xs.toArray Q (xs.drop m) (putAll a0 (xs.zip vals)) w) :
    ∀ (fuel : Nat) (listed : Array Bool) (a : Act) (w : World), listed.size = xs.toArray.size → HeldG xs.toArray (fun _ i v _ => vals[i]? = some v) (fun done _ w => Wd done w) a0 (dn listed) a w → (∀ j, m ≤ j → dn listed j = false) → (unl xs.toArray (dn listed)).length ≤ fuel → wpAny P .any xs.toArray Q fuel listed a w := by
  have hT' := hT
  unfold tailB at hT'
  rw [Bool.and_eq_true, Bool.and_eq_true, Bool.and_eq_true, decide_eq_true_eq] at hT'
  obtain ⟨⟨⟨hmx, t1⟩, t2⟩, t3⟩ := hT'
  have hB' := hB
  unfold factsGB at hB'
  rw [Bool.and_eq_true, Bool.and_eq_true] at hB'
  obtain ⟨⟨h2, h3⟩, h4⟩ := hB'
  have hin : ∀ o ∈ xs, ∀ s, o.dst = some s → s < a0.tmps.size := fun o ho s hs => by
    have := List.all_eq_true.1 h3 o ho
    rw [hs] at this
    rw [hn]
    simpa using this
  have hdst : ∀ (i j : Nat) (oi oj : Oper) (s : Nat), xs.toArray[i]? = some oi → xs.toArray[j]? = some oj → oi.dst = some s → oj.dst = some s → i = j := fun i j oi oj s hi hj => nodup_dst (of_decide_eq_true h2) i j oi oj s (by simpa using hi) (by simpa using hj)
  have hin' : ∀ (i : Nat) (o : Oper) (s : Nat), xs.toArray[i]? = some o → o.dst = some s → s < a0.tmps.size := fun i o s ho => hin o (List.mem_of_getElem? (by simpa using ho)) s
  have hzl : (xs.take m).zip vals = xs.zip vals := zip_take_left xs vals m (by omega)
  -- the tail
  have tail : ∀ (listed : Array Bool) (a : Act) (w : World), listed.size = xs.toArray.size → HeldG xs.toArray (fun _ i v _ => vals[i]? = some v) (fun done _ w => Wd done w) a0 (dn listed) a w → (∀ j, m ≤ j → dn listed j = false) → (∀ j, j < m → dn listed j = true) → wpAny P .any xs.toArray Q (xs.length - m) listed a w := by
    intro listed a w hs hH hlo hall
    have ea : a = putAll a0 (xs.zip vals) := by
      rw [← hzl]
      have hfm : ∀ s, s ∈ (xs.take m).filterMap (·.dst) → s ∈ xs.filterMap (·.dst) := fun s h => by
        obtain ⟨o, ho, he⟩ := List.mem_filterMap.1 h
        exact List.mem_filterMap.2 ⟨o, List.mem_of_mem_take ho, he⟩
      refine held_putAll (xs := xs.take m) (vals := vals) (Wd := fun _ _ => True) (done := dn listed) (w := w) (by rw [List.length_take]; omega) ?_ (fun o ho => hin o (List.mem_of_mem_take ho)) (fun i hi => hall i (by rw [List.length_take] at hi; omega)) ?_
      · exact (of_decide_eq_true h2).sublist ((List.take_sublist m xs).filterMap _)
      · refine ⟨trivial, hH.size, hH.defers, fun i o ho hd j hj => ?_, fun s hs' => ?_, fun i o s ho hs' hd => ?_⟩
        · have ho' : (xs.take m)[i]? = some o := by simpa using ho
          rw [List.getElem?_take] at ho'
          split at ho'
          · exact hH.closed i o (by simpa using ho') hd j hj
          · cases ho'
        · refine hH.old s fun k ok hk he => ?_
          by_cases hkm : k < m
          · exact hs' k ok (by rw [List.getElem?_toArray, List.getElem?_take, if_pos hkm]; simpa using hk) he
          · exact hlo k (by omega)
        · have ho' : (xs.take m)[i]? = some o := by simpa using ho
          rw [List.getElem?_take] at ho'
          split at ho'
          · exact hH.fact i o s (by simpa using ho') hs' hd
          · cases ho'
    have hseq : Region.seqB .any xs.toArray (xs.drop m).length m listed = true := by
      rw [List.length_drop, listed_eq (by simpa using hs) hall hlo]
      exact t3
    have := wpAny_of_seq (P := P) (md := .any) (ops := xs.toArray) (Q' := Q) (xs.drop m) m listed a w (fun j => by simp [List.getElem?_drop]) hseq (by rw [ea]; exact fin _ _ hall hH.wd)
    rwa [List.length_drop] at this
  intro fuel
  induction fuel with
  | zero =>
    intro listed a w hs hH hlo hf
    exfalso
    have : m ∈ unl xs.toArray (dn listed) := List.mem_filter.2 ⟨List.mem_range.2 (by simpa using hmx), by simp [hlo m (Nat.le_refl _)]⟩
    have hz : unl xs.toArray (dn listed) = [] := List.eq_nil_of_length_eq_zero (by omega)
    rw [hz] at this
    cases this
  | succ fuel ih =>
    intro listed a w hs hH hlo hf
    by_cases hall : ∀ j, j < m → dn listed j = true
    · have hge : xs.length - m ≤ fuel + 1 := by
        have : (unl xs.toArray (dn listed)).length = xs.length - m := by
          unfold unl
          have e : (List.range xs.toArray.size).filter (fun i => !dn listed i) = (List.range xs.length).filter (fun i => decide (m ≤ i)) := by
            rw [List.size_toArray]
            apply List.filter_congr
            intro i _
            by_cases e : i < m
            · rw [hall i e]; simp; omega
            · rw [hlo i (by omega)]; simp; omega
          rw [e]
          have hc : ∀ (q : Nat), ((List.range q).filter (fun i => decide (m ≤ i))).length = q - m := by
            intro q
            induction q with
            | zero => simp
            | succ q ihq =>
              rw [List.range_succ, List.filter_append, List.length_append, ihq]
              by_cases e : m ≤ q
              · simp [e]; omega
              · simp [e]; omega
          exact hc _
        omega
      exact wpAny_up hge (tail listed a w hs hH hlo hall)
    · refine ⟨fun hr => ?_, fun i hi => ?_⟩
      · exact absurd (fun j hj => all_done hs (fun i o ho j hj => by
          have ho' : xs[i]? = some o := by simpa using ho
          have := List.all_eq_true.1 h4 i (List.mem_range.2 (List.getElem?_eq_some_iff.1 ho').1)
          rw [ho'] at this
          have := List.all_eq_true.1 this j hj
          simpa using this) hr j (by simp; omega)) hall
      · obtain ⟨o, ho, hd1, hp⟩ := mem_ready' rfl hs hi
        have ho' : xs[i]? = some o := by simpa using ho
        have hio := (Array.getElem?_eq_some_iff.1 ho).1
        have him : i < m := by
          refine Nat.lt_of_not_le fun hmi => ?_
          by_cases e : i = m
          · subst e
            exact hall (all_before hH t1 ho' hp)
          · have h5 := List.all_eq_true.1 t2 i (List.mem_range.2 (by simpa using hio))
            rw [Bool.or_eq_true, decide_eq_true_eq, ho'] at h5
            rcases h5 with h5 | h5
            · omega
            · obtain ⟨k, hk, hkk⟩ := List.any_eq_true.1 h5
              rw [Bool.and_eq_true, decide_eq_true_eq, decide_eq_true_eq] at hkk
              have := hp k hk
              rw [hlo k hkk.1] at this
              cases this
        have hv : vals[i]? = some vals[i] := List.getElem?_eq_getElem (by omega)
        have hk : Knows xs vals a0 i a := ⟨fun j o' s v hx hj oj hoj hs hvj => by
          rw [ho'] at hx; cases hx
          have := hH.fact j oj s (by simpa using hoj) hs (hp j hj)
          rw [hvj] at this
          exact (Option.some.inj this).symm, fun s hs => hH.same (by simpa using hs)⟩
        unfold wpOp
        simp only [ho]
        have next : ∀ (w' : World), Wd (upd (dn listed) i) w' → wpAny P .any xs.toArray Q fuel (listed.setIfInBounds i true) (a.put o.dst vals[i]) w' := fun w' hw' => by
          refine ih _ _ _ (by simpa using hs) ?_ (fun j hj => ?_) ?_
          · rw [dn_set (by omega)]
            exact hH.put ho hd1 hp hdst hin' hv hw' fun _ _ _ _ _ _ h => h
          · rw [dn_set (by omega)]
            unfold Go.upd
            rw [if_neg (by omega)]
            exact hlo j hj
          · rw [dn_set (by omega)]
            have := unl_lt (ops := xs.toArray) hio hd1
            omega
        rw [wanted_eq hin hH (List.mem_of_getElem? ho') hp hG]
        rcases step i o _ ho' hv with ⟨hw, hst⟩ | ⟨hw, hst, hst2⟩
        · rw [if_pos hw]
          exact .inl (hst _ a w hd1 hp hk hH.wd _ next)
        · rw [if_neg (by rw [hw]; decide)]
          have := next w (hst2 _ _ hH.wd)
          rw [hst] at this
          exact this

theorem wp_region_valsT {id : Nat} {xs : List Oper} {w : World} (hm : P.follows .mixedOrders = true) (m n : Nat) (hn : a0.tmps.size = n) (hB : factsGB xs n = true) (hG : guardsB xs = true) (hT : tailB xs m = true) (vals : List Value) (hl : vals.length = m) (Wd : (Nat → Bool) → World → Prop) (h0 : Wd (fun _ => false) w.drew)
    (step : ∀ (i : Nat) (o : Oper) (v : Value), xs[i]? = some o → vals[i]? = some v → wantedV vals o = true ∧ (∀ (done : Nat → Bool) (a : Act) (w : World), done i = false → (∀ j ∈ Region.preds o, done j = true) → Knows xs vals a0 i a → Wd done w → ∀ K : Act → World → Prop, (∀ w', Wd (Go.upd done i) w' → K (a.put o.dst v) w') → Oper.wp P o a w K Q) ∨ wantedV vals o = false ∧ v = undef ∧ (∀ done w, Wd done w → Wd (Go.upd done i) w))
    (fin : ∀ done w, (∀ j, j < m → done j = true) → Wd done w → wpList P xs.toArray Q (xs.drop m) (putAll a0 (xs.zip vals)) w) : (Code.region id xs.toArray true).wp P Q a0 w := by
  refine wp_region_any hm ?_
  have e0 : dn (Array.replicate xs.toArray.size false) = fun _ => false := by
    funext i
    unfold dn
    rw [Array.getD_eq_getD_getElem?, Array.getElem?_replicate]
    split <;> rfl
  refine any_valsT m n hn hB hG hT vals hl Wd step fin _ _ _ _ (by simp) ?_ (fun j _ => by rw [e0]) ?_
  · rw [e0]
    exact ⟨h0, rfl, rfl, (fun i o _ h => by cases h), (fun s _ => rfl), (fun i o s _ _ h => by cases h)⟩
  · have : (unl xs.toArray (dn (Array.replicate xs.toArray.size false))).length ≤ (List.range xs.toArray.size).length := List.length_filter_le _ _
    simpa using this
/-- The same in a round. -/
theorem wpIn_region_valsT {id l k : Nat} {xs : List Oper} {w : World} (hm : P.follows .mixedOrders = true) (hd : noDefers xs = true) (m n : Nat) (hn : a0.tmps.size = n) (hB : factsGB xs n = true) (hG : guardsB xs = true) (hT : tailB xs m = true) (vals : List Value) (hl : vals.length = m) (Wd : (Nat → Bool) → World → Prop) (h0 : Wd (fun _ => false) w.drew)
    (step : ∀ (i : Nat) (o : Oper) (v : Value), xs[i]? = some o → vals[i]? = some v → wantedV vals o = true ∧ (∀ (done : Nat → Bool) (a : Act) (w : World), done i = false → (∀ j ∈ Region.preds o, done j = true) → Knows xs vals a0 i a → Wd done w → ∀ K : Act → World → Prop, (∀ w', Wd (Go.upd done i) w' → K (a.put o.dst v) w') → Oper.wp P o a w K (OnlyN Q)) ∨ wantedV vals o = false ∧ v = undef ∧ (∀ done w, Wd done w → Wd (Go.upd done i) w))
    (fin : ∀ done w, (∀ j, j < m → done j = true) → Wd done w → wpList P xs.toArray (OnlyN Q) (xs.drop m) (putAll a0 (xs.zip vals)) w) : (Code.region id xs.toArray true).wpIn (Fence.wide.inRound l) k P Q a0 w := by
  refine wpIn_mono (wpIn_region_any hm (wpAny_in_round (by simpa using hd) OnlyN.notOut _ _ _ _ ?_)) OnlyN.imp
  have e0 : dn (Array.replicate xs.toArray.size false) = fun _ => false := by
    funext i
    unfold dn
    rw [Array.getD_eq_getD_getElem?, Array.getElem?_replicate]
    split <;> rfl
  refine any_valsT m n hn hB hG hT vals hl Wd step fin _ _ _ _ (by simp) ?_ (fun j _ => by rw [e0]) ?_
  · rw [e0]
    exact ⟨h0, rfl, rfl, (fun i o _ h => by cases h), (fun s _ => rfl), (fun i o s _ _ h => by cases h)⟩
  · have : (unl xs.toArray (dn (Array.replicate xs.toArray.size false))).length ≤ (List.range xs.toArray.size).length := List.length_filter_le _ _
    simpa using this
theorem op_valW {P : Program} {Q : Exit → Act → World → Prop} {o : Oper} {a : Act} {w w' : World} {K : Act → World → Prop} {v : Value} (h1 : (execOp a.eval o).run P w = .ok (.value v) w') (h : K (a.put o.dst v) w') : Oper.wp P o a w K Q := by
  unfold Oper.wp; rw [h1]; exact h
theorem op_skipW {P : Program} {Q : Exit → Act → World → Prop} {o : Oper} {a : Act} {w w' : World} {K : Act → World → Prop} (h1 : (execOp a.eval o).run P w = .ok .skip w') (h : K (a.put o.dst undef) w') : Oper.wp P o a w K Q := by
  unfold Oper.wp; rw [h1]; exact h
theorem wpList_val {P : Program} {ops : Array Oper} {Q : Exit → Act → World → Prop} {o : Oper} {rest : List Oper} {a : Act} {w w' : World} {v : Value} (hgd : o.guard = none) (h1 : (execOp a.eval o).run P w = .ok (.value v) w') (h : wpList P ops Q rest (a.put o.dst v) w') : wpList P ops Q (o :: rest) a w :=
  wpList_plain hgd fun K hK => by unfold Oper.wp; rw [h1]; exact hK _ _ h


end
end Go
namespace Go.Proofs
open Go
/-- A call by its contract, of whatever many arguments. -/
theorem op_callN {o : Oper} {a : Act} {w : World} {K : Act → World → Prop} {Q : Exit → Act → World → Prop} {f : Nat} {fn : Func} (hf : Try.prog.funcs[f]? = some fn) (hn : (fn.name == "runtime.NumGoroutine") = false) (hb : fn.body.isNone = false)
    (xs : Array Operand) {tys : Array TypeId} (ho : o.op = .call { callee := .value (.func f), args := xs, argTypes := tys }) {vs : Array Value} (hx : xs.map a.eval = vs) {R : Ending → World → Prop} (hc : Calls Try.prog f vs w R)
    (h : ∀ e w', R e w' → ∃ v, e = .returned v ∧ K (a.put o.dst v) w') : Oper.wp Try.prog o a w K Q := by
  unfold Oper.wp
  have hrun : (execOp a.eval o).run Try.prog w = .ok (.enter f vs) w := by
    unfold execOp
    simp only [ho, resolve, invoke, Sem.run_bind, hx]
    simp [go_sem]
    exact run_enters hf hn hb _ _
  rw [hrun, Oper.upon_enter]
  refine hc.mono ?_
  intro e w' hr
  obtain ⟨v, rfl, hk⟩ := h e w' hr
  exact hk
end Go.Proofs
end
