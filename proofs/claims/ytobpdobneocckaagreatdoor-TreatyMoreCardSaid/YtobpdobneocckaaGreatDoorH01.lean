/- Own texts, merged: Lim WkA WkB WkC. -/
import Derived.WalkKit
import Derived.WalkSpells
import Derived.WalkLawsBesides
import Derived.WalkSmall
import Derived.BigQuiet
import Derived.Deep.QuietTactic
import Derived.Deep.Draws
import Derived.Lib.Hide
import Derived.Lib.SliceRun
import Derived.Deep.OwnRows
import Derived.OneCell
import Derived.Test.YtobpdobneocckaaGreatDoorProg
import Derived.RegionTactic
set_option linter.unusedSimpArgs false
set_option linter.unusedVariables false
section
/- Words for memory that the walks of this seat use: a later world, a slice that reads as a list. -/
namespace Go
open Go.RowKit

/-- A world in which all that was there is as it was. -/
structure Later (w : World) where
  to : World
  ok : Below w.heap.size w to

def World.lat (w : World) (u : Later w) : World := u.to

theorem World.lat_below (w : World) (u : Later w) : Below w.heap.size w (w.lat u) := u.ok

theorem World.lat_of {w w' : World} (h : Below w.heap.size w w') : ∃ u : Later w, w' = w.lat u := ⟨⟨w', h⟩, rfl⟩

theorem World.lat_size (w : World) (u : Later w) : w.heap.size ≤ (w.lat u).heap.size := u.ok.size

section
variable (w : World) (u : Later w)
@[go_sem] theorem World.lat_cell (n i : Nat) (h : n < w.heap.size) : (w.lat u).cell? ⟨n, i, none⟩ = w.cell? ⟨n, i, none⟩ := (w.lat_below u).cell (p := ⟨n, i, none⟩) h
@[go_sem] theorem World.lat_frozen (n i : Nat) (h : n < w.heap.size) : (w.lat u).frozen? ⟨n, i, none⟩ = w.frozen? ⟨n, i, none⟩ := (w.lat_below u).frozen (p := ⟨n, i, none⟩) h
@[go_sem] theorem World.lat_heap (n : Nat) (h : n < w.heap.size) : (w.lat u).heap[n]? = w.heap[n]? := (w.lat_below u).block n h
@[go_sem] theorem World.lat_lt (n : Nat) (h : n < w.heap.size) : (n < (w.lat u).heap.size) = True := eq_true (Nat.lt_of_lt_of_le h (w.lat_size u))
end

theorem lt_succ_true (n m : Nat) (h : n < m) : (n < m + 1) = True := eq_true (by omega)
attribute [go_sem] lt_succ_true

def Later.refl (w : World) : Later w := ⟨w, Below.refl _ _⟩
def Later.trans {w : World} (u : Later w) (v : Later (w.lat u)) : Later w := ⟨(w.lat u).lat v, u.ok.trans (v.ok.mono u.ok.size)⟩
@[go_sem] theorem World.lat_lat (w : World) (u : Later w) (v : Later (w.lat u)) : (w.lat u).lat v = w.lat (u.trans v) := rfl
def Later.drew {w : World} (u : Later w) : Later w := ⟨(w.lat u).drew, u.ok.drew⟩
@[go_sem] theorem World.lat_drew (w : World) (u : Later w) : (w.lat u).drew = w.lat u.drew := rfl
def Later.drewN {w : World} (u : Later w) (n : Nat) : Later w := ⟨(w.lat u).drewN n, below_drewN u.ok n⟩
@[go_sem] theorem World.lat_drewN (w : World) (u : Later w) (n : Nat) : (w.lat u).drewN n = w.lat (u.drewN n) := rfl
def Later.ofDrewN (w : World) (n : Nat) : Later w := ⟨w.drewN n, below_drewN (Below.refl _ _) n⟩

/-- What a call that writes nothing that was there leaves. -/
def Aft (w : World) (w' : World) : Prop := ∃ u : Later w, w' = w.lat u

theorem Aft.of_below {w w' : World} (h : Below w.heap.size w w') : Aft w w' := World.lat_of h
theorem Aft.below {w w' : World} (h : Aft w w') : Below w.heap.size w w' := by obtain ⟨u, rfl⟩ := h; exact w.lat_below u
theorem Aft.refl (w : World) : Aft w w := ⟨Later.refl w, rfl⟩
theorem Aft.trans {a b c : World} (h : Aft a b) (k : Aft b c) : Aft a c := by
  obtain ⟨u, rfl⟩ := h; obtain ⟨v, rfl⟩ := k; exact ⟨u.trans v, rfl⟩
theorem Aft.lat (w : World) (u : Later w) : Aft w (w.lat u) := ⟨u, rfl⟩
theorem Aft.drewN (w : World) (n : Nat) : Aft w (w.drewN n) := ⟨Later.ofDrewN w n, rfl⟩
theorem Aft.drew (w : World) : Aft w w.drew := ⟨Later.ofDrewN w 1, rfl⟩
theorem Aft.alloc (w : World) (o : Obj) : Aft w (w.alloc o) := .of_below ((Below.refl _ _).alloc (Nat.le_refl _) o)
theorem Aft.then_alloc {a w : World} (h : Aft a w) (o : Obj) : Aft a (w.alloc o) := h.trans (.alloc w o)
theorem Aft.then_drew {a w : World} (h : Aft a w) : Aft a w.drew := h.trans (.drew w)
theorem Aft.then_drewN {a w : World} (h : Aft a w) (n : Nat) : Aft a (w.drewN n) := h.trans (.drewN w n)
theorem Aft.then_lat {a w : World} (h : Aft a w) (u : Later w) : Aft a (w.lat u) := h.trans (.lat w u)
theorem Aft.then_setCell {a w : World} (h : Aft a w) {p : Addr} (hp : a.heap.size ≤ p.block) (v : Value) : Aft a (w.setCell p v) :=
  .of_below (h.below.setCell hp v)
theorem Aft.size {a w : World} (h : Aft a w) : a.heap.size ≤ w.heap.size := h.below.size

section rows
variable {α : Type}

/-- A slice of elements of 'sz' cells each reads as a list: 'R' says of an element what its cells hold. -/
def RowsP (w : World) (A : Option Addr) (sz : Nat) (R : World → α → List Value → Prop) (l : List α) : Prop :=
  l.length * sz ≤ 17592186043904 ∧ (l = [] ∨ ∃ b o, A = some ⟨b, o, none⟩ ∧ b < w.heap.size ∧
    ∀ i, (h : i < l.length) → ∃ vs : List Value, vs.length = sz ∧ R w l[i] vs ∧ ∀ j, (hj : j < vs.length) → w.cell? ⟨b, o + i * sz + j, none⟩ = some vs[j])

def MonoR (R : World → α → List Value → Prop) : Prop := ∀ w u x vs, R w x vs → R (w.lat u) x vs

theorem RowsP.lat {w : World} {A : Option Addr} {sz : Nat} {R : World → α → List Value → Prop} {l : List α} (hR : MonoR R) (h : RowsP w A sz R l) (u : Later w) : RowsP (w.lat u) A sz R l := by
  refine ⟨h.1, ?_⟩
  rcases h.2 with h | ⟨b, o, rfl, hb, hc⟩
  · exact .inl h
  · refine .inr ⟨b, o, rfl, Nat.lt_of_lt_of_le hb (w.lat_size u), fun i hi => ?_⟩
    obtain ⟨vs, h1, h2, h3⟩ := hc i hi
    exact ⟨vs, h1, hR _ _ _ _ h2, fun j hj => by rw [World.lat_cell _ _ _ _ hb]; exact h3 j hj⟩

theorem RowsP.aft {w w' : World} {A : Option Addr} {sz : Nat} {R : World → α → List Value → Prop} {l : List α} (hR : MonoR R) (h : RowsP w A sz R l) (hl : Aft w w') : RowsP w' A sz R l := by
  obtain ⟨u, rfl⟩ := hl; exact h.lat hR u

theorem RowsP.nil {w : World} {A : Option Addr} {sz : Nat} {R : World → α → List Value → Prop} : RowsP w A sz R [] := ⟨by simp, .inl rfl⟩

theorem RowsP.at {w : World} {A : Option Addr} {sz : Nat} {R : World → α → List Value → Prop} {l : List α} (h : RowsP w A sz R l) {k : Nat} (hk : k < l.length) :
    ∃ b o, A = some ⟨b, o, none⟩ ∧ b < w.heap.size ∧ ∀ i, (h : i < l.length) → ∃ vs : List Value, vs.length = sz ∧ R w l[i] vs ∧ ∀ j, (hj : j < vs.length) → w.cell? ⟨b, o + i * sz + j, none⟩ = some vs[j] := by
  rcases h.2 with rfl | h
  · simp at hk
  · exact h
theorem RowsP.len {w : World} {A : Option Addr} {sz : Nat} {R : World → α → List Value → Prop} {l : List α} (h : RowsP w A sz R l) (hs : 0 < sz) : l.length ≤ 17592186043904 :=
  Nat.le_trans (Nat.le_mul_of_pos_right _ hs) h.1
end rows

def IntR : World → Int → List Value → Prop := fun _ n vs => vs = [.int .i64 n]
theorem IntR.mono : MonoR IntR := fun _ _ _ _ h => h
def Ints (w : World) (A : Option Addr) (l : List Int) : Prop := RowsP w A 1 IntR l
theorem Ints.lat {w : World} {A : Option Addr} {l : List Int} (h : Ints w A l) (u : Later w) : Ints (w.lat u) A l := RowsP.lat IntR.mono h u
theorem Ints.aft {w w' : World} {A : Option Addr} {l : List Int} (h : Ints w A l) (hl : Aft w w') : Ints w' A l := RowsP.aft IntR.mono h hl
theorem Ints.len {w : World} {A : Option Addr} {l : List Int} (h : Ints w A l) : l.length ≤ 17592186043904 := RowsP.len h (by decide)
/-- Where there is an element: the address, and the cells. -/
theorem Ints.at {w : World} {A : Option Addr} {l : List Int} (h : Ints w A l) {k : Nat} (hk : k < l.length) :
    ∃ b o, A = some ⟨b, o, none⟩ ∧ b < w.heap.size ∧ ∀ i, (h : i < l.length) → w.cell? ⟨b, o + i, none⟩ = some (.int .i64 l[i]) := by
  obtain ⟨b, o, rfl, hb, hc⟩ := RowsP.at h hk
  refine ⟨b, o, rfl, hb, fun i hi => ?_⟩
  obtain ⟨vs, h1, rfl, h3⟩ := hc i hi
  simpa using h3 0 (by simp)

theorem ret_int {k : IntKind} {a b : Int} (h : a = b) : Ending.returned (.int k a) = .returned (.int k b) := by rw [h]
theorem ret_bool {a b : Bool} (h : a = b) : Ending.returned (.bool a) = .returned (.bool b) := by rw [h]

/-- A function value that answers a bool of each thing, and writes nothing that was there. -/
def Asks (P : Program) (K : FuncId) (cap : List Value) (w : World) (arg : Value) (b : Bool) : Prop :=
  ∀ u : Later w, Calls P K (arg :: cap).toArray (w.lat u) fun e w' => e = .returned (.bool b) ∧ Aft (w.lat u) w'

theorem Asks.lat {P : Program} {K : FuncId} {cap : List Value} {w : World} {arg : Value} {b : Bool} (h : Asks P K cap w arg b) (u : Later w) : Asks P K cap (w.lat u) arg b :=
  fun v => h (u.trans v)

theorem Asks.at {P : Program} {K : FuncId} {cap : List Value} {w : World} {arg : Value} {b : Bool} (h : Asks P K cap w arg b) {W : World} (hW : Aft w W) :
    Calls P K (arg :: cap).toArray W fun e w' => e = .returned (.bool b) ∧ Aft W w' := by
  obtain ⟨u, rfl⟩ := hW; exact h u

/-- Whether a list has a number. -/
def hasB (l : List Int) (x : Int) : Bool := l.contains x
theorem hasB_iff {l : List Int} {x : Int} : hasB l x = true ↔ x ∈ l := List.contains_iff_mem
theorem hasB_false {l : List Int} {x : Int} : hasB l x = false ↔ ¬ x ∈ l := by rw [Bool.eq_false_iff, ne_eq, hasB_iff]

theorem any_take_succ {α : Type} (l : List α) (p : α → Bool) (k : Nat) (h : k < l.length) : (l.take (k + 1)).any p = ((l.take k).any p || p l[k]) := by
  rw [List.take_succ_eq_append_getElem h, List.any_append, List.any_cons, List.any_nil, Bool.or_false]
theorem any_of_get {α : Type} (l : List α) (p : α → Bool) (k : Nat) (h : k < l.length) (hp : p l[k] = true) : l.any p = true := List.any_eq_true.2 ⟨_, List.getElem_mem h, hp⟩

/-- What the model's table says of a slice type and of its element's. -/
structure SliceTy (P : Program) (t e : TypeId) (size bytes : Nat) : Prop where
  ht : P.underlying t = some (.slice e)
  hi : ∃ i z, P.info? e = some i ∧ i.zero = some z ∧ i.size = size ∧ i.bytes = bytes ∧ z.cells.size = size
  hsz : 0 < size

theorem SliceTy.mk' {P : Program} {t e : TypeId} {z : Value} {size bytes : Nat} (ht : P.underlying t = some (.slice e))
    (h : (P.info? e).map (fun i => (i.zero, i.size, i.bytes)) = some (some z, size, bytes)) (hz : z.cells.size = size) (hs : 0 < size) : SliceTy P t e size bytes := by
  obtain ⟨i, h1, h2, h3, h4⟩ := info_parts h
  exact ⟨ht, ⟨i, z, h1, h2, h3, h4, hz⟩, hs⟩

theorem own_ge {w : World} {base : Nat} {e : TypeId} {size : Nat} {v : Value} {n : Nat} {xs : List Value} (h : w.ownsRow base e size v n xs) : ∀ k, v.ownBlock = some k → base ≤ k := fun k hk => (h.lt k hk).1

theorem Aft.grown {a w w' : World} {row : Option Nat} (h : Aft a w) (hg : w.grownBy w' row) (hr : ∀ k, row = some k → a.heap.size ≤ k) : Aft a w' :=
  .of_below (h.below.grown hg h.size hr)

theorem own_lat {w : World} {base : Nat} {e : TypeId} {size : Nat} {v : Value} {n : Nat} {xs : List Value} (h : w.ownsRow base e size v n xs) (u : Later w) : (w.lat u).ownsRow base e size v n xs :=
  h.kept (row := none) ⟨u.ok.os, u.ok.tape, u.ok.output, u.ok.size, fun k hk _ => u.ok.block k hk⟩ (by cases v.ownBlock <;> simp)
theorem own_aft {w w' : World} {base : Nat} {e : TypeId} {size : Nat} {v : Value} {n : Nat} {xs : List Value} (h : w.ownsRow base e size v n xs) (ha : Aft w w') : w'.ownsRow base e size v n xs := by
  obtain ⟨u, rfl⟩ := ha; exact own_lat h u

/-- The cells of a block that has just been laid. -/
theorem src_new (W : World) (cs : Array Value) (t : TypeId) : ∀ j u, cs.toList[j]? = some u → (W.alloc (.cells cs t)).cell? ((⟨W.heap.size, 0, none⟩ : Addr).add j) = some u := by
  intro j u h
  rw [Addr.add_lit]
  simpa using h

theorem run_app_none {P : Program} {w : World} {base : Nat} {t ty e : TypeId} {i : TypeInfo} {size : Nat} (ht : P.underlying t = some (.slice e)) (hi : P.info? e = some i)
    {v : Value} {n : Nat} {xs : List Value} (hown : w.ownsRow base e size v n xs) (c : Nat) : (Builtin.append_ #[t, t] ty #[v, .slice none 0 c]).run P w = .ok v w := by
  rcases hown.2 with ⟨rfl, rfl⟩ | ⟨g, cap, cur, rfl, _, _, hnc, _⟩
  · simp [Builtin.append_, run_underlying ht, sizeOf, typeInfo, hi, Builtin.lenOf, Builtin.firstCells]
  · simp [Builtin.append_, run_underlying ht, sizeOf, typeInfo, hi, Builtin.lenOf, Builtin.firstCells, hnc, storeCells]

/-- append(v, x...) to a slice of the call's own, from whatever source. -/
theorem wpList_app {P : Program} {w : World} {ops : Array Oper} {rest : List Oper} {o : Oper} {a : Act} {Q : Exit → Act → World → Prop} {t e : TypeId} {size bytes : Nat} (hT : SliceTy P t e size bytes)
    (hgd : o.guard = none) (s x : Operand) (ho : o.op = .call { callee := .builtin .append, args := #[s, x], argTypes := #[t, t] })
    {w0 : World} (haft : Aft w0 w) {v : Value} {n : Nat} {xs : List Value} (hs : a.eval s = v) (hown : w.ownsRow w0.heap.size e size v n xs)
    {A : Option Addr} {m c : Nat} {news : List Value} (hx : a.eval x = .slice A m c) (hl : news.length = m * size) (hA : A = none → m = 0)
    (hnews : ∀ ad, A = some ad → ∀ j u, news[j]? = some u → w.cell? (ad.add j) = some u) (h1 : ∀ u ∈ news, u.oneCell' = true)
    (hbytes : (n + m) * bytes ≤ 140737488355328) (hpos : 0 < bytes)
    (h : ∀ v' w', w'.ownsRow w0.heap.size e size v' (n + m) (xs ++ news) → w.grownBy w' v.ownBlock → Aft w0 w' → wpList P ops Q rest (a.put o.dst v') w') : wpList P ops Q (o :: rest) a w := by
  obtain ⟨ht, ⟨i, z, hi, hz, hsize, hby, hzs⟩, hsz⟩ := hT
  have h63 : n + m ≤ maxLen := by
    have : (n + m) * 1 ≤ (n + m) * bytes := Nat.mul_le_mul_left _ hpos
    unfold maxLen; omega
  cases A with
  | some ad =>
    exact wpList_append_own w hgd s x t ho w0.heap.size e i z size bytes ht hi hz hsize hby hzs hsz v n xs hs hown ad m c news hx hl (hnews ad rfl) h1 h63 hbytes haft.size
      fun v' w' h2 h3 _ => h v' w' h2 h3 (haft.grown h3 (own_ge hown))
  | none =>
    have hm := hA rfl
    subst hm
    have hn : news = [] := List.eq_nil_of_length_eq_zero (by simpa using hl)
    subst hn
    refine wpList_plain hgd fun K hK => ?_
    have hr := run_app_none (ty := o.type) ht hi hown c
    unfold Oper.wp execOp
    simp only [ho, resolve, invoke, builtin, Sem.run_bind, Sem.run_pure, Result.andThen_ok, List.map_toArray, List.map_cons, List.map_nil, hs, hx, hr]
    exact hK _ _ (h v w (by simpa using hown) (World.grownBy.refl w _) haft)

/-- What is owned reads as a list. -/
theorem own_ints {w : World} {base : Nat} {v : Value} {l : List Int} (h : w.ownsRow base 3 1 v l.length (l.map (Value.int .i64))) (hl : l.length ≤ 17592186043904) :
    ∃ A c, v = .slice A l.length c ∧ l.length ≤ c ∧ Ints w A l := by
  rcases h.2 with ⟨rfl, h0⟩ | ⟨g, cap, cur, rfl, hg, hh, hc, hm, hs, ht⟩
  · have : l = [] := List.eq_nil_of_length_eq_zero h0
    subst this
    exact ⟨none, 0, rfl, Nat.le_refl _, by simp, .inl rfl⟩
  · refine ⟨_, cap, rfl, hc, by omega, .inr ⟨g, 0, rfl, (Array.getElem?_eq_some_iff.1 hh).1, fun i hi => ⟨_, by simp, rfl, fun j hj => ?_⟩⟩⟩
    have := h.cells (g := g) rfl i (.int .i64 l[i]) (by simp [hi])
    rw [Addr.add_lit] at this
    simp at hj
    subst hj
    simpa using this

/-- A block of cells that is known whole. -/
def Blk (w : World) (g : Nat) (t : TypeId) (cs : Array Value) : Prop := w.heap[g]? = some (.cells cs t (0, 0))
section
variable {w : World} {g : Nat} {t : TypeId} {cs : Array Value}
theorem Blk.cell (h : Blk w g t cs) (i : Nat) : w.cell? ⟨g, i, none⟩ = cs[i]? := cell_of_row w g i cs t (0, 0) h
theorem Blk.frozen (h : Blk w g t cs) (i : Nat) : w.frozen? ⟨g, i, none⟩ = false := by unfold Blk at h; simp [World.frozen?, h]
theorem Blk.lt (h : Blk w g t cs) : g < w.heap.size := (Array.getElem?_eq_some_iff.1 h).1
theorem Blk.store (h : Blk w g t cs) (i : Nat) (v : Value) : Blk (w.setCell ⟨g, i, none⟩ v) g t (cs.setIfInBounds i v) := by
  unfold Blk at h ⊢; simp [World.setCell, Array.getElem?_modify, h]
theorem Blk.new (w : World) (t : TypeId) (cs : Array Value) : Blk (w.alloc (.cells cs t)) w.heap.size t cs := heap_alloc_new w _
theorem Blk.lat (h : Blk w g t cs) (u : Later w) : Blk (w.lat u) g t cs := (World.lat_heap w u g h.lt).trans h
theorem Blk.aft {w' : World} (h : Blk w g t cs) (ha : Aft w w') : Blk w' g t cs := by obtain ⟨u, rfl⟩ := ha; exact h.lat u
theorem Blk.drew (h : Blk w g t cs) : Blk w.drew g t cs := h
theorem Blk.drewN (h : Blk w g t cs) (n : Nat) : Blk (w.drewN n) g t cs := h
theorem Blk.alloc (h : Blk w g t cs) (o : Obj) : Blk (w.alloc o) g t cs := (Below.heap_alloc w o g h.lt).trans h
theorem Blk.far (h : Blk w g t cs) {p : Addr} (hp : g ≠ p.block) (u : Value) : Blk (w.setCell p u) g t cs := (Below.heap_setCell w p u g hp).trans h
theorem Blk.grown {w' : World} {row : Option Nat} (h : Blk w g t cs) (hb : w.grownBy w' row) (hg : some g ≠ row) : Blk w' g t cs := (hb.block g h.lt hg).trans h
end

/-- A world in which one block may have turned, and new ones lie. -/
theorem only_refl (w : World) (row : Option Nat) : w.grownBy w row := World.grownBy.refl w row
theorem only_drewN {a w : World} {row : Option Nat} (h : a.grownBy w row) (n : Nat) : a.grownBy (w.drewN n) row := ⟨h.os, h.tape, h.output, h.size, h.block⟩
theorem only_drew {a w : World} {row : Option Nat} (h : a.grownBy w row) : a.grownBy w.drew row := ⟨h.os, h.tape, h.output, h.size, h.block⟩
theorem only_aft {a w w' : World} {row : Option Nat} (h : a.grownBy w row) (ha : Aft w w') : a.grownBy w' row := by
  have hb := ha.below
  exact ⟨hb.os.trans h.os, hb.tape.trans h.tape, hb.output.trans h.output, Nat.le_trans h.size hb.size, fun i hi hne => (hb.block i (Nat.lt_of_lt_of_le hi h.size)).trans (h.block i hi hne)⟩
theorem only_setCell {a w : World} {g : Nat} (h : a.grownBy w (some g)) {p : Addr} (hp : p.block = g ∨ a.heap.size ≤ p.block) (u : Value) : a.grownBy (w.setCell p u) (some g) :=
  ⟨h.os, h.tape, h.output, by simpa [World.setCell] using h.size, fun i hi hne => (Below.heap_setCell w p u i (by
    rintro rfl
    rcases hp with hp | hp
    · exact hne (by rw [hp])
    · omega)).trans (h.block i hi hne)⟩
theorem only_of_aft {a w : World} (h : Aft a w) (row : Option Nat) : a.grownBy w row := only_aft (only_refl a row) h

/-- Cells that begin with these numbers. -/
def Nums (cs : Array Value) (l : List Int) : Prop := l.length ≤ cs.size ∧ ∀ t, (h : t < l.length) → cs[t]? = some (.int .i64 l[t])
theorem Nums.set {cs : Array Value} {l : List Int} (h : Nums cs l) (i : Nat) (x : Int) : Nums (cs.setIfInBounds i (.int .i64 x)) (l.set i x) := by
  refine ⟨by simpa using h.1, fun t ht => ?_⟩
  have ht' : t < l.length := by simpa using ht
  rw [Array.getElem?_setIfInBounds]
  have := h.1
  by_cases e : i = t
  · subst e; simp [show i < cs.size by omega]
  · rw [if_neg e, h.2 t ht', List.getElem_set_ne e]
theorem Nums.at {cs : Array Value} {l : List Int} (h : Nums cs l) {i : Nat} (hi : i < l.length) : cs[i]? = some (.int .i64 l[i]) := h.2 i hi
theorem Nums.of_eq {cs : Array Value} {l l' : List Int} (h : Nums cs l) (e : l = l') : Nums cs l' := e ▸ h

/-- An owned row, its block known whole. -/
theorem own_blk {w : World} {base : Nat} {v : Value} {l : List Int} (h : w.ownsRow base 3 1 v l.length (l.map (Value.int .i64))) :
    (v = .slice none 0 0 ∧ l = []) ∨ ∃ g c cs, v = .slice (some ⟨g, 0, none⟩) l.length c ∧ base ≤ g ∧ Blk w g 3 cs ∧ Nums cs l ∧ cs.size = c ∧ l.length ≤ c ∧ c ≤ maxLen := by
  rcases h.2 with ⟨rfl, h0⟩ | ⟨g, cap, cur, rfl, hg, hh, hc, hm, hs, ht⟩
  · exact .inl ⟨rfl, List.eq_nil_of_length_eq_zero h0⟩
  · refine .inr ⟨g, cap, cur, rfl, hg, hh, ⟨by omega, fun t ht' => ?_⟩, by omega, hc, hm⟩
    have := h.cells (g := g) rfl t (.int .i64 l[t]) (by simp [ht'])
    rw [Addr.add_lit] at this
    simpa [cell_of_row w g _ cur 3 (0, 0) hh] using this
theorem blk_own {w : World} {base g c : Nat} {cs : Array Value} {l : List Int} (hg : base ≤ g) (hb : Blk w g 3 cs) (hn : Nums cs l) (hs : cs.size = c) (hl : l.length ≤ c) (hm : c ≤ maxLen) :
    w.ownsRow base 3 1 (.slice (some ⟨g, 0, none⟩) l.length c) l.length (l.map (Value.int .i64)) := by
  refine ⟨by simp, .inr ⟨g, c, cs, rfl, hg, hb, hl, hm, by omega, ?_⟩⟩
  apply List.ext_getElem?
  intro t
  rw [List.getElem?_take, Nat.mul_one]
  by_cases ht : t < l.length
  · rw [if_pos ht, Array.getElem?_toList, hn.2 t ht]; simp [ht]
  · rw [if_neg ht, List.getElem?_eq_none (by simpa using ht)]

end Go
end

section
/- Walks: small helpers of package treaty, and the library's searches of slices. -/
namespace Go.Proofs
open Go.RowKit

def fromB (n a b : Int) : Bool := decide (a ≤ n) && decide (n ≤ b)

def risesB : List Int → Bool
  | a :: b :: r => decide (a < b) && risesB (b :: r)
  | _ => true

theorem risesB_false (l : List Int) (k : Nat) (h : k + 1 < l.length) (hh : l[k+1] ≤ l[k]) : risesB l = false := by
  induction l generalizing k with
  | nil => simp at h
  | cons a r ih =>
    cases r with
    | nil => simp at h
    | cons b r =>
      cases k with
      | zero => simp at hh; simp [risesB]; intro; omega
      | succ k => simp only [risesB]; rw [ih k (by simpa using h) (by simpa using hh)]; simp

theorem risesB_true (l : List Int) (h : ∀ k, (h : k + 1 < l.length) → l[k] < l[k+1]) : risesB l = true := by
  induction l with
  | nil => rfl
  | cons a r ih =>
    cases r with
    | nil => rfl
    | cons b r =>
      simp only [risesB, Bool.and_eq_true, decide_eq_true_eq]
      exact ⟨h 0 (by simp), ih fun k hk => h (k+1) (by simp at hk ⊢; omega)⟩

set_option maxHeartbeats 400000 in
theorem from_any (n a b : Int) (w : World) :
    Calls Tryz.prog 81 #[.int .i64 n, .int .i64 a, .int .i64 b] w fun e w' => e = .returned (.bool (fromB n a b)) ∧ w = w' := by
  go_enter Tryz.func81, Tryz.ntmps81
  go_wp2
  all_goals go_ret
  · exact ⟨ret_bool (by unfold fromB; simp; omega), rfl⟩
  · exact ⟨ret_bool (by unfold fromB; simp; omega), rfl⟩

/-- the closure of 'below' -/
theorem below1_any (n e : Int) (b : Nat) (w : World) (hc : w.cell? ⟨b, 0, none⟩ = some (.int .i64 e)) (he : -1000000000000000 ≤ e) (he' : e ≤ 1000000000000000) :
    Calls Tryz.prog 131 #[.int .i64 n, .pointer (some ⟨b, 0, none⟩)] w fun r w' => r = .returned (.bool (fromB n 0 (e - 1))) ∧ w = w' := by
  go_enter Tryz.func131, Tryz.ntmps131
  go_wp2_with (go_at_call 81; refine (from_any _ _ _ _).mono ?_; rintro e w' ⟨rfl, rfl⟩)
  go_ret
  exact ⟨rfl, rfl⟩

theorem below1_asks (n e : Int) (b : Nat) (w : World) (hb : b < w.heap.size) (hc : w.cell? ⟨b, 0, none⟩ = some (.int .i64 e)) (he : -1000000000000000 ≤ e) (he' : e ≤ 1000000000000000) :
    Asks Tryz.prog 131 [.pointer (some ⟨b, 0, none⟩)] w (.int .i64 n) (fromB n 0 (e - 1)) := fun u =>
  (below1_any n e b (w.lat u) (by rw [World.lat_cell _ _ _ _ hb]; exact hc) he he').mono fun _ _ ⟨h1, h2⟩ => ⟨h1, by subst h2; exact Aft.refl _⟩

theorem below_any (e : Int) (w : World) :
    Calls Tryz.prog 84 #[.int .i64 e] w fun r w' => r = .returned (.func (.func 131) #[] #[.pointer (some ⟨w.heap.size, 0, none⟩)]) ∧ w.alloc (.cells #[.int .i64 e] 3) = w' := by
  go_enter Tryz.func84, Tryz.ntmps84
  go_wp2
  go_ret
  exact ⟨rfl, rfl⟩

theorem runs_100 (args : Array Value) (w : World) : (callFunc 131 args).run Tryz.prog w = .ok (.enter 131 args) w := by simp [go_sem]
set_option maxHeartbeats 400000 in
theorem rises_any (A : Option Addr) (l : List Int) (c : Nat) (w : World) (hA : Ints w A l) :
    Calls Tryz.prog 92 #[.slice A l.length c] w fun e w' => e = .returned (.bool (risesB l)) ∧ Aft w w' := by
  have hl := hA.len
  go_enter Tryz.func92, Tryz.ntmps92
  go_wp2
  go_loopw [3] (fun i wr => ∃ k : Nat, 1 ≤ k ∧ i = .int .i64 k ∧ (k ≤ l.length ∨ k = 1) ∧ (∀ j, j + 1 < k → (h : j + 1 < l.length) → l[j] < l[j+1]) ∧ ∃ n, wr = w.drewN n) (fun i _ => l.length - (intOf i).toNat)
  case atStart => exact ⟨1, by omega, rfl, by omega, fun j hj => by omega, 0, rfl⟩
  case round =>
    obtain ⟨k, hk1, rfl, hk, hlt, n, rfl⟩ := hrel
    have HL := Lib.hid hlt
    clear hlt
    by_cases hkl : k < l.length
    · obtain ⟨b, o, rfl, hb, hc⟩ := hA.at hkl
      have h1 : w.cell? ⟨b, o + k, none⟩ = some (.int .i64 l[k]) := hc k hkl
      have h2 : w.cell? ⟨b, o + (k - 1), none⟩ = some (.int .i64 l[k-1]) := hc (k-1) (by omega)
      have e1 : IntKind.i64.wrap ((k : Int) - 1) = ((k - 1 : Nat) : Int) := by rw [IntWalk.i64_in _ (by omega)]; omega
      clear hc
      go_wp2
      go_quiet (fail)
      clear e1
      go_wp2
      · go_ret
        have h3 : l[k] ≤ l[k-1] := by assumption
        exact ⟨ret_bool (by rw [risesB_false l (k-1) (by omega) (by simp only [Nat.sub_add_cancel hk1]; exact h3)]), (Aft.drewN _ _).then_drewN _⟩
      · have h3 : l[k-1] < l[k] := by assumption
        go_roundw
        case rel =>
          refine ⟨k + 1, by omega, by go_num, by omega, fun j hj hjl => ?_, _, rfl⟩
          by_cases hjk : j + 1 < k
          · exact HL.out j hjk hjl
          · obtain rfl : j = k - 1 := by omega
            simp only [Nat.sub_add_cancel hk1]; exact h3
        case measure => simp [intOf]; omega
    · go_wp2
      go_ret
      exact ⟨ret_bool (by rw [risesB_true l fun j hj => HL.out j (by omega) hj]), Aft.drewN _ _⟩

/-- An index, or less than 0. -/
def IdxSign (b : Bool) (e : Ending) : Prop := ∃ n : Int, e = .returned (.int .i64 n) ∧ decide (n < 0) = !b
theorem IdxSign.yes {b : Bool} (hb : b = true) (k : Nat) : IdxSign b (.returned (.int .i64 k)) := ⟨k, rfl, by rw [hb]; simp⟩
theorem IdxSign.no {b : Bool} (hb : b = false) : IdxSign b (.returned (.int .i64 (-1))) := ⟨-1, rfl, by rw [hb]; rfl⟩

/-- The first index of which something is so, or -1. -/
def IdxRes {α : Type} (p : α → Bool) (l : List α) (e : Ending) : Prop :=
  (e = .returned (.int .i64 (-1)) ∧ l.any p = false) ∨ ∃ k, ∃ h : k < l.length, e = .returned (.int .i64 (k : Nat)) ∧ p l[k] = true ∧ (l.take k).any p = false
theorem IdxRes.sign {α : Type} {p : α → Bool} {l : List α} {e : Ending} (h : IdxRes p l e) : IdxSign (l.any p) e := by
  rcases h with ⟨rfl, h⟩ | ⟨k, h, rfl, h1, _⟩
  · exact IdxSign.no h
  · exact IdxSign.yes (any_of_get _ _ _ h h1) _

/-- slices.Index at []int -/
theorem index_any (A : Option Addr) (l : List Int) (c : Nat) (x : Int) (w : World) (hA : Ints w A l) :
    Calls Tryz.prog 121 #[.slice A l.length c, .int .i64 x] w fun e w' => IdxSign (hasB l x) e ∧ w = w' := by
  have hl := hA.len
  go_enter Tryz.func121, Tryz.ntmps121
  go_wp2
  go_loop [8] (fun i => ∃ k : Nat, i = .int .i64 k ∧ k ≤ l.length ∧ hasB (l.take k) x = false) (fun i => l.length - (intOf i).toNat)
  case atStart => exact ⟨0, rfl, by omega, rfl⟩
  case round =>
    obtain ⟨k, rfl, hk, hany⟩ := hrel
    have HA := Lib.hid hany; clear hany
    by_cases hlt : k < l.length
    · obtain ⟨b, o, rfl, hbw, hc⟩ := hA.at hlt
      have hck := hc k hlt
      clear hc
      go_wp2
      · have hx : x = l[k] := by simp_all
        go_ret
        exact ⟨IdxSign.yes (hasB_iff.2 (hx ▸ List.getElem_mem hlt)) _, rfl⟩
      · have hx : ¬ x = l[k] := by simp_all
        go_round
        case rel => exact ⟨k + 1, by go_num, by omega, by rw [List.take_succ_eq_append_getElem hlt, hasB_false]; have := hasB_false.1 HA.out; simp only [List.mem_append, List.mem_singleton]; rintro (h | h); exact this h; exact hx h⟩
        case measure => simp [intOf]; omega
    · go_wp2
      go_ret
      exact ⟨IdxSign.no (by have := HA.out; rwa [List.take_of_length_le (by omega)] at this), rfl⟩

theorem contains_any (A : Option Addr) (l : List Int) (c : Nat) (x : Int) (w : World) (hA : Ints w A l) :
    Calls Tryz.prog 60 #[.slice A l.length c, .int .i64 x] w fun e w' => e = .returned (.bool (hasB l x)) ∧ w = w' := by
  go_enter Tryz.func60, Tryz.ntmps60
  go_wp2_with (go_at_call 121; refine (index_any _ _ _ _ _ hA).mono ?_; rintro e w' ⟨⟨n, rfl, hn⟩, rfl⟩; have HN := Lib.hid hn; clear hn)
  go_ret
  exact ⟨ret_bool (by have := HN.out; cases h : hasB l x <;> simp_all), rfl⟩

set_option maxHeartbeats 800000 in
theorem indexFunc_int {α : Type} (R : World → α → List Value → Prop) (K : FuncId) (cap : List Value) (p : α → Bool) (A : Option Addr) (l : List α) (c : Nat) (w : World) (hA : RowsP w A 1 R l)
    (hK : ∀ args w, (callFunc K args).run Tryz.prog w = .ok (.enter K args) w)
    (hp : ∀ x ∈ l, ∀ v0, R w x [v0] → Asks Tryz.prog K cap w v0 (p x)) :
    Calls Tryz.prog 111 #[.slice A l.length c, .func (.func K) #[] cap.toArray] w fun e w' => IdxRes p l e ∧ Aft w w' := by
  have hl := hA.len (by decide)
  have HP := Lib.hid hp
  clear hp
  go_enter Tryz.func111, Tryz.ntmps111
  go_wp2
  go_loopw [8] (fun i wr => ∃ k : Nat, i = .int .i64 k ∧ k ≤ l.length ∧ (l.take k).any p = false ∧ Aft w wr) (fun i _ => l.length - (intOf i).toNat)
  case atStart => exact ⟨0, rfl, by omega, by simp, Aft.refl _⟩
  case round =>
    obtain ⟨k, rfl, hk, hany, u, rfl⟩ := hrel
    have HA := Lib.hid hany; clear hany
    by_cases hlt : k < l.length
    · obtain ⟨b, o, rfl, hbw, hc⟩ := hA.at hlt
      obtain ⟨vs, hv1, hv2, hv3⟩ := hc k hlt
      obtain ⟨v0, rfl⟩ : ∃ v0, vs = [v0] := by match vs, hv1 with | [v0], _ => exact ⟨v0, rfl⟩
      have hc0 := hv3 0 (by simp)
      simp only [Nat.mul_one, Nat.add_zero, List.getElem_cons_zero] at hc0
      have hpk := HP.out l[k] (List.getElem_mem hlt) v0 hv2 u
      clear hc hv3 hv2
      cases hb : p l[k]
      · have HB := Lib.hid hb; clear hb
        rw [HB.out] at hpk
        go_wp2_with (refine hpk.mono ?_; rintro e w' ⟨rfl, u1, rfl⟩; clear hpk)
        go_roundw
        case rel => exact ⟨k + 1, by go_num, by omega, by rw [any_take_succ _ _ _ hlt, HA.out, HB.out]; rfl, _, rfl⟩
        case measure => simp [intOf]; omega
      · have HB := Lib.hid hb; clear hb
        rw [HB.out] at hpk
        go_wp2_with (refine hpk.mono ?_; rintro e w' ⟨rfl, u1, rfl⟩; clear hpk)
        go_ret
        exact ⟨.inr ⟨k, hlt, rfl, HB.out, HA.out⟩, _, rfl⟩
    · go_wp2
      go_ret
      exact ⟨.inl ⟨rfl, by have := HA.out; rwa [List.take_of_length_le (by omega)] at this⟩, _, rfl⟩

theorem each1_int (K : FuncId) (cap : List Value) (v0 : Value) (r : Bool) (b : Nat) (w : World) (hb : b < w.heap.size) (hc : w.cell? ⟨b, 0, none⟩ = some (.func (.func K) #[] cap.toArray))
    (hK : ∀ args w, (callFunc K args).run Tryz.prog w = .ok (.enter K args) w) (hp : Asks Tryz.prog K cap w v0 r) :
    Asks Tryz.prog 134 [.pointer (some ⟨b, 0, none⟩)] w v0 (!r) := by
  intro u
  have HP := Lib.hid hp; clear hp
  go_enter Tryz.func134, Tryz.ntmps134
  go_wp2_with (refine (HP.out.at (Aft.lat _ u)).mono ?_; rintro e w' ⟨rfl, u1, rfl⟩)
  go_ret
  exact ⟨rfl, Aft.lat _ _⟩

theorem runs_104 (args : Array Value) (w : World) : (callFunc 134 args).run Tryz.prog w = .ok (.enter 134 args) w := by simp [go_sem]

set_option maxHeartbeats 400000 in
theorem each_int {α : Type} (R : World → α → List Value → Prop) (hR : MonoR R) (K : FuncId) (cap : List Value) (p : α → Bool) (A : Option Addr) (l : List α) (c : Nat) (w : World) (hA : RowsP w A 1 R l)
    (hK : ∀ args w, (callFunc K args).run Tryz.prog w = .ok (.enter K args) w)
    (hp : ∀ x ∈ l, ∀ u v0, R (w.lat u) x [v0] → Asks Tryz.prog K cap (w.lat u) v0 (p x)) :
    Calls Tryz.prog 87 #[.slice A l.length c, .func (.func K) #[] cap.toArray] w fun e w' => e = .returned (.bool (l.all p)) ∧ Aft w w' := by
  have HP := Lib.hid hp
  have HR := Lib.hid hR
  have hw1 : Aft w (w.alloc (.cells #[.func (.func K) #[] cap.toArray] 100)) := Aft.alloc _ _
  have HA : RowsP (w.alloc (.cells #[.func (.func K) #[] cap.toArray] 100)) A 1 R l := hA.aft hR hw1
  clear hp hR
  have hc := indexFunc_int R 134 [.pointer (some ⟨w.heap.size, 0, none⟩)] (fun x => !p x) A l c (w.alloc (.cells #[.func (.func K) #[] cap.toArray] 100)) HA runs_104
    (fun x hx v0 hv => each1_int K cap v0 (p x) w.heap.size _ (by simp) (by simp) hK (by obtain ⟨u, hu⟩ := hw1; rw [hu] at hv ⊢; exact HP.out x hx u v0 hv))
  have HC := Lib.hid hc
  clear hc
  go_enter Tryz.func87, Tryz.ntmps87
  go_wp2_with (go_at_call 111; refine HC.out.mono ?_; rintro e w' ⟨hr, u, rfl⟩; obtain ⟨n, rfl, hn⟩ := hr.sign; clear hr; have HN := Lib.hid hn; clear hn)
  go_ret
  exact ⟨ret_bool (by rw [HN.out]; simp [List.all_eq_not_any_not]), hw1.trans ⟨u, rfl⟩⟩

set_option maxHeartbeats 800000 in
theorem indexFunc_words {α : Type} (R : World → α → List Value → Prop) (K : FuncId) (cap : List Value) (p : α → Bool) (A : Option Addr) (l : List α) (c : Nat) (w : World) (hA : RowsP w A 1 R l)
    (hK : ∀ args w, (callFunc K args).run Tryz.prog w = .ok (.enter K args) w)
    (hp : ∀ x ∈ l, ∀ v0, R w x [v0] → Asks Tryz.prog K cap w v0 (p x)) :
    Calls Tryz.prog 129 #[.slice A l.length c, .func (.func K) #[] cap.toArray] w fun e w' => IdxRes p l e ∧ Aft w w' := by
  have hl := hA.len (by decide)
  have HP := Lib.hid hp
  clear hp
  go_enter Tryz.func129, Tryz.ntmps129
  go_wp2
  go_loopw [8] (fun i wr => ∃ k : Nat, i = .int .i64 k ∧ k ≤ l.length ∧ (l.take k).any p = false ∧ Aft w wr) (fun i _ => l.length - (intOf i).toNat)
  case atStart => exact ⟨0, rfl, by omega, by simp, Aft.refl _⟩
  case round =>
    obtain ⟨k, rfl, hk, hany, u, rfl⟩ := hrel
    have HA := Lib.hid hany; clear hany
    by_cases hlt : k < l.length
    · obtain ⟨b, o, rfl, hbw, hc⟩ := hA.at hlt
      obtain ⟨vs, hv1, hv2, hv3⟩ := hc k hlt
      obtain ⟨v0, rfl⟩ : ∃ v0, vs = [v0] := by match vs, hv1 with | [v0], _ => exact ⟨v0, rfl⟩
      have hc0 := hv3 0 (by simp)
      simp only [Nat.mul_one, Nat.add_zero, List.getElem_cons_zero] at hc0
      have hpk := HP.out l[k] (List.getElem_mem hlt) v0 hv2 u
      clear hc hv3 hv2
      cases hb : p l[k]
      · have HB := Lib.hid hb; clear hb
        rw [HB.out] at hpk
        go_wp2_with (refine hpk.mono ?_; rintro e w' ⟨rfl, u1, rfl⟩; clear hpk)
        go_roundw
        case rel => exact ⟨k + 1, by go_num, by omega, by rw [any_take_succ _ _ _ hlt, HA.out, HB.out]; rfl, _, rfl⟩
        case measure => simp [intOf]; omega
      · have HB := Lib.hid hb; clear hb
        rw [HB.out] at hpk
        go_wp2_with (refine hpk.mono ?_; rintro e w' ⟨rfl, u1, rfl⟩; clear hpk)
        go_ret
        exact ⟨.inr ⟨k, hlt, rfl, HB.out, HA.out⟩, _, rfl⟩
    · go_wp2
      go_ret
      exact ⟨.inl ⟨rfl, by have := HA.out; rwa [List.take_of_length_le (by omega)] at this⟩, _, rfl⟩

theorem each1_words (K : FuncId) (cap : List Value) (v0 : Value) (r : Bool) (b : Nat) (w : World) (hb : b < w.heap.size) (hc : w.cell? ⟨b, 0, none⟩ = some (.func (.func K) #[] cap.toArray))
    (hK : ∀ args w, (callFunc K args).run Tryz.prog w = .ok (.enter K args) w) (hp : Asks Tryz.prog K cap w v0 r) :
    Asks Tryz.prog 130 [.pointer (some ⟨b, 0, none⟩)] w v0 (!r) := by
  intro u
  have HP := Lib.hid hp; clear hp
  go_enter Tryz.func130, Tryz.ntmps130
  go_wp2_with (refine (HP.out.at (Aft.lat _ u)).mono ?_; rintro e w' ⟨rfl, u1, rfl⟩)
  go_ret
  exact ⟨rfl, Aft.lat _ _⟩

theorem runs_99 (args : Array Value) (w : World) : (callFunc 130 args).run Tryz.prog w = .ok (.enter 130 args) w := by simp [go_sem]

set_option maxHeartbeats 400000 in
theorem each_words {α : Type} (R : World → α → List Value → Prop) (hR : MonoR R) (K : FuncId) (cap : List Value) (p : α → Bool) (A : Option Addr) (l : List α) (c : Nat) (w : World) (hA : RowsP w A 1 R l)
    (hK : ∀ args w, (callFunc K args).run Tryz.prog w = .ok (.enter K args) w)
    (hp : ∀ x ∈ l, ∀ u v0, R (w.lat u) x [v0] → Asks Tryz.prog K cap (w.lat u) v0 (p x)) :
    Calls Tryz.prog 82 #[.slice A l.length c, .func (.func K) #[] cap.toArray] w fun e w' => e = .returned (.bool (l.all p)) ∧ Aft w w' := by
  have HP := Lib.hid hp
  have HR := Lib.hid hR
  have hw1 : Aft w (w.alloc (.cells #[.func (.func K) #[] cap.toArray] 135)) := Aft.alloc _ _
  have HA : RowsP (w.alloc (.cells #[.func (.func K) #[] cap.toArray] 135)) A 1 R l := hA.aft hR hw1
  clear hp hR
  have hc := indexFunc_words R 130 [.pointer (some ⟨w.heap.size, 0, none⟩)] (fun x => !p x) A l c (w.alloc (.cells #[.func (.func K) #[] cap.toArray] 135)) HA runs_99
    (fun x hx v0 hv => each1_words K cap v0 (p x) w.heap.size _ (by simp) (by simp) hK (by obtain ⟨u, hu⟩ := hw1; rw [hu] at hv ⊢; exact HP.out x hx u v0 hv))
  have HC := Lib.hid hc
  clear hc
  go_enter Tryz.func82, Tryz.ntmps82
  go_wp2_with (go_at_call 129; refine HC.out.mono ?_; rintro e w' ⟨hr, u, rfl⟩; obtain ⟨n, rfl, hn⟩ := hr.sign; clear hr; have HN := Lib.hid hn; clear hn)
  go_ret
  exact ⟨ret_bool (by rw [HN.out]; simp [List.all_eq_not_any_not]), hw1.trans ⟨u, rfl⟩⟩

set_option maxHeartbeats 800000 in
theorem indexFunc_mean {α : Type} (R : World → α → List Value → Prop) (K : FuncId) (cap : List Value) (p : α → Bool) (A : Option Addr) (l : List α) (c : Nat) (w : World) (hA : RowsP w A 2 R l)
    (hK : ∀ args w, (callFunc K args).run Tryz.prog w = .ok (.enter K args) w)
    (hp : ∀ x ∈ l, ∀ v0 v1, R w x [v0, v1] → Asks Tryz.prog K cap w (.agg #[v0, v1]) (p x)) :
    Calls Tryz.prog 160 #[.slice A l.length c, .func (.func K) #[] cap.toArray] w fun e w' => IdxRes p l e ∧ Aft w w' := by
  have hl := hA.len (by decide)
  have HP := Lib.hid hp
  clear hp
  go_enter Tryz.func160, Tryz.ntmps160
  go_wp2
  go_loopw [8] (fun i wr => ∃ k : Nat, i = .int .i64 k ∧ k ≤ l.length ∧ (l.take k).any p = false ∧ Aft w wr) (fun i _ => l.length - (intOf i).toNat)
  case atStart => exact ⟨0, rfl, by omega, by simp, Aft.refl _⟩
  case round =>
    obtain ⟨k, rfl, hk, hany, u, rfl⟩ := hrel
    have HA := Lib.hid hany; clear hany
    by_cases hlt : k < l.length
    · obtain ⟨b, o, rfl, hbw, hc⟩ := hA.at hlt
      obtain ⟨vs, hv1, hv2, hv3⟩ := hc k hlt
      obtain ⟨v0, v1, rfl⟩ : ∃ v0 v1, vs = [v0, v1] := by match vs, hv1 with | [v0, v1], _ => exact ⟨v0, v1, rfl⟩
      have hc0 := hv3 0 (by simp); have hc1 := hv3 1 (by simp)
      simp only [Nat.add_zero, List.getElem_cons_zero, List.getElem_cons_succ] at hc0 hc1
      have hpk := HP.out l[k] (List.getElem_mem hlt) v0 v1 hv2 u
      clear hc hv3 hv2
      cases hb : p l[k]
      · have HB := Lib.hid hb; clear hb
        rw [HB.out] at hpk
        go_wp2_with (refine hpk.mono ?_; rintro e w' ⟨rfl, u1, rfl⟩; clear hpk)
        go_roundw
        case rel => exact ⟨k + 1, by go_num, by omega, by rw [any_take_succ _ _ _ hlt, HA.out, HB.out]; rfl, _, rfl⟩
        case measure => simp [intOf]; omega
      · have HB := Lib.hid hb; clear hb
        rw [HB.out] at hpk
        go_wp2_with (refine hpk.mono ?_; rintro e w' ⟨rfl, u1, rfl⟩; clear hpk)
        go_ret
        exact ⟨.inr ⟨k, hlt, rfl, HB.out, HA.out⟩, _, rfl⟩
    · go_wp2
      go_ret
      exact ⟨.inl ⟨rfl, by have := HA.out; rwa [List.take_of_length_le (by omega)] at this⟩, _, rfl⟩

theorem each1_mean (K : FuncId) (cap : List Value) (v0 v1 : Value) (r : Bool) (b : Nat) (w : World) (hb : b < w.heap.size) (hc : w.cell? ⟨b, 0, none⟩ = some (.func (.func K) #[] cap.toArray))
    (hK : ∀ args w, (callFunc K args).run Tryz.prog w = .ok (.enter K args) w) (hp : Asks Tryz.prog K cap w (.agg #[v0, v1]) r) :
    Asks Tryz.prog 161 [.pointer (some ⟨b, 0, none⟩)] w (.agg #[v0, v1]) (!r) := by
  intro u
  have HP := Lib.hid hp; clear hp
  go_enter Tryz.func161, Tryz.ntmps161
  go_wp2_with (refine (HP.out.at ((Aft.lat _ u).then_alloc _)).mono ?_; rintro e w' ⟨rfl, u1, rfl⟩)
  go_ret
  exact ⟨rfl, (Aft.alloc _ _).then_lat _⟩

theorem runs_117 (args : Array Value) (w : World) : (callFunc 161 args).run Tryz.prog w = .ok (.enter 161 args) w := by simp [go_sem]

set_option maxHeartbeats 400000 in
theorem each_mean {α : Type} (R : World → α → List Value → Prop) (hR : MonoR R) (K : FuncId) (cap : List Value) (p : α → Bool) (A : Option Addr) (l : List α) (c : Nat) (w : World) (hA : RowsP w A 2 R l)
    (hK : ∀ args w, (callFunc K args).run Tryz.prog w = .ok (.enter K args) w)
    (hp : ∀ x ∈ l, ∀ u v0 v1, R (w.lat u) x [v0, v1] → Asks Tryz.prog K cap (w.lat u) (.agg #[v0, v1]) (p x)) :
    Calls Tryz.prog 133 #[.slice A l.length c, .func (.func K) #[] cap.toArray] w fun e w' => e = .returned (.bool (l.all p)) ∧ Aft w w' := by
  have HP := Lib.hid hp
  have HR := Lib.hid hR
  have hw1 : Aft w (w.alloc (.cells #[.func (.func K) #[] cap.toArray] 138)) := Aft.alloc _ _
  have HA : RowsP (w.alloc (.cells #[.func (.func K) #[] cap.toArray] 138)) A 2 R l := hA.aft hR hw1
  clear hp hR
  have hc := indexFunc_mean R 161 [.pointer (some ⟨w.heap.size, 0, none⟩)] (fun x => !p x) A l c (w.alloc (.cells #[.func (.func K) #[] cap.toArray] 138)) HA runs_117
    (fun x hx v0 v1 hv => each1_mean K cap v0 v1 (p x) w.heap.size _ (by simp) (by simp) hK (by obtain ⟨u, hu⟩ := hw1; rw [hu] at hv ⊢; exact HP.out x hx u v0 v1 hv))
  have HC := Lib.hid hc
  clear hc
  go_enter Tryz.func133, Tryz.ntmps133
  go_wp2_with (go_at_call 160; refine HC.out.mono ?_; rintro e w' ⟨hr, u, rfl⟩; obtain ⟨n, rfl, hn⟩ := hr.sign; clear hr; have HN := Lib.hid hn; clear hn)
  go_ret
  exact ⟨ret_bool (by rw [HN.out]; simp [List.all_eq_not_any_not]), hw1.trans ⟨u, rfl⟩⟩

set_option maxHeartbeats 800000 in
theorem indexFunc_leg {α : Type} (R : World → α → List Value → Prop) (K : FuncId) (cap : List Value) (p : α → Bool) (A : Option Addr) (l : List α) (c : Nat) (w : World) (hA : RowsP w A 2 R l)
    (hK : ∀ args w, (callFunc K args).run Tryz.prog w = .ok (.enter K args) w)
    (hp : ∀ x ∈ l, ∀ v0 v1, R w x [v0, v1] → Asks Tryz.prog K cap w (.agg #[v0, v1]) (p x)) :
    Calls Tryz.prog 135 #[.slice A l.length c, .func (.func K) #[] cap.toArray] w fun e w' => IdxRes p l e ∧ Aft w w' := by
  have hl := hA.len (by decide)
  have HP := Lib.hid hp
  clear hp
  go_enter Tryz.func135, Tryz.ntmps135
  go_wp2
  go_loopw [8] (fun i wr => ∃ k : Nat, i = .int .i64 k ∧ k ≤ l.length ∧ (l.take k).any p = false ∧ Aft w wr) (fun i _ => l.length - (intOf i).toNat)
  case atStart => exact ⟨0, rfl, by omega, by simp, Aft.refl _⟩
  case round =>
    obtain ⟨k, rfl, hk, hany, u, rfl⟩ := hrel
    have HA := Lib.hid hany; clear hany
    by_cases hlt : k < l.length
    · obtain ⟨b, o, rfl, hbw, hc⟩ := hA.at hlt
      obtain ⟨vs, hv1, hv2, hv3⟩ := hc k hlt
      obtain ⟨v0, v1, rfl⟩ : ∃ v0 v1, vs = [v0, v1] := by match vs, hv1 with | [v0, v1], _ => exact ⟨v0, v1, rfl⟩
      have hc0 := hv3 0 (by simp); have hc1 := hv3 1 (by simp)
      simp only [Nat.add_zero, List.getElem_cons_zero, List.getElem_cons_succ] at hc0 hc1
      have hpk := HP.out l[k] (List.getElem_mem hlt) v0 v1 hv2 u
      clear hc hv3 hv2
      cases hb : p l[k]
      · have HB := Lib.hid hb; clear hb
        rw [HB.out] at hpk
        go_wp2_with (refine hpk.mono ?_; rintro e w' ⟨rfl, u1, rfl⟩; clear hpk)
        go_roundw
        case rel => exact ⟨k + 1, by go_num, by omega, by rw [any_take_succ _ _ _ hlt, HA.out, HB.out]; rfl, _, rfl⟩
        case measure => simp [intOf]; omega
      · have HB := Lib.hid hb; clear hb
        rw [HB.out] at hpk
        go_wp2_with (refine hpk.mono ?_; rintro e w' ⟨rfl, u1, rfl⟩; clear hpk)
        go_ret
        exact ⟨.inr ⟨k, hlt, rfl, HB.out, HA.out⟩, _, rfl⟩
    · go_wp2
      go_ret
      exact ⟨.inl ⟨rfl, by have := HA.out; rwa [List.take_of_length_le (by omega)] at this⟩, _, rfl⟩

theorem each1_leg (K : FuncId) (cap : List Value) (v0 v1 : Value) (r : Bool) (b : Nat) (w : World) (hb : b < w.heap.size) (hc : w.cell? ⟨b, 0, none⟩ = some (.func (.func K) #[] cap.toArray))
    (hK : ∀ args w, (callFunc K args).run Tryz.prog w = .ok (.enter K args) w) (hp : Asks Tryz.prog K cap w (.agg #[v0, v1]) r) :
    Asks Tryz.prog 136 [.pointer (some ⟨b, 0, none⟩)] w (.agg #[v0, v1]) (!r) := by
  intro u
  have HP := Lib.hid hp; clear hp
  go_enter Tryz.func136, Tryz.ntmps136
  go_wp2_with (refine (HP.out.at ((Aft.lat _ u).then_alloc _)).mono ?_; rintro e w' ⟨rfl, u1, rfl⟩)
  go_ret
  exact ⟨rfl, (Aft.alloc _ _).then_lat _⟩

theorem runs_106 (args : Array Value) (w : World) : (callFunc 136 args).run Tryz.prog w = .ok (.enter 136 args) w := by simp [go_sem]

set_option maxHeartbeats 400000 in
theorem each_leg {α : Type} (R : World → α → List Value → Prop) (hR : MonoR R) (K : FuncId) (cap : List Value) (p : α → Bool) (A : Option Addr) (l : List α) (c : Nat) (w : World) (hA : RowsP w A 2 R l)
    (hK : ∀ args w, (callFunc K args).run Tryz.prog w = .ok (.enter K args) w)
    (hp : ∀ x ∈ l, ∀ u v0 v1, R (w.lat u) x [v0, v1] → Asks Tryz.prog K cap (w.lat u) (.agg #[v0, v1]) (p x)) :
    Calls Tryz.prog 89 #[.slice A l.length c, .func (.func K) #[] cap.toArray] w fun e w' => e = .returned (.bool (l.all p)) ∧ Aft w w' := by
  have HP := Lib.hid hp
  have HR := Lib.hid hR
  have hw1 : Aft w (w.alloc (.cells #[.func (.func K) #[] cap.toArray] 140)) := Aft.alloc _ _
  have HA : RowsP (w.alloc (.cells #[.func (.func K) #[] cap.toArray] 140)) A 2 R l := hA.aft hR hw1
  clear hp hR
  have hc := indexFunc_leg R 136 [.pointer (some ⟨w.heap.size, 0, none⟩)] (fun x => !p x) A l c (w.alloc (.cells #[.func (.func K) #[] cap.toArray] 140)) HA runs_106
    (fun x hx v0 v1 hv => each1_leg K cap v0 v1 (p x) w.heap.size _ (by simp) (by simp) hK (by obtain ⟨u, hu⟩ := hw1; rw [hu] at hv ⊢; exact HP.out x hx u v0 v1 hv))
  have HC := Lib.hid hc
  clear hc
  go_enter Tryz.func89, Tryz.ntmps89
  go_wp2_with (go_at_call 135; refine HC.out.mono ?_; rintro e w' ⟨hr, u, rfl⟩; obtain ⟨n, rfl, hn⟩ := hr.sign; clear hr; have HN := Lib.hid hn; clear hn)
  go_ret
  exact ⟨ret_bool (by rw [HN.out]; simp [List.all_eq_not_any_not]), hw1.trans ⟨u, rfl⟩⟩

set_option maxHeartbeats 800000 in
theorem indexFunc_lists {α : Type} (R : World → α → List Value → Prop) (K : FuncId) (cap : List Value) (p : α → Bool) (A : Option Addr) (l : List α) (c : Nat) (w : World) (hA : RowsP w A 1 R l)
    (hK : ∀ args w, (callFunc K args).run Tryz.prog w = .ok (.enter K args) w)
    (hp : ∀ x ∈ l, ∀ v0, R w x [v0] → Asks Tryz.prog K cap w v0 (p x)) :
    Calls Tryz.prog 70 #[.slice A l.length c, .func (.func K) #[] cap.toArray] w fun e w' => IdxRes p l e ∧ Aft w w' := by
  have hl := hA.len (by decide)
  have HP := Lib.hid hp
  clear hp
  go_enter Tryz.func70, Tryz.ntmps70
  go_wp2
  go_loopw [8] (fun i wr => ∃ k : Nat, i = .int .i64 k ∧ k ≤ l.length ∧ (l.take k).any p = false ∧ Aft w wr) (fun i _ => l.length - (intOf i).toNat)
  case atStart => exact ⟨0, rfl, by omega, by simp, Aft.refl _⟩
  case round =>
    obtain ⟨k, rfl, hk, hany, u, rfl⟩ := hrel
    have HA := Lib.hid hany; clear hany
    by_cases hlt : k < l.length
    · obtain ⟨b, o, rfl, hbw, hc⟩ := hA.at hlt
      obtain ⟨vs, hv1, hv2, hv3⟩ := hc k hlt
      obtain ⟨v0, rfl⟩ : ∃ v0, vs = [v0] := by match vs, hv1 with | [v0], _ => exact ⟨v0, rfl⟩
      have hc0 := hv3 0 (by simp)
      simp only [Nat.mul_one, Nat.add_zero, List.getElem_cons_zero] at hc0
      have hpk := HP.out l[k] (List.getElem_mem hlt) v0 hv2 u
      clear hc hv3 hv2
      cases hb : p l[k]
      · have HB := Lib.hid hb; clear hb
        rw [HB.out] at hpk
        go_wp2_with (refine hpk.mono ?_; rintro e w' ⟨rfl, u1, rfl⟩; clear hpk)
        go_roundw
        case rel => exact ⟨k + 1, by go_num, by omega, by rw [any_take_succ _ _ _ hlt, HA.out, HB.out]; rfl, _, rfl⟩
        case measure => simp [intOf]; omega
      · have HB := Lib.hid hb; clear hb
        rw [HB.out] at hpk
        go_wp2_with (refine hpk.mono ?_; rintro e w' ⟨rfl, u1, rfl⟩; clear hpk)
        go_ret
        exact ⟨.inr ⟨k, hlt, rfl, HB.out, HA.out⟩, _, rfl⟩
    · go_wp2
      go_ret
      exact ⟨.inl ⟨rfl, by have := HA.out; rwa [List.take_of_length_le (by omega)] at this⟩, _, rfl⟩

theorem each1_lists (K : FuncId) (cap : List Value) (v0 : Value) (r : Bool) (b : Nat) (w : World) (hb : b < w.heap.size) (hc : w.cell? ⟨b, 0, none⟩ = some (.func (.func K) #[] cap.toArray))
    (hK : ∀ args w, (callFunc K args).run Tryz.prog w = .ok (.enter K args) w) (hp : Asks Tryz.prog K cap w v0 r) :
    Asks Tryz.prog 141 [.pointer (some ⟨b, 0, none⟩)] w v0 (!r) := by
  intro u
  have HP := Lib.hid hp; clear hp
  go_enter Tryz.func141, Tryz.ntmps141
  go_wp2_with (refine (HP.out.at (Aft.lat _ u)).mono ?_; rintro e w' ⟨rfl, u1, rfl⟩)
  go_ret
  exact ⟨rfl, Aft.lat _ _⟩

theorem runs_113 (args : Array Value) (w : World) : (callFunc 141 args).run Tryz.prog w = .ok (.enter 141 args) w := by simp [go_sem]

set_option maxHeartbeats 400000 in
theorem each_lists {α : Type} (R : World → α → List Value → Prop) (hR : MonoR R) (K : FuncId) (cap : List Value) (p : α → Bool) (A : Option Addr) (l : List α) (c : Nat) (w : World) (hA : RowsP w A 1 R l)
    (hK : ∀ args w, (callFunc K args).run Tryz.prog w = .ok (.enter K args) w)
    (hp : ∀ x ∈ l, ∀ u v0, R (w.lat u) x [v0] → Asks Tryz.prog K cap (w.lat u) v0 (p x)) :
    Calls Tryz.prog 101 #[.slice A l.length c, .func (.func K) #[] cap.toArray] w fun e w' => e = .returned (.bool (l.all p)) ∧ Aft w w' := by
  have HP := Lib.hid hp
  have HR := Lib.hid hR
  have hw1 : Aft w (w.alloc (.cells #[.func (.func K) #[] cap.toArray] 57)) := Aft.alloc _ _
  have HA : RowsP (w.alloc (.cells #[.func (.func K) #[] cap.toArray] 57)) A 1 R l := hA.aft hR hw1
  clear hp hR
  have hc := indexFunc_lists R 141 [.pointer (some ⟨w.heap.size, 0, none⟩)] (fun x => !p x) A l c (w.alloc (.cells #[.func (.func K) #[] cap.toArray] 57)) HA runs_113
    (fun x hx v0 hv => each1_lists K cap v0 (p x) w.heap.size _ (by simp) (by simp) hK (by obtain ⟨u, hu⟩ := hw1; rw [hu] at hv ⊢; exact HP.out x hx u v0 hv))
  have HC := Lib.hid hc
  clear hc
  go_enter Tryz.func101, Tryz.ntmps101
  go_wp2_with (go_at_call 70; refine HC.out.mono ?_; rintro e w' ⟨hr, u, rfl⟩; obtain ⟨n, rfl, hn⟩ := hr.sign; clear hr; have HN := Lib.hid hn; clear hn)
  go_ret
  exact ⟨ret_bool (by rw [HN.out]; simp [List.all_eq_not_any_not]), hw1.trans ⟨u, rfl⟩⟩

end Go.Proofs
end

section
/- Walks: slices that are cloned, compared, turned round, and what is deleted of them. -/
namespace Go.Proofs
open Go.RowKit

theorem ty24 : SliceTy Tryz.prog 24 3 1 8 := .mk' (z := .int .i64 0) Tryz.underlying24 (by kernel_rfl) rfl (by decide)

/-- A list of numbers in memory of the call's own. -/
def OwnInts (w0 : World) (l : List Int) (e : Ending) (w' : World) : Prop := ∃ v, e = .returned v ∧ w'.ownsRow w0.heap.size 3 1 v l.length (l.map (Value.int .i64)) ∧ Aft w0 w'


theorem ints_src {w : World} {A : Option Addr} {l : List Int} (h : Ints w A l) : ∀ ad, A = some ad → ∀ j u, (l.map (Value.int .i64))[j]? = some u → w.cell? (ad.add j) = some u := by
  intro ad e j u hj
  have hlt : j < l.length := by have := (List.getElem?_eq_some_iff.1 hj).1; simpa using this
  obtain ⟨b, o, e2, _, hc⟩ := h.at hlt
  rw [e] at e2; cases e2
  rw [Addr.add_lit, hc j hlt]
  simp [hlt] at hj; simp [hj]
theorem ints_nil {w : World} {A : Option Addr} {l : List Int} (h : Ints w A l) (e : A = none) : l.length = 0 := by
  rcases Nat.eq_zero_or_pos l.length with h0 | h0
  · exact h0
  · obtain ⟨b, o, e2, _⟩ := h.at h0
    rw [e] at e2; cases e2
theorem ints_one (l : List Int) : ∀ u ∈ l.map (Value.int .i64), u.oneCell' = true := by
  intro u hu; obtain ⟨x, _, rfl⟩ := List.mem_map.1 hu; rfl

theorem kitClone_int (A : Option Addr) (l : List Int) (c : Nat) (w : World) (hA : Ints w A l) :
    Calls Tryz.prog 46 #[.slice A l.length c] w (OwnInts w l) := by
  have hl := hA.len
  go_enter Tryz.func46, Tryz.ntmps46
  go_wp2_with (at_builtin; refine wpList_app ty24 rfl _ _ rfl (Aft.refl w) rfl (World.ownsRow_nil w _ 3 1) rfl (by simp) (ints_nil hA) (ints_src hA) (ints_one l) (by omega) (by decide) ?_; intro v' w1 hown' hgrow haft)
  go_ret
  exact ⟨_, rfl, by simpa using hown', haft⟩

theorem clone84 (A : Option Addr) (l : List Int) (c : Nat) (w : World) (hA : Ints w A l) :
    Calls Tryz.prog 107 #[.slice A l.length c] w (OwnInts w l) := by
  have hl := hA.len
  have qT : ∀ (w : World) (a : Option Addr) (n c n' c' : Nat), (binOp .eql 24 (.slice a n c) (.slice none n' c')).run Tryz.prog w = .ok (.bool a.isNone) w := fun w a n c n' c' => Lib.run_eql_slice_nil w _ _ a n c n' c' Tryz.underlying24
  cases A with
  | none =>
    have h0 := ints_nil hA rfl
    have : l = [] := List.eq_nil_of_length_eq_zero h0
    subst this
    go_enter Tryz.func107, Tryz.ntmps107
    go_wp2
    go_ret
    exact ⟨_, rfl, World.ownsRow_nil w _ 3 1, Aft.refl _⟩
  | some ad =>
    have hN := Lib.hid (ints_src hA)
    go_enter Tryz.func107, Tryz.ntmps107
    go_wp2_with (at_builtin; refine wpList_app ty24 rfl _ _ rfl (Aft.alloc w _) rfl (World.ownsRow_made w #[] 0 (Nat.le_refl _) (by unfold maxLen; omega) rfl) rfl (by simp) (fun h => by cases h) (ints_src (hA.aft (Aft.alloc w _))) (ints_one l) (by omega) (by decide) ?_; intro v' w1 hown' hgrow haft)
    go_ret
    exact ⟨_, rfl, by simpa using hown', haft⟩

def eqB {α : Type} [DecidableEq α] (a b : List α) : Bool := decide (a = b)

theorem eq_of_steps {α : Type} [DecidableEq α] (a b : List α) (h : ∀ i, (ha : i < a.length) → (hb : i < b.length) → a[i] = b[i]) (hl : a.length = b.length) : a = b :=
  List.ext_getElem hl h

set_option maxHeartbeats 1000000 in
theorem kitEqual_int (A A' : Option Addr) (l l' : List Int) (c c' : Nat) (w : World) (hA : Ints w A l) (hA' : Ints w A' l') :
    Calls Tryz.prog 27 #[.slice A l.length c, .slice A' l'.length c'] w fun e w' => e = .returned (.bool (eqB l l')) ∧ Aft w w' := by
  have hl := hA.len
  have hl' := hA'.len
  go_enter Tryz.func27, Tryz.ntmps27
  go_wp2
  go_loopw [8] (fun i wr => ∃ k : Nat, i = .int .i64 k ∧ k ≤ l.length ∧ (k ≤ l'.length) ∧ (∀ j, (h : j < l.length) → (h' : j < l'.length) → j < k → l[j] = l'[j]) ∧ ∃ n, wr = w.drewN n) (fun i _ => l.length - (intOf i).toNat)
  case atStart => exact ⟨0, rfl, by omega, by omega, fun j _ _ h => by omega, 0, rfl⟩
  case round =>
    obtain ⟨k, rfl, hk, hk', hlt, n, rfl⟩ := hrel
    have HL := Lib.hid hlt
    clear hlt
    by_cases hkl : k < l.length
    · obtain ⟨b, o, rfl, hb, hc⟩ := hA.at hkl
      have h1 : w.cell? ⟨b, o + k, none⟩ = some (.int .i64 l[k]) := hc k hkl
      clear hc
      by_cases hkl' : k < l'.length
      · obtain ⟨b', o', rfl, hb', hc'⟩ := hA'.at hkl'
        have h1' : w.cell? ⟨b', o' + k, none⟩ = some (.int .i64 l'[k]) := hc' k hkl'
        clear hc'
        have d1 : decide ((l'.length : Int) ≤ k) = false := by simp; omega
        go_wp2
        go_quiet (fail)
        clear d1
        go_wp2
        · have h3 : ¬ l[k] = l'[k] := by rcases (by assumption : l'.length ≤ k ∨ (l[k] != l'[k]) = true) with h | h; omega; simpa using h
          go_ret
          exact ⟨ret_bool (by unfold eqB; rw [eq_comm, decide_eq_false_iff_not]; rintro rfl; exact h3 rfl), (Aft.drewN _ _).then_drewN _⟩
        · have h3 : l[k] = l'[k] := by simp_all
          have H3 := Lib.hid h3
          clear h3
          go_roundw
          case rel =>
            refine ⟨k + 1, by go_num, by omega, by omega, fun j hj hj' hjk => ?_, _, rfl⟩
            by_cases e : j = k
            · subst e; exact H3.out
            · exact HL.out j hj hj' (by omega)
          case measure => simp [intOf]; omega
      · have d1 : decide ((l'.length : Int) ≤ k) = true := by simp; omega
        go_wp2
        go_quiet (fail)
        clear d1
        go_wp2
        go_ret
        exact ⟨ret_bool (by unfold eqB; rw [eq_comm, decide_eq_false_iff_not]; rintro rfl; omega), Aft.drewN _ _⟩
    · go_wp2
      go_ret
      refine ⟨ret_bool ?_, Aft.drewN _ _⟩
      unfold eqB
      by_cases e : l.length = l'.length
      · rw [beq_iff_eq.2 (by omega), decide_eq_true]; exact eq_of_steps l l' (fun i ha hb => HL.out i ha hb (by omega)) e
      · rw [beq_eq_false_iff_ne.2 (by omega), decide_eq_false]; intro h; exact e (by rw [h])
end Go.Proofs
end

section
/- Walks: slices turned round in place, the least of a slice, elements deleted in place. -/
namespace Go.Proofs
open Go.RowKit

/-- What slices.Reverse has done when k rounds are over. -/
def RevAt (l m : List Int) (k : Nat) : Prop := m.length = l.length ∧ ∀ t, (h : t < m.length) → (h' : t < l.length) → m[t] = if t < k ∨ l.length < t + 1 + k then l[l.length - 1 - t] else l[t]

theorem RevAt.step {l m : List Int} {k : Nat} (h : RevAt l m k) (hk : 2 * k + 1 < l.length) (h1 : l.length - 1 - k < m.length) (h2 : k < m.length) :
    RevAt l ((m.set k m[l.length - 1 - k]).set (l.length - 1 - k) m[k]) (k + 1) := by
  obtain ⟨hm, ha⟩ := h
  refine ⟨by simp [hm], fun t ht ht' => ?_⟩
  have hb1 := ha (l.length - 1 - k) h1 (by omega)
  have hb2 := ha k h2 (by omega)
  rw [if_neg (by omega)] at hb1 hb2
  rw [List.getElem_set]
  by_cases e1 : l.length - 1 - k = t
  · rw [if_pos e1, hb2, if_pos (by omega)]
    congr 1; omega
  · rw [if_neg e1, List.getElem_set]
    by_cases e2 : k = t
    · rw [if_pos e2, hb1, if_pos (by omega)]
      subst e2; rfl
    · rw [if_neg e2, ha t (by omega) ht']
      by_cases e3 : t < k ∨ l.length < t + 1 + k
      · rw [if_pos e3, if_pos (by omega)]
      · rw [if_neg e3, if_neg (by omega)]

theorem RevAt.done {l m : List Int} {k : Nat} (h : RevAt l m k) (hk : l.length ≤ 2 * k + 1) : m = l.reverse := by
  obtain ⟨hm, ha⟩ := h
  refine List.ext_getElem (by simp [hm]) fun t h1 h2 => ?_
  have ht : t < l.length := by omega
  rw [ha t h1 ht, List.getElem_reverse]
  by_cases e : t < k ∨ l.length < t + 1 + k
  · rw [if_pos e]
  · rw [if_neg e]
    congr 1; omega

set_option maxHeartbeats 1000000 in
theorem reverse_blk (g : Nat) (l : List Int) (c : Nat) (cs : Array Value) (w : World) (hl : l.length ≤ 17592186043904) (hb : Blk w g 3 cs) (hc : Nums cs l) :
    Calls Tryz.prog 100 #[.slice (some ⟨g, 0, none⟩) l.length c] w fun e w' => e = .returned (.tuple #[]) ∧ w.grownBy w' (some g) ∧ ∃ cs', cs'.size = cs.size ∧ Blk w' g 3 cs' ∧ Nums cs' l.reverse := by
  go_enter Tryz.func100, Tryz.ntmps100
  go_wp2
  go_loopw [2, 3] (fun i j wr => ∃ k : Nat, i = .int .i64 k ∧ j = .int .i64 ((l.length : Int) - 1 - k) ∧ 2 * k ≤ l.length + 1 ∧ w.grownBy wr (some g) ∧ ∃ m : List Int, ∃ cs', cs'.size = cs.size ∧ Blk wr g 3 cs' ∧ Nums cs' m ∧ RevAt l m k)
    (fun i _ _ => l.length - (intOf i).toNat)
  case atStart => exact ⟨0, rfl, by simp, by omega, only_refl _ _, l, cs, rfl, hb, hc, rfl, fun t ht ht' => by rw [if_neg (by omega)]⟩
  case round =>
    obtain ⟨k, rfl, rfl, hk, hg, m, cs', hs, hb', hm1, hm2⟩ := hrel
    have hm := hm2.1
    have HM := Lib.hid hm
    have hmle : m.length ≤ l.length := by omega
    have hmge : l.length ≤ m.length := by omega
    clear hm
    by_cases hlt : (k : Int) < (l.length : Int) - 1 - k
    · have c1 : wr.cell? ⟨g, k, none⟩ = some (.int .i64 (m[k]'(by omega))) := by rw [hb'.cell]; exact hm1.at (by omega)
      have c2 : wr.cell? ⟨g, l.length - 1 - k, none⟩ = some (.int .i64 (m[l.length - 1 - k]'(by omega))) := by rw [hb'.cell]; exact hm1.at (by omega)
      have f1 := hb'.frozen k
      have f2 := hb'.frozen (l.length - 1 - k)
      have e1 : ((l.length : Int) - 1 - k).toNat = l.length - 1 - k := by omega
      go_wp2
      go_region
      clear c1 c2 f1 f2 e1
      all_goals go_wp2
      all_goals
        go_roundw
        case rel =>
          exact ⟨k + 1, by go_num, by go_num, by omega, only_drew (only_setCell (only_setCell hg (.inl rfl) _) (.inl rfl) _), _, _, by simp [hs], ((hb'.store _ _).store _ _).drew, (hm1.set _ _).set _ _, hm2.step (by omega) (by omega) (by omega)⟩
        case measure => simp [intOf]; omega
    · have hlt' : ¬ ((k : Int) < (l.length : Int) - 1 - k) := hlt
      go_wp2
      go_end0
      exact ⟨rfl, hg, cs', hs, hb', hm1.of_eq (hm2.done (by omega))⟩

/-- slices.Reverse at a slice of the call's own. -/
theorem reverse_own {w : World} {base : Nat} {v : Value} {l : List Int} (h : w.ownsRow base 3 1 v l.length (l.map (Value.int .i64))) (hl : l.length ≤ 17592186043904) :
    Calls Tryz.prog 100 #[v] w fun e w' => e = .returned (.tuple #[]) ∧ w.grownBy w' v.ownBlock ∧ w'.ownsRow base 3 1 v l.length (l.reverse.map (Value.int .i64)) := by
  rcases own_blk h with ⟨rfl, rfl⟩ | ⟨g, c, cs, rfl, hg, hb, hn, hs, hlc, hm⟩
  · go_enter Tryz.func100, Tryz.ntmps100
    go_wp2
    refine wp_loop_rounds 1 ?_
    rw [rounds_succ]
    go_wp2
    go_end0
    exact ⟨rfl, only_refl _ _, h⟩
  · refine (reverse_blk g l c cs w hl hb hn).mono fun e w' ⟨he, hgr, cs', hs', hb', hn'⟩ => ⟨he, hgr, ?_⟩
    have := blk_own (base := base) (c := c) hg hb' hn' (by omega) (by simpa using hlc) hm
    simpa using this

def minTo (l : List Int) (k : Nat) : Int := (l.take k).foldl min (l.getD 0 0)

theorem min_any (A : Option Addr) (l : List Int) (c : Nat) (w : World) (hA : Ints w A l) (h0 : 0 < l.length) :
    Calls Tryz.prog 105 #[.slice A l.length c] w fun e w' => e = .returned (.int .i64 (minTo l l.length)) ∧ w = w' := by
  have hl := hA.len
  obtain ⟨b, o, rfl, hbw, hc⟩ := hA.at h0
  have hc0 : w.cell? ⟨b, o, none⟩ = some (.int .i64 (l[0])) := by simpa using hc 0 h0
  have HC := Lib.hid hc
  clear hc
  have hn0 : ¬ ((l.length : Int) < 1) := by omega
  go_enter Tryz.func105, Tryz.ntmps105
  go_wp2
  go_loop [3, 4] (fun m i => ∃ k : Nat, i = .int .i64 k ∧ 1 ≤ k ∧ k ≤ l.length ∧ m = .int .i64 (minTo l k)) (fun _ i => l.length - (intOf i).toNat)
  case atStart => exact ⟨1, rfl, by omega, by omega, by cases l with | nil => simp at h0 | cons a r => simp [minTo]⟩
  case round =>
    obtain ⟨k, rfl, h1, hk, rfl⟩ := hrel
    by_cases hlt : k < l.length
    · have hck := HC.out k hlt
      have e1 : minTo l (k + 1) = min (minTo l k) l[k] := by unfold minTo; rw [List.take_succ_eq_append_getElem hlt, List.foldl_append]; rfl
      have E1 := Lib.hid e1
      clear e1
      go_wp2
      go_round
      case rel => exact ⟨k + 1, by go_num, by omega, by omega, by rw [E1.out]; congr 1; split <;> omega⟩
      case measure => simp [intOf]; omega
    · go_wp2
      go_ret
      exact ⟨ret_int (by congr 1; omega), rfl⟩
end Go.Proofs
end
