/- Own texts, merged: Lim. -/
import Derived.WalkKit
import Derived.WalkSpells
import Derived.WalkLawsBesides
import Derived.WalkSmall
import Derived.BigQuiet
import Derived.Deep.QuietTactic
import Derived.Deep.Draws
import Derived.Lib.Hide
import Derived.Lib.SliceRun
import Derived.Deep.OwnRows
import Derived.OneCell
set_option linter.unusedSimpArgs false
set_option linter.unusedVariables false
set_option linter.unnecessarySimpa false
section
/- Words for memory that the walks of this seat use: a later world, a slice that reads as a list. -/
namespace Go
open Go.RowKit

/-- A world in which all that was there is as it was. -/
structure Later (w : World) where
  to : World
  ok : Below w.heap.size w to

def World.lat (w : World) (u : Later w) : World := u.to

theorem World.lat_below (w : World) (u : Later w) : Below w.heap.size w (w.lat u) := u.ok

theorem World.lat_of {w w' : World} (h : Below w.heap.size w w') : ∃ u : Later w, w' = w.lat u := ⟨⟨w', h⟩, rfl⟩

theorem World.lat_size (w : World) (u : Later w) : w.heap.size ≤ (w.lat u).heap.size := u.ok.size

section
variable (w : World) (u : Later w)
@[go_sem] theorem World.lat_cell (n i : Nat) (h : n < w.heap.size) : (w.lat u).cell? ⟨n, i, none⟩ = w.cell? ⟨n, i, none⟩ := (w.lat_below u).cell (p := ⟨n, i, none⟩) h
@[go_sem] theorem World.lat_frozen (n i : Nat) (h : n < w.heap.size) : (w.lat u).frozen? ⟨n, i, none⟩ = w.frozen? ⟨n, i, none⟩ := (w.lat_below u).frozen (p := ⟨n, i, none⟩) h
@[go_sem] theorem World.lat_heap (n : Nat) (h : n < w.heap.size) : (w.lat u).heap[n]? = w.heap[n]? := (w.lat_below u).block n h
@[go_sem] theorem World.lat_lt (n : Nat) (h : n < w.heap.size) : (n < (w.lat u).heap.size) = True := eq_true (Nat.lt_of_lt_of_le h (w.lat_size u))
end

theorem lt_succ_true (n m : Nat) (h : n < m) : (n < m + 1) = True := eq_true (by omega)
attribute [go_sem] lt_succ_true

def Later.refl (w : World) : Later w := ⟨w, Below.refl _ _⟩
def Later.trans {w : World} (u : Later w) (v : Later (w.lat u)) : Later w := ⟨(w.lat u).lat v, u.ok.trans (v.ok.mono u.ok.size)⟩
@[go_sem] theorem World.lat_lat (w : World) (u : Later w) (v : Later (w.lat u)) : (w.lat u).lat v = w.lat (u.trans v) := rfl
def Later.drew {w : World} (u : Later w) : Later w := ⟨(w.lat u).drew, u.ok.drew⟩
@[go_sem] theorem World.lat_drew (w : World) (u : Later w) : (w.lat u).drew = w.lat u.drew := rfl
def Later.drewN {w : World} (u : Later w) (n : Nat) : Later w := ⟨(w.lat u).drewN n, below_drewN u.ok n⟩
@[go_sem] theorem World.lat_drewN (w : World) (u : Later w) (n : Nat) : (w.lat u).drewN n = w.lat (u.drewN n) := rfl
def Later.ofDrewN (w : World) (n : Nat) : Later w := ⟨w.drewN n, below_drewN (Below.refl _ _) n⟩

/-- What a call that writes nothing that was there leaves. -/
def Aft (w : World) (w' : World) : Prop := ∃ u : Later w, w' = w.lat u

theorem Aft.of_below {w w' : World} (h : Below w.heap.size w w') : Aft w w' := World.lat_of h
theorem Aft.below {w w' : World} (h : Aft w w') : Below w.heap.size w w' := by obtain ⟨u, rfl⟩ := h; exact w.lat_below u
theorem Aft.refl (w : World) : Aft w w := ⟨Later.refl w, rfl⟩
theorem Aft.trans {a b c : World} (h : Aft a b) (k : Aft b c) : Aft a c := by
  obtain ⟨u, rfl⟩ := h; obtain ⟨v, rfl⟩ := k; exact ⟨u.trans v, rfl⟩
theorem Aft.lat (w : World) (u : Later w) : Aft w (w.lat u) := ⟨u, rfl⟩
theorem Aft.drewN (w : World) (n : Nat) : Aft w (w.drewN n) := ⟨Later.ofDrewN w n, rfl⟩
theorem Aft.drew (w : World) : Aft w w.drew := ⟨Later.ofDrewN w 1, rfl⟩
theorem Aft.alloc (w : World) (o : Obj) : Aft w (w.alloc o) := .of_below ((Below.refl _ _).alloc (Nat.le_refl _) o)
theorem Aft.then_alloc {a w : World} (h : Aft a w) (o : Obj) : Aft a (w.alloc o) := h.trans (.alloc w o)
theorem Aft.then_drew {a w : World} (h : Aft a w) : Aft a w.drew := h.trans (.drew w)
theorem Aft.then_drewN {a w : World} (h : Aft a w) (n : Nat) : Aft a (w.drewN n) := h.trans (.drewN w n)
theorem Aft.then_lat {a w : World} (h : Aft a w) (u : Later w) : Aft a (w.lat u) := h.trans (.lat w u)
theorem Aft.then_setCell {a w : World} (h : Aft a w) {p : Addr} (hp : a.heap.size ≤ p.block) (v : Value) : Aft a (w.setCell p v) :=
  .of_below (h.below.setCell hp v)
theorem Aft.size {a w : World} (h : Aft a w) : a.heap.size ≤ w.heap.size := h.below.size

section rows
variable {α : Type}

/-- A slice of elements of 'sz' cells each reads as a list: 'R' says of an element what its cells hold. -/
def RowsP (w : World) (A : Option Addr) (sz : Nat) (R : World → α → List Value → Prop) (l : List α) : Prop :=
  l.length * sz ≤ 17592186043904 ∧ (l = [] ∨ ∃ b o, A = some ⟨b, o, none⟩ ∧ b < w.heap.size ∧
    ∀ i, (h : i < l.length) → ∃ vs : List Value, vs.length = sz ∧ R w l[i] vs ∧ ∀ j, (hj : j < vs.length) → w.cell? ⟨b, o + i * sz + j, none⟩ = some vs[j])

def MonoR (R : World → α → List Value → Prop) : Prop := ∀ w u x vs, R w x vs → R (w.lat u) x vs

theorem RowsP.lat {w : World} {A : Option Addr} {sz : Nat} {R : World → α → List Value → Prop} {l : List α} (hR : MonoR R) (h : RowsP w A sz R l) (u : Later w) : RowsP (w.lat u) A sz R l := by
  refine ⟨h.1, ?_⟩
  rcases h.2 with h | ⟨b, o, rfl, hb, hc⟩
  · exact .inl h
  · refine .inr ⟨b, o, rfl, Nat.lt_of_lt_of_le hb (w.lat_size u), fun i hi => ?_⟩
    obtain ⟨vs, h1, h2, h3⟩ := hc i hi
    exact ⟨vs, h1, hR _ _ _ _ h2, fun j hj => by rw [World.lat_cell _ _ _ _ hb]; exact h3 j hj⟩

theorem RowsP.aft {w w' : World} {A : Option Addr} {sz : Nat} {R : World → α → List Value → Prop} {l : List α} (hR : MonoR R) (h : RowsP w A sz R l) (hl : Aft w w') : RowsP w' A sz R l := by
  obtain ⟨u, rfl⟩ := hl; exact h.lat hR u

theorem RowsP.nil {w : World} {A : Option Addr} {sz : Nat} {R : World → α → List Value → Prop} : RowsP w A sz R [] := ⟨by simp, .inl rfl⟩

theorem RowsP.at {w : World} {A : Option Addr} {sz : Nat} {R : World → α → List Value → Prop} {l : List α} (h : RowsP w A sz R l) {k : Nat} (hk : k < l.length) :
    ∃ b o, A = some ⟨b, o, none⟩ ∧ b < w.heap.size ∧ ∀ i, (h : i < l.length) → ∃ vs : List Value, vs.length = sz ∧ R w l[i] vs ∧ ∀ j, (hj : j < vs.length) → w.cell? ⟨b, o + i * sz + j, none⟩ = some vs[j] := by
  rcases h.2 with rfl | h
  · simp at hk
  · exact h
theorem RowsP.len {w : World} {A : Option Addr} {sz : Nat} {R : World → α → List Value → Prop} {l : List α} (h : RowsP w A sz R l) (hs : 0 < sz) : l.length ≤ 17592186043904 :=
  Nat.le_trans (Nat.le_mul_of_pos_right _ hs) h.1
end rows

def IntR : World → Int → List Value → Prop := fun _ n vs => vs = [.int .i64 n]
theorem IntR.mono : MonoR IntR := fun _ _ _ _ h => h
def Ints (w : World) (A : Option Addr) (l : List Int) : Prop := RowsP w A 1 IntR l
theorem Ints.lat {w : World} {A : Option Addr} {l : List Int} (h : Ints w A l) (u : Later w) : Ints (w.lat u) A l := RowsP.lat IntR.mono h u
theorem Ints.aft {w w' : World} {A : Option Addr} {l : List Int} (h : Ints w A l) (hl : Aft w w') : Ints w' A l := RowsP.aft IntR.mono h hl
theorem Ints.len {w : World} {A : Option Addr} {l : List Int} (h : Ints w A l) : l.length ≤ 17592186043904 := RowsP.len h (by decide)
/-- Where there is an element: the address, and the cells. -/
theorem Ints.at {w : World} {A : Option Addr} {l : List Int} (h : Ints w A l) {k : Nat} (hk : k < l.length) :
    ∃ b o, A = some ⟨b, o, none⟩ ∧ b < w.heap.size ∧ ∀ i, (h : i < l.length) → w.cell? ⟨b, o + i, none⟩ = some (.int .i64 l[i]) := by
  obtain ⟨b, o, rfl, hb, hc⟩ := RowsP.at h hk
  refine ⟨b, o, rfl, hb, fun i hi => ?_⟩
  obtain ⟨vs, h1, rfl, h3⟩ := hc i hi
  simpa using h3 0 (by simp)

theorem ret_int {k : IntKind} {a b : Int} (h : a = b) : Ending.returned (.int k a) = .returned (.int k b) := by rw [h]
theorem ret_bool {a b : Bool} (h : a = b) : Ending.returned (.bool a) = .returned (.bool b) := by rw [h]

/-- A function value that answers a bool of each thing, and writes nothing that was there. -/
def Asks (P : Program) (K : FuncId) (cap : List Value) (w : World) (arg : Value) (b : Bool) : Prop :=
  ∀ u : Later w, Calls P K (arg :: cap).toArray (w.lat u) fun e w' => e = .returned (.bool b) ∧ Aft (w.lat u) w'

theorem Asks.lat {P : Program} {K : FuncId} {cap : List Value} {w : World} {arg : Value} {b : Bool} (h : Asks P K cap w arg b) (u : Later w) : Asks P K cap (w.lat u) arg b :=
  fun v => h (u.trans v)

theorem Asks.at {P : Program} {K : FuncId} {cap : List Value} {w : World} {arg : Value} {b : Bool} (h : Asks P K cap w arg b) {W : World} (hW : Aft w W) :
    Calls P K (arg :: cap).toArray W fun e w' => e = .returned (.bool b) ∧ Aft W w' := by
  obtain ⟨u, rfl⟩ := hW; exact h u


theorem any_take_succ {α : Type} (l : List α) (p : α → Bool) (k : Nat) (h : k < l.length) : (l.take (k + 1)).any p = ((l.take k).any p || p l[k]) := by
  rw [List.take_succ_eq_append_getElem h, List.any_append, List.any_cons, List.any_nil, Bool.or_false]
theorem any_of_get {α : Type} (l : List α) (p : α → Bool) (k : Nat) (h : k < l.length) (hp : p l[k] = true) : l.any p = true := List.any_eq_true.2 ⟨_, List.getElem_mem h, hp⟩

/-- What the model's table says of a slice type and of its element's. -/
structure SliceTy (P : Program) (t e : TypeId) (size bytes : Nat) : Prop where
  ht : P.underlying t = some (.slice e)
  hi : ∃ i z, P.info? e = some i ∧ i.zero = some z ∧ i.size = size ∧ i.bytes = bytes ∧ z.cells.size = size
  hsz : 0 < size

theorem SliceTy.mk' {P : Program} {t e : TypeId} {z : Value} {size bytes : Nat} (ht : P.underlying t = some (.slice e))
    (h : (P.info? e).map (fun i => (i.zero, i.size, i.bytes)) = some (some z, size, bytes)) (hz : z.cells.size = size) (hs : 0 < size) : SliceTy P t e size bytes := by
  obtain ⟨i, h1, h2, h3, h4⟩ := info_parts h
  exact ⟨ht, ⟨i, z, h1, h2, h3, h4, hz⟩, hs⟩

theorem own_ge {w : World} {base : Nat} {e : TypeId} {size : Nat} {v : Value} {n : Nat} {xs : List Value} (h : w.ownsRow base e size v n xs) : ∀ k, v.ownBlock = some k → base ≤ k := fun k hk => (h.lt k hk).1

theorem Aft.grown {a w w' : World} {row : Option Nat} (h : Aft a w) (hg : w.grownBy w' row) (hr : ∀ k, row = some k → a.heap.size ≤ k) : Aft a w' :=
  .of_below (h.below.grown hg h.size hr)

theorem own_lat {w : World} {base : Nat} {e : TypeId} {size : Nat} {v : Value} {n : Nat} {xs : List Value} (h : w.ownsRow base e size v n xs) (u : Later w) : (w.lat u).ownsRow base e size v n xs :=
  h.kept (row := none) ⟨u.ok.os, u.ok.tape, u.ok.output, u.ok.size, fun k hk _ => u.ok.block k hk⟩ (by cases v.ownBlock <;> simp)
theorem own_aft {w w' : World} {base : Nat} {e : TypeId} {size : Nat} {v : Value} {n : Nat} {xs : List Value} (h : w.ownsRow base e size v n xs) (ha : Aft w w') : w'.ownsRow base e size v n xs := by
  obtain ⟨u, rfl⟩ := ha; exact own_lat h u


theorem run_app_none {P : Program} {w : World} {base : Nat} {t ty e : TypeId} {i : TypeInfo} {size : Nat} (ht : P.underlying t = some (.slice e)) (hi : P.info? e = some i)
    {v : Value} {n : Nat} {xs : List Value} (hown : w.ownsRow base e size v n xs) (c : Nat) : (Builtin.append_ #[t, t] ty #[v, .slice none 0 c]).run P w = .ok v w := by
  rcases hown.2 with ⟨rfl, rfl⟩ | ⟨g, cap, cur, rfl, _, _, hnc, _⟩
  · simp [Builtin.append_, run_underlying ht, sizeOf, typeInfo, hi, Builtin.lenOf, Builtin.firstCells]
  · simp [Builtin.append_, run_underlying ht, sizeOf, typeInfo, hi, Builtin.lenOf, Builtin.firstCells, hnc, storeCells]

/-- append(v, x...) to a slice of the call's own, from whatever source. -/
theorem wpList_app {P : Program} {w : World} {ops : Array Oper} {rest : List Oper} {o : Oper} {a : Act} {Q : Exit → Act → World → Prop} {t e : TypeId} {size bytes : Nat} (hT : SliceTy P t e size bytes)
    (hgd : o.guard = none) (s x : Operand) (ho : o.op = .call { callee := .builtin .append, args := #[s, x], argTypes := #[t, t] })
    {w0 : World} (haft : Aft w0 w) {v : Value} {n : Nat} {xs : List Value} (hs : a.eval s = v) (hown : w.ownsRow w0.heap.size e size v n xs)
    {A : Option Addr} {m c : Nat} {news : List Value} (hx : a.eval x = .slice A m c) (hl : news.length = m * size) (hA : A = none → m = 0)
    (hnews : ∀ ad, A = some ad → ∀ j u, news[j]? = some u → w.cell? (ad.add j) = some u) (h1 : ∀ u ∈ news, u.oneCell' = true)
    (hbytes : (n + m) * bytes ≤ 140737488355328) (hpos : 0 < bytes)
    (h : ∀ v' w', w'.ownsRow w0.heap.size e size v' (n + m) (xs ++ news) → w.grownBy w' v.ownBlock → Aft w0 w' → wpList P ops Q rest (a.put o.dst v') w') : wpList P ops Q (o :: rest) a w := by
  obtain ⟨ht, ⟨i, z, hi, hz, hsize, hby, hzs⟩, hsz⟩ := hT
  have h63 : n + m ≤ maxLen := by
    have : (n + m) * 1 ≤ (n + m) * bytes := Nat.mul_le_mul_left _ hpos
    unfold maxLen; omega
  cases A with
  | some ad =>
    exact wpList_append_own w hgd s x t ho w0.heap.size e i z size bytes ht hi hz hsize hby hzs hsz v n xs hs hown ad m c news hx hl (hnews ad rfl) h1 h63 hbytes haft.size
      fun v' w' h2 h3 _ => h v' w' h2 h3 (haft.grown h3 (own_ge hown))
  | none =>
    have hm := hA rfl
    subst hm
    have hn : news = [] := List.eq_nil_of_length_eq_zero (by simpa using hl)
    subst hn
    refine wpList_plain hgd fun K hK => ?_
    have hr := run_app_none (ty := o.type) ht hi hown c
    unfold Oper.wp execOp
    simp only [ho, resolve, invoke, builtin, Sem.run_bind, Sem.run_pure, Result.andThen_ok, List.map_toArray, List.map_cons, List.map_nil, hs, hx, hr]
    exact hK _ _ (h v w (by simpa using hown) (World.grownBy.refl w _) haft)

/-- What is owned reads as a list. -/
theorem own_ints {w : World} {base : Nat} {v : Value} {l : List Int} (h : w.ownsRow base 3 1 v l.length (l.map (Value.int .i64))) (hl : l.length ≤ 17592186043904) :
    ∃ A c, v = .slice A l.length c ∧ l.length ≤ c ∧ Ints w A l := by
  rcases h.2 with ⟨rfl, h0⟩ | ⟨g, cap, cur, rfl, hg, hh, hc, hm, hs, ht⟩
  · have : l = [] := List.eq_nil_of_length_eq_zero h0
    subst this
    exact ⟨none, 0, rfl, Nat.le_refl _, by simp, .inl rfl⟩
  · refine ⟨_, cap, rfl, hc, by omega, .inr ⟨g, 0, rfl, (Array.getElem?_eq_some_iff.1 hh).1, fun i hi => ⟨_, by simp, rfl, fun j hj => ?_⟩⟩⟩
    have := h.cells (g := g) rfl i (.int .i64 l[i]) (by simp [hi])
    rw [Addr.add_lit] at this
    simp at hj
    subst hj
    simpa using this

/-- A block of cells that is known whole. -/
def Blk (w : World) (g : Nat) (t : TypeId) (cs : Array Value) : Prop := w.heap[g]? = some (.cells cs t (0, 0))
section
variable {w : World} {g : Nat} {t : TypeId} {cs : Array Value}
theorem Blk.cell (h : Blk w g t cs) (i : Nat) : w.cell? ⟨g, i, none⟩ = cs[i]? := cell_of_row w g i cs t (0, 0) h
theorem Blk.frozen (h : Blk w g t cs) (i : Nat) : w.frozen? ⟨g, i, none⟩ = false := by unfold Blk at h; simp [World.frozen?, h]
theorem Blk.lt (h : Blk w g t cs) : g < w.heap.size := (Array.getElem?_eq_some_iff.1 h).1
theorem Blk.store (h : Blk w g t cs) (i : Nat) (v : Value) : Blk (w.setCell ⟨g, i, none⟩ v) g t (cs.setIfInBounds i v) := by
  unfold Blk at h ⊢; simp [World.setCell, Array.getElem?_modify, h]
theorem Blk.new (w : World) (t : TypeId) (cs : Array Value) : Blk (w.alloc (.cells cs t)) w.heap.size t cs := heap_alloc_new w _
theorem Blk.lat (h : Blk w g t cs) (u : Later w) : Blk (w.lat u) g t cs := (World.lat_heap w u g h.lt).trans h
theorem Blk.aft {w' : World} (h : Blk w g t cs) (ha : Aft w w') : Blk w' g t cs := by obtain ⟨u, rfl⟩ := ha; exact h.lat u
theorem Blk.drew (h : Blk w g t cs) : Blk w.drew g t cs := h
theorem Blk.drewN (h : Blk w g t cs) (n : Nat) : Blk (w.drewN n) g t cs := h
theorem Blk.alloc (h : Blk w g t cs) (o : Obj) : Blk (w.alloc o) g t cs := (Below.heap_alloc w o g h.lt).trans h
theorem Blk.far (h : Blk w g t cs) {p : Addr} (hp : g ≠ p.block) (u : Value) : Blk (w.setCell p u) g t cs := (Below.heap_setCell w p u g hp).trans h
theorem Blk.grown {w' : World} {row : Option Nat} (h : Blk w g t cs) (hb : w.grownBy w' row) (hg : some g ≠ row) : Blk w' g t cs := (hb.block g h.lt hg).trans h
end

/-- A world in which one block may have turned, and new ones lie. -/
theorem only_refl (w : World) (row : Option Nat) : w.grownBy w row := World.grownBy.refl w row
theorem only_drew {a w : World} {row : Option Nat} (h : a.grownBy w row) : a.grownBy w.drew row := ⟨h.os, h.tape, h.output, h.size, h.block⟩
theorem only_aft {a w w' : World} {row : Option Nat} (h : a.grownBy w row) (ha : Aft w w') : a.grownBy w' row := by
  have hb := ha.below
  exact ⟨hb.os.trans h.os, hb.tape.trans h.tape, hb.output.trans h.output, Nat.le_trans h.size hb.size, fun i hi hne => (hb.block i (Nat.lt_of_lt_of_le hi h.size)).trans (h.block i hi hne)⟩
theorem only_setCell {a w : World} {g : Nat} (h : a.grownBy w (some g)) {p : Addr} (hp : p.block = g ∨ a.heap.size ≤ p.block) (u : Value) : a.grownBy (w.setCell p u) (some g) :=
  ⟨h.os, h.tape, h.output, by simpa [World.setCell] using h.size, fun i hi hne => (Below.heap_setCell w p u i (by
    rintro rfl
    rcases hp with hp | hp
    · exact hne (by rw [hp])
    · omega)).trans (h.block i hi hne)⟩
theorem only_of_aft {a w : World} (h : Aft a w) (row : Option Nat) : a.grownBy w row := only_aft (only_refl a row) h

/-- Cells that begin with these numbers. -/
def Nums (cs : Array Value) (l : List Int) : Prop := l.length ≤ cs.size ∧ ∀ t, (h : t < l.length) → cs[t]? = some (.int .i64 l[t])
theorem Nums.set {cs : Array Value} {l : List Int} (h : Nums cs l) (i : Nat) (x : Int) : Nums (cs.setIfInBounds i (.int .i64 x)) (l.set i x) := by
  refine ⟨by simpa using h.1, fun t ht => ?_⟩
  have ht' : t < l.length := by simpa using ht
  rw [Array.getElem?_setIfInBounds]
  have := h.1
  by_cases e : i = t
  · subst e; simp [show i < cs.size by omega]
  · rw [if_neg e, h.2 t ht', List.getElem_set_ne e]
theorem Nums.at {cs : Array Value} {l : List Int} (h : Nums cs l) {i : Nat} (hi : i < l.length) : cs[i]? = some (.int .i64 l[i]) := h.2 i hi
theorem Nums.of_eq {cs : Array Value} {l l' : List Int} (h : Nums cs l) (e : l = l') : Nums cs l' := e ▸ h

/-- An owned row, its block known whole. -/
theorem own_blk {w : World} {base : Nat} {v : Value} {l : List Int} (h : w.ownsRow base 3 1 v l.length (l.map (Value.int .i64))) :
    (v = .slice none 0 0 ∧ l = []) ∨ ∃ g c cs, v = .slice (some ⟨g, 0, none⟩) l.length c ∧ base ≤ g ∧ Blk w g 3 cs ∧ Nums cs l ∧ cs.size = c ∧ l.length ≤ c ∧ c ≤ maxLen := by
  rcases h.2 with ⟨rfl, h0⟩ | ⟨g, cap, cur, rfl, hg, hh, hc, hm, hs, ht⟩
  · exact .inl ⟨rfl, List.eq_nil_of_length_eq_zero h0⟩
  · refine .inr ⟨g, cap, cur, rfl, hg, hh, ⟨by omega, fun t ht' => ?_⟩, by omega, hc, hm⟩
    have := h.cells (g := g) rfl t (.int .i64 l[t]) (by simp [ht'])
    rw [Addr.add_lit] at this
    simpa [cell_of_row w g _ cur 3 (0, 0) hh] using this

end Go
end
