/- Own texts, merged: Xg Ve0. -/
import Derived.Test.YthegmhnaiabcpaaC19
set_option linter.unusedSimpArgs false
set_option linter.unusedVariables false
set_option linter.unnecessarySimpa false
section
/- Walks: a deck of numbers. -/
namespace Go.Proofs
open Go.RowKit

/-- A slice reads as bytes. -/
def Bytes (w : World) (A : Option Addr) (l : List Int) : Prop :=
  l.length ≤ 9223372036854775807 ∧ (l = [] ∨ ∃ b o, A = some ⟨b, o, none⟩ ∧ b < w.heap.size ∧ ∀ i, (h : i < l.length) → w.cell? ⟨b, o + i, none⟩ = some (.int .u8 l[i]) ∧ 0 ≤ l[i] ∧ l[i] ≤ 255)
theorem Bytes.aft {w w' : World} {A : Option Addr} {l : List Int} (h : Bytes w A l) (ha : Aft w w') : Bytes w' A l := by
  obtain ⟨u, rfl⟩ := ha
  refine ⟨h.1, h.2.imp id ?_⟩
  rintro ⟨b, o, e, hb, hc⟩
  exact ⟨b, o, e, Nat.lt_of_lt_of_le hb (World.lat_size _ _), fun i hi => ⟨(World.lat_cell _ _ _ _ hb).trans (hc i hi).1, (hc i hi).2⟩⟩

/-- A deck lies in block d, over bytes of an older world; no more than m numbers were dealt. -/
def DeckAt (w0 : World) (d : Nat) (A : Option Addr) (l : List Int) (c m : Nat) (w : World) : Prop :=
  Bytes w0 A l ∧ w0.heap.size ≤ d ∧ Aft w0 w ∧ ∃ q s : Nat, Blk w d 98 #[.slice A l.length c, .int .i64 q, .int .u32 s] ∧ q ≤ m ∧ s < 4294967296

section
variable {w0 : World} {d : Nat} {A : Option Addr} {l : List Int} {c m : Nat} {w w' : World}
theorem DeckAt.aft (h : DeckAt w0 d A l c m w) (ha : Aft w w') : DeckAt w0 d A l c m w' := by
  obtain ⟨h1, h2, h3, q, s, h4, h5, h6⟩ := h
  exact ⟨h1, h2, h3.trans ha, q, s, h4.aft ha, h5, h6⟩
theorem DeckAt.more (h : DeckAt w0 d A l c m w) {m' : Nat} (hm : m ≤ m') : DeckAt w0 d A l c m' w := by
  obtain ⟨h1, h2, h3, q, s, h4, h5, h6⟩ := h
  exact ⟨h1, h2, h3, q, s, h4, by omega, h6⟩
theorem DeckAt.lt (h : DeckAt w0 d A l c m w) : d < w.heap.size := by
  obtain ⟨h1, h2, h3, q, s, h4, h5, h6⟩ := h
  exact h4.lt
end

theorem DeckAt.put {w0 : World} {d : Nat} {A : Option Addr} {l : List Int} {c m : Nat} {w : World} {q s : Nat} (h : DeckAt w0 d A l c m w) (hb : Blk w d 98 #[.slice A l.length c, .int .i64 q, .int .u32 s]) (hq : q ≤ m)
    {x : Int} (h0 : 0 ≤ x) (h1 : x < 4294967296) :
    DeckAt w0 d A l c (m + 1) ((w.setCell ⟨d, 1, none⟩ (.int .i64 (q + 1))).setCell ⟨d, 2, none⟩ (.int .u32 x)).drew.drew := by
  obtain ⟨h1', h2, h3, -⟩ := h
  obtain ⟨y, rfl⟩ := Int.eq_ofNat_of_zero_le h0
  exact ⟨h1', h2, ((h3.then_setCell h2 _).then_setCell h2 _).then_drew.then_drew, q + 1, y, ((hb.store 1 _).store 2 _).drew.drew, by omega, by omega⟩

theorem only_put {w : World} {d : Nat} (u v : Value) : w.grownBy ((w.setCell ⟨d, 1, none⟩ u).setCell ⟨d, 2, none⟩ v).drew.drew (some d) := by
  have h1 : w.grownBy (w.setCell ⟨d, 1, none⟩ u) (some d) := only_setCell (only_refl w (some d)) (p := ⟨d, 1, none⟩) (.inl rfl) u
  have h2 : w.grownBy ((w.setCell ⟨d, 1, none⟩ u).setCell ⟨d, 2, none⟩ v) (some d) := only_setCell h1 (p := ⟨d, 2, none⟩) (.inl rfl) v
  exact only_drew (only_drew h2)

/-- What a deck's deal leaves. -/
def Dealt (w0 : World) (d : Nat) (A : Option Addr) (l : List Int) (c m : Nat) (n : Int) (w : World) (e : Ending) (w' : World) : Prop :=
  ∃ x : Int, e = .returned (.int .i64 x) ∧ 0 ≤ x ∧ (x < n ∨ n ≤ 1 ∧ x = 0) ∧ DeckAt w0 d A l c (m + 1) w' ∧ w.grownBy w' (some d)

set_option maxRecDepth 100000 in
set_option maxHeartbeats 2000000 in
theorem draw_any (w0 : World) (d : Nat) (A : Option Addr) (l : List Int) (c m : Nat) (n : Int) (w : World) (hd : DeckAt w0 d A l c m w) (hm : m ≤ 1000000) (hn : -1000000 ≤ n) (hn' : n ≤ 1000000) :
    Calls Try.prog 32 #[.pointer (some ⟨d, 0, none⟩), .int .i64 n] w (Dealt w0 d A l c m n w) := by
  have HD := Lib.hid hd
  obtain ⟨h1, h2, h3, q, s, h4, h5, h6⟩ := hd
  have hl := h1.1
  by_cases hn1 : n ≤ 1
  · go_enter Try.func32, Try.ntmps32
    go_wp2_with fail
    go_ret
    exact ⟨0, rfl, by omega, .inr ⟨hn1, rfl⟩, HD.out.more (by omega), only_refl _ _⟩
  · have k0 : w.cell? ⟨d, 0, none⟩ = some (.slice A l.length c) := h4.cell 0
    have k1 : w.cell? ⟨d, 1, none⟩ = some (.int .i64 q) := h4.cell 1
    have k2 : w.cell? ⟨d, 2, none⟩ = some (.int .u32 s) := h4.cell 2
    have hdn : decide (n ≤ 1) = false := by simpa using hn1
    by_cases hl0 : l.length = 0
    · have hb : ((l.length : Int) == 0) = true := by simp [hl0]
      have hb2 : (l.length == 0) = true := by simp [hl0]
      go_enter Try.func32, Try.ntmps32
      go_wp2_with fail
      go_ret
      exact ⟨0, rfl, by omega, .inl (by omega), HD.out.more (by omega), only_refl _ _⟩
    · have hb : ((l.length : Int) == 0) = false := by rw [beq_eq_false_iff_ne]; omega
      have hb2 : (l.length == 0) = false := by simpa using hl0
      have hlp : 0 < l.length := by omega
      have hql : q % l.length < l.length := Nat.mod_lt _ hlp
      obtain ⟨b, o, rfl, hbl, hcl⟩ := (h1.aft h3).2.resolve_left (fun e => by rw [e] at hl0; exact hl0 rfl)
      obtain ⟨cB, g2, g3⟩ := hcl (q % l.length) hql
      obtain ⟨y, hy⟩ := Int.eq_ofNat_of_zero_le g2
      have hy255 : y ≤ 255 := by rw [hy] at g3; omega
      rw [hy] at cB
      clear hcl hy g2 g3 h1 h2 h3
      have HB := Lib.hid h4
      have fz1 := h4.frozen 1
      have fz2 := h4.frozen 2
      clear h4
      obtain ⟨r, hr⟩ : ∃ r, q % l.length = r := ⟨_, rfl⟩
      have t1 : ((q : Int).tmod (l.length : Int)) = (r : Int) := by rw [← hr, Int.tmod_eq_emod_of_nonneg (by omega)]; simp
      rw [hr] at cB hql
      have i1 : (0 : Int) ≤ (r : Int) ∧ (r : Int) < (l.length : Int) := by omega
      obtain ⟨z, hz⟩ : ∃ z, ((q : Int).tdiv (l.length : Int)) = z := ⟨_, rfl⟩
      have cB1 : w.drew.cell? ⟨b, o + r, none⟩ = some (.int .u8 y) := cB
      have k01 : w.drew.cell? ⟨d, 0, none⟩ = some (.slice (some ⟨b, o, none⟩) l.length c) := k0
      have k11 : w.drew.cell? ⟨d, 1, none⟩ = some (.int .i64 q) := k1
      clear hr
      go_enter Try.func32, Try.ntmps32
      go_wp2_with fail
      refine wp_region_tail 17 (by kernel_rfl) (by kernel_rfl) ?_
      simp only [List.take_succ_cons, List.take_zero, List.drop_succ_cons, List.drop_zero]
      repeat (first | go_big_quiet_skip | (go_big_quiet_want; go_big_quiet_op; go_big_quiet_on))
      refine wpQuiet_nil ?_
      have k02 : w.drew.drew.cell? ⟨d, 0, none⟩ = some (.slice (some ⟨b, o, none⟩) l.length c) := k0
      have k12 : w.drew.drew.cell? ⟨d, 1, none⟩ = some (.int .i64 q) := k1
      have k22 : w.drew.drew.cell? ⟨d, 2, none⟩ = some (.int .u32 s) := k2
      have f12 : w.drew.drew.frozen? ⟨d, 1, none⟩ = false := fz1
      have f22 : w.drew.drew.frozen? ⟨d, 2, none⟩ = false := fz2
      clear k01 k11 cB cB1
      go_wp2_with fail
      refine wp_region_tail 11 (by kernel_rfl) (by kernel_rfl) ?_
      simp only [List.take_succ_cons, List.take_zero, List.drop_succ_cons, List.drop_zero]
      repeat (first | go_big_quiet_skip | (go_big_quiet_want; go_big_quiet_op; go_big_quiet_on))
      refine wpQuiet_nil ?_
      obtain ⟨u, hu, hu1, hu2⟩ : ∃ u : Int, wrap64 z % 4294967296 = u ∧ 0 ≤ u ∧ u < 4294967296 := ⟨_, rfl, by omega, by omega⟩
      rw [hu]
      clear hu hz t1 i1
      go_wp2_with fail
      · go_ret
        exact ⟨_, rfl, Int.emod_nonneg _ (by omega), .inl (Int.emod_lt_of_pos _ (by omega)), HD.out.put HB.out h5 (by omega) (by omega), only_put _ _⟩
      · go_ret
        exact ⟨_, rfl, Int.emod_nonneg _ (by omega), .inl (Int.emod_lt_of_pos _ (by omega)), HD.out.put HB.out h5 (by omega) (by omega), only_put _ _⟩
      · go_ret
        exact ⟨_, rfl, Int.emod_nonneg _ (by omega), .inl (Int.emod_lt_of_pos _ (by omega)), HD.out.put HB.out h5 (by omega) (by omega), only_put _ _⟩


/-- What a deck deals between two numbers. -/
def DealtB (w0 : World) (d : Nat) (A : Option Addr) (l : List Int) (c m : Nat) (a b : Int) (w : World) (e : Ending) (w' : World) : Prop :=
  ∃ x : Int, e = .returned (.int .i64 x) ∧ a ≤ x ∧ x ≤ b ∧ DeckAt w0 d A l c (m + 1) w' ∧ w.grownBy w' (some d)

set_option maxRecDepth 100000 in
set_option maxHeartbeats 2000000 in
theorem between_any (w0 : World) (d : Nat) (A : Option Addr) (l : List Int) (c m : Nat) (a b : Int) (w : World) (hd : DeckAt w0 d A l c m w) (hm : m ≤ 1000000) (ha : -1000 ≤ a) (hab : a ≤ b) (hb : b ≤ 1000) :
    Calls Try.prog 41 #[.pointer (some ⟨d, 0, none⟩), .int .i64 a, .int .i64 b] w (DealtB w0 d A l c m a b w) := by
  have HD := Lib.hid hd
  obtain ⟨n, hn⟩ : ∃ n : Int, b - a + 1 = n := ⟨_, rfl⟩
  have HC := Lib.hid (draw_any w0 d A l c m n w hd hm (by omega) (by omega))
  clear hd
  go_enter Try.func41, Try.ntmps41
  go_wp2_with ((have hq := HC.out); refine Calls.mono hq ?_; clear hq; rintro e w' ⟨x, rfl, h1, h2, h3, h4⟩)
  go_ret
  exact ⟨_, rfl, by omega, by omega, h3, h4⟩


set_option maxRecDepth 100000 in
set_option maxHeartbeats 2000000 in
theorem of_any (A : Option Addr) (l : List Int) (c : Nat) (w : World) (h : Bytes w A l) :
    Calls Try.prog 8 #[.slice A l.length c] w (fun e w' => e = .returned (.pointer (some ⟨w.heap.size, 0, none⟩)) ∧ DeckAt w w.heap.size A l c 0 w') := by
  have HD := Lib.hid h
  clear h
  go_enter Try.func8, Try.ntmps8
  go_wp2_with fail
  go_ret
  exact ⟨rfl, HD.out, Nat.le_refl _, .alloc _ _, 0, 9, Blk.new _ _ _, Nat.le_refl _, by decide⟩
end Go.Proofs
end

section
/- Words: a set under way, made of a deck. -/
namespace Go.Proofs
open Go.RowKit

theorem DeckAt.grown {w0 : World} {d : Nat} {A : Option Addr} {l : List Int} {c m : Nat} {w w' : World} {row : Option Nat} (h : DeckAt w0 d A l c m w) (hg : w.grownBy w' row) (hr : ∀ k, row = some k → d < k) : DeckAt w0 d A l c m w' := by
  obtain ⟨h1, h2, h3, q, s, h4, h5, h6⟩ := h
  exact ⟨h1, h2, h3.grown hg (fun k e => by have := hr k e; omega), q, s, h4.grown hg (fun e => by have := hr d e.symm; omega), h5, h6⟩
theorem DeckAt.dge {w0 : World} {d : Nat} {A : Option Addr} {l : List Int} {c m : Nat} {w : World} (h : DeckAt w0 d A l c m w) : w0.heap.size ≤ d := h.2.1
theorem DeckAt.aft0 {w0 : World} {d : Nat} {A : Option Addr} {l : List Int} {c m : Nat} {w : World} (h : DeckAt w0 d A l c m w) : Aft w0 w := h.2.2.1
def zInts (l : List Int) : List Value := l.map (Value.int .i64)
/-- append of one number: what comes back lies where it lay, or in a new block. -/
theorem app_int {W : World} {base : Nat} {v : Value} {l : List Int} (h : W.ownsRow base 3 1 v l.length (zInts l)) (hb : base ≤ W.heap.size) (y : Int) {b c : Nat} (hs : W.cell? ⟨b, 0, none⟩ = some (.int .i64 y)) (hl : l.length ≤ 1000) :
    ∃ v' W', (Builtin.append_ #[51, 51] 51 #[v, .slice (some ⟨b, 0, none⟩) 1 c]).run Try.prog W = .ok v' W' ∧ W'.ownsRow base 3 1 v' (l ++ [y]).length (zInts (l ++ [y])) ∧ W.grownBy W' v.ownBlock ∧ (v'.ownBlock = v.ownBlock ∨ v'.ownBlock = some W.heap.size) := by
  obtain ⟨i0, z0, hi0, hz0, hz1, hz2, hz3⟩ := ty24.hi
  obtain ⟨v', W', h1, h2, h3, -, h5⟩ := run_append_own_at (P := Try.prog) W base 51 51 3 i0 z0 1 8 ty24.ht hi0 hz0 hz1 hz2 hz3 (by decide) v l.length (zInts l) h ⟨b, 0, none⟩ 1 c [.int .i64 y] rfl (fun j u hj => by
    match j, hj with
    | 0, hj => cases hj; exact hs) (fun u hu => by simp at hu; subst hu; rfl) (by unfold maxLen; omega) (by omega) hb
  exact ⟨v', W', h1, by simpa [zInts] using h2, h3, h5⟩
/-- .. of one record. -/
theorem app_rec {α : Type} {enc : α → List Value} {t e : TypeId} {sz bytes : Nat} (hT : SliceTy Try.prog t e sz bytes) {W : World} {base : Nat} {v : Value} {l : List α} (h : W.ownsRow base e sz v l.length (l.flatMap enc)) (hb : base ≤ W.heap.size) (y : α) {b c : Nat} (hy : (enc y).length = sz) (hs : ∀ j u, (enc y)[j]? = some u → W.cell? ⟨b, j, none⟩ = some u) (h1 : ∀ u ∈ enc y, u.oneCell' = true)
    (hl : l.length ≤ 1000) (hbb : bytes ≤ 1000) (hpos : 0 < bytes) : ∃ v' W', (Builtin.append_ #[t, t] t #[v, .slice (some ⟨b, 0, none⟩) 1 c]).run Try.prog W = .ok v' W' ∧ W'.ownsRow base e sz v' (l ++ [y]).length ((l ++ [y]).flatMap enc) ∧ W.grownBy W' v.ownBlock ∧ (v'.ownBlock = v.ownBlock ∨ v'.ownBlock = some W.heap.size) := by
  obtain ⟨i0, z0, hi0, hz0, hz1, hz2, hz3⟩ := hT.hi
  obtain ⟨v', W', h1, h2, h3, -, h5⟩ := run_append_own_at (P := Try.prog) W base t t e i0 z0 sz bytes hT.ht hi0 hz0 hz1 hz2 hz3 hT.hsz v l.length (l.flatMap enc) h ⟨b, 0, none⟩ 1 c (enc y) (by rw [hy]; simp) (fun j u hj => by
    rw [Addr.add_lit]
    simpa using hs j u hj) h1 (by unfold maxLen; omega) (Nat.le_trans (Nat.mul_le_mul (show l.length + 1 ≤ 1001 by omega) hbb) (by decide)) hb
  exact ⟨v', W', h1, by simpa [List.flatMap_append] using h2, h3, h5⟩
/-- The sheets' true shifts under way. -/
structure MdX (w0 : World) (d : Nat) (A : Option Addr) (l : List Int) (c m : Nat) (w : World) (b8 n kx ky : Nat) (vx vy : Value) (X Y : List Int) (W : World) : Prop where
  deck : DeckAt w0 d A l c m W
  grown : w.grownBy W (some d)
  dlt : d < w.heap.size
  ge : w.heap.size < b8
  sz : b8 + 1 ≤ W.heap.size
  k6 : Blk W w.heap.size 25 #[.int .i64 0, .slice none 0 0]
  k8 : Blk W b8 25 #[.int .i64 (n : Nat), .slice none 0 0]
  ox : W.ownsRow (b8 + 1) 3 1 vx X.length (zInts X)
  oy : W.ownsRow (b8 + 1) 3 1 vy Y.length (zInts Y)
  ap : ∀ q, vx.ownBlock = some q → vy.ownBlock ≠ some q
  lx : X.length = kx
  ly : Y.length = ky
  bx : ∀ x ∈ X, -200 ≤ x ∧ x ≤ 200
  by_ : ∀ x ∈ Y, -200 ≤ x ∧ x ≤ 200
section
variable {w0 : World} {d : Nat} {A : Option Addr} {l : List Int} {c m : Nat} {w : World} {b8 n kx ky : Nat} {vx vy : Value} {X Y : List Int} {W W' : World}
theorem own_low {W W' : World} {base : Nat} {e : TypeId} {size : Nat} {v : Value} {n : Nat} {xs : List Value} {r : Nat} (h : W.ownsRow base e size v n xs) (hg : W.grownBy W' (some r)) (hr : r < base) : W'.ownsRow base e size v n xs := h.kept hg (.inr fun e => by have := own_ge h r e; omega)
theorem MdX.deal (h : MdX w0 d A l c m w b8 n kx ky vx vy X Y W) {m' : Nat} (hd : DeckAt w0 d A l c m' W') (hg : W.grownBy W' (some d)) : MdX w0 d A l c m' w b8 n kx ky vx vy X Y W' := by
  have h1 := h.dlt
  have h2 := h.ge
  exact ⟨hd, h.grown.trans hg, h1, h2, Nat.le_trans h.sz hg.size, h.k6.grown hg (fun e => by have e : w.heap.size = d := Option.some.inj e; omega), h.k8.grown hg (fun e => by have e : b8 = d := Option.some.inj e; omega), own_low h.ox hg (by omega), own_low h.oy hg (by omega), h.ap, h.lx, h.ly, h.bx, h.by_⟩
theorem MdX.aft (h : MdX w0 d A l c m w b8 n kx ky vx vy X Y W) (ha : Aft W W') : MdX w0 d A l c m w b8 n kx ky vx vy X Y W' := h.deal (h.deck.aft ha) (only_of_aft ha _)
theorem only_row {a b c : World} {d : Nat} {row : Option Nat} (h : a.grownBy b (some d)) (hg : b.grownBy c row) (hr : ∀ k, row = some k → a.heap.size ≤ k) : a.grownBy c (some d) :=
  ⟨hg.os.trans h.os, hg.tape.trans h.tape, hg.output.trans h.output, Nat.le_trans h.size hg.size, fun i hi hne => (hg.block i (Nat.lt_of_lt_of_le hi h.size) (fun e => by have := hr i e.symm; omega)).trans (h.block i hi hne)⟩
theorem own_two {W W' : World} {base : Nat} {e : TypeId} {size : Nat} {u v : Value} {n : Nat} {xs : List Value} (h : W.ownsRow base e size u n xs) (hg : W.grownBy W' v.ownBlock) (hne : ∀ q, u.ownBlock = some q → v.ownBlock ≠ some q) : W'.ownsRow base e size u n xs := by
  refine h.kept hg ?_
  cases e : u.ownBlock with
  | none => exact .inl rfl
  | some q => exact .inr fun h => hne q e h.symm
/-- A first number more. -/
theorem MdX.pushX (h : MdX w0 d A l c m w b8 n kx ky vx vy X Y W) {v' : Value} {y : Int} (hg : W.grownBy W' vx.ownBlock) (ho : W'.ownsRow (b8 + 1) 3 1 v' (X ++ [y]).length (zInts (X ++ [y]))) (hb : v'.ownBlock = vx.ownBlock ∨ v'.ownBlock = some W.heap.size) (hy : -200 ≤ y ∧ y ≤ 200) : MdX w0 d A l c m w b8 n (kx + 1) ky v' vy (X ++ [y]) Y W' := by
  have hge := own_ge h.ox
  have h2 := h.ge
  have h1 := h.dlt
  refine ⟨h.deck.grown hg (fun q e => by have := hge q e; omega), only_row h.grown hg (fun q e => by have := hge q e; omega), h1, h2, Nat.le_trans h.sz hg.size, h.k6.grown hg (fun e => by have := hge _ e.symm; omega), h.k8.grown hg (fun e => by have := hge _ e.symm; omega), ho, own_two (v := vx) h.oy hg (fun q e1 e2 => h.ap q e2 e1), fun q e1 e2 => ?_, by simp [h.lx], h.ly, fun x hx => ?_, h.by_⟩
  · rcases hb with e | e
    · exact h.ap q (e ▸ e1) e2
    · rw [e1] at e
      have e : q = W.heap.size := Option.some.inj e
      have := (h.oy.lt q e2).2
      omega
  · rcases List.mem_append.1 hx with hx | hx
    · exact h.bx x hx
    · rw [List.mem_singleton] at hx; subst hx; exact hy
theorem MdX.turn (h : MdX w0 d A l c m w b8 n kx ky vx vy X Y W) : MdX w0 d A l c m w b8 n ky kx vy vx Y X W := ⟨h.deck, h.grown, h.dlt, h.ge, h.sz, h.k6, h.k8, h.oy, h.ox, fun q e1 e2 => h.ap q e2 e1, h.ly, h.lx, h.by_, h.bx⟩
end
/-- A joint that differs from true shifts by no more than a play. -/
structure JOk (n : Nat) (play : Int) (X Y : List Int) (j : Q4) : Prop where
  a : 0 ≤ j.a ∧ j.a < n
  b : 0 ≤ j.b ∧ j.b < n
  ne : j.a ≠ j.b
  x : -play ≤ j.x - (X.getD j.b.toNat 0 - X.getD j.a.toNat 0) ∧ j.x - (X.getD j.b.toNat 0 - X.getD j.a.toNat 0) ≤ play
  y : -play ≤ j.y - (Y.getD j.b.toNat 0 - Y.getD j.a.toNat 0) ∧ j.y - (Y.getD j.b.toNat 0 - Y.getD j.a.toNat 0) ≤ play
/-- The joints under way. -/
structure MdJ (w0 : World) (d : Nat) (A : Option Addr) (l : List Int) (c m : Nat) (w : World) (b8 n : Nat) (vx vy vJ : Value) (X Y : List Int) (J : List Q4) (W : World) : Prop where
  deck : DeckAt w0 d A l c m W
  grown : w.grownBy W (some d)
  dlt : d < w.heap.size
  ge : w.heap.size < b8
  sz : b8 + 1 ≤ W.heap.size
  k6 : Blk W w.heap.size 25 #[.int .i64 0, .slice none 0 0]
  k8 : Blk W b8 25 #[.int .i64 (n : Nat), vJ]
  ox : W.ownsRow (b8 + 1) 3 1 vx X.length (zInts X)
  oy : W.ownsRow (b8 + 1) 3 1 vy Y.length (zInts Y)
  oj : W.ownsRow (b8 + 1) 35 4 vJ J.length (J.flatMap enc4)
  lx : X.length = n
  ly : Y.length = n
  bx : ∀ x ∈ X, -200 ≤ x ∧ x ≤ 200
  by_ : ∀ x ∈ Y, -200 ≤ x ∧ x ≤ 200
section
variable {w0 : World} {d : Nat} {A : Option Addr} {l : List Int} {c m : Nat} {w : World} {b8 n : Nat} {vx vy vJ : Value} {X Y : List Int} {J : List Q4} {W W' : World}
theorem MdJ.deal (h : MdJ w0 d A l c m w b8 n vx vy vJ X Y J W) {m' : Nat} (hd : DeckAt w0 d A l c m' W') (hg : W.grownBy W' (some d)) : MdJ w0 d A l c m' w b8 n vx vy vJ X Y J W' := by
  have h1 := h.dlt
  have h2 := h.ge
  exact ⟨hd, h.grown.trans hg, h1, h2, Nat.le_trans h.sz hg.size, h.k6.grown hg (fun e => by have e : w.heap.size = d := Option.some.inj e; omega), h.k8.grown hg (fun e => by have e : b8 = d := Option.some.inj e; omega), own_low h.ox hg (by omega), own_low h.oy hg (by omega), own_low h.oj hg (by omega), h.lx, h.ly, h.bx, h.by_⟩
theorem MdJ.aft (h : MdJ w0 d A l c m w b8 n vx vy vJ X Y J W) (ha : Aft W W') : MdJ w0 d A l c m w b8 n vx vy vJ X Y J W' := h.deal (h.deck.aft ha) (only_of_aft ha _)
theorem MdJ.row (h : MdJ w0 d A l c m w b8 n vx vy vJ X Y J W) {row : Option Nat} (hg : W.grownBy W' row) (hr : ∀ k, row = some k → b8 + 1 ≤ k) (ox : W'.ownsRow (b8 + 1) 3 1 vx X.length (zInts X)) (oy : W'.ownsRow (b8 + 1) 3 1 vy Y.length (zInts Y)) (oj : W'.ownsRow (b8 + 1) 35 4 vJ J.length (J.flatMap enc4)) : MdJ w0 d A l c m w b8 n vx vy vJ X Y J W' := by
  have h1 := h.dlt
  have h2 := h.ge
  exact ⟨h.deck.grown hg (fun q e => by have := hr q e; omega), only_row h.grown hg (fun q e => by have := hr q e; omega), h1, h2, Nat.le_trans h.sz hg.size, h.k6.grown hg (fun e => by have := hr _ e.symm; omega), h.k8.grown hg (fun e => by have := hr _ e.symm; omega), ox, oy, oj, h.lx, h.ly, h.bx, h.by_⟩
/-- A joint more, appended and stored. -/
theorem MdJ.push (h : MdJ w0 d A l c m w b8 n vx vy vJ X Y J W) {v' : Value} {j : Q4} (hg : W.grownBy W' vJ.ownBlock) (ho : W'.ownsRow (b8 + 1) 35 4 v' (J ++ [j]).length ((J ++ [j]).flatMap enc4)) : MdJ w0 d A l c m w b8 n vx vy v' X Y (J ++ [j]) (W'.setCell ⟨b8, 1, none⟩ v') := by
  have hge := own_ge h.oj
  have h1 := h.dlt
  have h2 := h.ge
  have hset : W'.grownBy (W'.setCell ⟨b8, 1, none⟩ v') (some b8) := only_setCell (only_refl W' (some b8)) (p := ⟨b8, 1, none⟩) (.inl rfl) v'
  have k8 : Blk W' b8 25 _ := h.k8.grown hg (fun e => by have := hge _ e.symm; omega)
  refine ⟨(h.deck.grown hg (fun q e => by have := hge q e; omega)).grown hset (fun q e => by have e : b8 = q := Option.some.inj e; omega), only_row (only_row h.grown hg (fun q e => by have := hge q e; omega)) hset (fun q e => by have e : b8 = q := Option.some.inj e; omega), h1, h2, Nat.le_trans h.sz (Nat.le_trans hg.size hset.size), (h.k6.grown hg (fun e => by have := hge _ e.symm; omega)).grown hset (fun e => by have e : w.heap.size = b8 := Option.some.inj e; omega), ?_, own_low (own_apart h.ox h.oj (by decide) hg) hset (by omega), own_low (own_apart h.oy h.oj (by decide) hg) hset (by omega), own_low ho hset (by omega), h.lx, h.ly, h.bx, h.by_⟩
  have := k8.store 1 v'
  simpa using this
end
theorem own_ints_at {W : World} {base n c : Nat} {A : Option Addr} {l : List Int} (h : W.ownsRow base 3 1 (.slice A n c) l.length (zInts l)) (hl : l.length ≤ 1000) : Ints W A l := by
  obtain ⟨A', c', e, _, hi⟩ := own_ints h (by omega)
  cases e
  exact hi
theorem cell_grown {W Z : World} {b o : Nat} {row : Option Nat} (hg : W.grownBy Z row) (hb : b < W.heap.size) (hne : row ≠ some b) : Z.cell? ⟨b, o, none⟩ = W.cell? ⟨b, o, none⟩ := by
  have := hg.block b hb (fun e => hne e.symm)
  unfold World.cell?
  rw [show (⟨b, o, none⟩ : Addr).block = b from rfl, this]
theorem own_deck {W w : World} {b8 d b o : Nat} {e : TypeId} {size n c n' : Nat} {xs : List Value} (h : W.ownsRow (b8 + 1) e size (.slice (some ⟨b, o, none⟩) n c) n' xs) (hd : d < w.heap.size) (hb : w.heap.size < b8) (he : some d = some b) : False := by
  have h1 := own_ge h b rfl
  cases he
  omega
theorem turn_ne {a r k : Nat} (ha : a < k) (hr : r + 2 ≤ k) : (a + 1 + r) % k < k ∧ (a + 1 + r) % k ≠ a := by
  refine ⟨Nat.mod_lt _ (by omega), ?_⟩
  by_cases h : a + 1 + r < k
  · rw [Nat.mod_eq_of_lt h]; omega
  · rw [Nat.mod_eq_sub_mod (by omega), Nat.mod_eq_of_lt (by omega)]; omega
theorem list3 {α : Type} {us : List α} (h : us.length = 3) : ∃ x y z, us = [x, y, z] := by
  match us, h with
  | [x, y, z], _ => exact ⟨x, y, z, rfl⟩
theorem list6 {α : Type} {us : List α} (h : us.length = 6) : ∃ a b c d e f, us = [a, b, c, d, e, f] := by
  match us, h with
  | [a, b, c, d, e, f], _ => exact ⟨a, b, c, d, e, f, rfl⟩
def n1 (b : Bool) : Nat := if b then 1 else 0
theorem n1_f : n1 false = 0 := rfl
theorem n1_t : n1 true = 1 := rfl
/-- One deal in a region: the other end of a joint. -/
structure Deal1 (w0 : World) (d : Nat) (A : Option Addr) (l : List Int) (c m : Nat) (W0 : World) (n a0 : Nat) (done : Nat → Bool) (a : Act) (W : World) : Prop where
  deck : DeckAt w0 d A l c (m + n1 (done 6)) W
  grown : W0.grownBy W (some d)
  v6 : done 6 = true → ∃ r : Nat, a.eval (.tmp 48) = .int .i64 (r : Nat) ∧ r + 2 ≤ n
  v7 : done 7 = true → ∃ r : Nat, a.eval (.tmp 49) = .int .i64 ((a0 : Int) + 1 + (r : Nat)) ∧ r + 2 ≤ n
  v10 : done 10 = true → ∃ r : Nat, a.eval (.tmp 52) = .int .i64 (((a0 + 1 + r) % n : Nat) : Int) ∧ r + 2 ≤ n
section
variable {w0 : World} {d : Nat} {A : Option Addr} {l : List Int} {c m : Nat} {W0 W W' : World} {n a0 : Nat} {done : Nat → Bool} {a : Act}
theorem Deal1.start (h : DeckAt w0 d A l c m W0) : Deal1 w0 d A l c m W0 n a0 (fun _ => false) a W0.drew := ⟨h.aft (Aft.drew _), only_drew (only_refl _ _), (fun h => by cases h), (fun h => by cases h), (fun h => by cases h)⟩
theorem Deal1.keep (h : Deal1 w0 d A l c m W0 n a0 done a W) {i : Nat} {dst : Option Tmp} {v : Value} (hi : i ≠ 6 ∧ i ≠ 7 ∧ i ≠ 10) (hd : dst ≠ some 48 ∧ dst ≠ some 49 ∧ dst ≠ some 52) : Deal1 w0 d A l c m W0 n a0 (Go.upd done i) (a.put dst v) W := by
  obtain ⟨i6, i7, i10⟩ := hi
  obtain ⟨d1, d2, d3⟩ := hd
  refine ⟨?_, h.grown, fun p => ?_, fun p => ?_, fun p => ?_⟩
  · rw [upd_ne' (Ne.symm i6)]; exact h.deck
  · rw [upd_ne' (Ne.symm i6)] at p; rw [evne d1]; exact h.v6 p
  · rw [upd_ne' (Ne.symm i7)] at p; rw [evne d2]; exact h.v7 p
  · rw [upd_ne' (Ne.symm i10)] at p; rw [evne d3]; exact h.v10 p
theorem Deal1.step6 (h : Deal1 w0 d A l c m W0 n a0 done a W) (h6 : done 6 = false) {r : Nat} (hr : r + 2 ≤ n) (hd : DeckAt w0 d A l c (m + n1 (done 6) + 1) W') (hg : W.grownBy W' (some d)) (hz : 48 < a.tmps.size) : Deal1 w0 d A l c m W0 n a0 (Go.upd done 6) (a.put (some 48) (.int .i64 (r : Nat))) W' := by
  refine ⟨?_, h.grown.trans hg, fun _ => ⟨r, Act.eval_put_same _ _ _ hz, hr⟩, fun p => ?_, fun p => ?_⟩
  · rw [upd_same', n1_t]; rw [h6, n1_f] at hd; exact hd
  · rw [upd_ne' (by decide)] at p; rw [evne (by decide)]; exact h.v7 p
  · rw [upd_ne' (by decide)] at p; rw [evne (by decide)]; exact h.v10 p
theorem Deal1.step7 (h : Deal1 w0 d A l c m W0 n a0 done a W) {r : Nat} (hr : r + 2 ≤ n) (hz : 49 < a.tmps.size) : Deal1 w0 d A l c m W0 n a0 (Go.upd done 7) (a.put (some 49) (.int .i64 ((a0 : Int) + 1 + (r : Nat)))) W := by
  refine ⟨?_, h.grown, fun p => ?_, fun _ => ⟨r, Act.eval_put_same _ _ _ hz, hr⟩, fun p => ?_⟩
  · rw [upd_ne' (by decide)]; exact h.deck
  · rw [upd_ne' (by decide)] at p; rw [evne (by decide)]; exact h.v6 p
  · rw [upd_ne' (by decide)] at p; rw [evne (by decide)]; exact h.v10 p
theorem Deal1.step10 (h : Deal1 w0 d A l c m W0 n a0 done a W) {r : Nat} (hr : r + 2 ≤ n) (hz : 52 < a.tmps.size) : Deal1 w0 d A l c m W0 n a0 (Go.upd done 10) (a.put (some 52) (.int .i64 (((a0 + 1 + r) % n : Nat) : Int))) W := by
  refine ⟨?_, h.grown, fun p => ?_, fun p => ?_, fun _ => ⟨r, Act.eval_put_same _ _ _ hz, hr⟩⟩
  · rw [upd_ne' (by decide)]; exact h.deck
  · rw [upd_ne' (by decide)] at p; rw [evne (by decide)]; exact h.v6 p
  · rw [upd_ne' (by decide)] at p; rw [evne (by decide)]; exact h.v7 p
end
/-- Two deals in a region, and the joint that comes of them. -/
structure Deal2 (w0 : World) (d : Nat) (A : Option Addr) (l : List Int) (c m : Nat) (W0 : World) (pl : Int) (ja jb dx dy : Int) (done : Nat → Bool) (a : Act) (W : World) : Prop where
  deck : DeckAt w0 d A l c (m + n1 (done 17) + n1 (done 32)) W
  grown : W0.grownBy W (some d)
  dlt : d < W0.heap.size
  v17 : done 17 = true → ∃ e, a.eval (.tmp 70) = .int .i64 e ∧ -pl ≤ e ∧ e ≤ pl
  v18 : done 18 = true → ∃ e, a.eval (.tmp 71) = .int .i64 (dx + e) ∧ -pl ≤ e ∧ e ≤ pl
  v32 : done 32 = true → ∃ e, a.eval (.tmp 85) = .int .i64 e ∧ -pl ≤ e ∧ e ≤ pl
  v33 : done 33 = true → ∃ e, a.eval (.tmp 86) = .int .i64 (dy + e) ∧ -pl ≤ e ∧ e ≤ pl
  v34 : done 34 = true → ∃ e f, a.eval (.tmp 87) = .agg #[.int .i64 ja, .int .i64 jb, .int .i64 (dx + e), .int .i64 (dy + f)] ∧ (-pl ≤ e ∧ e ≤ pl) ∧ -pl ≤ f ∧ f ≤ pl
  v35 : done 35 = true → ∃ g e f, a.eval (.tmp 88) = .slice (some ⟨g, 0, none⟩) 1 1 ∧ W0.heap.size ≤ g ∧ Blk W g 35 #[.int .i64 ja, .int .i64 jb, .int .i64 (dx + e), .int .i64 (dy + f)] ∧ (-pl ≤ e ∧ e ≤ pl) ∧ -pl ≤ f ∧ f ≤ pl
section
variable {w0 : World} {d : Nat} {A : Option Addr} {l : List Int} {c m : Nat} {W0 W W' : World} {pl ja jb dx dy : Int} {done : Nat → Bool} {a : Act}
theorem Deal2.start (h : DeckAt w0 d A l c m W0) : Deal2 w0 d A l c m W0 pl ja jb dx dy (fun _ => false) a W0.drew := ⟨h.aft (Aft.drew _), only_drew (only_refl _ _), h.lt, (fun h => by cases h), (fun h => by cases h), (fun h => by cases h), (fun h => by cases h), (fun h => by cases h), (fun h => by cases h)⟩
theorem Deal2.keep (h : Deal2 w0 d A l c m W0 pl ja jb dx dy done a W) {i : Nat} {dst : Option Tmp} {v : Value} (hi : i ≠ 17 ∧ i ≠ 18 ∧ i ≠ 32 ∧ i ≠ 33 ∧ i ≠ 34 ∧ i ≠ 35) (hd : dst ≠ some 70 ∧ dst ≠ some 71 ∧ dst ≠ some 85 ∧ dst ≠ some 86 ∧ dst ≠ some 87 ∧ dst ≠ some 88) : Deal2 w0 d A l c m W0 pl ja jb dx dy (Go.upd done i) (a.put dst v) W := by
  obtain ⟨i1, i2, i3, i4, i5, i6⟩ := hi
  obtain ⟨d1, d2, d3, d4, d5, d6⟩ := hd
  refine ⟨?_, h.grown, h.dlt, fun p => ?_, fun p => ?_, fun p => ?_, fun p => ?_, fun p => ?_, fun p => ?_⟩
  · rw [upd_ne' (Ne.symm i1), upd_ne' (Ne.symm i3)]; exact h.deck
  · rw [upd_ne' (Ne.symm i1)] at p; rw [evne d1]; exact h.v17 p
  · rw [upd_ne' (Ne.symm i2)] at p; rw [evne d2]; exact h.v18 p
  · rw [upd_ne' (Ne.symm i3)] at p; rw [evne d3]; exact h.v32 p
  · rw [upd_ne' (Ne.symm i4)] at p; rw [evne d4]; exact h.v33 p
  · rw [upd_ne' (Ne.symm i5)] at p; rw [evne d5]; exact h.v34 p
  · rw [upd_ne' (Ne.symm i6)] at p; rw [evne d6]; exact h.v35 p
theorem Deal2.blk (h : Deal2 w0 d A l c m W0 pl ja jb dx dy done a W) (hg : W.grownBy W' (some d)) {g : Nat} (h1 : W0.heap.size ≤ g) {cs : Array Value} (hb : Blk W g 35 cs) : Blk W' g 35 cs := hb.grown hg (fun e => by have := h.dlt; have e : g = d := Option.some.inj e; omega)
theorem Deal2.deal (h : Deal2 w0 d A l c m W0 pl ja jb dx dy done a W) {i s : Nat} (hi : (i = 17 ∧ s = 70) ∨ (i = 32 ∧ s = 85)) (hn : done i = false) {e : Int} (he : -pl ≤ e ∧ e ≤ pl) (hd : DeckAt w0 d A l c (m + n1 (done 17) + n1 (done 32) + 1) W') (hg : W.grownBy W' (some d)) (hz : 86 < a.tmps.size) : Deal2 w0 d A l c m W0 pl ja jb dx dy (Go.upd done i) (a.put (some s) (.int .i64 e)) W' := by
  rcases hi with ⟨rfl, rfl⟩ | ⟨rfl, rfl⟩
  · refine ⟨?_, h.grown.trans hg, h.dlt, fun _ => ⟨e, Act.eval_put_same _ _ _ (by omega), he⟩, fun p => ?_, fun p => ?_, fun p => ?_, fun p => ?_, fun p => ?_⟩
    · rw [upd_same', n1_t, upd_ne' (by decide)]; rw [hn, n1_f] at hd; exact hd.more (by omega)
    · rw [upd_ne' (by decide)] at p; rw [evne (by decide)]; exact h.v18 p
    · rw [upd_ne' (by decide)] at p; rw [evne (by decide)]; exact h.v32 p
    · rw [upd_ne' (by decide)] at p; rw [evne (by decide)]; exact h.v33 p
    · rw [upd_ne' (by decide)] at p; rw [evne (by decide)]; exact h.v34 p
    · rw [upd_ne' (by decide)] at p; rw [evne (by decide)]
      obtain ⟨g, e1, f, h1, h2, h3, h4⟩ := h.v35 p
      exact ⟨g, e1, f, h1, h2, h.blk hg h2 h3, h4⟩
  · refine ⟨?_, h.grown.trans hg, h.dlt, fun p => ?_, fun p => ?_, fun _ => ⟨e, Act.eval_put_same _ _ _ (by omega), he⟩, fun p => ?_, fun p => ?_, fun p => ?_⟩
    · rw [upd_same', n1_t, upd_ne' (by decide)]; rw [hn, n1_f] at hd; exact hd.more (by omega)
    · rw [upd_ne' (by decide)] at p; rw [evne (by decide)]; exact h.v17 p
    · rw [upd_ne' (by decide)] at p; rw [evne (by decide)]; exact h.v18 p
    · rw [upd_ne' (by decide)] at p; rw [evne (by decide)]; exact h.v33 p
    · rw [upd_ne' (by decide)] at p; rw [evne (by decide)]; exact h.v34 p
    · rw [upd_ne' (by decide)] at p; rw [evne (by decide)]
      obtain ⟨g, e1, f, h1, h2, h3, h4⟩ := h.v35 p
      exact ⟨g, e1, f, h1, h2, h.blk hg h2 h3, h4⟩
theorem Deal2.s18 (h : Deal2 w0 d A l c m W0 pl ja jb dx dy done a W) {e : Int} (he : -pl ≤ e ∧ e ≤ pl) (hz : 71 < a.tmps.size) : Deal2 w0 d A l c m W0 pl ja jb dx dy (Go.upd done 18) (a.put (some 71) (.int .i64 (dx + e))) W := by
  refine ⟨?_, h.grown, h.dlt, fun p => ?_, fun _ => ⟨e, Act.eval_put_same _ _ _ hz, he⟩, fun p => ?_, fun p => ?_, fun p => ?_, fun p => ?_⟩
  · rw [upd_ne' (by decide), upd_ne' (by decide)]; exact h.deck
  · rw [upd_ne' (by decide)] at p; rw [evne (by decide)]; exact h.v17 p
  · rw [upd_ne' (by decide)] at p; rw [evne (by decide)]; exact h.v32 p
  · rw [upd_ne' (by decide)] at p; rw [evne (by decide)]; exact h.v33 p
  · rw [upd_ne' (by decide)] at p; rw [evne (by decide)]; exact h.v34 p
  · rw [upd_ne' (by decide)] at p; rw [evne (by decide)]; exact h.v35 p
theorem Deal2.s33 (h : Deal2 w0 d A l c m W0 pl ja jb dx dy done a W) {e : Int} (he : -pl ≤ e ∧ e ≤ pl) (hz : 86 < a.tmps.size) : Deal2 w0 d A l c m W0 pl ja jb dx dy (Go.upd done 33) (a.put (some 86) (.int .i64 (dy + e))) W := by
  refine ⟨?_, h.grown, h.dlt, fun p => ?_, fun p => ?_, fun p => ?_, fun _ => ⟨e, Act.eval_put_same _ _ _ hz, he⟩, fun p => ?_, fun p => ?_⟩
  · rw [upd_ne' (by decide), upd_ne' (by decide)]; exact h.deck
  · rw [upd_ne' (by decide)] at p; rw [evne (by decide)]; exact h.v17 p
  · rw [upd_ne' (by decide)] at p; rw [evne (by decide)]; exact h.v18 p
  · rw [upd_ne' (by decide)] at p; rw [evne (by decide)]; exact h.v32 p
  · rw [upd_ne' (by decide)] at p; rw [evne (by decide)]; exact h.v34 p
  · rw [upd_ne' (by decide)] at p; rw [evne (by decide)]; exact h.v35 p
theorem Deal2.s34 (h : Deal2 w0 d A l c m W0 pl ja jb dx dy done a W) {e f : Int} (he : -pl ≤ e ∧ e ≤ pl) (hf : -pl ≤ f ∧ f ≤ pl) (hz : 87 < a.tmps.size) : Deal2 w0 d A l c m W0 pl ja jb dx dy (Go.upd done 34) (a.put (some 87) (.agg #[.int .i64 ja, .int .i64 jb, .int .i64 (dx + e), .int .i64 (dy + f)])) W := by
  refine ⟨?_, h.grown, h.dlt, fun p => ?_, fun p => ?_, fun p => ?_, fun p => ?_, fun _ => ⟨e, f, Act.eval_put_same _ _ _ hz, he, hf⟩, fun p => ?_⟩
  · rw [upd_ne' (by decide), upd_ne' (by decide)]; exact h.deck
  · rw [upd_ne' (by decide)] at p; rw [evne (by decide)]; exact h.v17 p
  · rw [upd_ne' (by decide)] at p; rw [evne (by decide)]; exact h.v18 p
  · rw [upd_ne' (by decide)] at p; rw [evne (by decide)]; exact h.v32 p
  · rw [upd_ne' (by decide)] at p; rw [evne (by decide)]; exact h.v33 p
  · rw [upd_ne' (by decide)] at p; rw [evne (by decide)]; exact h.v35 p
theorem Deal2.s35 (h : Deal2 w0 d A l c m W0 pl ja jb dx dy done a W) {e f : Int} (he : -pl ≤ e ∧ e ≤ pl) (hf : -pl ≤ f ∧ f ≤ pl) (hz : 88 < a.tmps.size) : Deal2 w0 d A l c m W0 pl ja jb dx dy (Go.upd done 35) (a.put (some 88) (.slice (some ⟨W.heap.size, 0, none⟩) 1 1)) (W.alloc (.cells #[.int .i64 ja, .int .i64 jb, .int .i64 (dx + e), .int .i64 (dy + f)] 35)) := by
  refine ⟨?_, only_aft h.grown (Aft.alloc _ _), h.dlt, fun p => ?_, fun p => ?_, fun p => ?_, fun p => ?_, fun p => ?_, fun _ => ⟨_, e, f, Act.eval_put_same _ _ _ hz, h.grown.size, Blk.new _ _ _, he, hf⟩⟩
  · rw [upd_ne' (by decide), upd_ne' (by decide)]; exact h.deck.aft (Aft.alloc _ _)
  · rw [upd_ne' (by decide)] at p; rw [evne (by decide)]; exact h.v17 p
  · rw [upd_ne' (by decide)] at p; rw [evne (by decide)]; exact h.v18 p
  · rw [upd_ne' (by decide)] at p; rw [evne (by decide)]; exact h.v32 p
  · rw [upd_ne' (by decide)] at p; rw [evne (by decide)]; exact h.v33 p
  · rw [upd_ne' (by decide)] at p; rw [evne (by decide)]; exact h.v34 p
end
/-- A shift that is laid behind two calls. -/
structure Sft (vT : Value) (W0 : World) (x y : Int) (done : Nat → Bool) (a : Act) (W : World) : Prop where
  aft : Aft W0 W
  s13 : a.eval (.tmp 13) = vT
  v12 : done 12 = true → ∃ g, a.eval (.tmp 109) = .slice (some ⟨g, 0, none⟩) 1 1 ∧ Blk W g 93 #[.int .i64 x, .int .i64 1, .int .i64 y, .int .i64 1]
section
variable {vT : Value} {W0 W W' : World} {x y : Int} {done : Nat → Bool} {a : Act}
theorem Sft.start (h : a.eval (.tmp 13) = vT) : Sft vT W0 x y (fun _ => false) a W0.drew := ⟨Aft.drew _, h, fun h => by cases h⟩
theorem Sft.keep (h : Sft vT W0 x y done a W) (ha : Aft W W') {i : Nat} {dst : Option Tmp} {v : Value} (hi : i ≠ 12) (hd : dst ≠ some 109 ∧ dst ≠ some 13) : Sft vT W0 x y (Go.upd done i) (a.put dst v) W' :=
  ⟨h.aft.trans ha, (evne hd.2).trans h.s13, fun p => by
    rw [upd_ne' (Ne.symm hi)] at p
    obtain ⟨g, h1, h2⟩ := h.v12 p
    exact ⟨g, by rw [evne hd.1]; exact h1, h2.aft ha⟩⟩
theorem Sft.step (h : Sft vT W0 x y done a W) (hz : 109 < a.tmps.size) : Sft vT W0 x y (Go.upd done 12) (a.put (some 109) (.slice (some ⟨W.heap.size, 0, none⟩) 1 1)) (W.alloc (.cells #[.int .i64 x, .int .i64 1, .int .i64 y, .int .i64 1] 93)) :=
  ⟨h.aft.then_alloc _, (evne (by decide)).trans h.s13, fun _ => ⟨_, Act.eval_put_same _ _ _ hz, Blk.new _ _ _⟩⟩
end
theorem list1 {α : Type} {us : List α} (h : us.length = 1) : ∃ x, us = [x] := by
  match us, h with
  | [x], _ => exact ⟨x, rfl⟩
end Go.Proofs
end
