/- Own texts, merged: Xg Ve0 Yk0 Ye Yf Yi0. -/
import Derived.Test.YthegmhnaiabcpaaE19
set_option linter.unusedSimpArgs false
set_option linter.unusedVariables false
set_option linter.unnecessarySimpa false
section
/- Walks: a deck of numbers. -/
namespace Go.Proofs
open Go.RowKit

/-- A slice reads as bytes. -/
def Bytes (w : World) (A : Option Addr) (l : List Int) : Prop :=
  l.length ≤ 9223372036854775807 ∧ (l = [] ∨ ∃ b o, A = some ⟨b, o, none⟩ ∧ b < w.heap.size ∧ ∀ i, (h : i < l.length) → w.cell? ⟨b, o + i, none⟩ = some (.int .u8 l[i]) ∧ 0 ≤ l[i] ∧ l[i] ≤ 255)
theorem Bytes.aft {w w' : World} {A : Option Addr} {l : List Int} (h : Bytes w A l) (ha : Aft w w') : Bytes w' A l := by
  obtain ⟨u, rfl⟩ := ha
  refine ⟨h.1, h.2.imp id ?_⟩
  rintro ⟨b, o, e, hb, hc⟩
  exact ⟨b, o, e, Nat.lt_of_lt_of_le hb (World.lat_size _ _), fun i hi => ⟨(World.lat_cell _ _ _ _ hb).trans (hc i hi).1, (hc i hi).2⟩⟩

/-- A deck lies in block d, over bytes of an older world; no more than m numbers were dealt. -/
def DeckAt (w0 : World) (d : Nat) (A : Option Addr) (l : List Int) (c m : Nat) (w : World) : Prop :=
  Bytes w0 A l ∧ w0.heap.size ≤ d ∧ Aft w0 w ∧ ∃ q s : Nat, Blk w d 98 #[.slice A l.length c, .int .i64 q, .int .u32 s] ∧ q ≤ m ∧ s < 4294967296

section
variable {w0 : World} {d : Nat} {A : Option Addr} {l : List Int} {c m : Nat} {w w' : World}
theorem DeckAt.aft (h : DeckAt w0 d A l c m w) (ha : Aft w w') : DeckAt w0 d A l c m w' := by
  obtain ⟨h1, h2, h3, q, s, h4, h5, h6⟩ := h
  exact ⟨h1, h2, h3.trans ha, q, s, h4.aft ha, h5, h6⟩
theorem DeckAt.more (h : DeckAt w0 d A l c m w) {m' : Nat} (hm : m ≤ m') : DeckAt w0 d A l c m' w := by
  obtain ⟨h1, h2, h3, q, s, h4, h5, h6⟩ := h
  exact ⟨h1, h2, h3, q, s, h4, by omega, h6⟩
theorem DeckAt.lt (h : DeckAt w0 d A l c m w) : d < w.heap.size := by
  obtain ⟨h1, h2, h3, q, s, h4, h5, h6⟩ := h
  exact h4.lt
end

theorem DeckAt.put {w0 : World} {d : Nat} {A : Option Addr} {l : List Int} {c m : Nat} {w : World} {q s : Nat} (h : DeckAt w0 d A l c m w) (hb : Blk w d 98 #[.slice A l.length c, .int .i64 q, .int .u32 s]) (hq : q ≤ m)
    {x : Int} (h0 : 0 ≤ x) (h1 : x < 4294967296) :
    DeckAt w0 d A l c (m + 1) ((w.setCell ⟨d, 1, none⟩ (.int .i64 (q + 1))).setCell ⟨d, 2, none⟩ (.int .u32 x)).drew.drew := by
  obtain ⟨h1', h2, h3, -⟩ := h
  obtain ⟨y, rfl⟩ := Int.eq_ofNat_of_zero_le h0
  exact ⟨h1', h2, ((h3.then_setCell h2 _).then_setCell h2 _).then_drew.then_drew, q + 1, y, ((hb.store 1 _).store 2 _).drew.drew, by omega, by omega⟩

theorem only_put {w : World} {d : Nat} (u v : Value) : w.grownBy ((w.setCell ⟨d, 1, none⟩ u).setCell ⟨d, 2, none⟩ v).drew.drew (some d) := by
  have h1 : w.grownBy (w.setCell ⟨d, 1, none⟩ u) (some d) := only_setCell (only_refl w (some d)) (p := ⟨d, 1, none⟩) (.inl rfl) u
  have h2 : w.grownBy ((w.setCell ⟨d, 1, none⟩ u).setCell ⟨d, 2, none⟩ v) (some d) := only_setCell h1 (p := ⟨d, 2, none⟩) (.inl rfl) v
  exact only_drew (only_drew h2)

/-- What a deck's deal leaves. -/
def Dealt (w0 : World) (d : Nat) (A : Option Addr) (l : List Int) (c m : Nat) (n : Int) (w : World) (e : Ending) (w' : World) : Prop :=
  ∃ x : Int, e = .returned (.int .i64 x) ∧ 0 ≤ x ∧ (x < n ∨ n ≤ 1 ∧ x = 0) ∧ DeckAt w0 d A l c (m + 1) w' ∧ w.grownBy w' (some d)

set_option maxRecDepth 100000 in
set_option maxHeartbeats 2000000 in
theorem draw_any (w0 : World) (d : Nat) (A : Option Addr) (l : List Int) (c m : Nat) (n : Int) (w : World) (hd : DeckAt w0 d A l c m w) (hm : m ≤ 1000000) (hn : -1000000 ≤ n) (hn' : n ≤ 1000000) :
    Calls Try.prog 32 #[.pointer (some ⟨d, 0, none⟩), .int .i64 n] w (Dealt w0 d A l c m n w) := by
  have HD := Lib.hid hd
  obtain ⟨h1, h2, h3, q, s, h4, h5, h6⟩ := hd
  have hl := h1.1
  by_cases hn1 : n ≤ 1
  · go_enter Try.func32, Try.ntmps32
    go_wp2_with fail
    go_ret
    exact ⟨0, rfl, by omega, .inr ⟨hn1, rfl⟩, HD.out.more (by omega), only_refl _ _⟩
  · have k0 : w.cell? ⟨d, 0, none⟩ = some (.slice A l.length c) := h4.cell 0
    have k1 : w.cell? ⟨d, 1, none⟩ = some (.int .i64 q) := h4.cell 1
    have k2 : w.cell? ⟨d, 2, none⟩ = some (.int .u32 s) := h4.cell 2
    have hdn : decide (n ≤ 1) = false := by simpa using hn1
    by_cases hl0 : l.length = 0
    · have hb : ((l.length : Int) == 0) = true := by simp [hl0]
      have hb2 : (l.length == 0) = true := by simp [hl0]
      go_enter Try.func32, Try.ntmps32
      go_wp2_with fail
      go_ret
      exact ⟨0, rfl, by omega, .inl (by omega), HD.out.more (by omega), only_refl _ _⟩
    · have hb : ((l.length : Int) == 0) = false := by rw [beq_eq_false_iff_ne]; omega
      have hb2 : (l.length == 0) = false := by simpa using hl0
      have hlp : 0 < l.length := by omega
      have hql : q % l.length < l.length := Nat.mod_lt _ hlp
      obtain ⟨b, o, rfl, hbl, hcl⟩ := (h1.aft h3).2.resolve_left (fun e => by rw [e] at hl0; exact hl0 rfl)
      obtain ⟨cB, g2, g3⟩ := hcl (q % l.length) hql
      obtain ⟨y, hy⟩ := Int.eq_ofNat_of_zero_le g2
      have hy255 : y ≤ 255 := by rw [hy] at g3; omega
      rw [hy] at cB
      clear hcl hy g2 g3 h1 h2 h3
      have HB := Lib.hid h4
      have fz1 := h4.frozen 1
      have fz2 := h4.frozen 2
      clear h4
      obtain ⟨r, hr⟩ : ∃ r, q % l.length = r := ⟨_, rfl⟩
      have t1 : ((q : Int).tmod (l.length : Int)) = (r : Int) := by rw [← hr, Int.tmod_eq_emod_of_nonneg (by omega)]; simp
      rw [hr] at cB hql
      have i1 : (0 : Int) ≤ (r : Int) ∧ (r : Int) < (l.length : Int) := by omega
      obtain ⟨z, hz⟩ : ∃ z, ((q : Int).tdiv (l.length : Int)) = z := ⟨_, rfl⟩
      have cB1 : w.drew.cell? ⟨b, o + r, none⟩ = some (.int .u8 y) := cB
      have k01 : w.drew.cell? ⟨d, 0, none⟩ = some (.slice (some ⟨b, o, none⟩) l.length c) := k0
      have k11 : w.drew.cell? ⟨d, 1, none⟩ = some (.int .i64 q) := k1
      clear hr
      go_enter Try.func32, Try.ntmps32
      go_wp2_with fail
      refine wp_region_tail 17 (by kernel_rfl) (by kernel_rfl) ?_
      simp only [List.take_succ_cons, List.take_zero, List.drop_succ_cons, List.drop_zero]
      repeat (first | go_big_quiet_skip | (go_big_quiet_want; go_big_quiet_op; go_big_quiet_on))
      refine wpQuiet_nil ?_
      have k02 : w.drew.drew.cell? ⟨d, 0, none⟩ = some (.slice (some ⟨b, o, none⟩) l.length c) := k0
      have k12 : w.drew.drew.cell? ⟨d, 1, none⟩ = some (.int .i64 q) := k1
      have k22 : w.drew.drew.cell? ⟨d, 2, none⟩ = some (.int .u32 s) := k2
      have f12 : w.drew.drew.frozen? ⟨d, 1, none⟩ = false := fz1
      have f22 : w.drew.drew.frozen? ⟨d, 2, none⟩ = false := fz2
      clear k01 k11 cB cB1
      go_wp2_with fail
      refine wp_region_tail 11 (by kernel_rfl) (by kernel_rfl) ?_
      simp only [List.take_succ_cons, List.take_zero, List.drop_succ_cons, List.drop_zero]
      repeat (first | go_big_quiet_skip | (go_big_quiet_want; go_big_quiet_op; go_big_quiet_on))
      refine wpQuiet_nil ?_
      obtain ⟨u, hu, hu1, hu2⟩ : ∃ u : Int, wrap64 z % 4294967296 = u ∧ 0 ≤ u ∧ u < 4294967296 := ⟨_, rfl, by omega, by omega⟩
      rw [hu]
      clear hu hz t1 i1
      go_wp2_with fail
      · go_ret
        exact ⟨_, rfl, Int.emod_nonneg _ (by omega), .inl (Int.emod_lt_of_pos _ (by omega)), HD.out.put HB.out h5 (by omega) (by omega), only_put _ _⟩
      · go_ret
        exact ⟨_, rfl, Int.emod_nonneg _ (by omega), .inl (Int.emod_lt_of_pos _ (by omega)), HD.out.put HB.out h5 (by omega) (by omega), only_put _ _⟩
      · go_ret
        exact ⟨_, rfl, Int.emod_nonneg _ (by omega), .inl (Int.emod_lt_of_pos _ (by omega)), HD.out.put HB.out h5 (by omega) (by omega), only_put _ _⟩


/-- What a deck deals between two numbers. -/
def DealtB (w0 : World) (d : Nat) (A : Option Addr) (l : List Int) (c m : Nat) (a b : Int) (w : World) (e : Ending) (w' : World) : Prop :=
  ∃ x : Int, e = .returned (.int .i64 x) ∧ a ≤ x ∧ x ≤ b ∧ DeckAt w0 d A l c (m + 1) w' ∧ w.grownBy w' (some d)

set_option maxRecDepth 100000 in
set_option maxHeartbeats 2000000 in
theorem between_any (w0 : World) (d : Nat) (A : Option Addr) (l : List Int) (c m : Nat) (a b : Int) (w : World) (hd : DeckAt w0 d A l c m w) (hm : m ≤ 1000000) (ha : -1000 ≤ a) (hab : a ≤ b) (hb : b ≤ 1000) :
    Calls Try.prog 41 #[.pointer (some ⟨d, 0, none⟩), .int .i64 a, .int .i64 b] w (DealtB w0 d A l c m a b w) := by
  have HD := Lib.hid hd
  obtain ⟨n, hn⟩ : ∃ n : Int, b - a + 1 = n := ⟨_, rfl⟩
  have HC := Lib.hid (draw_any w0 d A l c m n w hd hm (by omega) (by omega))
  clear hd
  go_enter Try.func41, Try.ntmps41
  go_wp2_with ((have hq := HC.out); refine Calls.mono hq ?_; clear hq; rintro e w' ⟨x, rfl, h1, h2, h3, h4⟩)
  go_ret
  exact ⟨_, rfl, by omega, by omega, h3, h4⟩

set_option maxRecDepth 100000 in
set_option maxHeartbeats 2000000 in
theorem coin_any (w0 : World) (d : Nat) (A : Option Addr) (l : List Int) (c m : Nat) (n : Int) (w : World) (hd : DeckAt w0 d A l c m w) (hm : m ≤ 1000000) (hn : -1000000 ≤ n) (hn' : n ≤ 1000000) :
    Calls Try.prog 73 #[.pointer (some ⟨d, 0, none⟩), .int .i64 n] w (fun e w' => ∃ b : Bool, e = .returned (.bool b) ∧ DeckAt w0 d A l c (m + 1) w' ∧ w.grownBy w' (some d)) := by
  have HC := Lib.hid (draw_any w0 d A l c m n w hd hm hn hn')
  clear hd
  go_enter Try.func73, Try.ntmps73
  go_wp2_with ((have hq := HC.out); refine Calls.mono hq ?_; clear hq; rintro e w' ⟨x, rfl, h1, h2, h3, h4⟩)
  go_ret
  exact ⟨_, rfl, h3, h4⟩

set_option maxRecDepth 100000 in
set_option maxHeartbeats 2000000 in
theorem of_any (A : Option Addr) (l : List Int) (c : Nat) (w : World) (h : Bytes w A l) :
    Calls Try.prog 8 #[.slice A l.length c] w (fun e w' => e = .returned (.pointer (some ⟨w.heap.size, 0, none⟩)) ∧ DeckAt w w.heap.size A l c 0 w') := by
  have HD := Lib.hid h
  clear h
  go_enter Try.func8, Try.ntmps8
  go_wp2_with fail
  go_ret
  exact ⟨rfl, HD.out, Nat.le_refl _, .alloc _ _, 0, 9, Blk.new _ _ _, Nat.le_refl _, by decide⟩
end Go.Proofs
end

section
/- Words: a set under way, made of a deck. -/
namespace Go.Proofs
open Go.RowKit

theorem DeckAt.grown {w0 : World} {d : Nat} {A : Option Addr} {l : List Int} {c m : Nat} {w w' : World} {row : Option Nat} (h : DeckAt w0 d A l c m w) (hg : w.grownBy w' row) (hr : ∀ k, row = some k → d < k) : DeckAt w0 d A l c m w' := by
  obtain ⟨h1, h2, h3, q, s, h4, h5, h6⟩ := h
  exact ⟨h1, h2, h3.grown hg (fun k e => by have := hr k e; omega), q, s, h4.grown hg (fun e => by have := hr d e.symm; omega), h5, h6⟩
theorem DeckAt.aft0 {w0 : World} {d : Nat} {A : Option Addr} {l : List Int} {c m : Nat} {w : World} (h : DeckAt w0 d A l c m w) : Aft w0 w := h.2.2.1
/-- .. of one record. -/
theorem app_rec {α : Type} {enc : α → List Value} {t e : TypeId} {sz bytes : Nat} (hT : SliceTy Try.prog t e sz bytes) {W : World} {base : Nat} {v : Value} {l : List α} (h : W.ownsRow base e sz v l.length (l.flatMap enc)) (hb : base ≤ W.heap.size) (y : α) {b c : Nat} (hy : (enc y).length = sz) (hs : ∀ j u, (enc y)[j]? = some u → W.cell? ⟨b, j, none⟩ = some u) (h1 : ∀ u ∈ enc y, u.oneCell' = true)
    (hl : l.length ≤ 1000) (hbb : bytes ≤ 1000) (hpos : 0 < bytes) : ∃ v' W', (Builtin.append_ #[t, t] t #[v, .slice (some ⟨b, 0, none⟩) 1 c]).run Try.prog W = .ok v' W' ∧ W'.ownsRow base e sz v' (l ++ [y]).length ((l ++ [y]).flatMap enc) ∧ W.grownBy W' v.ownBlock ∧ (v'.ownBlock = v.ownBlock ∨ v'.ownBlock = some W.heap.size) := by
  obtain ⟨i0, z0, hi0, hz0, hz1, hz2, hz3⟩ := hT.hi
  obtain ⟨v', W', h1, h2, h3, -, h5⟩ := run_append_own_at (P := Try.prog) W base t t e i0 z0 sz bytes hT.ht hi0 hz0 hz1 hz2 hz3 hT.hsz v l.length (l.flatMap enc) h ⟨b, 0, none⟩ 1 c (enc y) (by rw [hy]; simp) (fun j u hj => by
    rw [Addr.add_lit]
    simpa using hs j u hj) h1 (by unfold maxLen; omega) (Nat.le_trans (Nat.mul_le_mul (show l.length + 1 ≤ 1001 by omega) hbb) (by decide)) hb
  exact ⟨v', W', h1, by simpa [List.flatMap_append] using h2, h3, h5⟩
section
variable {w0 : World} {d : Nat} {A : Option Addr} {l : List Int} {c m : Nat} {w : World} {b8 n kx ky : Nat} {vx vy : Value} {X Y : List Int} {W W' : World}
theorem own_low {W W' : World} {base : Nat} {e : TypeId} {size : Nat} {v : Value} {n : Nat} {xs : List Value} {r : Nat} (h : W.ownsRow base e size v n xs) (hg : W.grownBy W' (some r)) (hr : r < base) : W'.ownsRow base e size v n xs := h.kept hg (.inr fun e => by have := own_ge h r e; omega)
theorem only_row {a b c : World} {d : Nat} {row : Option Nat} (h : a.grownBy b (some d)) (hg : b.grownBy c row) (hr : ∀ k, row = some k → a.heap.size ≤ k) : a.grownBy c (some d) :=
  ⟨hg.os.trans h.os, hg.tape.trans h.tape, hg.output.trans h.output, Nat.le_trans h.size hg.size, fun i hi hne => (hg.block i (Nat.lt_of_lt_of_le hi h.size) (fun e => by have := hr i e.symm; omega)).trans (h.block i hi hne)⟩
theorem own_two {W W' : World} {base : Nat} {e : TypeId} {size : Nat} {u v : Value} {n : Nat} {xs : List Value} (h : W.ownsRow base e size u n xs) (hg : W.grownBy W' v.ownBlock) (hne : ∀ q, u.ownBlock = some q → v.ownBlock ≠ some q) : W'.ownsRow base e size u n xs := by
  refine h.kept hg ?_
  cases e : u.ownBlock with
  | none => exact .inl rfl
  | some q => exact .inr fun h => hne q e h.symm
end
section
variable {w0 : World} {d : Nat} {A : Option Addr} {l : List Int} {c m : Nat} {w : World} {b8 n : Nat} {vx vy vJ : Value} {X Y : List Int} {J : List Q4} {W W' : World}
end
theorem cell_grown {W Z : World} {b o : Nat} {row : Option Nat} (hg : W.grownBy Z row) (hb : b < W.heap.size) (hne : row ≠ some b) : Z.cell? ⟨b, o, none⟩ = W.cell? ⟨b, o, none⟩ := by
  have := hg.block b hb (fun e => hne e.symm)
  unfold World.cell?
  rw [show (⟨b, o, none⟩ : Addr).block = b from rfl, this]
def n1 (b : Bool) : Nat := if b then 1 else 0
theorem n1_f : n1 false = 0 := rfl
theorem n1_t : n1 true = 1 := rfl
section
variable {w0 : World} {d : Nat} {A : Option Addr} {l : List Int} {c m : Nat} {W0 W W' : World} {n a0 : Nat} {done : Nat → Bool} {a : Act}
end
section
variable {w0 : World} {d : Nat} {A : Option Addr} {l : List Int} {c m : Nat} {W0 W W' : World} {pl ja jb dx dy : Int} {done : Nat → Bool} {a : Act}
end
section
variable {vT : Value} {W0 W W' : World} {x y : Int} {done : Nat → Bool} {a : Act}
end
end Go.Proofs
end

section
/- Plain: the edges that Marked makes. -/
namespace Sheet
theorem Chain.ext {S S' : Nat → Nat → Bool} {n m n' m' : Nat} {l : List (Nat × Nat)} (h : Chain S n m 0 0 l) (hn : n ≤ n') (hm : m ≤ m') (hS : ∀ i k, i < n → k < m → S' i k = S i k) : Chain S' n' m' 0 0 l :=
  ⟨h.rise, fun p hp => by have := h.high p hp; rw [hS _ _ this.1 this.2]; exact h.same p hp, h.low, fun p hp => by have := h.high p hp; omega⟩
theorem Chain.snoc {S : Nat → Nat → Bool} {n m n' m' : Nat} {l : List (Nat × Nat)} (h : Chain S n' m' 0 0 l) (hl : ∀ p ∈ l, p.1 < n ∧ p.2 < m) (hn : n < n') (hm : m < m') (hS : S n m = true) : Chain S n' m' 0 0 (l ++ [(n, m)]) := by
  refine ⟨List.pairwise_append.2 ⟨h.rise, List.pairwise_singleton _ _, fun p hp q hq => ?_⟩, fun p hp => ?_, fun p _ => ⟨Nat.zero_le _, Nat.zero_le _⟩, fun p hp => ?_⟩
  · rw [List.mem_singleton] at hq
    subst hq
    exact hl p hp
  · rcases List.mem_append.1 hp with hp | hp
    · exact h.same p hp
    · rw [List.mem_singleton] at hp; subst hp; exact hS
  · rcases List.mem_append.1 hp with hp | hp
    · exact h.high p hp
    · rw [List.mem_singleton] at hp; subst hp; exact ⟨hn, hm⟩
end Sheet
namespace Go.Proofs
open Go.RowKit

/-- Two edges under way, and the marks that both have. -/
structure MkP (play : Int) (la lb : List (Int × Int)) (lr : List (Nat × Nat)) (LA LB at_ : Int) (k : Nat) : Prop where
  na : la.length ≤ k
  nb : lb.length ≤ k
  ka : ∀ m ∈ la, -100 < m.1 ∧ m.1 ≤ LA ∧ 0 ≤ m.2 ∧ m.2 ≤ 2
  kb : ∀ m ∈ lb, -100 < m.1 ∧ m.1 ≤ LB ∧ 0 ≤ m.2 ∧ m.2 ≤ 2
  oa : OrdTo la la.length
  ob : OrdTo lb lb.length
  ra : -100 ≤ LA ∧ LA ≤ 40 + 10 * (k : Int)
  rb : -100 ≤ LB ∧ LB ≤ 40 + 10 * (k : Int)
  at0 : 0 ≤ at_ ∧ at_ ≤ 20 + 9 * (k : Int)
  ch : Sheet.Chain (sameB play la lb) la.length lb.length 0 0 lr
theorem MkP.start {play x : Int} (h : 0 ≤ x) (h' : x ≤ 20) : MkP play [] [] [] (-100) (-100) x 0 :=
  ⟨Nat.le_refl _, Nat.le_refl _, (fun _ h => by cases h), (fun _ h => by cases h), (fun i _ _ h => by cases h), (fun i _ _ h => by cases h), by omega, by omega, by omega, .nil 0 0⟩
theorem sameB_app {play : Int} {la lb : List (Int × Int)} (ra rb : List (Int × Int)) {i k : Nat} (hi : i < la.length) (hk : k < lb.length) : sameB play (la ++ ra) (lb ++ rb) i k = sameB play la lb i k := by
  unfold sameB
  rw [getD_left hi, getD_left hk]
theorem ord_snoc {l : List (Int × Int)} {L u kd : Int} (h : OrdTo l l.length) (hk : ∀ m ∈ l, m.1 ≤ L) (hu : L < u) : OrdTo (l ++ [(u, kd)]) (l ++ [(u, kd)]).length := fun i h1 _ h3 => by
  rw [List.length_append, List.length_singleton] at h3
  by_cases e : i < l.length
  · rw [getD_left (by omega), getD_left e]
    exact h i h1 e e
  · obtain rfl : i = l.length := by omega
    have hg := getD_right (a := l) (b := [(u, kd)]) 0
    rw [Nat.add_zero] at hg
    rw [hg, getD_left (by omega)]
    have hm := hk (l.getD (l.length - 1) (0, 0)) (by
      rw [List.getD_eq_getElem?_getD, List.getElem?_eq_getElem (by omega)]
      exact List.getElem_mem _)
    show _ < u
    omega
/-- Marks that may be put behind others. -/
def plus (c : Bool) (l : List (Int × Int)) (y : Int × Int) : List (Int × Int) := if c then l ++ [y] else l
theorem plus_len (c : Bool) (l : List (Int × Int)) (y : Int × Int) : (plus c l y).length ≤ l.length + 1 ∧ l.length ≤ (plus c l y).length := by
  unfold plus
  cases c <;> simp
theorem plus_ex (c : Bool) (l : List (Int × Int)) (y : Int × Int) : ∃ r, plus c l y = l ++ r := by
  unfold plus
  cases c
  · exact ⟨[], by simp⟩
  · exact ⟨[y], rfl⟩
theorem MkP.step {play : Int} {la lb : List (Int × Int)} {lr : List (Nat × Nat)} {LA LB at_ : Int} {k : Nat} (h : MkP play la lb lr LA LB at_ k) (hp : 0 ≤ play ∧ play ≤ 9) {one other c : Bool} {kd u v dt : Int}
    (hkd : 0 ≤ kd ∧ kd ≤ 2) (hu : LA < u) (hu' : u ≤ LA + 1 ∨ u ≤ at_ + play) (hv : LB < v) (hv' : v ≤ LB + 1 ∨ v ≤ at_ + play) (hdt : 1 ≤ dt ∧ dt ≤ 9) (hc : c = true → one = true ∧ other = true ∧ u - v ≤ play ∧ v - u ≤ play) :
    MkP play (plus one la (u, kd)) (plus other lb (v, kd)) (if c then lr ++ [(la.length, lb.length)] else lr) (if one then u else LA) (if other then v else LB) (at_ + dt) (k + 1) := by
  have hra := h.ra
  have hrb := h.rb
  have hat := h.at0
  have hna := h.na
  have hnb := h.nb
  obtain ⟨ra, era⟩ := plus_ex one la (u, kd)
  obtain ⟨rb, erb⟩ := plus_ex other lb (v, kd)
  have l1 := plus_len one la (u, kd)
  have l2 := plus_len other lb (v, kd)
  have hch : Sheet.Chain (sameB play (plus one la (u, kd)) (plus other lb (v, kd))) (plus one la (u, kd)).length (plus other lb (v, kd)).length 0 0 lr :=
    h.ch.ext l1.2 l2.2 fun i k hi hk => by rw [era, erb]; exact sameB_app ra rb hi hk
  refine ⟨by omega, by omega, fun m hm => ?_, fun m hm => ?_, ?_, ?_, ?_, ?_, by omega, ?_⟩
  · cases one
    · have := h.ka m hm
      exact this
    · rcases List.mem_append.1 hm with hm | hm
      · have := h.ka m hm
        rw [if_pos rfl]
        omega
      · rw [List.mem_singleton] at hm
        subst hm
        rw [if_pos rfl]
        dsimp only
        omega
  · cases other
    · have := h.kb m hm
      exact this
    · rcases List.mem_append.1 hm with hm | hm
      · have := h.kb m hm
        rw [if_pos rfl]
        omega
      · rw [List.mem_singleton] at hm
        subst hm
        rw [if_pos rfl]
        dsimp only
        omega
  · cases one
    · exact h.oa
    · exact ord_snoc h.oa (fun m hm => (h.ka m hm).2.1) hu
  · cases other
    · exact h.ob
    · exact ord_snoc h.ob (fun m hm => (h.kb m hm).2.1) hv
  · split <;> omega
  · split <;> omega
  · cases c
    · exact hch
    · obtain ⟨rfl, rfl, h1, h2⟩ := hc rfl
      rw [if_pos rfl]
      refine hch.snoc (fun p hp => h.ch.high p hp) (by show la.length < (la ++ [(u, kd)]).length; simp) (by show lb.length < (lb ++ [(v, kd)]).length; simp) ?_
      show sameM play ((la ++ [(u, kd)]).getD la.length (0, 0)) ((lb ++ [(v, kd)]).getD lb.length (0, 0)) = true
      have g1 := getD_right (a := la) (b := [(u, kd)]) 0
      have g2 := getD_right (a := lb) (b := [(v, kd)]) 0
      rw [Nat.add_zero] at g1 g2
      rw [g1, g2]
      show (decide (kd = kd) && (decide (u - v ≤ play) && decide (v - u ≤ play))) = true
      rw [decide_eq_true rfl, decide_eq_true h1, decide_eq_true h2]
      rfl
theorem MkP.edges {play p : Int} {la lb : List (Int × Int)} {lr : List (Nat × Nat)} {LA LB at_ : Int} {k : Nat} (h : MkP play la lb lr LA LB at_ k) (hk : k ≤ 14) (hp : 0 ≤ p ∧ p ≤ 100) : edgesE la lb p = 0 := by
  have hna := h.na
  have hnb := h.nb
  have hra := h.ra
  have hrb := h.rb
  have m : ∀ {l : List (Int × Int)} {L : Int}, L ≤ 200 → (∀ m ∈ l, -100 < m.1 ∧ m.1 ≤ L ∧ 0 ≤ m.2 ∧ m.2 ≤ 2) → l.all markB = true := fun hL h => List.all_eq_true.2 fun x hx => by
    have := h x hx
    unfold markB
    rw [Bool.and_eq_true, fromB_iff, fromB_iff]
    omega
  unfold edgesE
  rw [if_neg (by omega), m (by omega) h.ka, m (by omega) h.kb, (fromB_iff ..).2 (by omega), if_neg (by simp), show ordB la = true from decide_eq_true h.oa, show ordB lb = true from decide_eq_true h.ob, if_neg (by simp)]
end Go.Proofs
end

section
/- Walks: Levels 26; Match 25 and Bars 23 where something is not right. -/
namespace Go.Proofs
open Go.RowKit
attribute [local go_sem] Oper.semAt_some

/-- A row of m numbers at the head of a block. -/
def RI (W : World) (r m : Nat) (f : Nat → Nat) : Prop := ∃ cs, Blk W r 3 cs ∧ cs.size = m ∧ ∀ j, j < m → cs[j]? = some (.int .i64 (f j : Nat))
theorem RI.aft {W W' : World} {r m : Nat} {f : Nat → Nat} (h : RI W r m f) (ha : Aft W W') : RI W' r m f := let ⟨cs, h1, h2, h3⟩ := h; ⟨cs, h1.aft ha, h2, h3⟩
theorem RI.lt {W : World} {r m : Nat} {f : Nat → Nat} (h : RI W r m f) : r < W.heap.size := let ⟨_, h1, _⟩ := h; h1.lt
theorem RI.cell {W : World} {r m : Nat} {f : Nat → Nat} (h : RI W r m f) {j : Nat} (hj : j < m) : W.cell? ⟨r, j, none⟩ = some (.int .i64 (f j : Nat)) := let ⟨_, h1, _, h3⟩ := h; (h1.cell j).trans (h3 j hj)
theorem RI.frozen {W : World} {r m : Nat} {f : Nat → Nat} (h : RI W r m f) (j : Nat) : W.frozen? ⟨r, j, none⟩ = false := let ⟨_, h1, _⟩ := h; h1.frozen j
theorem RI.put {W : World} {r m : Nat} {f : Nat → Nat} (h : RI W r m f) (k x : Nat) : RI (W.setCell ⟨r, k, none⟩ (.int .i64 (x : Nat))) r m fun j => if j = k then x else f j := by
  obtain ⟨cs, h1, h2, h3⟩ := h
  refine ⟨_, h1.store k _, by simpa using h2, fun j hj => ?_⟩
  by_cases e : j = k
  · subst e
    dsimp only
    rw [if_pos rfl, Array.getElem?_setIfInBounds_self_of_lt (by omega)]
  · dsimp only
    rw [if_neg e, Array.getElem?_setIfInBounds_ne (by omega)]
    exact h3 j hj
theorem RI.congr {W : World} {r m : Nat} {f g : Nat → Nat} (h : RI W r m f) (hfg : ∀ j, j < m → f j = g j) : RI W r m g := let ⟨cs, h1, h2, h3⟩ := h; ⟨cs, h1, h2, fun j hj => by rw [← hfg j hj]; exact h3 j hj⟩
theorem RI.own {W : World} {r m : Nat} {f : Nat → Nat} (h : RI W r m f) {base : Nat} (hb : base ≤ r) (hm : m ≤ 1000) : W.ownsRow base 3 1 (.slice (some ⟨r, 0, none⟩) m m) ((List.range m).map fun j => (f j : Int)).length (((List.range m).map fun j => (f j : Int)).map (Value.int .i64)) := by
  obtain ⟨cs, h1, h2, h3⟩ := h
  have hl : ((List.range m).map fun j => (f j : Int)).length = m := by simp
  rw [hl]
  refine ⟨by simp, .inr ⟨r, m, cs, rfl, hb, h1, Nat.le_refl _, by unfold maxLen; omega, by omega, ?_⟩⟩
  refine List.ext_getElem? fun j => ?_
  rw [List.getElem?_take, Array.getElem?_toList]
  by_cases e : j < m
  · rw [if_pos (by omega), h3 j e]
    simp [e]
  · rw [if_neg (by omega), List.getElem?_eq_none (by simp; omega)]
theorem ri_made (w : World) (N : Nat) (hN : N ≤ 1000) : ∃ cs, (Instr.makeSlice 51 (.int .i64 N) (.int .i64 N)).run Try.prog w = .ok (.slice (some ⟨w.heap.size, 0, none⟩) N N) (w.alloc (.cells cs 3)) ∧ RI (w.alloc (.cells cs 3)) w.heap.size N fun _ => 0 := by
  obtain ⟨ht, ⟨i, z, hi, hz, hsize, hby, hzs⟩, hsz⟩ := ty24
  have hzz : (Try.prog.info? 3).bind (·.zero) = some (.int .i64 0) := by kernel_rfl
  rw [hi] at hzz
  have hzz : i.zero = some (.int .i64 0) := hzz
  rw [hz] at hzz
  cases hzz
  have h := run_makeSlice (P := Try.prog) (w := w) 51 3 i (.int .i64 0) ht hi hz .i64 .i64 N N (by omega) (Int.le_refl _) (by rw [hsize]; simp; omega) (by rw [hby]; omega) (by omega)
  rw [Int.toNat_natCast, hsize] at h
  refine ⟨_, h, _, Blk.new _ _ _, by simp [Go.madeCells], fun j hj => ?_⟩
  change (Go.madeCells #[Value.int .i64 0] (N * 1))[j]? = some (.int .i64 0)
  simp [Go.madeCells, hj, Nat.mod_one]

theorem asked_good {a b : List (Int × Int)} {play : Int} (A B : Option Addr) (ca cb : Nat) {w : World} (hA : Prs w A a) (hB : Prs w B b) (he : edgesE a b play = 0) :
    Calls Try.prog 56 #[.slice A a.length ca, .slice B b.length cb, .int .i64 play] w fun e w' => ∃ x, e = .returned (.tuple #[.pointer (some ⟨x, 0, none⟩), .int .i64 0]) ∧ EdgesAt w w' x a b play A B ca cb :=
  (asked_any a b play A B ca cb w hA hB).mono fun e w' h => by
    rcases h with ⟨h, -⟩ | ⟨-, h⟩
    · exact absurd he h
    · exact h
theorem asked_bad {a b : List (Int × Int)} {play : Int} (A B : Option Addr) (ca cb : Nat) {w : World} (hA : Prs w A a) (hB : Prs w B b) (he : edgesE a b play ≠ 0) :
    Calls Try.prog 56 #[.slice A a.length ca, .slice B b.length cb, .int .i64 play] w fun e w' => e = .returned (.tuple #[.pointer none, .int .i64 (edgesE a b play)]) ∧ Aft w w' :=
  (asked_any a b play A B ca cb w hA hB).mono fun e w' h => by
    rcases h with ⟨-, h1, h2⟩ | ⟨h, -⟩
    · exact ⟨h1, h2⟩
    · exact absurd h he


/-- The levels as a list of lists. -/
def rowsV (V : Nat × Nat → Nat) (n m : Nat) : List (List Int) := (List.range n).map fun i => (List.range m).map fun k => (V (i, k) : Int)
def LevelsOut (play : Int) (la lb : List (Int × Int)) (w : World) (e : Ending) (w' : World) : Prop :=
  ∃ v V, e = .returned (.tuple #[v, .int .i64 0]) ∧ OwnLists w' w.heap.size v (rowsV V la.length lb.length) ∧ Sheet.Levels (sameB play la lb) la.length lb.length (fun a b => V (a, b)) ∧ (∀ a b, a < la.length → b < lb.length → V (a, b) ≤ a + 1) ∧ Aft w w'
theorem rowsV_succ (V : Nat × Nat → Nat) (i m : Nat) : rowsV V (i + 1) m = rowsV V i m ++ [(List.range m).map fun k => (V (i, k) : Int)] := by
  unfold rowsV
  rw [List.range_succ, List.map_append]
  rfl
set_option maxRecDepth 100000 in
set_option maxHeartbeats 4000000 in
theorem levels_good (la lb : List (Int × Int)) (play : Int) (A B : Option Addr) (ca cb : Nat) (w : World) (hA : Prs w A la) (hB : Prs w B lb) (he : edgesE la lb play = 0) :
    Calls Try.prog 26 #[.slice A la.length ca, .slice B lb.length cb, .int .i64 play] w (LevelsOut play la lb w) := by
  obtain ⟨hla, hlb, -, -, -, -, -⟩ := edgesE_ok he
  have HO := Lib.hid (asked_good A B ca cb hA hB he)
  have HE := Lib.hid he
  clear hA hB he
  go_enter Try.func26, Try.ntmps26
  go_upto_region 5 with (first | (go_at_call 56; refine HO.out.mono ?_; rintro e w1 ⟨x, rfl, hx⟩; have HX := Lib.hid hx; clear hx) | (go_at_call 69; refine (levels_any play la lb A B ca cb x _ _ HX.out HE.out).mono ?_; rintro e w2 ⟨g, nn, V, rfl, hg, hM, hLV, hV, ha⟩))
  have H2 := Lib.hid (HX.out.2.2.1.trans ha)
  have HM := Lib.hid hM
  have HLV := Lib.hid hLV
  have HV := Lib.hid hV
  have hw2 : w.heap.size ≤ w2.heap.size := H2.out.size
  clear ha hM hLV hV HX HO
  go_upto_block 0 with fail
  refine wp_block ?_
  go_loopw [11, 29] (fun v i wr => ∃ k : Nat, i = .int .i64 (k : Nat) ∧ k ≤ la.length ∧ Aft w2 wr ∧ ∃ vs, OwnLs wr w2.heap.size v vs (rowsV V k lb.length)) (fun _ i _ => la.length - (intOf i).toNat)
  case atStart => exact ⟨0, rfl, by omega, Aft.refl _, [], OwnLs.nil⟩
  case round =>
    rename World => wo
    obtain ⟨k, rfl, hk, hw, vs, hown⟩ := hrel
    have HOW := Lib.hid hown
    have HW := Lib.hid hw
    clear hown hw
    by_cases hkl : k < la.length
    · have t1 : decide (k < la.length) = true := by simpa using hkl
      have hrl : (rowsV V k lb.length).length = k := by unfold rowsV; simp
      have hll : (rowsV V k lb.length).length ≤ 1000000 := by rw [hrl]; omega
      have hws : w2.heap.size ≤ wo.heap.size := HW.out.size
      have hmk0 := ri_made wo lb.length (by omega)
      have HTS := Lib.hid (rowsV_succ V k lb.length)
      obtain ⟨rows, hrows⟩ : ∃ r, rowsV V k lb.length = r := ⟨_, rfl⟩
      rw [hrows] at HOW hll HTS
      obtain ⟨csm, hmk, hri⟩ := hmk0
      obtain ⟨r, hr⟩ : ∃ r, wo.heap.size = r := ⟨_, rfl⟩
      have HR0 : Hid (RI (wo.alloc (.cells csm 3)) r lb.length fun _ => 0) := Lib.hid (hr ▸ hri)
      have HA0 := Lib.hid (Aft.alloc wo (.cells csm 3))
      clear hri hrows hrl
      go_upto_block 2 with fail
      try rw [hr]
      clear hmk t1
      generalize wo.alloc (.cells csm 3) = W5 at *
      have HRR := Lib.hid hr
      clear hr
      refine wp_block ?_
      go_loopw [37] (fun i wr2 => ∃ q : Nat, i = .int .i64 (q : Nat) ∧ q ≤ lb.length ∧ RI wr2 r lb.length (fun j => if j < q then V (k, j) else 0) ∧ Aft wo wr2) (fun i _ => lb.length - (intOf i).toNat)
      case atStart => exact ⟨0, rfl, by omega, HR0.out.congr fun j _ => by rw [if_neg (by omega)], HA0.out⟩
      case round =>
        obtain ⟨q, rfl, hq, hri, ha2⟩ := hrel
        have HRI := Lib.hid hri
        have HA2 := Lib.hid ha2
        clear hri ha2 HR0 HA0
        by_cases hql : q < lb.length
        · have t2 : decide (q < lb.length) = true := by simpa using hql
          have hlk : (Instr.lookup 146 (.map (some g)) (.agg #[.int .i64 (k : Nat), .int .i64 (q : Nat)]) false).run Try.prog wr = .ok (.int .i64 (V (k, q) : Nat)) wr := (HM.out.aft (HW.out.trans HA2.out)).look (s := (k, q)) ⟨by show k < 32; omega, by show q < 32; omega⟩
          have y0 := HRI.out.cell hql
          have y1 := HRI.out.frozen q
          have y2 := HRI.out.lt
          rw [if_neg (Nat.lt_irrefl q)] at y0
          have hrw : wo.heap.size ≤ r := Nat.le_of_eq HRR.out
          have iq : (0 : Int) ≤ (q : Int) ∧ (q : Int) < (lb.length : Int) := by omega
          go_wp2_with fail
          refine ⟨⟨q + 1, by go_num, by omega, (HRI.out.put q (V (k, q))).congr fun j hj => ?_, HA2.out.then_setCell (p := ⟨r, q, none⟩) hrw _⟩, by simp [intOf]; omega⟩
          by_cases e : j = q
          · subst e
            rw [if_pos rfl, if_pos (by omega)]
          · rw [if_neg e]
            by_cases e2 : j < q
            · rw [if_pos e2, if_pos (by omega)]
            · rw [if_neg e2, if_neg (by omega)]
        · have t2 : decide (q < lb.length) = false := by simpa using hql
          have hri2 : RI wr r lb.length (fun j => V (k, j)) := HRI.out.congr fun j hj => by rw [if_pos (by omega)]
          have HROW := Lib.hid (hri2.own (base := wo.heap.size) (Nat.le_of_eq HRR.out) (by omega))
          have HFIN := Lib.hid HA2.out
          clear hri2 HRI
          go_wp2_with (at_builtin; refine wpList_app_list rfl _ _ rfl (W := wo) HOW.out hws rfl rfl (cell_new1 _ _ _) rfl (HFIN.out.then_alloc _) (own_aft HROW.out (Aft.alloc _ _)) hll ?_; intro v' vs' w5 hown5 hg5)
          have hlt : ∀ g', u11.ownBlock = some g' → w2.heap.size ≤ g' := fun g' hg' => (HOW.out.own.lt g' hg').1
          refine ⟨⟨k + 1, by go_num, by omega, (((HW.out.trans HFIN.out).then_alloc _).grown hg5 hlt), vs', ?_⟩, by simp [intOf]; omega⟩
          rw [HTS.out]
          exact hown5
    · have t1 : decide (k < la.length) = false := by simpa using hkl
      obtain rfl : k = la.length := by omega
      go_wp2_with fail
      exact bodyPost_ret (v := .tuple #[u11, .int .i64 0]) (by simp [results, Try.results26, go_sem]) rfl ⟨u11, V, rfl, ⟨vs, HOW.out.mono hw2⟩, HLV.out, HV.out, H2.out.trans HW.out⟩
end Go.Proofs
end

section
/- Walks: Bars 23, in all cases. -/
namespace Go.Proofs
open Go.RowKit
attribute [local go_sem] Oper.semAt_some

/-- Levels of the right shape. -/
structure ShapeL (lv : List (List Int)) (n m : Nat) : Prop where
  n : lv.length = n
  m : ∀ r ∈ lv, r.length = m
/-- .. and of numbers that can be. -/
def ValL (lv : List (List Int)) : Prop := ∀ r ∈ lv, ∀ x ∈ r, 0 ≤ x ∧ x ≤ 30
theorem ShapeL.ok {lv : List (List Int)} {n m : Nat} (h : ShapeL lv n m) (hv : ValL lv) : LvlOk lv n m := ⟨h.n, h.m, hv⟩
/-- What Bars answers. -/
def BarsW (play : Int) (la lb : List (Int × Int)) (lv : List (List Int)) (v err : Int) : Prop :=
  (edgesE la lb play ≠ 0 ∧ v = 0 ∧ err = edgesE la lb play) ∨ edgesE la lb play = 0 ∧
   ((¬ ShapeL lv la.length lb.length ∧ v = 0 ∧ err = 2) ∨ ShapeL lv la.length lb.length ∧
    ((¬ ValL lv ∧ v = 0 ∧ err = 4) ∨ ValL lv ∧
     ((¬ Sheet.Bar (sameB play la lb) la.length lb.length (fun a b => vN lv (a, b)) ∧ v = 0 ∧ err = 9) ∨
      (Sheet.Bar (sameB play la lb) la.length lb.length (fun a b => vN lv (a, b)) ∧ ∃ mx : Nat, v = mx ∧ err = 0 ∧ Sheet.MaxTo la.length lb.length (vN lv) (la.length * lb.length) mx))))

set_option maxRecDepth 100000 in
set_option maxHeartbeats 4000000 in
theorem bars_edges (la lb : List (Int × Int)) (play : Int) (lv : List (List Int)) (A B Al : Option Addr) (ca cb cl : Nat) (w : World) (hA : Prs w A la) (hB : Prs w B lb) (hL : Lists w Al lv) (ee : Int) (he : edgesE la lb play = ee) (hne : ee ≠ 0) :
    Calls Try.prog 23 #[.slice A la.length ca, .slice B lb.length cb, .int .i64 play, .slice Al lv.length cl] w fun e w' => e = .returned (.tuple #[.int .i64 0, .int .i64 ee]) ∧ Aft w w' := by
  obtain ⟨s, hs⟩ : ∃ s, w.heap.size = s := ⟨_, rfl⟩
  have F0 := ((((Fr.start w).alloc rfl 48 #[.slice B lb.length cb]).alloc (by simp) 50 #[.slice Al lv.length cl]).alloc (by simp) 3 #[.int .i64 0]).alloc (by simp) 38 #[.int .i64 0]
  simp only [List.nil_append, List.cons_append] at F0
  rw [hs] at F0
  have HF0 := Lib.hid F0
  have HL0 := Lib.hid hL
  have HA0 := Lib.hid hA
  have HB0 := Lib.hid hB
  have HQ := Lib.hid fun W (h : Aft w W) => asked_bad A B ca cb (HA0.out.aft h) (HB0.out.aft h) (he ▸ hne)
  rw [he] at HQ
  have t1 : (ee != 0) = true := by simpa using hne
  clear he hne
  clear hA hB hL F0
  go_enter Try.func23, Try.ntmps23
  go_upto_region 1 with fail
  try rw [hs]
  generalize (((w.alloc (.cells #[.slice B lb.length cb] 48)).alloc (.cells #[.slice Al lv.length cl] 50)).alloc (.cells #[.int .i64 0] 3)).alloc (.cells #[.int .i64 0] 38) = W1 at *
  have y0 : W1.cell? ⟨s, 0, none⟩ = some (.slice B lb.length cb) := (HF0.out.nth 0 rfl).cell 0
  have y1 := (HF0.out.nth 0 rfl).lt
  have HQ1 := Lib.hid (HQ.out W1 HF0.out.aft)
  go_upto_region 2 with (go_at_call 56; refine HQ1.out.mono ?_; rintro e w2 ⟨rfl, ha2⟩)
  clear y0 y1 HQ HQ1
  have HX := Lib.hid (ha2.then_alloc (.cells #[.pointer none] 132))
  generalize w2.alloc (.cells #[.pointer none] 132) = W3 at *
  have HF3 := Lib.hid (HF0.out.later HX.out)
  clear ha2
  have p0 : W3.cell? ⟨s + 1 + 1, 0, none⟩ = some (.int .i64 0) := (HF3.out.nth 2 rfl).cell 0
  have p1 := (HF3.out.nth 2 rfl).frozen 0
  have p2 := (HF3.out.nth 2 rfl).lt
  have q0 : W3.cell? ⟨s + 1 + 1 + 1, 0, none⟩ = some (.int .i64 0) := (HF3.out.nth 3 rfl).cell 0
  have q1 := (HF3.out.nth 3 rfl).frozen 0
  have q2 := (HF3.out.nth 3 rfl).lt
  go_wp2_with fail
  have k1 := (HF3.out.nth 2 rfl).store 0 (.int .i64 0)
  have k2 := ((HF3.out.nth 3 rfl).far (p := ⟨s + 1 + 1, 0, none⟩) (by simp) (.int .i64 0)).store 0 (.int .i64 ee)
  have k3 := k1.far (p := ⟨s + 1 + 1 + 1, 0, none⟩) (by simp) (.int .i64 ee)
  have ha : Aft w ((W3.setCell ⟨s + 1 + 1, 0, none⟩ (.int .i64 0)).setCell ⟨s + 1 + 1 + 1, 0, none⟩ (.int .i64 ee)) := (HF3.out.aft.then_setCell (p := ⟨s + 1 + 1, 0, none⟩) (by rw [hs]; exact Nat.le_add_right _ 2) _).then_setCell (p := ⟨s + 1 + 1 + 1, 0, none⟩) (by rw [hs]; exact Nat.le_add_right _ 3) _
  generalize (W3.setCell ⟨s + 1 + 1, 0, none⟩ (.int .i64 0)).setCell ⟨s + 1 + 1 + 1, 0, none⟩ (.int .i64 ee) = X at *
  have z0 : X.cell? ⟨s + 1 + 1, 0, none⟩ = some (.int .i64 0) := k3.cell 0
  have z1 : X.cell? ⟨s + 1 + 1 + 1, 0, none⟩ = some (.int .i64 ee) := k2.cell 0
  exact bodyPost_ret (v := .tuple #[.int .i64 0, .int .i64 ee]) (by simp [results, Try.results23, go_sem, z0, z1]) rfl ⟨rfl, ha⟩

set_option maxRecDepth 100000 in
set_option maxHeartbeats 4000000 in
theorem bars_count (la lb : List (Int × Int)) (play : Int) (lv : List (List Int)) (A B Al : Option Addr) (ca cb cl : Nat) (w : World) (hA : Prs w A la) (hB : Prs w B lb) (hL : Lists w Al lv) (he : edgesE la lb play = 0) (hn : lv.length ≠ la.length) :
    Calls Try.prog 23 #[.slice A la.length ca, .slice B lb.length cb, .int .i64 play, .slice Al lv.length cl] w fun e w' => e = .returned (.tuple #[.int .i64 0, .int .i64 2]) ∧ Aft w w' := by
  obtain ⟨s, hs⟩ : ∃ s, w.heap.size = s := ⟨_, rfl⟩
  have F0 := ((((Fr.start w).alloc rfl 48 #[.slice B lb.length cb]).alloc (by simp) 50 #[.slice Al lv.length cl]).alloc (by simp) 3 #[.int .i64 0]).alloc (by simp) 38 #[.int .i64 0]
  simp only [List.nil_append, List.cons_append] at F0
  rw [hs] at F0
  have HF0 := Lib.hid F0
  have HL0 := Lib.hid hL
  have HA0 := Lib.hid hA
  have HB0 := Lib.hid hB
  have HQ := Lib.hid fun W (h : Aft w W) => asked_good A B ca cb (HA0.out.aft h) (HB0.out.aft h) he
  have hla := (edgesE_ok he).1
  have hlb := (edgesE_ok he).2.1
  have hll := hL.len
  have t1 : ((lv.length : Int) != (la.length : Int)) = true := by rw [bne_iff_ne]; omega
  clear he hn
  clear hA hB hL F0
  go_enter Try.func23, Try.ntmps23
  go_upto_region 1 with fail
  try rw [hs]
  generalize (((w.alloc (.cells #[.slice B lb.length cb] 48)).alloc (.cells #[.slice Al lv.length cl] 50)).alloc (.cells #[.int .i64 0] 3)).alloc (.cells #[.int .i64 0] 38) = W1 at *
  have y0 : W1.cell? ⟨s, 0, none⟩ = some (.slice B lb.length cb) := (HF0.out.nth 0 rfl).cell 0
  have y1 := (HF0.out.nth 0 rfl).lt
  have HQ1 := Lib.hid (HQ.out W1 HF0.out.aft)
  go_upto_region 2 with (go_at_call 56; refine HQ1.out.mono ?_; rintro e w2 ⟨x, rfl, h2⟩)
  have ha2 : Aft W1 w2 := h2.2.2.1
  clear y0 y1 h2 HQ HQ1
  have HX := Lib.hid (ha2.then_alloc (.cells #[.pointer (some ⟨x, 0, none⟩)] 132))
  generalize w2.alloc (.cells #[.pointer (some ⟨x, 0, none⟩)] 132) = W3 at *
  have HF3 := Lib.hid (HF0.out.later HX.out)
  clear ha2
  have c1 : W3.cell? ⟨s + 1, 0, none⟩ = some (.slice Al lv.length cl) := (HF3.out.nth 1 rfl).cell 0
  have c2 := (HF3.out.nth 1 rfl).lt
  have d1 : W3.cell? ⟨s, 0, none⟩ = some (.slice B lb.length cb) := (HF3.out.nth 0 rfl).cell 0
  have d2 := (HF3.out.nth 0 rfl).lt
  have p0 : W3.cell? ⟨s + 1 + 1, 0, none⟩ = some (.int .i64 0) := (HF3.out.nth 2 rfl).cell 0
  have p1 := (HF3.out.nth 2 rfl).frozen 0
  have p2 := (HF3.out.nth 2 rfl).lt
  have q0 : W3.cell? ⟨s + 1 + 1 + 1, 0, none⟩ = some (.int .i64 0) := (HF3.out.nth 3 rfl).cell 0
  have q1 := (HF3.out.nth 3 rfl).frozen 0
  have q2 := (HF3.out.nth 3 rfl).lt
  go_wp2_with fail
  have k1 := (HF3.out.nth 2 rfl).store 0 (.int .i64 0)
  have k2 := ((HF3.out.nth 3 rfl).far (p := ⟨s + 1 + 1, 0, none⟩) (by simp) (.int .i64 0)).store 0 (.int .i64 2)
  have k3 := k1.far (p := ⟨s + 1 + 1 + 1, 0, none⟩) (by simp) (.int .i64 2)
  have ha : Aft w ((W3.setCell ⟨s + 1 + 1, 0, none⟩ (.int .i64 0)).setCell ⟨s + 1 + 1 + 1, 0, none⟩ (.int .i64 2)) := (HF3.out.aft.then_setCell (p := ⟨s + 1 + 1, 0, none⟩) (by rw [hs]; exact Nat.le_add_right _ 2) _).then_setCell (p := ⟨s + 1 + 1 + 1, 0, none⟩) (by rw [hs]; exact Nat.le_add_right _ 3) _
  generalize (W3.setCell ⟨s + 1 + 1, 0, none⟩ (.int .i64 0)).setCell ⟨s + 1 + 1 + 1, 0, none⟩ (.int .i64 2) = X at *
  have z0 : X.cell? ⟨s + 1 + 1, 0, none⟩ = some (.int .i64 0) := k3.cell 0
  have z1 : X.cell? ⟨s + 1 + 1 + 1, 0, none⟩ = some (.int .i64 2) := k2.cell 0
  exact bodyPost_ret (v := .tuple #[.int .i64 0, .int .i64 2]) (by simp [results, Try.results23, go_sem, z0, z1]) rfl ⟨rfl, ha⟩

set_option maxRecDepth 100000 in
set_option maxHeartbeats 4000000 in
theorem bars_len (la lb : List (Int × Int)) (play : Int) (lv : List (List Int)) (A B Al : Option Addr) (ca cb cl : Nat) (w : World) (hA : Prs w A la) (hB : Prs w B lb) (hL : Lists w Al lv) (he : edgesE la lb play = 0) (hn : lv.length = la.length) (hm : (lv.all fun r => decide (r.length = lb.length)) = false) :
    Calls Try.prog 23 #[.slice A la.length ca, .slice B lb.length cb, .int .i64 play, .slice Al lv.length cl] w fun e w' => e = .returned (.tuple #[.int .i64 0, .int .i64 2]) ∧ Aft w w' := by
  obtain ⟨s, hs⟩ : ∃ s, w.heap.size = s := ⟨_, rfl⟩
  have F0 := ((((Fr.start w).alloc rfl 48 #[.slice B lb.length cb]).alloc (by simp) 50 #[.slice Al lv.length cl]).alloc (by simp) 3 #[.int .i64 0]).alloc (by simp) 38 #[.int .i64 0]
  simp only [List.nil_append, List.cons_append] at F0
  rw [hs] at F0
  have HF0 := Lib.hid F0
  have HL0 := Lib.hid hL
  have HA0 := Lib.hid hA
  have HB0 := Lib.hid hB
  have HQ := Lib.hid fun W (h : Aft w W) => asked_good A B ca cb (HA0.out.aft h) (HB0.out.aft h) he
  have hla := (edgesE_ok he).1
  have hlb := (edgesE_ok he).2.1
  have hll := hL.len
  have t1 : ((lv.length : Int) != (la.length : Int)) = false := by rw [bne_eq_false_iff_eq]; omega
  have HEL : Hid (∀ W, Lists W Al lv → Blk W s 48 #[.slice B lb.length cb] → Calls Try.prog 63 #[.slice Al lv.length cl, .func (.func 64) #[] #[.pointer (some ⟨s, 0, none⟩)]] W fun e w' => e = .returned (.bool false) ∧ Aft W w') := Lib.hid fun W h1 h2 => by
    have := every_len lv Al cl lb.length s B cb W h1 h2
    rw [hm] at this
    exact this
  clear he hn hm
  clear hA hB hL F0
  go_enter Try.func23, Try.ntmps23
  go_upto_region 1 with fail
  try rw [hs]
  generalize (((w.alloc (.cells #[.slice B lb.length cb] 48)).alloc (.cells #[.slice Al lv.length cl] 50)).alloc (.cells #[.int .i64 0] 3)).alloc (.cells #[.int .i64 0] 38) = W1 at *
  have y0 : W1.cell? ⟨s, 0, none⟩ = some (.slice B lb.length cb) := (HF0.out.nth 0 rfl).cell 0
  have y1 := (HF0.out.nth 0 rfl).lt
  have HQ1 := Lib.hid (HQ.out W1 HF0.out.aft)
  go_upto_region 2 with (go_at_call 56; refine HQ1.out.mono ?_; rintro e w2 ⟨x, rfl, h2⟩)
  have ha2 : Aft W1 w2 := h2.2.2.1
  clear y0 y1 h2 HQ HQ1
  have HX := Lib.hid (ha2.then_alloc (.cells #[.pointer (some ⟨x, 0, none⟩)] 132))
  generalize w2.alloc (.cells #[.pointer (some ⟨x, 0, none⟩)] 132) = W3 at *
  have HF3 := Lib.hid (HF0.out.later HX.out)
  clear ha2
  have c1 : W3.cell? ⟨s + 1, 0, none⟩ = some (.slice Al lv.length cl) := (HF3.out.nth 1 rfl).cell 0
  have c2 := (HF3.out.nth 1 rfl).lt
  have d1 : W3.cell? ⟨s, 0, none⟩ = some (.slice B lb.length cb) := (HF3.out.nth 0 rfl).cell 0
  have d2 := (HF3.out.nth 0 rfl).lt
  have HEL1 := Lib.hid (HEL.out W3 (HL0.out.aft HF3.out.aft) (HF3.out.nth 0 rfl))
  go_upto_region 5 with (go_at_call 63; refine HEL1.out.mono ?_; rintro e W4 ⟨rfl, ha4⟩)
  have HF4 := Lib.hid (HF3.out.later ha4)
  clear c1 c2 d1 d2 ha4 HEL HEL1
  have p0 : W4.cell? ⟨s + 1 + 1, 0, none⟩ = some (.int .i64 0) := (HF4.out.nth 2 rfl).cell 0
  have p1 := (HF4.out.nth 2 rfl).frozen 0
  have p2 := (HF4.out.nth 2 rfl).lt
  have q0 : W4.cell? ⟨s + 1 + 1 + 1, 0, none⟩ = some (.int .i64 0) := (HF4.out.nth 3 rfl).cell 0
  have q1 := (HF4.out.nth 3 rfl).frozen 0
  have q2 := (HF4.out.nth 3 rfl).lt
  go_wp2_with fail
  have k1 := (HF4.out.nth 2 rfl).store 0 (.int .i64 0)
  have k2 := ((HF4.out.nth 3 rfl).far (p := ⟨s + 1 + 1, 0, none⟩) (by simp) (.int .i64 0)).store 0 (.int .i64 2)
  have k3 := k1.far (p := ⟨s + 1 + 1 + 1, 0, none⟩) (by simp) (.int .i64 2)
  have ha : Aft w ((W4.setCell ⟨s + 1 + 1, 0, none⟩ (.int .i64 0)).setCell ⟨s + 1 + 1 + 1, 0, none⟩ (.int .i64 2)) := (HF4.out.aft.then_setCell (p := ⟨s + 1 + 1, 0, none⟩) (by rw [hs]; exact Nat.le_add_right _ 2) _).then_setCell (p := ⟨s + 1 + 1 + 1, 0, none⟩) (by rw [hs]; exact Nat.le_add_right _ 3) _
  generalize (W4.setCell ⟨s + 1 + 1, 0, none⟩ (.int .i64 0)).setCell ⟨s + 1 + 1 + 1, 0, none⟩ (.int .i64 2) = X at *
  have z0 : X.cell? ⟨s + 1 + 1, 0, none⟩ = some (.int .i64 0) := k3.cell 0
  have z1 : X.cell? ⟨s + 1 + 1 + 1, 0, none⟩ = some (.int .i64 2) := k2.cell 0
  exact bodyPost_ret (v := .tuple #[.int .i64 0, .int .i64 2]) (by simp [results, Try.results23, go_sem, z0, z1]) rfl ⟨rfl, ha⟩

set_option maxRecDepth 100000 in
set_option maxHeartbeats 4000000 in
theorem bars_value (la lb : List (Int × Int)) (play : Int) (lv : List (List Int)) (A B Al : Option Addr) (ca cb cl : Nat) (w : World) (hA : Prs w A la) (hB : Prs w B lb) (hL : Lists w Al lv) (he : edgesE la lb play = 0) (hn : lv.length = la.length) (hm : (lv.all fun r => decide (r.length = lb.length)) = true) (hv : (lv.all fun r => r.all lvlB) = false) :
    Calls Try.prog 23 #[.slice A la.length ca, .slice B lb.length cb, .int .i64 play, .slice Al lv.length cl] w fun e w' => e = .returned (.tuple #[.int .i64 0, .int .i64 4]) ∧ Aft w w' := by
  obtain ⟨s, hs⟩ : ∃ s, w.heap.size = s := ⟨_, rfl⟩
  have F0 := ((((Fr.start w).alloc rfl 48 #[.slice B lb.length cb]).alloc (by simp) 50 #[.slice Al lv.length cl]).alloc (by simp) 3 #[.int .i64 0]).alloc (by simp) 38 #[.int .i64 0]
  simp only [List.nil_append, List.cons_append] at F0
  rw [hs] at F0
  have HF0 := Lib.hid F0
  have HL0 := Lib.hid hL
  have HA0 := Lib.hid hA
  have HB0 := Lib.hid hB
  have HQ := Lib.hid fun W (h : Aft w W) => asked_good A B ca cb (HA0.out.aft h) (HB0.out.aft h) he
  have hla := (edgesE_ok he).1
  have hlb := (edgesE_ok he).2.1
  have hll := hL.len
  have t1 : ((lv.length : Int) != (la.length : Int)) = false := by rw [bne_eq_false_iff_eq]; omega
  have HEL : Hid (∀ W, Lists W Al lv → Blk W s 48 #[.slice B lb.length cb] → Calls Try.prog 63 #[.slice Al lv.length cl, .func (.func 64) #[] #[.pointer (some ⟨s, 0, none⟩)]] W fun e w' => e = .returned (.bool true) ∧ Aft W w') := Lib.hid fun W h1 h2 => by
    have := every_len lv Al cl lb.length s B cb W h1 h2
    rw [hm] at this
    exact this
  have HEV : Hid (∀ W, Lists W Al lv → Calls Try.prog 63 #[.slice Al lv.length cl, .func (.func 65) #[] #[]] W fun e w' => e = .returned (.bool false) ∧ Aft W w') := Lib.hid fun W h => by
    have := every_rows lv Al cl W h
    rw [hv] at this
    exact this
  clear he hn hm hv
  clear hA hB hL F0
  go_enter Try.func23, Try.ntmps23
  go_upto_region 1 with fail
  try rw [hs]
  generalize (((w.alloc (.cells #[.slice B lb.length cb] 48)).alloc (.cells #[.slice Al lv.length cl] 50)).alloc (.cells #[.int .i64 0] 3)).alloc (.cells #[.int .i64 0] 38) = W1 at *
  have y0 : W1.cell? ⟨s, 0, none⟩ = some (.slice B lb.length cb) := (HF0.out.nth 0 rfl).cell 0
  have y1 := (HF0.out.nth 0 rfl).lt
  have HQ1 := Lib.hid (HQ.out W1 HF0.out.aft)
  go_upto_region 2 with (go_at_call 56; refine HQ1.out.mono ?_; rintro e w2 ⟨x, rfl, h2⟩)
  have ha2 : Aft W1 w2 := h2.2.2.1
  clear y0 y1 h2 HQ HQ1
  have HX := Lib.hid (ha2.then_alloc (.cells #[.pointer (some ⟨x, 0, none⟩)] 132))
  generalize w2.alloc (.cells #[.pointer (some ⟨x, 0, none⟩)] 132) = W3 at *
  have HF3 := Lib.hid (HF0.out.later HX.out)
  clear ha2
  have c1 : W3.cell? ⟨s + 1, 0, none⟩ = some (.slice Al lv.length cl) := (HF3.out.nth 1 rfl).cell 0
  have c2 := (HF3.out.nth 1 rfl).lt
  have d1 : W3.cell? ⟨s, 0, none⟩ = some (.slice B lb.length cb) := (HF3.out.nth 0 rfl).cell 0
  have d2 := (HF3.out.nth 0 rfl).lt
  have HEL1 := Lib.hid (HEL.out W3 (HL0.out.aft HF3.out.aft) (HF3.out.nth 0 rfl))
  go_upto_region 6 with (go_at_call 63; refine HEL1.out.mono ?_; rintro e W4 ⟨rfl, ha4⟩)
  have HF4 := Lib.hid (HF3.out.later ha4)
  have HEV1 := Lib.hid (HEV.out W4 (HL0.out.aft HF4.out.aft))
  clear c1 c2 d1 d2 ha4 HEL HEL1
  have c1 : W4.cell? ⟨s + 1, 0, none⟩ = some (.slice Al lv.length cl) := (HF4.out.nth 1 rfl).cell 0
  have c2 := (HF4.out.nth 1 rfl).lt
  go_upto_region 7 with (go_at_call 63; refine HEV1.out.mono ?_; rintro e W5 ⟨rfl, ha5⟩)
  have HF5 := Lib.hid (HF4.out.later ha5)
  clear c1 c2 ha5 HEV HEV1
  have p0 : W5.cell? ⟨s + 1 + 1, 0, none⟩ = some (.int .i64 0) := (HF5.out.nth 2 rfl).cell 0
  have p1 := (HF5.out.nth 2 rfl).frozen 0
  have p2 := (HF5.out.nth 2 rfl).lt
  have q0 : W5.cell? ⟨s + 1 + 1 + 1, 0, none⟩ = some (.int .i64 0) := (HF5.out.nth 3 rfl).cell 0
  have q1 := (HF5.out.nth 3 rfl).frozen 0
  have q2 := (HF5.out.nth 3 rfl).lt
  go_wp2_with fail
  have k1 := (HF5.out.nth 2 rfl).store 0 (.int .i64 0)
  have k2 := ((HF5.out.nth 3 rfl).far (p := ⟨s + 1 + 1, 0, none⟩) (by simp) (.int .i64 0)).store 0 (.int .i64 4)
  have k3 := k1.far (p := ⟨s + 1 + 1 + 1, 0, none⟩) (by simp) (.int .i64 4)
  have ha : Aft w ((W5.setCell ⟨s + 1 + 1, 0, none⟩ (.int .i64 0)).setCell ⟨s + 1 + 1 + 1, 0, none⟩ (.int .i64 4)) := (HF5.out.aft.then_setCell (p := ⟨s + 1 + 1, 0, none⟩) (by rw [hs]; exact Nat.le_add_right _ 2) _).then_setCell (p := ⟨s + 1 + 1 + 1, 0, none⟩) (by rw [hs]; exact Nat.le_add_right _ 3) _
  generalize (W5.setCell ⟨s + 1 + 1, 0, none⟩ (.int .i64 0)).setCell ⟨s + 1 + 1 + 1, 0, none⟩ (.int .i64 4) = X at *
  have z0 : X.cell? ⟨s + 1 + 1, 0, none⟩ = some (.int .i64 0) := k3.cell 0
  have z1 : X.cell? ⟨s + 1 + 1 + 1, 0, none⟩ = some (.int .i64 4) := k2.cell 0
  exact bodyPost_ret (v := .tuple #[.int .i64 0, .int .i64 4]) (by simp [results, Try.results23, go_sem, z0, z1]) rfl ⟨rfl, ha⟩

theorem bars_all (la lb : List (Int × Int)) (play : Int) (lv : List (List Int)) (A B Al : Option Addr) (ca cb cl : Nat) (w : World) (hA : Prs w A la) (hB : Prs w B lb) (hL : Lists w Al lv) :
    Calls Try.prog 23 #[.slice A la.length ca, .slice B lb.length cb, .int .i64 play, .slice Al lv.length cl] w fun e w' => ∃ v err, e = .returned (.tuple #[.int .i64 v, .int .i64 err]) ∧ BarsW play la lb lv v err ∧ Aft w w' := by
  by_cases he : edgesE la lb play = 0
  case neg => exact (bars_edges la lb play lv A B Al ca cb cl w hA hB hL _ rfl he).mono fun e w' ⟨h1, h2⟩ => ⟨_, _, h1, .inl ⟨he, rfl, rfl⟩, h2⟩
  by_cases hn : lv.length = la.length
  case neg => exact (bars_count la lb play lv A B Al ca cb cl w hA hB hL he hn).mono fun e w' ⟨h1, h2⟩ => ⟨_, _, h1, .inr ⟨he, .inl ⟨fun h => hn h.n, rfl, rfl⟩⟩, h2⟩
  cases hm : lv.all fun r => decide (r.length = lb.length)
  · exact (bars_len la lb play lv A B Al ca cb cl w hA hB hL he hn hm).mono fun e w' ⟨h1, h2⟩ => ⟨_, _, h1, .inr ⟨he, .inl ⟨fun h => Bool.noConfusion ((List.all_eq_true.2 fun r hr => decide_eq_true (h.m r hr)).symm.trans hm), rfl, rfl⟩⟩, h2⟩
  have hsh : ShapeL lv la.length lb.length := ⟨hn, fun r hr => of_decide_eq_true (List.all_eq_true.1 hm r hr)⟩
  cases hv : lv.all fun r => r.all lvlB
  · exact (bars_value la lb play lv A B Al ca cb cl w hA hB hL he hn hm hv).mono fun e w' ⟨h1, h2⟩ => ⟨_, _, h1, .inr ⟨he, .inr ⟨hsh, .inl ⟨fun h => Bool.noConfusion ((List.all_eq_true.2 fun r hr => List.all_eq_true.2 fun x hx => by unfold lvlB; rw [fromB_iff]; exact h r hr x hx).symm.trans hv), rfl, rfl⟩⟩⟩, h2⟩
  have hvl : ValL lv := fun r hr x hx => by
    have := List.all_eq_true.1 (List.all_eq_true.1 hv r hr) x hx
    unfold lvlB at this
    rwa [fromB_iff] at this
  refine (bars_good la lb play lv A B Al ca cb cl w hA hB hL he (hsh.ok hvl)).mono fun e w' ⟨ha, h⟩ => ?_
  rcases h with ⟨mx, rfl, hb, hx⟩ | ⟨rfl, hb⟩
  · exact ⟨_, _, rfl, .inr ⟨he, .inr ⟨hsh, .inr ⟨hvl, .inr ⟨hb, mx, rfl, rfl, hx⟩⟩⟩⟩, ha⟩
  · exact ⟨_, _, rfl, .inr ⟨he, .inr ⟨hsh, .inr ⟨hvl, .inl ⟨hb, rfl, rfl⟩⟩⟩⟩, ha⟩
end Go.Proofs
end

section
/- Plain: what SheetEdges asks of a match and of levels that are returned. -/
namespace Go.Proofs
open Go.RowKit

theorem chain_len {S : Nat → Nat → Bool} {n m : Nat} {l : List (Nat × Nat)} (h : Sheet.Chain S n m 0 0 l) : l.length ≤ n := by
  have h1 := Sheet.distinct_le n (l.map fun p => p.1 + 1) (List.pairwise_map.2 (h.rise.imp fun {p q} hpq => by omega)) fun x hx => by
    obtain ⟨p, hp, rfl⟩ := List.mem_map.1 hx
    have := h.high p hp
    omega
  simpa using h1
theorem chain_walk {play : Int} {la lb : List (Int × Int)} : ∀ (l : List (Nat × Nat)) (last : Int × Int), (∀ p ∈ l, last.1 < (p.1 : Int) ∧ last.2 < (p.2 : Int)) → l.Pairwise (fun p q => p.1 < q.1 ∧ p.2 < q.2) → (∀ p ∈ l, sameB play la lb p.1 p.2 = true) → walkB play la lb last (l.map castP) = true
  | [], _, _, _, _ => rfl
  | p :: r, last, h1, h2, h3 => by
    have k1 := h1 p (by simp)
    have k2 := List.pairwise_cons.1 h2
    have k3 := h3 p (by simp)
    have ih := chain_walk (play := play) (la := la) (lb := lb) r (castP p) (fun q hq => by
      have := k2.1 q hq
      constructor
      · show (p.1 : Int) < (q.1 : Int)
        omega
      · show (p.2 : Int) < (q.2 : Int)
        omega) k2.2 (fun q hq => h3 q (by simp [hq]))
    rw [List.map_cons]
    unfold walkB
    rw [ih, Bool.and_true]
    unfold stepB castP
    dsimp only
    rw [decide_eq_true k1.1, decide_eq_true k1.2, Bool.true_and, Bool.true_and, Int.toNat_natCast, Int.toNat_natCast]
    exact k3
theorem chain_match {play : Int} {la lb : List (Int × Int)} {l : List (Nat × Nat)} (he : edgesE la lb play = 0) (h : Sheet.Chain (sameB play la lb) la.length lb.length 0 0 l) : matchE la lb play (l.map castP) = 0 ∧ matchV la lb play (l.map castP) = true := by
  have h1 : (l.map castP).all (inP la.length lb.length) = true := List.all_eq_true.2 fun p hp => by
    obtain ⟨q, hq, rfl⟩ := List.mem_map.1 hp
    have := h.high q hq
    unfold inP castP
    dsimp only
    rw [Bool.and_eq_true, fromB_iff, fromB_iff]
    omega
  have h2 : matchE la lb play (l.map castP) = 0 := by
    unfold matchE
    rw [if_neg (by rw [he]; decide), if_neg (by rw [h1]; decide)]
  refine ⟨h2, ?_⟩
  unfold matchV
  rw [h2, chain_walk l (-1, -1) (fun p _ => ⟨by show (-1 : Int) < (p.1 : Int); omega, by show (-1 : Int) < (p.2 : Int); omega⟩) h.rise h.same]
  rfl
theorem rowsV_shape (V : Nat × Nat → Nat) (n m : Nat) : ShapeL (rowsV V n m) n m := ⟨by unfold rowsV; simp, fun r hr => by
  unfold rowsV at hr
  obtain ⟨i, -, rfl⟩ := List.mem_map.1 hr
  simp⟩
theorem rowsV_at (V : Nat × Nat → Nat) {n m i k : Nat} (hi : i < n) (hk : k < m) : vN (rowsV V n m) (i, k) = V (i, k) := by
  unfold vN rowsV
  simp [List.getD_eq_getElem?_getD, hi, hk]
theorem rowsV_val {V : Nat × Nat → Nat} {n m : Nat} (h : ∀ a b, a < n → b < m → V (a, b) ≤ a + 1) (hn : n ≤ 30) : ValL (rowsV V n m) := fun r hr x hx => by
  unfold rowsV at hr
  obtain ⟨i, hi, rfl⟩ := List.mem_map.1 hr
  obtain ⟨k, hk, rfl⟩ := List.mem_map.1 hx
  have := h i k (List.mem_range.1 hi) (List.mem_range.1 hk)
  have := List.mem_range.1 hi
  omega
theorem levels_bars {play : Int} {la lb : List (Int × Int)} {V : Nat × Nat → Nat} (he : edgesE la lb play = 0) (hL : Sheet.Levels (sameB play la lb) la.length lb.length fun a b => V (a, b)) (hV : ∀ a b, a < la.length → b < lb.length → V (a, b) ≤ a + 1)
    {t : Nat} (ht : Sheet.Long (sameB play la lb) la.length lb.length 0 0 t) {v err : Int} (h : BarsW play la lb (rowsV V la.length lb.length) v err) : v = (t : Int) ∧ err = 0 := by
  obtain ⟨hla, hlb, -, -, -, -, -⟩ := edgesE_ok he
  have hb := hL.bar
  rcases h with ⟨h1, -⟩ | ⟨-, ⟨h1, -⟩ | ⟨-, ⟨h1, -⟩ | ⟨-, ⟨h1, -⟩ | ⟨-, mx, rfl, rfl, hx⟩⟩⟩⟩
  · exact absurd he h1
  · exact absurd (rowsV_shape V _ _) h1
  · exact absurd (rowsV_val hV hla) h1
  · refine absurd ⟨fun i k hi hk => ?_, fun i k i' k' hi hk hi' hk' => ?_⟩ h1
    · show 0 < vN _ (i, k) ↔ _
      rw [rowsV_at V hi hk]
      exact hb.iff i k hi hk
    · show 0 < vN _ (i, k) → vN _ (i', k') ≠ vN _ (i, k)
      rw [rowsV_at V hi hk, rowsV_at V (by omega) (by omega)]
      exact hb.ne i k i' k' hi hk hi' hk'
  · have hl : Sheet.Long (sameB play la lb) la.length lb.length 0 0 mx := hL.long (fun i k hi hk => by
      have := hx.le i k hi hk (Sheet.idx_lt hi hk)
      rwa [rowsV_at V hi hk] at this) (by
      rcases hx.has with e | ⟨i, k, hi, hk, e⟩
      · exact .inl e
      · rw [rowsV_at V hi hk] at e
        exact .inr ⟨i, k, hi, hk, e⟩)
    rw [hl.same ht]
    exact ⟨rfl, rfl⟩
end Go.Proofs
end
