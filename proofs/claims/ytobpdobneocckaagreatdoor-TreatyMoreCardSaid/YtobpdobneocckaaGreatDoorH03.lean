/- Own texts, merged: Dfs Lim2 WkL Ok Mad Own2 Own3 Tail Xg Xh Xi Sc Xj. -/
import Derived.Test.YtobpdobneocckaaGreatDoorH02
import Derived.Laws.EntriesVeiled
import Derived.Maps.AppendAt
import Derived.Deep.Onto
import Derived.StillTailTactics
import Derived.Deep.RegionLaw
set_option linter.unusedSimpArgs false
set_option linter.unusedVariables false
section
/- Plain: where one can go, by a search that follows each way once. -/
namespace Go.Proofs

/-- whether a way joins two places, one way or the other, and is of some kind -/
def joins (kinds : List Int) (w : Way) (a b : Int) : Bool := hasB kinds w.kind && (decide (w.a = a) && decide (w.b = b) || decide (w.b = a) && decide (w.a = b))
def edgeB (ws : List Way) (kinds : List Int) (a b : Int) : Bool := ws.any fun w => joins kinds w a b

/-- One can go along one way or more. -/
inductive ReachP (E : Int → Int → Bool) : Int → Int → Prop
  | one {a b : Int} : E a b = true → ReachP E a b
  | step {a b c : Int} : E a b = true → ReachP E b c → ReachP E a c

/-- What a search that began with xs may have come to. -/
structure DfsOk (E : Int → Int → Bool) (s : Int) (xs ys : List Int) : Prop where
  len : xs.length ≤ ys.length
  sub : ∀ x ∈ xs, x ∈ ys
  nodup : ys.Nodup
  reach : ∀ y ∈ ys, y ∉ xs → ReachP E s y
  closed : ∀ y ∈ ys, y ∉ xs → ∀ z, E y z = true → z ∈ ys

theorem DfsOk.refl {E : Int → Int → Bool} {s : Int} {xs : List Int} (h : xs.Nodup) : DfsOk E s xs xs := ⟨Nat.le_refl _, fun _ h => h, h, fun _ h1 h2 => absurd h1 h2, fun _ h1 h2 => absurd h1 h2⟩

theorem DfsOk.grow {E : Int → Int → Bool} {s b : Int} {xs ys zs : List Int} (h : DfsOk E s xs ys) (he : E s b = true) (k : DfsOk E b (ys ++ [b]) zs) (hb : ∀ z, E b z = true → z ∈ zs) : DfsOk E s xs zs := by
  have hsub : ∀ y ∈ ys, y ∈ zs := fun y hy => k.sub y (by simp [hy])
  refine ⟨by have := h.len; have := k.len; simp at this; omega, fun x hx => hsub x (h.sub x hx), k.nodup, fun y hy hyx => ?_, fun y hy hyx z hz => ?_⟩
  · by_cases e : y ∈ ys ++ [b]
    · rw [List.mem_append, List.mem_singleton] at e
      rcases e with e | rfl
      · exact h.reach y e hyx
      · exact .one he
    · exact .step he (k.reach y hy e)
  · by_cases e : y ∈ ys ++ [b]
    · rw [List.mem_append, List.mem_singleton] at e
      rcases e with e | rfl
      · exact hsub z (h.closed y e hyx z hz)
      · exact hb z hz
    · exact k.closed y hy e z hz

/-- A search from nothing finds just what can be reached. -/
theorem DfsOk.all {E : Int → Int → Bool} {s : Int} {ys : List Int} (h : DfsOk E s [] ys) (hs : ∀ z, E s z = true → z ∈ ys) (y : Int) : y ∈ ys ↔ ReachP E s y := by
  refine ⟨fun hy => h.reach y hy (by simp), fun hr => ?_⟩
  have gen : ∀ a b, ReachP E a b → (∀ z, E a z = true → z ∈ ys) → b ∈ ys := by
    intro a b hr
    induction hr with
    | one he => exact fun hh => hh _ he
    | step he _ ih => exact fun hh => ih fun z hz => h.closed _ (hh _ he) (by simp) z hz
  exact gen s y hr hs

theorem nodup_le_nat (p : Nat) (l : List Nat) (hn : l.Nodup) (hr : ∀ x ∈ l, x < p) : l.length ≤ p := by
  induction p generalizing l with
  | zero =>
    cases l with
    | nil => simp
    | cons a r => exact absurd (hr a (by simp)) (by omega)
  | succ p ih =>
    by_cases hp : p ∈ l
    · have h1 := ih (l.erase p) (hn.erase p) (fun x hx => by
        rw [hn.mem_erase_iff] at hx
        have := hr x hx.2
        omega)
      rw [List.length_erase_of_mem hp] at h1
      omega
    · have := ih l hn (fun x hx => by
        have := hr x hx
        have : x ≠ p := fun e => hp (e ▸ hx)
        omega)
      omega
/-- Numbers below p without one twice are at most p. -/
theorem nodup_le {p : Nat} {l : List Int} (hn : l.Nodup) (hr : ∀ x ∈ l, 0 ≤ x ∧ x < p) : l.length ≤ p := by
  have h1 : (l.map Int.toNat).Nodup := by
    rw [List.Nodup, List.pairwise_map]
    exact hn.imp_of_mem fun {a b} ha hb hab e => hab (by have := hr a ha; have := hr b hb; omega)
  have := nodup_le_nat p (l.map Int.toNat) h1 (fun x hx => by
    obtain ⟨y, hy, rfl⟩ := List.mem_map.1 hx
    have := hr y hy
    omega)
  simpa using this

theorem edgeB_take_succ (ws : List Way) (kinds : List Int) (a b : Int) (k : Nat) (h : k < ws.length) : edgeB (ws.take (k + 1)) kinds a b = (edgeB (ws.take k) kinds a b || joins kinds ws[k] a b) := by
  unfold edgeB; rw [any_take_succ _ _ _ h]
theorem edgeB_of_joins (ws : List Way) (kinds : List Int) (a b : Int) (k : Nat) (h : k < ws.length) (hj : joins kinds ws[k] a b = true) : edgeB ws kinds a b = true := any_of_get _ _ k h hj
end Go.Proofs
end

section
/- More words for memory. -/
namespace Go
open Go.RowKit

/-- append(v, x...) to a slice of the call's own, from whatever source. -/
theorem wpList_app_at {P : Program} {w : World} {ops : Array Oper} {rest : List Oper} {o : Oper} {a : Act} {Q : Exit → Act → World → Prop} {t e : TypeId} {size bytes : Nat} (hT : SliceTy P t e size bytes)
    (hgd : o.guard = none) (s x : Operand) (ho : o.op = .call { callee := .builtin .append, args := #[s, x], argTypes := #[t, t] })
    {base : Nat} (hbase : base ≤ w.heap.size) {v : Value} {n : Nat} {xs : List Value} (hs : a.eval s = v) (hown : w.ownsRow base e size v n xs)
    {A : Option Addr} {m c : Nat} {news : List Value} (hx : a.eval x = .slice A m c) (hl : news.length = m * size) (hA : A = none → m = 0)
    (hnews : ∀ ad, A = some ad → ∀ j u, news[j]? = some u → w.cell? (ad.add j) = some u) (h1 : ∀ u ∈ news, u.oneCell' = true)
    (hbytes : (n + m) * bytes ≤ 140737488355328) (hpos : 0 < bytes)
    (h : ∀ v' w', w'.ownsRow base e size v' (n + m) (xs ++ news) → w.grownBy w' v.ownBlock → wpList P ops Q rest (a.put o.dst v') w') : wpList P ops Q (o :: rest) a w := by
  obtain ⟨ht, ⟨i, z, hi, hz, hsize, hby, hzs⟩, hsz⟩ := hT
  have h63 : n + m ≤ maxLen := by
    have : (n + m) * 1 ≤ (n + m) * bytes := Nat.mul_le_mul_left _ hpos
    unfold maxLen; omega
  cases A with
  | some ad =>
    exact wpList_append_own w hgd s x t ho base e i z size bytes ht hi hz hsize hby hzs hsz v n xs hs hown ad m c news hx hl (hnews ad rfl) h1 h63 hbytes hbase
      fun v' w' h2 h3 _ => h v' w' h2 h3
  | none =>
    have hm := hA rfl
    subst hm
    have hn : news = [] := List.eq_nil_of_length_eq_zero (by simpa using hl)
    subst hn
    refine wpList_plain hgd fun K hK => ?_
    have hr := run_app_none (ty := o.type) ht hi hown c
    unfold Oper.wp execOp
    simp only [ho, resolve, invoke, builtin, Sem.run_bind, Sem.run_pure, Result.andThen_ok, List.map_toArray, List.map_cons, List.map_nil, hs, hx, hr]
    exact hK _ _ (h v w (by simpa using hown) (World.grownBy.refl w _))

/-- append(v, one new thing), the thing lying in a block just laid. -/
theorem src_one (W : World) (v : Value) (t : TypeId) : ∀ ad, some (⟨W.heap.size, 0, none⟩ : Addr) = some ad → ∀ j u, [v][j]? = some u → (W.alloc (.cells #[v] t)).cell? (ad.add j) = some u := by
  intro ad e j u h
  cases e
  exact src_new W #[v] t j u h
theorem src_at (W : World) (v : Value) (t : TypeId) (b : Nat) (hb : b = W.heap.size) : ∀ ad, some (⟨b, 0, none⟩ : Addr) = some ad → ∀ j u, [v][j]? = some u → (W.alloc (.cells #[v] t)).cell? (ad.add j) = some u := by
  subst hb; exact src_one W v t
theorem one_int (x : Int) : ∀ u ∈ [Value.int .i64 x], u.oneCell' = true := by intro u hu; rw [List.mem_singleton] at hu; subst hu; rfl
theorem cell_grown9 {w w' : World} {row : Option Nat} (hg : w.grownBy w' row) {b i : Nat} (hb : b < w.heap.size) (hr : some b ≠ row) : w'.cell? ⟨b, i, none⟩ = w.cell? ⟨b, i, none⟩ := World.cell?_of_block (hg.block b hb hr)
theorem frozen_grown {w w' : World} {row : Option Nat} (hg : w.grownBy w' row) {b i : Nat} (hb : b < w.heap.size) (hr : some b ≠ row) : w'.frozen? ⟨b, i, none⟩ = w.frozen? ⟨b, i, none⟩ := World.frozen?_of_block (hg.block b hb hr)
end Go
end

section
/- Walks: where one can go. -/
namespace Go.Proofs
open Go.RowKit

/-- The state of a search: the boxes that its closure has, and the list that it grows. -/
structure FInv (w0 : World) (D : Nat) (Ak : Option Addr) (ck : Nat) (kinds : List Int) (W : World) (ys : List Int) : Prop where
  aft : Aft w0 W
  size : w0.heap.size + 4 ≤ W.heap.size
  kd : W.cell? ⟨w0.heap.size, 0, none⟩ = some (.pointer (some ⟨D, 0, none⟩))
  kk : W.cell? ⟨w0.heap.size + 1, 0, none⟩ = some (.slice Ak kinds.length ck)
  kf : W.cell? ⟨w0.heap.size + 3, 0, none⟩ = some (.func (.func 144) #[] #[.pointer (some ⟨w0.heap.size, 0, none⟩), .pointer (some ⟨w0.heap.size + 1, 0, none⟩), .pointer (some ⟨w0.heap.size + 2, 0, none⟩), .pointer (some ⟨w0.heap.size + 3, 0, none⟩)])
  ko : ∃ A c, W.cell? ⟨w0.heap.size + 2, 0, none⟩ = some (.slice A ys.length c) ∧ W.ownsRow (w0.heap.size + 4) 3 1 (.slice A ys.length c) ys.length (ys.map (Value.int .i64))
  kz : W.frozen? ⟨w0.heap.size + 2, 0, none⟩ = false

section
variable {w0 : World} {D : Nat} {Ak : Option Addr} {ck : Nat} {kinds : List Int} {W W' : World} {ys : List Int}
theorem FInv.later (h : FInv w0 D Ak ck kinds W ys) (ha : Aft W W') : FInv w0 D Ak ck kinds W' ys := by
  have hs := h.size
  obtain ⟨A, c, h1, h2⟩ := h.ko
  obtain ⟨u, rfl⟩ := ha
  exact ⟨h.aft.then_lat u, Nat.le_trans hs (World.lat_size _ _), (World.lat_cell _ _ _ _ (by omega)).trans h.kd, (World.lat_cell _ _ _ _ (by omega)).trans h.kk, (World.lat_cell _ _ _ _ (by omega)).trans h.kf,
    ⟨A, c, (World.lat_cell _ _ _ _ (by omega)).trans h1, own_lat h2 u⟩, (World.lat_frozen _ _ _ _ (by omega)).trans h.kz⟩

/-- The list grows by one: what append leaves, and the store of its slice. -/
theorem FInv.push (h : FInv w0 D Ak ck kinds W ys) {v v' : Value} {x : Int} (hv : W.cell? ⟨w0.heap.size + 2, 0, none⟩ = some v) (hown : W'.ownsRow (w0.heap.size + 4) 3 1 v' (ys.length + 1) (ys.map (Value.int .i64) ++ [Value.int .i64 x])) (hg : W.grownBy W' v.ownBlock) (hb : ∀ k, v.ownBlock = some k → w0.heap.size + 4 ≤ k) (hl : ys.length + 1 ≤ 100) :
    FInv w0 D Ak ck kinds (W'.setCell ⟨w0.heap.size + 2, 0, none⟩ v') (ys ++ [x]) := by
  have hs := h.size
  have hne : ∀ b, b < w0.heap.size + 4 → some b ≠ v.ownBlock := fun b hlt e => by have := hb b e.symm; omega
  have hs' := hg.size
  have hc2 : W'.cell? ⟨w0.heap.size + 2, 0, none⟩ = some v := (cell_grown9 hg (by omega) (hne _ (by omega))).trans hv
  have hown' : W'.ownsRow (w0.heap.size + 4) 3 1 v' (ys ++ [x]).length ((ys ++ [x]).map (Value.int .i64)) := by simpa using hown
  obtain ⟨A, c, rfl, _, _⟩ := own_ints hown' (by simp; omega)
  refine ⟨(h.aft.grown hg (fun k hk => by have := hb k hk; omega)).then_setCell (by simp) _, by simp [World.setCell]; omega, ?_, ?_, ?_, ⟨A, c, World.cell?_setCell_same _ _ _ hc2, ownsRow_setCell_below hown' (by simp) _⟩, ?_⟩
  · rw [World.cell?_setCell_other _ _ _ _ (by simp), cell_grown9 hg (by omega) (hne _ (by omega))]; exact h.kd
  · rw [World.cell?_setCell_other _ _ _ _ (by simp), cell_grown9 hg (by omega) (hne _ (by omega))]; exact h.kk
  · rw [World.cell?_setCell_other _ _ _ _ (by simp), cell_grown9 hg (by omega) (hne _ (by omega))]; exact h.kf
  · rw [World.frozen?_setCell, frozen_grown hg (by omega) (hne _ (by omega))]; exact h.kz
end

theorem own_pushed {w : World} {base : Nat} {v : Value} {ys : List Int} {x : Int} (h : w.ownsRow base 3 1 v (ys.length + 1) (ys.map (Value.int .i64) ++ [Value.int .i64 x])) (hl : ys.length + 1 ≤ 100) : ∃ A c, v = .slice A (ys.length + 1) c := by
  have h' : w.ownsRow base 3 1 v (ys ++ [x]).length ((ys ++ [x]).map (Value.int .i64)) := by simpa using h
  obtain ⟨A, c, e, _, _⟩ := own_ints h' (by simp; omega)
  exact ⟨A, c, by simpa using e⟩

def InR (p : Int) (l : List Int) : Prop := ∀ x ∈ l, 0 ≤ x ∧ x < p

theorem InR.push {p x : Int} {ys : List Int} (h : InR p ys) (hx : 0 ≤ x ∧ x < p) : InR p (ys ++ [x]) := by
  intro z hz
  rw [List.mem_append, List.mem_singleton] at hz
  rcases hz with hz | rfl
  · exact h z hz
  · exact hx
theorem nodup_push {x : Int} {ys : List Int} (h : ys.Nodup) (hb : hasB ys x = false) : (ys ++ [x]).Nodup := by
  rw [List.nodup_append]
  refine ⟨h, by simp, fun a ha b hb' e => ?_⟩
  rw [List.mem_singleton] at hb'
  subst hb' e
  rw [hasB_iff.2 ha] at hb
  exact Bool.noConfusion hb

/-- What the closure leaves. -/
def Followed (w0 : World) (D : Nat) (Ak : Option Addr) (ck : Nat) (kinds : List Int) (T : Treaty) (s : Int) (xs : List Int) (e : Ending) (W' : World) : Prop :=
  e = .returned (.tuple #[]) ∧ ∃ ys, FInv w0 D Ak ck kinds W' ys ∧ DfsOk (edgeB T.ways kinds) s xs ys ∧ InR T.places ys ∧ ∀ z, edgeB T.ways kinds s z = true → z ∈ ys

set_option maxRecDepth 100000 in
set_option maxHeartbeats 2000000 in
theorem follow_any (w0 : World) (D : Nat) (Ak : Option Addr) (ck : Nat) (kinds : List Int) (T : Treaty) (a1 a2 a3 a4 : Option Addr) (c1 c2 c3 c4 : Nat) (f : Nat → Nat → Nat → Bool) (hd : Desk w0 D T a1 a2 a3 a4 c1 c2 c3 c4 f) (hways : RowsP w0 a1 3 WayR T.ways) (hkinds : Ints w0 Ak kinds)
    (hp : T.places ≤ 12) (hw : ∀ x ∈ T.ways, 0 ≤ x.a ∧ x.a < T.places ∧ 0 ≤ x.b ∧ x.b < T.places) (n : Nat) :
    ∀ (s : Int) (xs : List Int) (W : World), 13 - xs.length ≤ n → FInv w0 D Ak ck kinds W xs → xs.Nodup → InR T.places xs →
      Calls Tryz.prog 144 #[.int .i64 s, .pointer (some ⟨w0.heap.size, 0, none⟩), .pointer (some ⟨w0.heap.size + 1, 0, none⟩), .pointer (some ⟨w0.heap.size + 2, 0, none⟩), .pointer (some ⟨w0.heap.size + 3, 0, none⟩)] W (Followed w0 D Ak ck kinds T s xs) := by
  have HD := Lib.hid hd
  have HW := Lib.hid hw
  have hwl := hways.len (by decide)
  clear hd hw
  induction n with
  | zero =>
    intro s xs W hn hI hnd hr
    have := nodup_le (p := T.places.toNat) hnd (fun y hy => by have := hr y hy; omega)
    omega
  | succ n ih =>
    intro s xs W hn hI hnd hr
    have IH := Lib.hid ih
    clear ih
    have k1 := (HD.out.aft hI.aft).k1
    have kd := hI.kd
    have HND := Lib.hid hnd
    have HR := Lib.hid hr
    clear hnd hr
    go_enter Tryz.func144, Tryz.ntmps144
    go_wp2_with fail
    go_loopw [16] (fun i wr => ∃ k : Nat, i = .int .i64 k ∧ k ≤ T.ways.length ∧ ∃ ys, FInv w0 D Ak ck kinds wr ys ∧ DfsOk (edgeB T.ways kinds) s xs ys ∧ InR T.places ys ∧ ∀ z, edgeB (T.ways.take k) kinds s z = true → z ∈ ys) (fun i _ => T.ways.length - (intOf i).toNat)
    case atStart => exact ⟨0, rfl, by omega, xs, hI, DfsOk.refl HND.out, HR.out, fun z hz => by simp [edgeB] at hz⟩
    case round =>
      clear kd k1 hI
      obtain ⟨k, rfl, hk, ys, hI, hdo, hr, hdone⟩ := hrel
      have HDO := Lib.hid hdo
      have HR2 := Lib.hid hr
      have HDN := Lib.hid hdone
      clear hdo hr hdone
      by_cases hlk : k < T.ways.length
      · obtain ⟨bw, ow, rfl, hbw, hc⟩ := (hways.aft WayR.mono hI.aft).at hlk
        obtain ⟨vs, hv1, hv2, hv3⟩ := hc k hlk
        cases hv2
        have cA : wr.cell? ⟨bw, ow + k * 3, none⟩ = some (.int .i64 T.ways[k].a) := hv3 0 (by simp)
        have cB : wr.cell? ⟨bw, ow + k * 3 + 1, none⟩ = some (.int .i64 T.ways[k].b) := hv3 1 (by simp)
        have cK : wr.cell? ⟨bw, ow + k * 3 + 2, none⟩ = some (.int .i64 T.ways[k].kind) := hv3 2 (by simp)
        have hes := Lib.hid (fun z => edgeB_take_succ T.ways kinds s z k hlk)
        have hej := Lib.hid (fun z => edgeB_of_joins T.ways kinds s z k hlk)
        have hwr := HW.out _ (List.getElem_mem hlk)
        clear hc hv1 hv3
        generalize T.ways[k] = x at *
        have kk := hI.kk
        have hsz := hI.size
        have z1 : w0.heap.size + 1 < wr.heap.size := by omega
        have z0 : w0.heap.size < wr.heap.size := by omega
        have z2 : w0.heap.size + 2 < wr.heap.size := by omega
        have z3 : w0.heap.size + 3 < wr.heap.size := by omega
        have hki : Ints (wr.alloc (.cells #[.int .i64 x.a, .int .i64 x.b, .int .i64 x.kind] 65)) Ak kinds := (hkinds.aft hI.aft).aft (Aft.alloc _ _)
        cases hkd : hasB kinds x.kind
        · have HK := Lib.hid hkd; clear hkd
          go_wp2_with (go_at_call 60; refine (contains_any _ _ _ _ _ hki).mono ?_; rintro e w' ⟨rfl, rfl⟩; rw [HK.out])
          go_roundw
          case rel =>
            refine ⟨k + 1, by go_num, by omega, ys, hI.later (Aft.alloc _ _), HDO.out, HR2.out, fun z hz => HDN.out z ?_⟩
            rw [hes.out] at hz
            simpa [joins, HK.out] using hz
          case measure => simp [intOf]; omega
        · have HK := Lib.hid hkd; clear hkd
          go_wp2_with (go_at_call 60; refine (contains_any _ _ _ _ _ hki).mono ?_; rintro e w' ⟨rfl, rfl⟩; rw [HK.out])
          have hI0 := hI.later (Aft.alloc wr (.cells #[.int .i64 x.a, .int .i64 x.b, .int .i64 x.kind] 65))
          clear kk hsz z0 z1 z2 z3 hki cA cB cK hI hbw
          generalize wr.alloc (.cells #[.int .i64 x.a, .int .i64 x.b, .int .i64 x.kind] 65) = w5 at *
          go_loopw [34] (fun i wr => ∃ r : Nat, i = .int .i64 r ∧ r ≤ 2 ∧ ∃ ys, FInv w0 D Ak ck kinds wr ys ∧ DfsOk (edgeB T.ways kinds) s xs ys ∧ InR T.places ys ∧ (∀ z, edgeB (T.ways.take k) kinds s z = true → z ∈ ys) ∧ (1 ≤ r → x.a = s → x.b ∈ ys) ∧ (2 ≤ r → x.b = s → x.a ∈ ys)) (fun i _ => 2 - (intOf i).toNat)
          case atStart => exact ⟨0, rfl, by decide, ys, hI0, HDO.out, HR2.out, HDN.out, fun h => absurd h (by decide), fun h => absurd h (by decide)⟩
          case round =>
            clear hI0 HDO HR2 HDN ys
            obtain ⟨r, rfl, hr2, ys, hI, hdo, hr, hdone, hda, hdb⟩ := hrel
            have HDO := Lib.hid hdo
            have HR2 := Lib.hid hr
            have HDN := Lib.hid hdone
            have HDA := Lib.hid hda
            have HDB := Lib.hid hdb
            clear hdo hr hdone hda hdb
            obtain ⟨wo, hwo⟩ : ∃ wo : World, wo = wr := ⟨_, rfl⟩
            subst hwo
            obtain ⟨A, c, ko1, ko2⟩ := hI.ko
            have hsz := hI.size
            have z0 : w0.heap.size < wo.heap.size := by omega
            have z1 : w0.heap.size + 1 < wo.heap.size := by omega
            have z2 : w0.heap.size + 2 < wo.heap.size := by omega
            have z3 : w0.heap.size + 3 < wo.heap.size := by omega
            have hylen : ys.length ≤ 12 := by
              have := nodup_le (p := T.places.toNat) HDO.out.nodup (fun y hy => by have := HR2.out y hy; omega)
              omega
            have hints : Ints wo A ys := by
              obtain ⟨A', c', e, _, h⟩ := own_ints ko2 (by omega)
              cases e; exact h
            match r, hr2 with
            | 0, _ =>
              have hix : ∀ w, (Instr.index 180 (.agg #[.int .i64 x.a, .int .i64 x.b, .int .i64 x.kind, .int .i64 x.b, .int .i64 x.a, .int .i64 x.kind]) (.int .i64 0)).run Tryz.prog w = .ok (.agg #[.int .i64 x.a, .int .i64 x.b, .int .i64 x.kind]) w := fun _ => by kernel_rfl
              by_cases hs : x.a = s
              · have hsb : (x.a == s) = true := by rw [beq_iff_eq]; exact hs
                have HS := Lib.hid hs
                clear hs
                have hin : Ints (wo.alloc (.cells #[.int .i64 x.a, .int .i64 x.b, .int .i64 x.kind] 65)) A ys := hints.aft (Aft.alloc _ _)
                cases hm : hasB ys x.b
                · have HM := Lib.hid hm; clear hm
                  have hI3 := hI.later ((Aft.alloc wo (.cells #[.int .i64 x.a, .int .i64 x.b, .int .i64 x.kind] 65)).then_alloc (.cells #[.int .i64 x.b] 3))
                  have ko3 : ((wo.alloc (.cells #[.int .i64 x.a, .int .i64 x.b, .int .i64 x.kind] 65)).alloc (.cells #[.int .i64 x.b] 3)).cell? ⟨w0.heap.size + 2, 0, none⟩ = some (.slice A ys.length c) := by simp [go_sem, z2, ko1]
                  have k9 : ((wo.alloc (.cells #[.int .i64 x.a, .int .i64 x.b, .int .i64 x.kind] 65)).alloc (.cells #[.int .i64 x.b] 3)).cell? ⟨wo.heap.size, 1, none⟩ = some (.int .i64 x.b) := by simp [go_sem]
                  have HI3 := Lib.hid hI3
                  have K3 := Lib.hid ko3
                  have K9 := Lib.hid k9
                  have hz3 := hI3.kz
                  have HZ3 := Lib.hid hz3
                  clear hI3 ko3 k9 hz3
                  go_wp2_with (first
                    | (go_at_call 60; refine (contains_any _ _ _ _ _ hin).mono ?_; rintro e w' ⟨rfl, rfl⟩; rw [HM.out])
                    | (at_builtin; refine wpList_app_at ty24 rfl _ _ rfl (base := w0.heap.size + 4) (by simp; omega) rfl (v := .slice A ys.length c) (xs := ys.map (Value.int .i64)) (n := ys.length) (by exact (ko2.alloc _).alloc _) rfl (news := [.int .i64 x.b]) (by rfl) (by intro h; cases h) (by exact src_at _ _ _ _ (by simp)) (one_int _) (by omega) (by decide) ?_; intro v' w1 hown' hgrow; obtain ⟨A', c', rfl⟩ := own_pushed hown' (by omega); have hI4 := HI3.out.push K3.out hown' hgrow (fun k hk => (ko2.lt k hk).1) (by omega); have c2 := (cell_grown9 hgrow (i := 0) (b := w0.heap.size + 2) (by simp; omega) (fun e => by have := (ko2.lt _ e.symm).1; omega)).trans K3.out; have f2 := (frozen_grown hgrow (i := 0) (b := w0.heap.size + 2) (by simp; omega) (fun e => by have := (ko2.lt _ e.symm).1; omega)).trans HZ3.out; have c9 := (cell_grown9 hgrow (i := 1) (b := wo.heap.size) (by simp; omega) (fun e => by have := (ko2.lt _ e.symm).2; omega)).trans K9.out; have kf2 := hI4.kf; have zz : wo.heap.size ≠ w0.heap.size + 2 := (by omega); clear hown' hgrow)
                    | (refine (IH.out x.b (ys ++ [x.b]) _ (by have := HDO.out.len; simp; omega) hI4 (nodup_push HDO.out.nodup HM.out) (HR2.out.push (by omega))).mono ?_; rintro e w' ⟨rfl, zs, hJ, hdz, hrz, hez⟩))
                  go_roundw
                  case rel => exact ⟨1, by go_num, by decide, zs, hJ, DfsOk.grow HDO.out (hej.out x.b (by simp [joins, HK.out, HS.out])) hdz hez, hrz, fun z h => hdz.sub z (List.mem_append_left _ (HDN.out z h)), fun _ _ => hdz.sub _ (by simp), fun h => absurd h (by decide)⟩
                  case measure => simp [intOf]
                · have HM := Lib.hid hm; clear hm
                  go_wp2_with (go_at_call 60; refine (contains_any _ _ _ _ _ hin).mono ?_; rintro e w' ⟨rfl, rfl⟩; rw [HM.out])
                  go_roundw
                  case rel => exact ⟨1, by go_num, by decide, ys, hI.later (Aft.alloc _ _), HDO.out, HR2.out, HDN.out, fun _ _ => hasB_iff.1 HM.out, fun h => absurd h (by decide)⟩
                  case measure => simp [intOf]
              · have hsb : (x.a == s) = false := by rw [beq_eq_false_iff_ne]; exact hs
                have HS := Lib.hid hs
                clear hs
                go_wp2_with fail
                go_roundw
                case rel => exact ⟨1, by go_num, by decide, ys, hI.later (Aft.alloc _ _), HDO.out, HR2.out, HDN.out, fun _ h => absurd h HS.out, fun h => absurd h (by decide)⟩
                case measure => simp [intOf]
            | 1, _ =>
              have hix : ∀ w, (Instr.index 180 (.agg #[.int .i64 x.a, .int .i64 x.b, .int .i64 x.kind, .int .i64 x.b, .int .i64 x.a, .int .i64 x.kind]) (.int .i64 1)).run Tryz.prog w = .ok (.agg #[.int .i64 x.b, .int .i64 x.a, .int .i64 x.kind]) w := fun _ => by kernel_rfl
              by_cases hs : x.b = s
              · have hsb : (x.b == s) = true := by rw [beq_iff_eq]; exact hs
                have HS := Lib.hid hs
                clear hs
                have hin : Ints (wo.alloc (.cells #[.int .i64 x.b, .int .i64 x.a, .int .i64 x.kind] 65)) A ys := hints.aft (Aft.alloc _ _)
                cases hm : hasB ys x.a
                · have HM := Lib.hid hm; clear hm
                  have hI3 := hI.later ((Aft.alloc wo (.cells #[.int .i64 x.b, .int .i64 x.a, .int .i64 x.kind] 65)).then_alloc (.cells #[.int .i64 x.a] 3))
                  have ko3 : ((wo.alloc (.cells #[.int .i64 x.b, .int .i64 x.a, .int .i64 x.kind] 65)).alloc (.cells #[.int .i64 x.a] 3)).cell? ⟨w0.heap.size + 2, 0, none⟩ = some (.slice A ys.length c) := by simp [go_sem, z2, ko1]
                  have k9 : ((wo.alloc (.cells #[.int .i64 x.b, .int .i64 x.a, .int .i64 x.kind] 65)).alloc (.cells #[.int .i64 x.a] 3)).cell? ⟨wo.heap.size, 1, none⟩ = some (.int .i64 x.a) := by simp [go_sem]
                  have HI3 := Lib.hid hI3
                  have K3 := Lib.hid ko3
                  have K9 := Lib.hid k9
                  have hz3 := hI3.kz
                  have HZ3 := Lib.hid hz3
                  clear hI3 ko3 k9 hz3
                  go_wp2_with (first
                    | (go_at_call 60; refine (contains_any _ _ _ _ _ hin).mono ?_; rintro e w' ⟨rfl, rfl⟩; rw [HM.out])
                    | (at_builtin; refine wpList_app_at ty24 rfl _ _ rfl (base := w0.heap.size + 4) (by simp; omega) rfl (v := .slice A ys.length c) (xs := ys.map (Value.int .i64)) (n := ys.length) (by exact (ko2.alloc _).alloc _) rfl (news := [.int .i64 x.a]) (by rfl) (by intro h; cases h) (by exact src_at _ _ _ _ (by simp)) (one_int _) (by omega) (by decide) ?_; intro v' w1 hown' hgrow; obtain ⟨A', c', rfl⟩ := own_pushed hown' (by omega); have hI4 := HI3.out.push K3.out hown' hgrow (fun k hk => (ko2.lt k hk).1) (by omega); have c2 := (cell_grown9 hgrow (i := 0) (b := w0.heap.size + 2) (by simp; omega) (fun e => by have := (ko2.lt _ e.symm).1; omega)).trans K3.out; have f2 := (frozen_grown hgrow (i := 0) (b := w0.heap.size + 2) (by simp; omega) (fun e => by have := (ko2.lt _ e.symm).1; omega)).trans HZ3.out; have c9 := (cell_grown9 hgrow (i := 1) (b := wo.heap.size) (by simp; omega) (fun e => by have := (ko2.lt _ e.symm).2; omega)).trans K9.out; have kf2 := hI4.kf; have zz : wo.heap.size ≠ w0.heap.size + 2 := (by omega); clear hown' hgrow)
                    | (refine (IH.out x.a (ys ++ [x.a]) _ (by have := HDO.out.len; simp; omega) hI4 (nodup_push HDO.out.nodup HM.out) (HR2.out.push (by omega))).mono ?_; rintro e w' ⟨rfl, zs, hJ, hdz, hrz, hez⟩))
                  go_roundw
                  case rel => exact ⟨2, by go_num, by decide, zs, hJ, DfsOk.grow HDO.out (hej.out x.a (by simp [joins, HK.out, HS.out])) hdz hez, hrz, fun z h => hdz.sub z (List.mem_append_left _ (HDN.out z h)), fun _ e => hdz.sub _ (List.mem_append_left _ (HDA.out (by decide) e)), fun _ _ => hdz.sub _ (by simp)⟩
                  case measure => simp [intOf]
                · have HM := Lib.hid hm; clear hm
                  go_wp2_with (go_at_call 60; refine (contains_any _ _ _ _ _ hin).mono ?_; rintro e w' ⟨rfl, rfl⟩; rw [HM.out])
                  go_roundw
                  case rel => exact ⟨2, by go_num, by decide, ys, hI.later (Aft.alloc _ _), HDO.out, HR2.out, HDN.out, fun _ => HDA.out (by decide), fun _ _ => hasB_iff.1 HM.out⟩
                  case measure => simp [intOf]
              · have hsb : (x.b == s) = false := by rw [beq_eq_false_iff_ne]; exact hs
                have HS := Lib.hid hs
                clear hs
                go_wp2_with fail
                go_roundw
                case rel => exact ⟨2, by go_num, by decide, ys, hI.later (Aft.alloc _ _), HDO.out, HR2.out, HDN.out, fun _ => HDA.out (by decide), fun _ h => absurd h HS.out⟩
                case measure => simp [intOf]
            | 2, _ =>
              go_wp2_with fail
              go_roundw
              case rel =>
                refine ⟨k + 1, by go_num, by omega, ys, hI, HDO.out, HR2.out, fun z hz => ?_⟩
                rw [hes.out, Bool.or_eq_true] at hz
                rcases hz with hz | hz
                · exact HDN.out z hz
                · simp only [joins, Bool.and_eq_true, Bool.or_eq_true, decide_eq_true_eq] at hz
                  rcases hz.2 with ⟨h1, h2⟩ | ⟨h1, h2⟩
                  · rw [← h2]; exact HDA.out (by decide) h1
                  · rw [← h2]; exact HDB.out (by decide) h1
              case measure => simp [intOf]; omega
      · go_wp2_with fail
        go_end0
        refine ⟨rfl, ys, hI, HDO.out, HR2.out, fun z hz => HDN.out z ?_⟩
        rw [List.take_of_length_le (by omega)]; exact hz
end Go.Proofs
end

section
/- Plain: what a right treaty has, and where its legs lead in a reading. -/
namespace Go.Proofs

structure TOk (T : Treaty) : Prop where
  p1 : 1 ≤ T.places
  p2 : T.places ≤ 12
  nways : T.ways.length ≤ 40
  nwords : T.words.length ≤ 6
  nstarts : 1 ≤ T.starts.length
  nlegs : T.legs.length ≤ 10
  wlen : ∀ l ∈ T.words, 1 ≤ l.length ∧ l.length ≤ 4
  ways : ∀ x ∈ T.ways, 0 ≤ x.a ∧ x.a < T.places ∧ 0 ≤ x.b ∧ x.b < T.places
  kinds : ∀ l ∈ T.words, ∀ m ∈ l, ∀ x ∈ m.kinds, 0 ≤ x ∧ x ≤ 7
  ends : ∀ l ∈ T.words, ∀ m ∈ l, ∀ x ∈ m.ends, 0 ≤ x ∧ x < T.places
  starts : ∀ x ∈ T.starts, 0 ≤ x ∧ x < T.places
  legs : ∀ l ∈ T.legs, 0 ≤ l.word ∧ l.word < T.words.length ∧ (l.other = -1 ∨ 0 ≤ l.other ∧ l.other < T.words.length)
  rkinds : ∀ l ∈ T.words, ∀ m ∈ l, risesB m.kinds = true
  rends : ∀ l ∈ T.words, ∀ m ∈ l, risesB m.ends = true
  rstarts : risesB T.starts = true
  prod : prodLen T.words ≤ 256

theorem wayErr_zero {p : Int} {x : Way} (h : wayErr p x = 0) : 0 ≤ x.a ∧ x.a < p ∧ 0 ≤ x.b ∧ x.b < p := by
  unfold wayErr at h
  split at h
  · exact absurd h (by decide)
  · rename_i h1
    simp only [Bool.or_eq_true, Bool.not_eq_true', not_or, decide_eq_true_eq, Bool.not_eq_false, fromB_iff] at h1
    omega

theorem checkE_ok {T : Treaty} (h : checkE T = 0) : TOk T := by
  unfold checkE at h
  split at h; · exact absurd h (by decide)
  rename_i h1
  split at h; · exact absurd h (by decide)
  rename_i h2
  split at h; · rename_i h3; exact absurd h h3
  rename_i h3
  split at h; · exact absurd h (by decide)
  rename_i h4
  split at h; · exact absurd h (by decide)
  rename_i h5
  split at h; · exact absurd h (by decide)
  rename_i h6
  split at h; · exact absurd h (by decide)
  rename_i h7
  split at h; · exact absurd h (by decide)
  rename_i h8
  split at h; · exact absurd h (by decide)
  rename_i h9
  clear h
  simp only [cntBad, Bool.or_eq_true, Bool.not_eq_true', not_or, decide_eq_true_eq, Bool.not_eq_false, fromB_iff] at h1
  simp only [Bool.not_eq_false, List.all_eq_true, fromB_iff, Bool.and_eq_true, legOk, Bool.or_eq_true, decide_eq_true_eq] at h2 h4 h5 h6 h7 h8
  rw [Decidable.not_not, waysErr_zero] at h3
  refine ⟨by omega, by omega, by omega, by omega, by omega, by omega, fun l hl => ?_, fun x hx => wayErr_zero (h3 x hx), fun l hl m hm x hx => ?_, fun l hl m hm x hx => ?_, fun x hx => ?_, fun l hl => ?_, fun l hl m hm => (h8.1 l hl m hm).1, fun l hl m hm => (h8.1 l hl m hm).2, h8.2, by omega⟩
  · have := h2 l hl; omega
  · have := h4 l hl m hm x hx; omega
  · have := h5 l hl m hm x hx; omega
  · have := h6 x hx; omega
  · have := h7 l hl; omega

/-- A reading that has a meaning for each word. -/
def ReadOk (T : Treaty) (R : List Int) : Prop := R.length = T.words.length ∧ ∀ k, (h : k < R.length) → (h' : k < T.words.length) → 0 ≤ R[k] ∧ R[k] < T.words[k].length

def meanAt (T : Treaty) (R : List Int) (n : Int) : Mean := (T.words.getD n.toNat []).getD (R.getD n.toNat 0).toNat ⟨[], []⟩
def kindsAt (T : Treaty) (R : List Int) (l : Leg) : List Int := if l.other = -1 then (meanAt T R l.word).kinds else commonL (meanAt T R l.word).kinds [(meanAt T R l.other).kinds]
def endsAt (T : Treaty) (R : List Int) (l : Leg) : List Int := if l.other = -1 then (meanAt T R l.word).ends else commonL (meanAt T R l.word).ends [(meanAt T R l.other).ends]

/-- whether a leg leads from a place to another one, in a reading -/
def LeadsP (T : Treaty) (R : List Int) (i a b : Nat) : Prop :=
  ∃ h : i < T.legs.length, a < T.places.toNat ∧ ReachP (edgeB T.ways (kindsAt T R T.legs[i])) a b ∧ hasB (endsAt T R T.legs[i]) b = true

theorem meanAt_eq {T : Treaty} {R : List Int} {n : Nat} (h : n < T.words.length) (h' : n < R.length) {k : Nat} (hk : R[n] = k) (hk' : k < T.words[n].length) : meanAt T R n = T.words[n][k] := by
  unfold meanAt
  rw [Int.toNat_natCast, List.getD_eq_getElem?_getD, List.getD_eq_getElem?_getD, List.getD_eq_getElem?_getD, List.getElem?_eq_getElem h, List.getElem?_eq_getElem h']
  simp only [Option.getD_some]
  rw [hk, Int.toNat_natCast, List.getElem?_eq_getElem hk']; rfl
end Go.Proofs
end

section
/- Plain: what a made treaty has, and that it is right. -/
namespace Go.Proofs

/-- What the deck's treaty has. -/
structure MOk (T : Treaty) : Prop where
  p1 : 2 ≤ T.places
  p2 : T.places ≤ 8
  nways : T.ways.length ≤ 16
  nwords : T.words.length ≤ 3
  nwords1 : 1 ≤ T.words.length
  nstarts : 1 ≤ T.starts.length
  nstarts2 : T.starts.length ≤ T.places
  nlegs : T.legs.length ≤ 10
  wlen : ∀ l ∈ T.words, 1 ≤ l.length ∧ l.length ≤ 3
  ways : ∀ x ∈ T.ways, 0 ≤ x.a ∧ x.a < T.places ∧ 0 ≤ x.b ∧ x.b < T.places ∧ x.a ≠ x.b ∧ 0 ≤ x.kind ∧ x.kind < 4
  kinds : ∀ l ∈ T.words, ∀ m ∈ l, (∀ x ∈ m.kinds, 0 ≤ x ∧ x < 4) ∧ risesB m.kinds = true
  ends : ∀ l ∈ T.words, ∀ m ∈ l, (∀ x ∈ m.ends, 0 ≤ x ∧ x < T.places) ∧ risesB m.ends = true
  starts : ∀ x ∈ T.starts, 0 ≤ x ∧ x < T.places
  rstarts : risesB T.starts = true
  legs : ∀ l ∈ T.legs, 0 ≤ l.word ∧ l.word < T.words.length ∧ -1 ≤ l.other ∧ l.other < T.words.length

theorem prodLen_three (l : List (List Mean)) (h : ∀ w ∈ l, w.length ≤ 4) (hl : l.length ≤ 3) : prodLen l ≤ 64 := by
  have := prodLen_le l h l.length (Nat.le_refl _)
  rw [List.take_length] at this
  have h2 : 4 ^ l.length ≤ 4 ^ 3 := Nat.pow_le_pow_right (by decide) hl
  have h3 : (4 : Nat) ^ 3 = 64 := rfl
  omega

theorem MOk.check {T : Treaty} (h : MOk T) : checkE T = 0 := by
  obtain ⟨h1, h2, h3, h4, h5, h6, h7, h8, h9, h10, h11, h12, h13, h14, h15⟩ := h
  unfold checkE
  have e1 : cntBad T = false := by
    simp only [cntBad, Bool.or_eq_false_iff, Bool.not_eq_false', fromB_iff, decide_eq_false_iff_not]
    omega
  have e2 : T.words.all (fun l => fromB l.length 1 4) = true := List.all_eq_true.2 fun l hl => fromB_iff.2 (by have := h9 l hl; omega)
  have e3 : waysErr T.places T.ways = 0 := (waysErr_zero _ _).2 fun x hx => by
    obtain ⟨g1, g2, g3, g4, g5, g6, g7⟩ := h10 x hx
    have i1 : fromB x.a 0 (T.places - 1) = true := fromB_iff.2 (by omega)
    have i2 : fromB x.b 0 (T.places - 1) = true := fromB_iff.2 (by omega)
    have i3 : fromB x.kind 0 7 = true := fromB_iff.2 (by omega)
    unfold wayErr
    rw [i1, i2, i3]
    simp [g5]
  have e4 : T.words.all (fun l => l.all fun m => m.kinds.all fun x => fromB x 0 7) = true := by
    simp only [List.all_eq_true, fromB_iff]
    intro l hl m hm x hx
    have := (h11 l hl m hm).1 x hx; omega
  have e5 : T.words.all (fun l => l.all fun m => m.ends.all fun x => fromB x 0 (T.places - 1)) = true := by
    simp only [List.all_eq_true, fromB_iff]
    intro l hl m hm x hx
    have := (h12 l hl m hm).1 x hx; omega
  have e6 : T.starts.all (fun x => fromB x 0 (T.places - 1)) = true := by
    simp only [List.all_eq_true, fromB_iff]
    intro x hx
    have := h13 x hx; omega
  have e7 : T.legs.all (legOk T.words.length) = true := by
    simp only [List.all_eq_true, legOk, fromB_iff, Bool.and_eq_true, Bool.or_eq_true, decide_eq_true_eq]
    intro l hl
    have := h15 l hl; omega
  have e8 : (T.words.all (fun l => l.all fun m => risesB m.kinds && risesB m.ends) && risesB T.starts) = true := by
    simp only [List.all_eq_true, Bool.and_eq_true]
    exact ⟨fun l hl m hm => ⟨(h11 l hl m hm).2, (h12 l hl m hm).2⟩, h14⟩
  have e9 : prodLen T.words ≤ 64 := prodLen_three _ (fun l hl => by have := h9 l hl; omega) h4
  rw [if_neg (by rw [e1]; decide), if_neg (by rw [e2]; decide), if_neg (by rw [e3]; simp), if_neg (by rw [e4]; decide), if_neg (by rw [e5]; decide), if_neg (by rw [e6]; decide), if_neg (by rw [e7]; decide), if_neg (by rw [e8]; decide), if_neg (by omega)]
end Go.Proofs
end

section
/- Words for memory: a slice of slices of the call's own. -/
namespace Go.Proofs
open Go.RowKit

theorem ty41 : SliceTy Tryz.prog 37 24 1 24 := .mk' (z := .slice none 0 0) Tryz.underlying37 (by kernel_rfl) rfl (by decide)

/-- A slice of slices of numbers, all of its memory of the call's own, no two rows in one block. -/
structure OwnLs (W : World) (base : Nat) (v : Value) (vs : List Value) (ls : List (List Int)) : Prop where
  own : W.ownsRow base 24 1 v ls.length vs
  rows : ∀ i, (h : i < ls.length) → (h' : i < vs.length) → W.ownsRow base 3 1 vs[i] ls[i].length (ls[i].map (Value.int .i64))
  apart : ∀ i, (h : i < vs.length) → ∀ g, vs[i].ownBlock = some g → v.ownBlock ≠ some g ∧ ∀ j, (h' : j < vs.length) → j ≠ i → vs[j].ownBlock ≠ some g

def OwnLists (W : World) (base : Nat) (v : Value) (ls : List (List Int)) : Prop := ∃ vs, OwnLs W base v vs ls

section
variable {W W' : World} {base : Nat} {v : Value} {vs : List Value} {ls : List (List Int)}
theorem OwnLs.len (h : OwnLs W base v vs ls) : vs.length = ls.length := by simpa using h.own.1
theorem OwnLs.nil : OwnLs W base (.slice none 0 0) [] [] := ⟨World.ownsRow_nil _ _ 24 1, fun i h => by simp at h, fun i h => by simp at h⟩
theorem OwnLs.aft (h : OwnLs W base v vs ls) (ha : Aft W W') : OwnLs W' base v vs ls :=
  ⟨own_aft h.own ha, fun i hi hi' => own_aft (h.rows i hi hi') ha, h.apart⟩
theorem OwnLists.aft (h : OwnLists W base v ls) (ha : Aft W W') : OwnLists W' base v ls := let ⟨vs, h⟩ := h; ⟨vs, h.aft ha⟩
theorem OwnLs.mono (h : OwnLs W base v vs ls) {b : Nat} (hb : b ≤ base) : OwnLs W b v vs ls :=
  ⟨World.ownsRow.mono h.own hb, fun i hi hi' => World.ownsRow.mono (h.rows i hi hi') hb, h.apart⟩
theorem OwnLists.mono (h : OwnLists W base v ls) {b : Nat} (hb : b ≤ base) : OwnLists W b v ls := let ⟨vs, h⟩ := h; ⟨vs, h.mono hb⟩

/-- What append leaves of it. -/
theorem OwnLs.push (h : OwnLs W base v vs ls) {W2 W3 : World} (ha : Aft W W2) {r v' : Value} {l : List Int} (hr : W2.ownsRow W.heap.size 3 1 r l.length (l.map (Value.int .i64))) (hbase : base ≤ W.heap.size)
    (hown : W3.ownsRow base 24 1 v' (ls.length + 1) (vs ++ [r])) (hg : W2.grownBy W3 v.ownBlock) (hat : v'.ownBlock = v.ownBlock ∨ v'.ownBlock = some W2.heap.size) : OwnLs W3 base v' (vs ++ [r]) (ls ++ [l]) := by
  have hlen := h.len
  have old : ∀ i, (hi : i < vs.length) → ∀ g, vs[i].ownBlock = some g → g < W.heap.size := fun i hi g hg => ((h.rows i (by omega) hi).lt g hg).2
  have vold : ∀ g, v.ownBlock = some g → g < W.heap.size := fun g hg => (h.own.lt g hg).2
  have rnew : ∀ g, r.ownBlock = some g → W.heap.size ≤ g ∧ g < W2.heap.size := fun g hg => hr.lt g hg
  have hs := ha.size
  refine ⟨by simpa using hown, fun i hi hi' => ?_, fun i hi g hgi => ?_⟩
  · by_cases e : i < vs.length
    · rw [List.getElem_append_left e]
      have e' : i < ls.length := by omega
      simp only [List.getElem_append_left e']
      refine (own_aft (h.rows i e' e) ha).kept hg ?_
      cases hb : vs[i].ownBlock with
      | none => left; rfl
      | some g => right; intro e2; exact (h.apart i e g hb).1 e2.symm
    · have e2 : i = vs.length := by simp at hi'; omega
      subst e2
      have e3 : vs.length = ls.length := hlen
      rw [List.getElem_append_right (Nat.le_refl _)]
      simp only [Nat.sub_self, List.getElem_cons_zero]
      have : (ls ++ [l])[vs.length]'hi = l := by simp [e3]
      rw [this]
      refine World.ownsRow.mono (hr.kept hg ?_) hbase
      cases hb : r.ownBlock with
      | none => left; rfl
      | some g => right; intro e2; have := vold g e2.symm; have := (rnew g hb).1; omega
  · by_cases e : i < vs.length
    · rw [List.getElem_append_left e] at hgi
      have hlt := old i e g hgi
      refine ⟨fun e2 => ?_, fun j hj hne => ?_⟩
      · rcases hat with h1 | h1
        · rw [h1] at e2; exact (h.apart i e g hgi).1 e2
        · rw [h1] at e2; cases e2; omega
      · by_cases ej : j < vs.length
        · rw [List.getElem_append_left ej]; exact (h.apart i e g hgi).2 j ej hne
        · have e2 : j = vs.length := by simp at hj; omega
          subst e2
          rw [List.getElem_append_right (Nat.le_refl _)]
          simp only [Nat.sub_self, List.getElem_cons_zero]
          intro e2; have := (rnew g e2).1; omega
    · have e2 : i = vs.length := by simp at hi; omega
      subst e2
      rw [List.getElem_append_right (Nat.le_refl _)] at hgi
      simp only [Nat.sub_self, List.getElem_cons_zero] at hgi
      have := rnew g hgi
      refine ⟨fun e2 => ?_, fun j hj hne => ?_⟩
      · rcases hat with h1 | h1
        · rw [h1] at e2; have := vold g e2; omega
        · rw [h1] at e2; cases e2; omega
      · have ej : j < vs.length := by simp at hj; omega
        rw [List.getElem_append_left ej]
        intro e2; have := old j ej g e2; omega

/-- It reads as a list of lists. -/
theorem OwnLs.lists (h : OwnLs W base v vs ls) (hl : ls.length ≤ 17592186043904) (hr : ∀ l ∈ ls, l.length ≤ 17592186043904) : ∃ A c, v = .slice A ls.length c ∧ ls.length ≤ c ∧ Lists W A ls := by
  rcases h.own.2 with ⟨rfl, h0⟩ | ⟨g, cap, cur, rfl, hg, hh, hc, hm, hs, ht⟩
  · have : ls = [] := List.eq_nil_of_length_eq_zero h0
    subst this
    exact ⟨none, 0, rfl, Nat.le_refl _, by simp, .inl rfl⟩
  · refine ⟨_, cap, rfl, hc, by omega, .inr ⟨g, 0, rfl, (Array.getElem?_eq_some_iff.1 hh).1, fun i hi => ?_⟩⟩
    have hiv : i < vs.length := by rw [h.len]; exact hi
    obtain ⟨A, c, e, _, hi2⟩ := own_ints (h.rows i hi hiv) (hr _ (List.getElem_mem hi))
    refine ⟨[vs[i]], rfl, ⟨A, c, by rw [e], hi2⟩, fun j hj => ?_⟩
    have := h.own.cells (g := g) rfl i vs[i] (by simp [hiv])
    rw [Addr.add_lit] at this
    simp at hj
    subst hj
    simpa using this
theorem OwnLists.lists (h : OwnLists W base v ls) (hl : ls.length ≤ 17592186043904) (hr : ∀ l ∈ ls, l.length ≤ 17592186043904) : ∃ A c, v = .slice A ls.length c ∧ ls.length ≤ c ∧ Lists W A ls := let ⟨_, h⟩ := h; h.lists hl hr
end

/-- append(v, one list) to a slice of slices of the call's own: the new row lies in a block just laid. -/
theorem wpList_app_list {w : World} {ops : Array Oper} {rest : List Oper} {o : Oper} {a : Act} {Q : Exit → Act → World → Prop}
    (hgd : o.guard = none) (s x : Operand) (ho : o.op = .call { callee := .builtin .append, args := #[s, x], argTypes := #[37, 37] })
    {base : Nat} {v : Value} {vs : List Value} {ls : List (List Int)} {W : World} (h : OwnLs W base v vs ls) (hbase : base ≤ W.heap.size) (hs : a.eval s = v)
    {r : Value} {l : List Int} {c : Nat} {b : Nat} (hx : a.eval x = .slice (some ⟨b, 0, none⟩) 1 c) (hb : w.cell? ⟨b, 0, none⟩ = some r) (h1 : r.oneCell' = true)
    (ha : Aft W w) (hr : w.ownsRow W.heap.size 3 1 r l.length (l.map (Value.int .i64))) (hl : ls.length ≤ 1000000)
    (hn : ∀ v' vs' w', OwnLs w' base v' vs' (ls ++ [l]) → w.grownBy w' v.ownBlock → wpList Tryz.prog ops Q rest (a.put o.dst v') w') : wpList Tryz.prog ops Q (o :: rest) a w := by
  obtain ⟨ht, ⟨i, z, hi, hz, hsize, hby, hzs⟩, hsz⟩ := ty41
  refine wpList_append_own_at (w := w) hgd s x 37 ho base 24 i z 1 24 ht hi hz hsize hby hzs hsz v ls.length vs hs (own_aft h.own ha) ⟨b, 0, none⟩ 1 c [r] hx rfl (fun j u hj => ?_) (fun u hu => by rw [List.mem_singleton] at hu; subst hu; exact h1)
    (by unfold maxLen; omega) (by omega) (Nat.le_trans hbase ha.size) fun v' w' h2 h3 _ h5 => hn v' _ w' (h.push ha hr hbase h2 h3 h5) h3
  match j, hj with
  | 0, hj => simp at hj; subst hj; rw [Addr.add_lit]; simpa using hb


/-- The same, with the blocks told. -/
theorem step_app_list2 {w : World} {ops : Array Oper} {o : Oper} {a : Act} {K : Act → World → Prop} {Q : Exit → Act → World → Prop} {E : Prop}
    (hgd : o.guard = none) (s x : Operand) (ho : o.op = .call { callee := .builtin .append, args := #[s, x], argTypes := #[37, 37] })
    {base : Nat} {v : Value} {vs : List Value} {ls : List (List Int)} {W : World} (h : OwnLs W base v vs ls) (hbase : base ≤ W.heap.size) (hs : a.eval s = v)
    {r : Value} {l : List Int} {c : Nat} {b : Nat} (hx : a.eval x = .slice (some ⟨b, 0, none⟩) 1 c) (hb : w.cell? ⟨b, 0, none⟩ = some r) (h1 : r.oneCell' = true)
    (ha : Aft W w) (hr : w.ownsRow W.heap.size 3 1 r l.length (l.map (Value.int .i64))) (hl : ls.length ≤ 1000000)
    (hn : ∀ v' w', OwnLs w' base v' (vs ++ [r]) (ls ++ [l]) → w.grownBy w' v.ownBlock → (v'.ownBlock = v.ownBlock ∨ v'.ownBlock = some w.heap.size) → K (a.put o.dst v') w') :
    if Region.wanted o (yielded ops a.tmps) = true then Oper.wp Tryz.prog o a w K Q else E := by
  have hw : Region.wanted o (yielded ops a.tmps) = true := by simp [Region.wanted, hgd]
  rw [if_pos hw]
  obtain ⟨ht, ⟨i, z, hi, hz, hsize, hby, hzs⟩, hsz⟩ := ty41
  obtain ⟨v', w', hr', h2, h3, _, h5⟩ := run_append_own_at (P := Tryz.prog) w base 37 o.type 24 i z 1 24 ht hi hz hsize hby hzs hsz v ls.length vs (own_aft h.own ha) ⟨b, 0, none⟩ 1 c [r] rfl (fun j u hj => by
      match j, hj with
      | 0, hj => simp at hj; subst hj; rw [Addr.add_lit]; simpa using hb) (fun u hu => by rw [List.mem_singleton] at hu; subst hu; exact h1) (by unfold maxLen; omega) (by omega) (Nat.le_trans hbase ha.size)
  unfold Oper.wp execOp
  simp only [ho, resolve, invoke, builtin, Sem.run_bind, Sem.run_pure, Result.andThen_ok, List.map_toArray, List.map_cons, List.map_nil, hs, hx, hr', Oper.upon]
  exact hn v' w' (h.push ha hr hbase h2 h3 h5) h3 h5

theorem own_cell1 {w : World} {base : Nat} {v : Value} {l : List Int} (h : w.ownsRow base 3 1 v l.length (l.map (Value.int .i64))) : v.oneCell' = true := by
  rcases h.2 with ⟨rfl, _⟩ | ⟨g, cap, cur, rfl, _⟩ <;> rfl
end Go.Proofs
end

section
/- Words for memory: append of one number to a list of the call's own. -/
namespace Go.Proofs
open Go.RowKit

theorem keep_grown {W W' w' : World} {row : Option Nat} {b i : Nat} {x : Value} (ha : Aft W W') (hg : W'.grownBy w' row) (hb : b < W.heap.size) (hne : some b ≠ row) (h : W.cell? ⟨b, i, none⟩ = some x) : w'.cell? ⟨b, i, none⟩ = some x := by
  obtain ⟨u, rfl⟩ := ha
  exact (cell_grown9 hg (Nat.lt_of_lt_of_le hb (W.lat_size u)) hne).trans ((World.lat_cell _ _ _ _ hb).trans h)
theorem keep_grown_z {W W' w' : World} {row : Option Nat} {b i : Nat} {x : Bool} (ha : Aft W W') (hg : W'.grownBy w' row) (hb : b < W.heap.size) (hne : some b ≠ row) (h : W.frozen? ⟨b, i, none⟩ = x) : w'.frozen? ⟨b, i, none⟩ = x := by
  obtain ⟨u, rfl⟩ := ha
  exact (frozen_grown hg (Nat.lt_of_lt_of_le hb (W.lat_size u)) hne).trans ((World.lat_frozen _ _ _ _ hb).trans h)
theorem cell_new1 (w : World) (v : Value) (t : TypeId) : (w.alloc (.cells #[v] t)).cell? ⟨w.heap.size, 0, none⟩ = some v := by simp

/-- append(v, y) to a list of the call's own. -/
theorem wpList_push {w : World} {ops : Array Oper} {rest : List Oper} {o : Oper} {a : Act} {Q : Exit → Act → World → Prop}
    (hgd : o.guard = none) (s x : Operand) (ho : o.op = .call { callee := .builtin .append, args := #[s, x], argTypes := #[24, 24] })
    {base : Nat} {v : Value} {l : List Int} (hown : w.ownsRow base 3 1 v l.length (l.map (Value.int .i64))) (hbase : base ≤ w.heap.size) (hs : a.eval s = v)
    {y : Int} {c : Nat} {b : Nat} (hx : a.eval x = .slice (some ⟨b, 0, none⟩) 1 c) (hb : w.cell? ⟨b, 0, none⟩ = some (.int .i64 y)) (hl : l.length ≤ 1000000)
    (hn : ∀ v' w', w'.ownsRow base 3 1 v' (l ++ [y]).length ((l ++ [y]).map (Value.int .i64)) → w.grownBy w' v.ownBlock → wpList Tryz.prog ops Q rest (a.put o.dst v') w') : wpList Tryz.prog ops Q (o :: rest) a w := by
  refine wpList_app_at ty24 hgd s x ho hbase hs hown hx (news := [.int .i64 y]) rfl (by intro h; cases h) (fun ad e j u h => ?_) (one_int y) (by omega) (by decide) fun v' w' h1 h2 => hn v' w' (by simpa using h1) h2
  cases e
  match j, h with
  | 0, h => simp at h; subst h; rw [Addr.add_lit]; simpa using hb

end Go.Proofs
end

section
/- A region that draws its order and ends in a store, by the quick step of a quiet walk. -/
namespace Go

theorem Oper.still_of_quiet {P : Program} {o : Oper} {a : Act} {w : World} {K : Act → Prop} (h : o.quiet P a (fun w' => w' = w) K) : o.still P a w K := by
  obtain ⟨v, h1, h2⟩ := h
  have h3 := h1 w rfl
  unfold Oper.quietAt at h3
  unfold Oper.still
  generalize (execOp a.eval o).run P w = r at *
  cases r with
  | ok n w' =>
    cases n <;> simp only [Oper.quietUpon] at h3 <;> simp only [Oper.stillUpon]
    case value u => obtain ⟨e1, e2⟩ := h3; exact ⟨e1, by rw [e2]; exact h2⟩
    case skip => obtain ⟨e1, e2⟩ := h3; exact ⟨e1, by rw [← e2]; exact h2⟩
    case enter f args => obtain ⟨e1, hc⟩ := h3; exact ⟨e1, v, hc, h2⟩
  | halt x w' => simp only [Oper.quietUpon] at h3

theorem wpStill_of_quiet {P : Program} {ops : Array Oper} {w : World} {Q : Act → Prop} : ∀ (l : List Oper) (a : Act), wpQuiet P ops (fun w' => w' = w) Q l a → wpStill P ops w Q l a
  | [], _, h => h
  | o :: rest, a, h => by
    unfold wpQuiet at h
    unfold wpStill
    split
    · rename_i hw
      rw [if_pos hw] at h
      exact Oper.still_mono (fun a' h' => wpStill_of_quiet rest a' h') (Oper.still_of_quiet h)
    · rename_i hw
      rw [if_neg hw] at h
      exact wpStill_of_quiet rest _ h

theorem wp_region_tail {P : Program} {id : Nat} {Q : Exit → Act → World → Prop} {a : Act} {w : World} {l : List Oper} (n : Nat) (hm : P.follows .mixedOrders = true) (hB : Region.lexTailB .any l.toArray n = true)
    (h : wpQuiet P l.toArray (fun w' => w' = w.drew) (fun a' => wpList P l.toArray Q (l.drop n) a' w.drew) (l.take n) a) : (Code.region id l.toArray true).wp P Q a w :=
  wp_region_still_tail n hm hB (wpStill_of_quiet _ _ h)

end Go
end

section
/- Walks: a deck of numbers. -/
namespace Go.Proofs
open Go.RowKit

/-- A slice reads as bytes. -/
def Bytes (w : World) (A : Option Addr) (l : List Int) : Prop :=
  l.length ≤ 9223372036854775807 ∧ (l = [] ∨ ∃ b o, A = some ⟨b, o, none⟩ ∧ b < w.heap.size ∧ ∀ i, (h : i < l.length) → w.cell? ⟨b, o + i, none⟩ = some (.int .u8 l[i]) ∧ 0 ≤ l[i] ∧ l[i] ≤ 255)
theorem Bytes.aft {w w' : World} {A : Option Addr} {l : List Int} (h : Bytes w A l) (ha : Aft w w') : Bytes w' A l := by
  obtain ⟨u, rfl⟩ := ha
  refine ⟨h.1, h.2.imp id ?_⟩
  rintro ⟨b, o, e, hb, hc⟩
  exact ⟨b, o, e, Nat.lt_of_lt_of_le hb (World.lat_size _ _), fun i hi => ⟨(World.lat_cell _ _ _ _ hb).trans (hc i hi).1, (hc i hi).2⟩⟩

/-- A deck lies in block d, over bytes of an older world; no more than m numbers were dealt. -/
def DeckAt (w0 : World) (d : Nat) (A : Option Addr) (l : List Int) (c m : Nat) (w : World) : Prop :=
  Bytes w0 A l ∧ w0.heap.size ≤ d ∧ Aft w0 w ∧ ∃ q s : Nat, Blk w d 120 #[.slice A l.length c, .int .i64 q, .int .u32 s] ∧ q ≤ m ∧ s < 4294967296

section
variable {w0 : World} {d : Nat} {A : Option Addr} {l : List Int} {c m : Nat} {w w' : World}
theorem DeckAt.aft (h : DeckAt w0 d A l c m w) (ha : Aft w w') : DeckAt w0 d A l c m w' := by
  obtain ⟨h1, h2, h3, q, s, h4, h5, h6⟩ := h
  exact ⟨h1, h2, h3.trans ha, q, s, h4.aft ha, h5, h6⟩
theorem DeckAt.more (h : DeckAt w0 d A l c m w) {m' : Nat} (hm : m ≤ m') : DeckAt w0 d A l c m' w := by
  obtain ⟨h1, h2, h3, q, s, h4, h5, h6⟩ := h
  exact ⟨h1, h2, h3, q, s, h4, by omega, h6⟩
theorem DeckAt.lt (h : DeckAt w0 d A l c m w) : d < w.heap.size := by
  obtain ⟨h1, h2, h3, q, s, h4, h5, h6⟩ := h
  exact h4.lt
end

theorem DeckAt.put {w0 : World} {d : Nat} {A : Option Addr} {l : List Int} {c m : Nat} {w : World} {q s : Nat} (h : DeckAt w0 d A l c m w) (hb : Blk w d 120 #[.slice A l.length c, .int .i64 q, .int .u32 s]) (hq : q ≤ m)
    {x : Int} (h0 : 0 ≤ x) (h1 : x < 4294967296) :
    DeckAt w0 d A l c (m + 1) ((w.setCell ⟨d, 1, none⟩ (.int .i64 (q + 1))).setCell ⟨d, 2, none⟩ (.int .u32 x)).drew.drew := by
  obtain ⟨h1', h2, h3, -⟩ := h
  obtain ⟨y, rfl⟩ := Int.eq_ofNat_of_zero_le h0
  exact ⟨h1', h2, ((h3.then_setCell h2 _).then_setCell h2 _).then_drew.then_drew, q + 1, y, ((hb.store 1 _).store 2 _).drew.drew, by omega, by omega⟩

theorem only_put {w : World} {d : Nat} (u v : Value) : w.grownBy ((w.setCell ⟨d, 1, none⟩ u).setCell ⟨d, 2, none⟩ v).drew.drew (some d) := by
  have h1 : w.grownBy (w.setCell ⟨d, 1, none⟩ u) (some d) := only_setCell (only_refl w (some d)) (p := ⟨d, 1, none⟩) (.inl rfl) u
  have h2 : w.grownBy ((w.setCell ⟨d, 1, none⟩ u).setCell ⟨d, 2, none⟩ v) (some d) := only_setCell h1 (p := ⟨d, 2, none⟩) (.inl rfl) v
  exact only_drew (only_drew h2)

/-- What a deck's deal leaves. -/
def Dealt (w0 : World) (d : Nat) (A : Option Addr) (l : List Int) (c m : Nat) (n : Int) (w : World) (e : Ending) (w' : World) : Prop :=
  ∃ x : Int, e = .returned (.int .i64 x) ∧ 0 ≤ x ∧ (x < n ∨ n ≤ 1 ∧ x = 0) ∧ DeckAt w0 d A l c (m + 1) w' ∧ w.grownBy w' (some d)

set_option maxRecDepth 100000 in
set_option maxHeartbeats 2000000 in
theorem draw_any (w0 : World) (d : Nat) (A : Option Addr) (l : List Int) (c m : Nat) (n : Int) (w : World) (hd : DeckAt w0 d A l c m w) (hm : m ≤ 1000000) (hn : -1000000 ≤ n) (hn' : n ≤ 1000000) :
    Calls Tryz.prog 39 #[.pointer (some ⟨d, 0, none⟩), .int .i64 n] w (Dealt w0 d A l c m n w) := by
  have HD := Lib.hid hd
  obtain ⟨h1, h2, h3, q, s, h4, h5, h6⟩ := hd
  have hl := h1.1
  by_cases hn1 : n ≤ 1
  · go_enter Tryz.func39, Tryz.ntmps39
    go_wp2_with fail
    go_ret
    exact ⟨0, rfl, by omega, .inr ⟨hn1, rfl⟩, HD.out.more (by omega), only_refl _ _⟩
  · have k0 : w.cell? ⟨d, 0, none⟩ = some (.slice A l.length c) := h4.cell 0
    have k1 : w.cell? ⟨d, 1, none⟩ = some (.int .i64 q) := h4.cell 1
    have k2 : w.cell? ⟨d, 2, none⟩ = some (.int .u32 s) := h4.cell 2
    have hdn : decide (n ≤ 1) = false := by simpa using hn1
    by_cases hl0 : l.length = 0
    · have hb : ((l.length : Int) == 0) = true := by simp [hl0]
      have hb2 : (l.length == 0) = true := by simp [hl0]
      go_enter Tryz.func39, Tryz.ntmps39
      go_wp2_with fail
      go_ret
      exact ⟨0, rfl, by omega, .inl (by omega), HD.out.more (by omega), only_refl _ _⟩
    · have hb : ((l.length : Int) == 0) = false := by rw [beq_eq_false_iff_ne]; omega
      have hb2 : (l.length == 0) = false := by simpa using hl0
      have hlp : 0 < l.length := by omega
      have hql : q % l.length < l.length := Nat.mod_lt _ hlp
      obtain ⟨b, o, rfl, hbl, hcl⟩ := (h1.aft h3).2.resolve_left (fun e => by rw [e] at hl0; exact hl0 rfl)
      obtain ⟨cB, g2, g3⟩ := hcl (q % l.length) hql
      obtain ⟨y, hy⟩ := Int.eq_ofNat_of_zero_le g2
      have hy255 : y ≤ 255 := by rw [hy] at g3; omega
      rw [hy] at cB
      clear hcl hy g2 g3 h1 h2 h3
      have HB := Lib.hid h4
      have fz1 := h4.frozen 1
      have fz2 := h4.frozen 2
      clear h4
      obtain ⟨r, hr⟩ : ∃ r, q % l.length = r := ⟨_, rfl⟩
      have t1 : ((q : Int).tmod (l.length : Int)) = (r : Int) := by rw [← hr, Int.tmod_eq_emod_of_nonneg (by omega)]; simp
      rw [hr] at cB hql
      have i1 : (0 : Int) ≤ (r : Int) ∧ (r : Int) < (l.length : Int) := by omega
      obtain ⟨z, hz⟩ : ∃ z, ((q : Int).tdiv (l.length : Int)) = z := ⟨_, rfl⟩
      have cB1 : w.drew.cell? ⟨b, o + r, none⟩ = some (.int .u8 y) := cB
      have k01 : w.drew.cell? ⟨d, 0, none⟩ = some (.slice (some ⟨b, o, none⟩) l.length c) := k0
      have k11 : w.drew.cell? ⟨d, 1, none⟩ = some (.int .i64 q) := k1
      clear hr
      go_enter Tryz.func39, Tryz.ntmps39
      go_wp2_with fail
      refine wp_region_tail 17 (by kernel_rfl) (by kernel_rfl) ?_
      simp only [List.take_succ_cons, List.take_zero, List.drop_succ_cons, List.drop_zero]
      repeat (first | go_big_quiet_skip | (go_big_quiet_want; go_big_quiet_op; go_big_quiet_on))
      refine wpQuiet_nil ?_
      have k02 : w.drew.drew.cell? ⟨d, 0, none⟩ = some (.slice (some ⟨b, o, none⟩) l.length c) := k0
      have k12 : w.drew.drew.cell? ⟨d, 1, none⟩ = some (.int .i64 q) := k1
      have k22 : w.drew.drew.cell? ⟨d, 2, none⟩ = some (.int .u32 s) := k2
      have f12 : w.drew.drew.frozen? ⟨d, 1, none⟩ = false := fz1
      have f22 : w.drew.drew.frozen? ⟨d, 2, none⟩ = false := fz2
      clear k01 k11 cB cB1
      go_wp2_with fail
      refine wp_region_tail 11 (by kernel_rfl) (by kernel_rfl) ?_
      simp only [List.take_succ_cons, List.take_zero, List.drop_succ_cons, List.drop_zero]
      repeat (first | go_big_quiet_skip | (go_big_quiet_want; go_big_quiet_op; go_big_quiet_on))
      refine wpQuiet_nil ?_
      obtain ⟨u, hu, hu1, hu2⟩ : ∃ u : Int, wrap64 z % 4294967296 = u ∧ 0 ≤ u ∧ u < 4294967296 := ⟨_, rfl, by omega, by omega⟩
      rw [hu]
      clear hu hz t1 i1
      go_wp2_with fail
      · go_ret
        exact ⟨_, rfl, Int.emod_nonneg _ (by omega), .inl (Int.emod_lt_of_pos _ (by omega)), HD.out.put HB.out h5 (by omega) (by omega), only_put _ _⟩
      · go_ret
        exact ⟨_, rfl, Int.emod_nonneg _ (by omega), .inl (Int.emod_lt_of_pos _ (by omega)), HD.out.put HB.out h5 (by omega) (by omega), only_put _ _⟩
      · go_ret
        exact ⟨_, rfl, Int.emod_nonneg _ (by omega), .inl (Int.emod_lt_of_pos _ (by omega)), HD.out.put HB.out h5 (by omega) (by omega), only_put _ _⟩


/-- What a deck deals between two numbers. -/
def DealtB (w0 : World) (d : Nat) (A : Option Addr) (l : List Int) (c m : Nat) (a b : Int) (w : World) (e : Ending) (w' : World) : Prop :=
  ∃ x : Int, e = .returned (.int .i64 x) ∧ a ≤ x ∧ x ≤ b ∧ DeckAt w0 d A l c (m + 1) w' ∧ w.grownBy w' (some d)

set_option maxRecDepth 100000 in
set_option maxHeartbeats 2000000 in
theorem between_any (w0 : World) (d : Nat) (A : Option Addr) (l : List Int) (c m : Nat) (a b : Int) (w : World) (hd : DeckAt w0 d A l c m w) (hm : m ≤ 1000000) (ha : -1000 ≤ a) (hab : a ≤ b) (hb : b ≤ 1000) :
    Calls Tryz.prog 66 #[.pointer (some ⟨d, 0, none⟩), .int .i64 a, .int .i64 b] w (DealtB w0 d A l c m a b w) := by
  have HD := Lib.hid hd
  obtain ⟨n, hn⟩ : ∃ n : Int, b - a + 1 = n := ⟨_, rfl⟩
  have HC := Lib.hid (draw_any w0 d A l c m n w hd hm (by omega) (by omega))
  clear hd
  go_enter Tryz.func66, Tryz.ntmps66
  go_wp2_with ((have hq := HC.out); refine Calls.mono hq ?_; clear hq; rintro e w' ⟨x, rfl, h1, h2, h3, h4⟩)
  go_ret
  exact ⟨_, rfl, by omega, by omega, h3, h4⟩

set_option maxRecDepth 100000 in
set_option maxHeartbeats 2000000 in
theorem coin_any (w0 : World) (d : Nat) (A : Option Addr) (l : List Int) (c m : Nat) (n : Int) (w : World) (hd : DeckAt w0 d A l c m w) (hm : m ≤ 1000000) (hn : -1000000 ≤ n) (hn' : n ≤ 1000000) :
    Calls Tryz.prog 95 #[.pointer (some ⟨d, 0, none⟩), .int .i64 n] w (fun e w' => ∃ b : Bool, e = .returned (.bool b) ∧ DeckAt w0 d A l c (m + 1) w' ∧ w.grownBy w' (some d)) := by
  have HC := Lib.hid (draw_any w0 d A l c m n w hd hm hn hn')
  clear hd
  go_enter Tryz.func95, Tryz.ntmps95
  go_wp2_with ((have hq := HC.out); refine Calls.mono hq ?_; clear hq; rintro e w' ⟨x, rfl, h1, h2, h3, h4⟩)
  go_ret
  exact ⟨_, rfl, h3, h4⟩

set_option maxRecDepth 100000 in
set_option maxHeartbeats 2000000 in
theorem of_any (A : Option Addr) (l : List Int) (c : Nat) (w : World) (h : Bytes w A l) :
    Calls Tryz.prog 21 #[.slice A l.length c] w (fun e w' => e = .returned (.pointer (some ⟨w.heap.size, 0, none⟩)) ∧ DeckAt w w.heap.size A l c 0 w') := by
  have HD := Lib.hid h
  clear h
  go_enter Tryz.func21, Tryz.ntmps21
  go_wp2_with fail
  go_ret
  exact ⟨rfl, HD.out, Nat.le_refl _, .alloc _ _, 0, 9, Blk.new _ _ _, Nat.le_refl _, by decide⟩
end Go.Proofs
end

section
/- Walks: some numbers out of a deck. -/
namespace Go.Proofs
open Go.RowKit

theorem only_grown {a w w' : World} {row row' : Option Nat} (h : a.grownBy w row) (hg : w.grownBy w' row') (hr : ∀ k, row' = some k → a.heap.size ≤ k) : a.grownBy w' row :=
  ⟨hg.os.trans h.os, hg.tape.trans h.tape, hg.output.trans h.output, Nat.le_trans h.size hg.size, fun k hk hne => (hg.block k (Nat.lt_of_lt_of_le hk h.size) (fun e => by have := hr k e.symm; omega)).trans (h.block k hk hne)⟩

theorem DeckAt.grown {w0 : World} {d : Nat} {A : Option Addr} {l : List Int} {c m : Nat} {w w' : World} {row : Option Nat} (h : DeckAt w0 d A l c m w) (hg : w.grownBy w' row) (hr : ∀ k, row = some k → d < k) : DeckAt w0 d A l c m w' := by
  obtain ⟨h1, h2, h3, q, s, h4, h5, h6⟩ := h
  exact ⟨h1, h2, h3.grown hg (fun k e => by have := hr k e; omega), q, s, h4.grown hg (fun e => by have := hr d e.symm; omega), h5, h6⟩

theorem rises_snoc : ∀ {l : List Int} {y : Int}, risesB l = true → (∀ x ∈ l, x < y) → risesB (l ++ [y]) = true
  | [], _, _, _ => rfl
  | [a], y, _, h => by simp [risesB, h a (by simp)]
  | a :: b :: r, y, h, h2 => by
    simp only [risesB, Bool.and_eq_true, List.cons_append] at h ⊢
    exact ⟨h.1, rises_snoc (l := b :: r) h.2 fun x hx => h2 x (by simp at hx ⊢; exact .inr hx)⟩

/-- What some(d, e, k) answers: a list of its own of numbers under e. -/
def SomeR (w0 : World) (d : Nat) (A : Option Addr) (l : List Int) (c m e : Nat) (w : World) (en : Ending) (w' : World) : Prop :=
  ∃ v, ∃ ns : List Int, en = .returned v ∧ w'.ownsRow w.heap.size 3 1 v ns.length (ns.map (Value.int .i64)) ∧ ns.length ≤ e ∧ (∀ x ∈ ns, 0 ≤ x ∧ x < e) ∧ risesB ns = true ∧ DeckAt w0 d A l c (m + e) w' ∧ w.grownBy w' (some d)

set_option maxRecDepth 100000 in
set_option maxHeartbeats 2000000 in
theorem some_any (w0 : World) (d : Nat) (A : Option Addr) (l : List Int) (c m e : Nat) (once : Int) (w : World) (hd : DeckAt w0 d A l c m w) (hm : m ≤ 900000) (he : e ≤ 1000) (ho : -1000 ≤ once) (ho' : once ≤ 1000) :
    Calls Tryz.prog 40 #[.pointer (some ⟨d, 0, none⟩), .int .i64 e, .int .i64 once] w (SomeR w0 d A l c m e w) := by
  have HD := Lib.hid hd
  have hdl := hd.lt
  clear hd
  go_enter Tryz.func40, Tryz.ntmps40
  go_wp2_with fail
  go_loopw [7, 10] (fun v i wr => ∃ k : Nat, ∃ ns : List Int, i = .int .i64 k ∧ k ≤ e ∧ ns.length ≤ k ∧ (∀ x ∈ ns, 0 ≤ x ∧ x < k) ∧ risesB ns = true ∧ DeckAt w0 d A l c (m + k) wr ∧ w.grownBy wr (some d) ∧ wr.ownsRow w.heap.size 3 1 v ns.length (ns.map (Value.int .i64))) (fun _ i _ => e - (intOf i).toNat)
  case atStart => exact ⟨0, [], rfl, by omega, by simp, by simp, rfl, HD.out, only_refl _ _, World.ownsRow_nil _ _ 3 1⟩
  case round =>
    obtain ⟨k, ns, rfl, hk, hn, hns, hri, hdk, hg, hown⟩ := hrel
    by_cases hke : k < e
    · have HC := Lib.hid (coin_any w0 d A l c (m + k) once wr hdk (by omega) (by omega) (by omega))
      have HO := Lib.hid hown
      have HG := Lib.hid hg
      clear hown hdk hg
      go_wp2_with (first
        | (go_at_call 95; (have hq := HC.out); refine Calls.mono hq ?_; clear hq; rintro en w5 ⟨b, rfl, h3, h4⟩
           have HO5 := Lib.hid (HO.out.kept h4 (by
             rcases hob : u7.ownBlock with _ | g
             · exact .inl rfl
             · refine .inr fun e2 => ?_
               cases e2
               have := own_ge HO.out _ hob
               omega))
           have HG5 := Lib.hid (World.grownBy.trans HG.out h4)
           have HD5 := Lib.hid h3
           clear h3 h4 HC)
        | (at_builtin; refine wpList_push rfl _ _ rfl (own_aft HO5.out (Aft.alloc _ _)) (Nat.le_trans HG5.out.size (Aft.alloc _ _).size) rfl rfl (cell_new1 _ _ _) (by omega) ?_; intro v' w6 hown6 hg6))
      · have hlt : ∀ g, u7.ownBlock = some g → w.heap.size ≤ g := own_ge HO5.out
        refine ⟨⟨k + 1, ns ++ [(k : Int)], by go_num, by omega, by simp; omega, fun x hx => ?_, rises_snoc hri (fun x hx => (hns x hx).2), (HD5.out.aft (Aft.alloc _ _)).grown hg6 (fun g hg => by have := hlt g hg; omega), only_grown (only_aft HG5.out (Aft.alloc _ _)) hg6 hlt, hown6⟩, by simp [intOf]; omega⟩
        rcases List.mem_append.1 hx with h | h
        · have := hns x h; omega
        · rw [List.mem_singleton] at h; omega
      · exact ⟨⟨k + 1, ns, by go_num, by omega, by omega, fun x hx => by have := hns x hx; omega, hri, HD5.out, HG5.out, HO5.out⟩, by simp [intOf]; omega⟩
    · obtain rfl : k = e := by omega
      go_wp2_with fail
      go_ret
      exact ⟨_, ns, rfl, hown, hn, hns, hri, hdk, hg⟩
end Go.Proofs
end

section
/- Walks: a reading out of a deck. -/
namespace Go.Proofs
open Go.RowKit

/-- A treaty that stands whatever the deck in block d deals. -/
def TRepF (d : Nat) (w : World) (T : Treaty) (a1 a2 a3 a4 : Option Addr) : Prop := ∀ w', w.grownBy w' (some d) → TRep w' T a1 a2 a3 a4



end Go.Proofs
end

section
/- A call at a step of a region that draws its order. -/
namespace Go.Proofs
open Go.RowKit

theorem run_enters {f : Nat} {fn : Func} (h : Tryz.prog.funcs[f]? = some fn) (hn : (fn.name == "runtime.NumGoroutine") = false) (hb : fn.body.isNone = false) (args : Array Value) (w : World) :
    (callFunc f args).run Tryz.prog w = .ok (.enter f args) w := by
  unfold callFunc
  have h1 : ¬ fn.name = "runtime.NumGoroutine" := by simpa using hn
  have h2 : ¬ fn.body = none := by intro e; rw [e] at hb; cases hb
  simp [go_sem, h, h1, h2]


end Go.Proofs
end

section
/- Walks: a line out of a deck. -/
namespace Go.Proofs
open Go.RowKit



theorem own_lone {w : World} {base : Nat} (hb : base ≤ w.heap.size) (x : Int) : (w.alloc (.cells #[.int .i64 x] 3)).ownsRow base 3 1 (.slice (some ⟨w.heap.size, 0, none⟩) 1 1) [x].length ([x].map (Value.int .i64)) :=
  blk_own hb (Blk.new _ _ _) ⟨by simp, fun i hi => by simp at hi; subst hi; simp⟩ rfl (by simp) (by decide)

end Go.Proofs
end
