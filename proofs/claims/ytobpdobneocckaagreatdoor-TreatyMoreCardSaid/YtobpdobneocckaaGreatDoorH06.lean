/- Own texts, merged: Mga Mgb Mgd Own4. -/
import Derived.Test.YtobpdobneocckaaGreatDoorH05
set_option linter.unusedSimpArgs false
set_option linter.unusedVariables false
section
/- Walks: a made treaty: how a way is added. -/
namespace Go.Proofs
open Go.RowKit

theorem op_app {o : Oper} {a : Act} {w : World} {K : Act → World → Prop} {Q : Exit → Act → World → Prop} {t e : TypeId} {size bytes : Nat} (hT : SliceTy Tryz.prog t e size bytes) (s x : Operand) (ho : o.op = .call { callee := .builtin .append, args := #[s, x], argTypes := #[t, t] })
    {base n : Nat} {v : Value} {xs : List Value} (hbase : base ≤ w.heap.size) (hs : a.eval s = v) (hown : w.ownsRow base e size v n xs) {b c : Nat} {t' : TypeId} {news : List Value} (hx : a.eval x = .slice (some ⟨b, 0, none⟩) 1 c) (hb : Blk w b t' news.toArray) (hl : news.length = size)
    (h1 : ∀ u ∈ news, u.oneCell' = true) (hlen : n ≤ 1000000) (hbytes : bytes ≤ 1000)
    (hn : ∀ v' w', w'.ownsRow base e size v' (n + 1) (xs ++ news) → w.grownBy w' v.ownBlock → (v'.ownBlock = v.ownBlock ∨ v'.ownBlock = some w.heap.size) → K (a.put o.dst v') w') : Oper.wp Tryz.prog o a w K Q := by
  obtain ⟨ht, ⟨i, z, hi, hz, hsize, hby, hzs⟩, hsz⟩ := hT
  have hbb : (n + 1) * bytes ≤ 1000001 * 1000 := Nat.mul_le_mul (by omega) hbytes
  obtain ⟨v', w', hr', h2, h3, _, h5⟩ := run_append_own_at (P := Tryz.prog) w base t o.type e i z size bytes ht hi hz hsize hby hzs hsz v n xs hown ⟨b, 0, none⟩ 1 c news (by omega) (fun j u hj => by
      rw [Addr.add_lit, Nat.zero_add]
      exact (hb.cell j).trans (by simpa using hj)) h1 (by unfold maxLen; omega) (by omega) hbase
  unfold Oper.wp execOp
  simp only [ho, resolve, invoke, builtin, Sem.run_bind, Sem.run_pure, Result.andThen_ok, List.map_toArray, List.map_cons, List.map_nil, hs, hx, hr', Oper.upon]
  exact hn v' w' h2 h3 h5

theorem op_call3 {o : Oper} {a : Act} {w : World} {K : Act → World → Prop} {Q : Exit → Act → World → Prop} {f : Nat} {fn : Func} (hf : Tryz.prog.funcs[f]? = some fn) (hn : (fn.name == "runtime.NumGoroutine") = false) (hb : fn.body.isNone = false)
    (x y z : Operand) {t1 t2 t3 : TypeId} (ho : o.op = .call { callee := .value (.func f), args := #[x, y, z], argTypes := #[t1, t2, t3] })
    {vx vy vz : Value} (hx : a.eval x = vx) (hy : a.eval y = vy) (hz : a.eval z = vz) {R : Ending → World → Prop} (hc : Calls Tryz.prog f #[vx, vy, vz] w R)
    (h : ∀ e w', R e w' → ∃ v, e = .returned v ∧ K (a.put o.dst v) w') : Oper.wp Tryz.prog o a w K Q := by
  unfold Oper.wp
  have hrun : (execOp a.eval o).run Tryz.prog w = .ok (.enter f #[vx, vy, vz]) w := by
    unfold execOp
    simp only [ho, resolve, invoke, Sem.run_bind, List.map_toArray, List.map_cons, List.map_nil, hx, hy, hz]
    simp [go_sem]
    exact run_enters hf hn hb _ _
  rw [hrun, Oper.upon_enter]
  refine hc.mono ?_
  intro e w' hr
  obtain ⟨v, rfl, hk⟩ := h e w' hr
  exact hk

def regAt (n : Nat) : Code → Option (Array Oper)
  | .region i a _ => if i = n then some a else none
  | .seq a b => match regAt n a with
    | some c => some c
    | none => regAt n b
  | .block _ c => regAt n c
  | .loop c => regAt n c
  | .scope c => regAt n c
  | .cond _ a b => match regAt n a with
    | some c => some c
    | none => regAt n b
  | _ => none
noncomputable def opsMade (n : Nat) : List Oper := ((regAt n (Tryz.f20.body.getD .skip)).getD #[]).toList

theorem mod_ok {F x P : Int} (hF : 0 ≤ F) (hF2 : F < P) (hP : 2 ≤ P) (hP8 : P ≤ 8) (hx : 1 ≤ x) (hx2 : x ≤ P - 1) : 0 ≤ (F + x).tmod P ∧ (F + x).tmod P < P ∧ F ≠ (F + x).tmod P := by
  rw [Int.tmod_eq_emod_of_nonneg (by omega)]
  have : P = 2 ∨ P = 3 ∨ P = 4 ∨ P = 5 ∨ P = 6 ∨ P = 7 ∨ P = 8 := by omega
  rcases this with rfl | rfl | rfl | rfl | rfl | rfl | rfl <;> omega

/-- A way between two of so many places. -/
def WayOk (P : Int) (x : Way) : Prop := 0 ≤ x.a ∧ x.a < P ∧ 0 ≤ x.b ∧ x.b < P ∧ x.a ≠ x.b ∧ 0 ≤ x.kind ∧ x.kind < 4

def b1 (b : Bool) : Nat := if b then 1 else 0
theorem b1_le (b : Bool) : b1 b ≤ 1 := by cases b <;> decide
theorem own_slice' {W : World} {base : Nat} {e : TypeId} {size : Nat} {v : Value} {k : Nat} {xs : List Value} (h : W.ownsRow base e size v k xs) : ∃ A n c, v = .slice A n c := by
  rcases h.2 with ⟨rfl, _⟩ | ⟨g, cap, _, rfl, _⟩
  · exact ⟨_, _, _, rfl⟩
  · exact ⟨_, _, _, rfl⟩
structure W5 (w0 : World) (d : Nat) (A : Option Addr) (l : List Int) (c m : Nat) (wE : World) (B base n : Nat) (P : Int) (v1 z2 z3 z4 : Value) (xs : List Value) (done : Nat → Bool) (w : World) : Prop where
  deck : DeckAt w0 d A l c (m + b1 (done 8) + b1 (done 14)) w
  grown : wE.grownBy w (some d)
  size : base ≤ w.heap.size
  box : done 19 = false → Blk w B 27 #[.int .i64 P, v1, z2, z3, z4]
  own : done 17 = false → w.ownsRow base 65 3 v1 n xs
  fin : done 19 = true → ∃ v' wy, WayOk P wy ∧ Blk w B 27 #[.int .i64 P, v', z2, z3, z4] ∧ w.ownsRow base 65 3 v' (n + 1) (xs ++ encWay wy)

def Fact5 (d B base n : Nat) (P F : Int) (v1 : Value) (xs : List Value) : Nat → Value → World → Prop
  | 0, v, _ => v = .pointer (some ⟨B, 1, none⟩)
  | 1, v, _ => v = v1
  | 2, v, _ => v = .int .i64 F
  | 3, v, _ => v = .int .i64 F
  | 4, v, _ => v = .pointer (some ⟨d, 0, none⟩)
  | 5, v, _ => v = .pointer (some ⟨B, 0, none⟩)
  | 6, v, _ => v = .int .i64 P
  | 7, v, _ => v = .int .i64 (P - 1)
  | 8, v, _ => ∃ x, v = .int .i64 x ∧ 1 ≤ x ∧ x ≤ P - 1
  | 9, v, _ => ∃ x, v = .int .i64 (F + x) ∧ 1 ≤ x ∧ x ≤ P - 1
  | 10, v, _ => v = .pointer (some ⟨B, 0, none⟩)
  | 11, v, _ => v = .int .i64 P
  | 12, v, _ => ∃ y, v = .int .i64 y ∧ 0 ≤ y ∧ y < P ∧ F ≠ y
  | 13, v, _ => v = .pointer (some ⟨d, 0, none⟩)
  | 14, v, _ => ∃ y, v = .int .i64 y ∧ 0 ≤ y ∧ y < 4
  | 15, v, _ => ∃ wy : Way, WayOk P wy ∧ v = .agg #[.int .i64 wy.a, .int .i64 wy.b, .int .i64 wy.kind]
  | 16, v, w => ∃ wy : Way, WayOk P wy ∧ ∃ b, v = .slice (some ⟨b, 0, none⟩) 1 1 ∧ Blk w b 65 (encWay wy).toArray ∧ v1.ownBlock ≠ some b ∧ B < b
  | 17, v, w => ∃ wy : Way, WayOk P wy ∧ w.ownsRow base 65 3 v (n + 1) (xs ++ encWay wy)
  | 18, v, _ => v = .pointer (some ⟨B, 1, none⟩)
  | _, _, _ => True
theorem Fact5.kept {d B base n : Nat} {P F : Int} {v1 : Value} {xs : List Value} {w w' : World} {row : Option Nat} (hg : w.grownBy w' row) (hr : ∀ k, row = some k → k < base ∧ (k = d ∨ k = B) ∧ d < B) {i : Nat} {v : Value} (h : Fact5 d B base n P F v1 xs i v w) : Fact5 d B base n P F v1 xs i v w' := by
  unfold Fact5 at h ⊢
  split at h <;> first
    | exact h
    | (obtain ⟨wy, h1, b, h2, h3, h4, h5⟩ := h; exact ⟨wy, h1, b, h2, h3.grown hg (fun e => by have := hr b e.symm; omega), h4, h5⟩)
    | (obtain ⟨wy, h1, h2⟩ := h; refine ⟨wy, h1, h2.kept hg ?_⟩; cases hb : v.ownBlock with
        | none => exact .inl rfl
        | some g => exact .inr fun e => by have := (h2.lt g hb).1; have := hr g (by rw [← e]); omega)
theorem Fact5.low {d B base n : Nat} {P F : Int} {v1 : Value} {xs : List Value} {w w' : World} {i : Nat} {v : Value} (hi : i < 16) (h : Fact5 d B base n P F v1 xs i v w) : Fact5 d B base n P F v1 xs i v w' := by
  unfold Fact5 at h ⊢
  split at h <;> first | exact h | omega

section
variable {w0 : World} {d : Nat} {A : Option Addr} {l : List Int} {c m : Nat} {wE : World} {B base n : Nat} {P : Int} {v1 z2 z3 z4 : Value} {xs : List Value} {done : Nat → Bool} {w : World}
theorem W5.same (h : W5 w0 d A l c m wE B base n P v1 z2 z3 z4 xs done w) {i : Nat} (h8 : i ≠ 8) (h14 : i ≠ 14) (h17 : i ≠ 17) (h19 : i ≠ 19) : W5 w0 d A l c m wE B base n P v1 z2 z3 z4 xs (Go.upd done i) w := by
  have e : ∀ j, j ≠ i → Go.upd done i j = done j := fun j hj => by unfold Go.upd; rw [if_neg hj]
  refine ⟨?_, h.grown, h.size, ?_, ?_, ?_⟩
  · rw [e 8 (Ne.symm h8), e 14 (Ne.symm h14)]; exact h.deck
  · rw [e 19 (Ne.symm h19)]; exact h.box
  · rw [e 17 (Ne.symm h17)]; exact h.own
  · rw [e 19 (Ne.symm h19)]; exact h.fin
end

set_option maxRecDepth 100000 in
set_option maxHeartbeats 2000000 in
theorem region5_made (w0 : World) (d : Nat) (A : Option Addr) (l : List Int) (c m : Nat) (wE : World) (B base n : Nat) (P F : Int) (v1 z2 z3 z4 : Value) (xs : List Value) (a0 : Act) (Q0 : Exit → Act → World → Prop) (W8 : World)
    (hz : a0.tmps.size = 105) (s0 : a0.eval (.tmp 0) = .pointer (some ⟨d, 0, none⟩)) (s5 : a0.eval (.tmp 5) = .pointer (some ⟨B, 0, none⟩)) (s6 : a0.eval (.tmp 6) = .int .i64 F) (hF : 0 ≤ F) (hF2 : F < P) (hP : 2 ≤ P) (hP8 : P ≤ 8)
    (hD : DeckAt w0 d A l c m W8) (hm : m ≤ 900000) (hg : wE.grownBy W8 (some d)) (hbx : Blk W8 B 27 #[.int .i64 P, v1, z2, z3, z4]) (hown : W8.ownsRow base 65 3 v1 n xs) (hn : n ≤ 100) (hBb : B < base) (hdB : d < B) (hE : wE.heap.size ≤ B) (hsz : base ≤ W8.heap.size)
    (hexit : ∀ a W' wy v', a.tmps.size = 105 → a.defers = a0.defers → (∀ s : Nat, (s < 19 ∨ 37 < s) → a.eval (.tmp s) = a0.eval (.tmp s)) → DeckAt w0 d A l c (m + 2) W' → wE.grownBy W' (some d) → base ≤ W'.heap.size → Blk W' B 27 #[.int .i64 P, v', z2, z3, z4] → WayOk P wy → W'.ownsRow base 65 3 v' (n + 1) (xs ++ encWay wy) → Q0 .normal a W') :
    Code.wp Tryz.prog (Code.region 5 (opsMade 5).toArray true) Q0 a0 W8 := by
  have HEX := Lib.hid hexit
  clear hexit
  refine wp_region_facts (by kernel_rfl) 105 hz (by kernel_rfl) (Fact5 d B base n P F v1 xs) (W5 w0 d A l c m wE B base n P v1 z2 z3 z4 xs) ⟨hD.aft (Aft.drew _), only_drew hg, hsz, fun _ => hbx.drew, fun _ => hown, fun h => by cases h⟩ ?step ?fin
  case step =>
    intro i o ho done a w hH hd hp K hK
    have hW := hH.wd
    have hold : ∀ s : Nat, (s < 19 ∨ 37 < s) → a.eval (.tmp s) = a0.eval (.tmp s) := fun s h => hH.old s fun k ok hk hs => by
      match k, hk with
      | 0, hk => cases hk; cases hs; exact absurd h (by decide)
      | 1, hk => cases hk; cases hs; exact absurd h (by decide)
      | 2, hk => cases hk; cases hs; exact absurd h (by decide)
      | 3, hk => cases hk; cases hs; exact absurd h (by decide)
      | 4, hk => cases hk; cases hs; exact absurd h (by decide)
      | 5, hk => cases hk; cases hs; exact absurd h (by decide)
      | 6, hk => cases hk; cases hs; exact absurd h (by decide)
      | 7, hk => cases hk; cases hs; exact absurd h (by decide)
      | 8, hk => cases hk; cases hs; exact absurd h (by decide)
      | 9, hk => cases hk; cases hs; exact absurd h (by decide)
      | 10, hk => cases hk; cases hs; exact absurd h (by decide)
      | 11, hk => cases hk; cases hs; exact absurd h (by decide)
      | 12, hk => cases hk; cases hs; exact absurd h (by decide)
      | 13, hk => cases hk; cases hs; exact absurd h (by decide)
      | 14, hk => cases hk; cases hs; exact absurd h (by decide)
      | 15, hk => cases hk; cases hs; exact absurd h (by decide)
      | 16, hk => cases hk; cases hs; exact absurd h (by decide)
      | 17, hk => cases hk; cases hs; exact absurd h (by decide)
      | 18, hk => cases hk; cases hs; exact absurd h (by decide)
      | 19, hk => cases hk; cases hs
      | _ + 20, hk => cases hk
    have hK' : ∀ v, i ≠ 8 → i ≠ 14 → i ≠ 17 → i ≠ 19 → Fact5 d B base n P F v1 xs i v w → K (a.put o.dst v) w := fun v h8 h14 h17 h19 hv => hK v w hv (hW.same h8 h14 h17 h19) fun j _ u hu => hu
    have h19 : i ≠ 19 → done 19 = false := fun hi => by
      cases hdk : done 19 with
      | false => rfl
      | true => have := hH.closed 19 _ rfl hdk i (by revert hd; match i, ho with
        | 0, _ => intro _; decide
        | 1, _ => intro _; decide
        | 2, _ => intro _; decide
        | 3, _ => intro _; decide
        | 4, _ => intro _; decide
        | 5, _ => intro _; decide
        | 6, _ => intro _; decide
        | 7, _ => intro _; decide
        | 8, _ => intro _; decide
        | 9, _ => intro _; decide
        | 10, _ => intro _; decide
        | 11, _ => intro _; decide
        | 12, _ => intro _; decide
        | 13, _ => intro _; decide
        | 14, _ => intro _; decide
        | 15, _ => intro _; decide
        | 16, _ => intro _; decide
        | 17, _ => intro _; decide
        | 18, _ => intro _; decide
        | 19, _ => exact absurd rfl hi
        | _ + 20, ho => cases ho); rw [hd] at this; cases this
    match i, ho with
    | 0, ho =>
      cases ho
      have e : a.eval (.tmp 5) = .pointer (some ⟨B, 0, none⟩) := (hold 5 (by decide)).trans s5
      exact op_value (by simp [go_sem, ev e]) (hK' _ (by decide) (by decide) (by decide) (by decide) rfl)
    | 1, ho =>
      cases ho
      have e : a.eval (.tmp 19) = .pointer (some ⟨B, 1, none⟩) := hH.fact 0 _ 19 rfl rfl (hp 0 (by decide))
      have hc : w.cell? ⟨B, 1, none⟩ = some v1 := (hW.box (h19 (by decide))).cell 1
      exact op_value (by simp [go_sem, ev e, hc]) (hK' _ (by decide) (by decide) (by decide) (by decide) rfl)
    | 2, ho =>
      cases ho
      have e : a.eval (.tmp 6) = .int .i64 F := (hold 6 (by decide)).trans s6
      exact op_value (by simp [go_sem, ev e]) (hK' _ (by decide) (by decide) (by decide) (by decide) rfl)
    | 3, ho =>
      cases ho
      have e : a.eval (.tmp 6) = .int .i64 F := (hold 6 (by decide)).trans s6
      exact op_value (by simp [go_sem, ev e]) (hK' _ (by decide) (by decide) (by decide) (by decide) rfl)
    | 4, ho =>
      cases ho
      have e : a.eval (.tmp 0) = .pointer (some ⟨d, 0, none⟩) := (hold 0 (by decide)).trans s0
      exact op_value (by simp [go_sem, ev e]) (hK' _ (by decide) (by decide) (by decide) (by decide) rfl)
    | 5, ho =>
      cases ho
      have e : a.eval (.tmp 5) = .pointer (some ⟨B, 0, none⟩) := (hold 5 (by decide)).trans s5
      exact op_value (by simp [go_sem, ev e]) (hK' _ (by decide) (by decide) (by decide) (by decide) rfl)
    | 6, ho =>
      cases ho
      have e : a.eval (.tmp 24) = .pointer (some ⟨B, 0, none⟩) := hH.fact 5 _ 24 rfl rfl (hp 5 (by decide))
      have hc : w.cell? ⟨B, 0, none⟩ = some (.int .i64 P) := (hW.box (h19 (by decide))).cell 0
      exact op_value (by simp [go_sem, ev e, hc]) (hK' _ (by decide) (by decide) (by decide) (by decide) rfl)
    | 7, ho =>
      cases ho
      have e : a.eval (.tmp 25) = .int .i64 P := hH.fact 6 _ 25 rfl rfl (hp 6 (by decide))
      have hwr : IntKind.i64.wrap (P - 1) = P - 1 := by rw [IntKind.wrap_i64]; omega
      exact op_value (by simp [go_sem, ev e, hwr]) (hK' _ (by decide) (by decide) (by decide) (by decide) rfl)
    | 8, ho =>
      cases ho
      have e : a.eval (.tmp 23) = .pointer (some ⟨d, 0, none⟩) := hH.fact 4 _ 23 rfl rfl (hp 4 (by decide))
      have e2 : a.eval (.tmp 26) = .int .i64 (P - 1) := hH.fact 7 _ 26 rfl rfl (hp 7 (by decide))
      have hdk := hW.deck
      rw [hd] at hdk
      refine op_call3 Tryz.func66 (by kernel_rfl) (by kernel_rfl) _ _ _ rfl e rfl e2 (between_any w0 d A l c _ 1 (P - 1) w hdk (by have h1 := b1_le (done 14); have h2 : b1 false = 0 := rfl; omega) (by omega) (by omega) (by omega)) ?_
      rintro e w' ⟨x, rfl, g1, g2, g3, g4⟩
      refine ⟨_, rfl, hK _ _ ⟨x, rfl, g1, g2⟩ ⟨g3.more ?_, hW.grown.trans g4, Nat.le_trans hW.size g4.size, fun _ => (hW.box (h19 (by decide))).grown g4 (fun e => by injection e; omega), fun h => ?_, fun h => ?_⟩ fun j _ u hu => Fact5.kept g4 (fun k e => by cases e; exact ⟨by omega, .inl rfl, hdB⟩) hu⟩
      · show m + b1 false + b1 (done 14) + 1 ≤ m + b1 (Go.upd done 8 8) + b1 (Go.upd done 8 14)
        have e1 : Go.upd done 8 8 = true := rfl
        have e2 : Go.upd done 8 14 = done 14 := rfl
        rw [e1, e2]; unfold b1; simp; omega
      · refine (hW.own h).kept g4 ?_
        cases hb : v1.ownBlock with
        | none => exact .inl rfl
        | some g => exact .inr fun e => by cases e; have := ((hW.own h).lt _ hb).1; omega
      · have := h19 (by decide); rw [show Go.upd done 8 19 = done 19 from rfl, this] at h; cases h
    | 9, ho =>
      cases ho
      have e : a.eval (.tmp 22) = .int .i64 F := hH.fact 3 _ 22 rfl rfl (hp 3 (by decide))
      obtain ⟨x, e2, g1, g2⟩ : ∃ x, a.eval (.tmp 27) = .int .i64 x ∧ 1 ≤ x ∧ x ≤ P - 1 := hH.fact 8 _ 27 rfl rfl (hp 8 (by decide))
      have hwr : IntKind.i64.wrap (F + x) = F + x := by rw [IntKind.wrap_i64]; omega
      exact op_value (by simp [go_sem, ev e, ev e2, hwr]) (hK' _ (by decide) (by decide) (by decide) (by decide) ⟨x, rfl, g1, g2⟩)
    | 10, ho =>
      cases ho
      have e : a.eval (.tmp 5) = .pointer (some ⟨B, 0, none⟩) := (hold 5 (by decide)).trans s5
      exact op_value (by simp [go_sem, ev e]) (hK' _ (by decide) (by decide) (by decide) (by decide) rfl)
    | 11, ho =>
      cases ho
      have e : a.eval (.tmp 29) = .pointer (some ⟨B, 0, none⟩) := hH.fact 10 _ 29 rfl rfl (hp 10 (by decide))
      have hc : w.cell? ⟨B, 0, none⟩ = some (.int .i64 P) := (hW.box (h19 (by decide))).cell 0
      exact op_value (by simp [go_sem, ev e, hc]) (hK' _ (by decide) (by decide) (by decide) (by decide) rfl)
    | 12, ho =>
      cases ho
      obtain ⟨x, e, g1, g2⟩ : ∃ x, a.eval (.tmp 28) = .int .i64 (F + x) ∧ 1 ≤ x ∧ x ≤ P - 1 := hH.fact 9 _ 28 rfl rfl (hp 9 (by decide))
      have e2 : a.eval (.tmp 30) = .int .i64 P := hH.fact 11 _ 30 rfl rfl (hp 11 (by decide))
      have hP0 : ¬ P = 0 := by omega
      obtain ⟨i1, i2, i3⟩ := mod_ok hF hF2 hP hP8 g1 g2
      have hwr : wrap64 ((F + x).tmod P) = (F + x).tmod P := by simp only [wrap64]; omega
      exact op_value (by simp [go_sem, ev e, ev e2, hP0]) (hK' _ (by decide) (by decide) (by decide) (by decide) ⟨_, rfl, i1, i2, i3⟩)
    | 13, ho =>
      cases ho
      have e : a.eval (.tmp 0) = .pointer (some ⟨d, 0, none⟩) := (hold 0 (by decide)).trans s0
      exact op_value (by simp [go_sem, ev e]) (hK' _ (by decide) (by decide) (by decide) (by decide) rfl)
    | 14, ho =>
      cases ho
      have e : a.eval (.tmp 32) = .pointer (some ⟨d, 0, none⟩) := hH.fact 13 _ 32 rfl rfl (hp 13 (by decide))
      have hdk := hW.deck
      rw [hd] at hdk
      refine op_call2 Tryz.func39 (by kernel_rfl) (by kernel_rfl) _ _ rfl e rfl (draw_any w0 d A l c _ 4 w hdk (by have h1 := b1_le (done 8); have h2 : b1 false = 0 := rfl; omega) (by omega) (by omega)) ?_
      rintro e w' ⟨x, rfl, g1, g2, g3, g4⟩
      refine ⟨_, rfl, hK _ _ ⟨x, rfl, g1, by omega⟩ ⟨g3.more ?_, hW.grown.trans g4, Nat.le_trans hW.size g4.size, fun _ => (hW.box (h19 (by decide))).grown g4 (fun e => by injection e; omega), fun h => ?_, fun h => ?_⟩ fun j _ u hu => Fact5.kept g4 (fun k e => by cases e; exact ⟨by omega, .inl rfl, hdB⟩) hu⟩
      · show m + b1 (done 8) + b1 false + 1 ≤ m + b1 (Go.upd done 14 8) + b1 (Go.upd done 14 14)
        have e1 : Go.upd done 14 14 = true := rfl
        have e2 : Go.upd done 14 8 = done 8 := rfl
        rw [e1, e2]; unfold b1; simp
      · refine (hW.own h).kept g4 ?_
        cases hb : v1.ownBlock with
        | none => exact .inl rfl
        | some g => exact .inr fun e => by cases e; have := ((hW.own h).lt _ hb).1; omega
      · have := h19 (by decide); rw [show Go.upd done 14 19 = done 19 from rfl, this] at h; cases h
    | 15, ho =>
      cases ho
      have e : a.eval (.tmp 21) = .int .i64 F := hH.fact 2 _ 21 rfl rfl (hp 2 (by decide))
      obtain ⟨y, e2, i1, i2, i3⟩ : ∃ y, a.eval (.tmp 31) = .int .i64 y ∧ 0 ≤ y ∧ y < P ∧ F ≠ y := hH.fact 12 _ 31 rfl rfl (hp 12 (by decide))
      obtain ⟨z, e3, i4, i5⟩ : ∃ z, a.eval (.tmp 33) = .int .i64 z ∧ 0 ≤ z ∧ z < 4 := hH.fact 14 _ 33 rfl rfl (hp 14 (by decide))
      exact op_value (by simp [go_sem, ev e, ev e2, ev e3]) (hK' _ (by decide) (by decide) (by decide) (by decide) ⟨⟨F, y, z⟩, ⟨hF, hF2, i1, i2, i3, i4, i5⟩, rfl⟩)
    | 16, ho =>
      cases ho
      obtain ⟨wy, hwy, e⟩ : ∃ wy : Way, WayOk P wy ∧ a.eval (.tmp 34) = .agg #[.int .i64 wy.a, .int .i64 wy.b, .int .i64 wy.kind] := hH.fact 15 _ 34 rfl rfl (hp 15 (by decide))
      have h17 : done 17 = false := by
        cases hdk : done 17 with
        | false => rfl
        | true => have := hH.closed 17 _ rfl hdk 16 (by decide); rw [hd] at this; cases this
      have hb19 := hW.box (h19 (by decide))
      have hnew : v1.ownBlock ≠ some w.heap.size := fun e => by have := ((hW.own h17).lt _ e).2; omega
      have h1 : Fact5 d B base n P F v1 xs 16 (.slice (some ⟨w.heap.size, 0, none⟩) 1 1) (w.alloc (.cells (encWay wy).toArray 65)) := ⟨wy, hwy, _, rfl, Blk.new _ _ _, hnew, hb19.lt⟩
      have hg' := only_of_aft (Aft.alloc w (.cells (encWay wy).toArray 65)) none
      have := hK _ _ h1 ⟨(hW.same (i := 16) (by decide) (by decide) (by decide) (by decide)).deck.aft (Aft.alloc _ _), only_aft hW.grown (Aft.alloc _ _), Nat.le_trans hW.size hg'.size, fun _ => hb19.alloc _, fun _ => own_aft (hW.own h17) (Aft.alloc _ _), fun h => by rw [show Go.upd done 16 19 = done 19 from rfl, h19 (by decide)] at h; cases h⟩ fun j _ u hu => Fact5.kept hg' (fun k e => by cases e) hu
      unfold Oper.wp
      simpa [go_sem, ev e, encWay] using this
    | 17, ho =>
      cases ho
      obtain ⟨wy, hwy, b, e, hb, hne, hBb'⟩ : ∃ wy : Way, WayOk P wy ∧ ∃ b, a.eval (.tmp 35) = .slice (some ⟨b, 0, none⟩) 1 1 ∧ Blk w b 65 (encWay wy).toArray ∧ v1.ownBlock ≠ some b ∧ B < b := hH.fact 16 _ 35 rfl rfl (hp 16 (by decide))
      have e2 : a.eval (.tmp 20) = v1 := hH.fact 1 _ 20 rfl rfl (hp 1 (by decide))
      have hb19 := hW.box (h19 (by decide))
      have ho1 := hW.own hd
      have hfar : ∀ k, v1.ownBlock = some k → base ≤ k := fun k e => (ho1.lt k e).1
      refine op_app ty22 _ _ rfl hW.size e2 ho1 e hb rfl (fun u hu => by simp [encWay] at hu; rcases hu with rfl | rfl | rfl <;> rfl) (by omega) (by decide) fun v' w' h1 h2 h3 => ?_
      refine hK _ _ ⟨wy, hwy, h1⟩ ⟨(hW.deck).grown h2 (fun k e => by have := hfar k e; omega), only_grown hW.grown h2 (fun k e => by have := hfar k e; omega), Nat.le_trans hW.size h2.size, fun _ => hb19.grown h2 (fun e => by have := hfar B e.symm; omega), fun h => (by (have h' : Go.upd done 17 17 = true := rfl); rw [h'] at h; cases h), fun h => by rw [show Go.upd done 17 19 = done 19 from rfl, h19 (by decide)] at h; cases h⟩ fun j hj u hu => ?_
      have : j ≠ 17 := fun e => by rw [e, hd] at hj; cases hj
      by_cases h16 : j < 16
      · exact Fact5.low h16 hu
      · by_cases e16 : j = 16
        · subst e16
          obtain ⟨wy', h1', b', h2', h3', h4', h5'⟩ := hu
          exact ⟨wy', h1', b', h2', h3'.grown h2 (Ne.symm h4'), h4', h5'⟩
        · by_cases e18 : j = 18
          · subst e18; exact hu
          · unfold Fact5 at hu ⊢; split at hu <;> first | exact hu | omega
    | 18, ho =>
      cases ho
      have e : a.eval (.tmp 5) = .pointer (some ⟨B, 0, none⟩) := (hold 5 (by decide)).trans s5
      exact op_value (by simp [go_sem, ev e]) (hK' _ (by decide) (by decide) (by decide) (by decide) rfl)
    | 19, ho =>
      cases ho
      obtain ⟨wy, hwy, h1⟩ : ∃ wy : Way, WayOk P wy ∧ w.ownsRow base 65 3 (a.eval (.tmp 36)) (n + 1) (xs ++ encWay wy) := hH.fact 17 _ 36 rfl rfl (hp 17 (by decide))
      have e : a.eval (.tmp 37) = .pointer (some ⟨B, 1, none⟩) := hH.fact 18 _ 37 rfl rfl (hp 18 (by decide))
      have hb19 := hW.box hd
      obtain ⟨v', e2⟩ : ∃ v', a.eval (.tmp 36) = v' := ⟨_, rfl⟩
      rw [e2] at h1
      obtain ⟨sA, sn, sc, rfl⟩ := own_slice' h1
      have hf := hb19.frozen 1
      have hc : w.cell? ⟨B, 1, none⟩ = some v1 := hb19.cell 1
      have hlt := hb19.lt
      have hg' : w.grownBy (w.setCell ⟨B, 1, none⟩ (.slice sA sn sc)) (some B) := only_setCell (only_refl w (some B)) (p := ⟨B, 1, none⟩) (.inl rfl) (.slice sA sn sc)
      have := hK undef (w.setCell ⟨B, 1, none⟩ (.slice sA sn sc)) trivial ⟨(hW.same (i := 18) (by decide) (by decide) (by decide) (by decide)).deck.grown hg' (fun k e => by cases e; exact hdB), only_grown hW.grown hg' (fun k e => by cases e; exact hE), Nat.le_trans hW.size hg'.size, fun h => (by (have h' : Go.upd done 19 19 = true := rfl); rw [h'] at h; cases h), fun h => ?_, fun _ => ⟨.slice sA sn sc, wy, hwy, hb19.store 1 _, ?_⟩⟩ fun j _ u hu => Fact5.kept hg' (fun k e => by cases e; exact ⟨hBb, .inr rfl, hdB⟩) hu
      unfold Oper.wp
      simpa [go_sem, ev e, ev e2, hf, hc, hlt] using this
      · rw [show Go.upd done 19 17 = done 17 from rfl, hp 17 (by decide)] at h; cases h
      · refine h1.kept hg' ?_
        cases hb : (Value.slice sA sn sc).ownBlock with
        | none => exact .inl rfl
        | some g => exact .inr fun e => by cases e; have := (h1.lt _ hb).1; omega
    | _ + 20, ho => cases ho
  case fin =>
    intro done a w hall hH
    have hdone : ∀ i, i < 20 → done i = true := fun i hi => hall i (by exact hi)
    obtain ⟨v', wy, hwy, h1, h2⟩ := hH.wd.fin (hdone 19 (by decide))
    refine HEX.out a w wy v' (hH.size.trans hz) hH.defers (fun s h => hH.old s fun k ok hk hs => ?_) ?_ hH.wd.grown hH.wd.size h1 hwy h2
    · match k, hk with
      | 0, hk => cases hk; cases hs; exact absurd h (by decide)
      | 1, hk => cases hk; cases hs; exact absurd h (by decide)
      | 2, hk => cases hk; cases hs; exact absurd h (by decide)
      | 3, hk => cases hk; cases hs; exact absurd h (by decide)
      | 4, hk => cases hk; cases hs; exact absurd h (by decide)
      | 5, hk => cases hk; cases hs; exact absurd h (by decide)
      | 6, hk => cases hk; cases hs; exact absurd h (by decide)
      | 7, hk => cases hk; cases hs; exact absurd h (by decide)
      | 8, hk => cases hk; cases hs; exact absurd h (by decide)
      | 9, hk => cases hk; cases hs; exact absurd h (by decide)
      | 10, hk => cases hk; cases hs; exact absurd h (by decide)
      | 11, hk => cases hk; cases hs; exact absurd h (by decide)
      | 12, hk => cases hk; cases hs; exact absurd h (by decide)
      | 13, hk => cases hk; cases hs; exact absurd h (by decide)
      | 14, hk => cases hk; cases hs; exact absurd h (by decide)
      | 15, hk => cases hk; cases hs; exact absurd h (by decide)
      | 16, hk => cases hk; cases hs; exact absurd h (by decide)
      | 17, hk => cases hk; cases hs; exact absurd h (by decide)
      | 18, hk => cases hk; cases hs; exact absurd h (by decide)
      | 19, hk => cases hk; cases hs
      | _ + 20, hk => cases hk
    · have := hH.wd.deck
      rw [hdone 8 (by decide), hdone 14 (by decide)] at this
      exact this
end Go.Proofs
end

section
/- Words for memory: an own list of records whose contents rest on blocks of the call's own. -/
namespace Go.Proofs
open Go.RowKit

def Rows2 {α : Type} (R : World → α → List Value → Prop) (sz : Nat) (W : World) (l : List α) (xs : List Value) : Prop := xs.length = l.length * sz ∧ ∀ i, (h : i < l.length) → R W l[i] ((xs.drop (i * sz)).take sz)

/-- An own list of records; what they hold rests on the blocks S, none of which is the list's own. -/
structure OwnK {α : Type} (R : World → α → List Value → Prop) (e : TypeId) (sz base : Nat) (v : Value) (S : Nat → Prop) (l : List α) (xs : List Value) (W : World) : Prop where
  own : W.ownsRow base e sz v l.length xs
  rows : Sup W S (fun W' => Rows2 R sz W' l xs)
  far : ∀ k, S k → base ≤ k ∧ v.ownBlock ≠ some k

section
variable {α : Type} {R : World → α → List Value → Prop} {e : TypeId} {sz base : Nat} {v : Value} {S : Nat → Prop} {l : List α} {xs : List Value} {W W' : World}
theorem OwnK.nil (W : World) (e : TypeId) (sz base : Nat) : OwnK R e sz base (.slice none 0 0) (fun _ => False) ([] : List α) [] W :=
  ⟨World.ownsRow_nil _ _ e sz, ⟨fun k h => h.elim, fun W' _ _ => ⟨by simp, fun i h => by simp at h⟩⟩, fun k h => h.elim⟩
theorem OwnK.kept (h : OwnK R e sz base v S l xs W) {row : Option Nat} (hg : W.grownBy W' row) (hr : ∀ k, row = some k → k < base) : OwnK R e sz base v S l xs W' := by
  refine ⟨h.own.kept hg ?_, h.rows.grown hg (fun k e hk => by have := hr k e; have := (h.far k hk).1; omega), h.far⟩
  cases hb : v.ownBlock with
  | none => exact .inl rfl
  | some g => exact .inr fun e => by have := (h.own.lt g hb).1; have := hr g (by rw [← e]); omega
theorem OwnK.aft (h : OwnK R e sz base v S l xs W) (ha : Aft W W') : OwnK R e sz base v S l xs W' := h.kept (only_of_aft ha none) (fun k e => by cases e)
theorem Rows2.push (h : Rows2 R sz W l xs) {x : α} {news : List Value} (hx : R W x news) (hn : news.length = sz) : Rows2 R sz W (l ++ [x]) (xs ++ news) := by
  refine ⟨by rw [List.length_append, List.length_append, h.1, hn, List.length_singleton, Nat.succ_mul], fun i hi => ?_⟩
  by_cases hlt : i < l.length
  · rw [List.getElem_append_left hlt]
    have h1 : (i + 1) * sz ≤ l.length * sz := Nat.mul_le_mul_right _ hlt
    rw [Nat.succ_mul] at h1
    rw [List.drop_append_of_le_length (by rw [h.1]; omega), List.take_append_of_le_length (by rw [List.length_drop, h.1]; omega)]
    exact h.2 i hlt
  · have e : i = l.length := by simp at hi; omega
    subst e
    rw [List.getElem_append_right (Nat.le_refl _)]
    simp only [Nat.sub_self, List.getElem_cons_zero]
    have e2 : l.length * sz = xs.length := h.1.symm
    rw [e2, List.drop_left, List.take_of_length_le (by omega)]
    exact hx
theorem OwnK.push (h : OwnK R e sz base v S l xs W) {S2 : Nat → Prop} {x : α} {news : List Value} (hx : Sup W S2 (fun W' => R W' x news)) (hn : news.length = sz) (hf2 : ∀ k, S2 k → base ≤ k ∧ v.ownBlock ≠ some k)
    {v' : Value} (hown : W'.ownsRow base e sz v' (l.length + 1) (xs ++ news)) (hg : W.grownBy W' v.ownBlock) (hat : v'.ownBlock = v.ownBlock ∨ v'.ownBlock = some W.heap.size) : OwnK R e sz base v' (fun k => S k ∨ S2 k) (l ++ [x]) (xs ++ news) W' := by
  have hs := h.rows.and hx
  refine ⟨by simpa using hown, (hs.grown hg (fun k e hk => ?_)).mono fun W'' h2 => h2.1.push h2.2 hn, fun k hk => ?_⟩
  · rcases hk with hk | hk
    · exact (h.far k hk).2 e
    · exact (hf2 k hk).2 e
  · have hlt := hs.1 k hk
    have h2 : base ≤ k ∧ v.ownBlock ≠ some k := hk.elim (h.far k) (hf2 k)
    refine ⟨h2.1, ?_⟩
    rcases hat with e | e
    · rw [e]; exact h2.2
    · rw [e]; intro e2; cases e2; omega
theorem OwnK.rowsP (h : OwnK R e sz base v S l xs W) (hl : l.length * sz ≤ 17592186043904) : ∃ A c, v = .slice A l.length c ∧ l.length ≤ c ∧ Sup W (fun k => S k ∨ v.ownBlock = some k) (fun W' => RowsP W' A sz R l) := by
  rcases h.own.2 with ⟨e0, h0⟩ | ⟨g, cap, cur, e0, hg, hh, hc, hm, hs', ht⟩
  · have : l = [] := List.eq_nil_of_length_eq_zero h0
    subst this
    exact ⟨none, 0, e0, Nat.le_refl _, ⟨fun k hk => hk.elim (h.rows.1 k) (fun e => by rw [e0] at e; cases e), fun W' _ _ => .nil⟩⟩
  · refine ⟨some ⟨g, 0, none⟩, cap, e0, hc, ⟨fun k hk => hk.elim (h.rows.1 k) (fun e => (h.own.lt k e).2), fun W' h1 h2 => ?_⟩⟩
    have hr := h.rows.2 W' (fun k hk => h1 k (.inl hk)) h2
    have hgl := (h.own.lt g (by rw [e0]; rfl)).2
    refine ⟨hl, .inr ⟨g, 0, rfl, Nat.lt_of_lt_of_le hgl h2, fun i hi => ⟨_, ?_, hr.2 i hi, fun j hj => ?_⟩⟩⟩
    · have hlt : (i + 1) * sz ≤ l.length * sz := Nat.mul_le_mul_right _ hi
      rw [Nat.succ_mul] at hlt
      rw [List.length_take, List.length_drop, hr.1]; omega
    · have hj' : j < sz := by rw [List.length_take] at hj; omega
      have hx : xs[i * sz + j]? = some ((xs.drop (i * sz)).take sz)[j] := by
        rw [List.getElem_take, List.getElem_drop, List.getElem?_eq_getElem]
      have := h.own.cells (g := g) (by rw [e0]; rfl) (i * sz + j) _ hx
      rw [Addr.add_lit] at this
      rw [World.cell?_of_block (h1 g (.inr (by rw [e0]; rfl)))]
      simpa [Nat.add_assoc] using this

theorem own_sup {b : Nat} {v1 : Value} {ks : List Int} (h1 : W.ownsRow b 3 1 v1 ks.length (ks.map (Value.int .i64))) (hl : ks.length ≤ 17592186043904) : ∃ A c, v1 = .slice A ks.length c ∧ Sup W (fun k => v1.ownBlock = some k) (fun W' => Ints W' A ks) := by
  obtain ⟨A, c, rfl, _, hi⟩ := own_ints h1 hl
  exact ⟨A, c, rfl, (Go.Proofs.Ints.sup hi).wide (fun k ⟨_, o, e⟩ => by subst e; rfl) (fun k e => (h1.lt k e).2)⟩
theorem mean_sup {b b' : Nat} {v1 v2 : Value} {ks es : List Int} (h1 : W.ownsRow b 3 1 v1 ks.length (ks.map (Value.int .i64))) (h2 : W.ownsRow b' 3 1 v2 es.length (es.map (Value.int .i64))) (hl : ks.length ≤ 17592186043904) (hl2 : es.length ≤ 17592186043904) :
    Sup W (fun k => v1.ownBlock = some k ∨ v2.ownBlock = some k) (fun W' => MeanR W' ⟨ks, es⟩ [v1, v2]) := by
  obtain ⟨A, c, e1, s1⟩ := own_sup h1 hl
  obtain ⟨A', c', e2, s2⟩ := own_sup h2 hl2
  exact (s1.and s2).mono fun W' h => ⟨A, c, A', c', by rw [e1, e2], h.1, h.2⟩
theorem OwnK.word {S : Nat → Prop} {ms : List Mean} (h : OwnK MeanR 67 2 base v S ms xs W) (hl : ms.length ≤ 1000) : Sup W (fun k => S k ∨ v.ownBlock = some k) (fun W' => WordR W' ms [v]) := by
  obtain ⟨A, c, e, _, hs⟩ := h.rowsP (by omega)
  exact hs.mono fun W' h => ⟨A, c, by rw [e], h⟩
end
end Go.Proofs
end

section
/- Walks: a made treaty: how a meaning is added. -/
namespace Go.Proofs
open Go.RowKit

def MeanOk (p : Nat) (m : Mean) : Prop := ((∀ x ∈ m.kinds, 0 ≤ x ∧ x < 4) ∧ risesB m.kinds = true) ∧ (∀ x ∈ m.ends, 0 ≤ x ∧ x < (p : Int)) ∧ risesB m.ends = true
/-- An own list of numbers under e that rise. -/
def OwnN (b3 e : Nat) (v : Value) (w : World) : Prop := ∃ ns : List Int, w.ownsRow b3 3 1 v ns.length (ns.map (Value.int .i64)) ∧ ns.length ≤ e ∧ (∀ x ∈ ns, 0 ≤ x ∧ x < (e : Int)) ∧ risesB ns = true
def OwnM (b3 p : Nat) (v1 v2 : Value) (w : World) (m : Mean) : Prop := w.ownsRow b3 3 1 v1 m.kinds.length (m.kinds.map (Value.int .i64)) ∧ w.ownsRow b3 3 1 v2 m.ends.length (m.ends.map (Value.int .i64)) ∧ m.kinds.length ≤ 4 ∧ m.ends.length ≤ p ∧ MeanOk p m
theorem own_kept' {b e sz n : Nat} {v : Value} {xs : List Value} {w w' : World} (h : w.ownsRow b e sz v n xs) {row : Option Nat} (hg : w.grownBy w' row) (hr : ∀ k, row = some k → k < b) : w'.ownsRow b e sz v n xs := by
  refine h.kept hg ?_
  cases hb : v.ownBlock with
  | none => exact .inl rfl
  | some g => exact .inr fun e => by have := (h.lt g hb).1; have := hr g (by rw [← e]); omega
theorem OwnN.kept {b3 e : Nat} {v : Value} {w w' : World} (h : OwnN b3 e v w) {row : Option Nat} (hg : w.grownBy w' row) (hr : ∀ k, row = some k → k < b3) : OwnN b3 e v w' := let ⟨ns, h1, h2⟩ := h; ⟨ns, own_kept' h1 hg hr, h2⟩
theorem OwnM.kept {b3 p : Nat} {v1 v2 : Value} {m : Mean} {w w' : World} (h : OwnM b3 p v1 v2 w m) {row : Option Nat} (hg : w.grownBy w' row) (hr : ∀ k, row = some k → k < b3) : OwnM b3 p v1 v2 w' m := ⟨own_kept' h.1 hg hr, own_kept' h.2.1 hg hr, h.2.2⟩
theorem ty78 : SliceTy Tryz.prog 68 67 2 48 := .mk' (z := .agg #[.slice none 0 0, .slice none 0 0]) Tryz.underlying68 (by kernel_rfl) rfl (by decide)
/-- The list with one more meaning. -/
def More12 (base p : Nat) (ms : List Mean) (v : Value) (w : World) : Prop := ∃ S m xs, MeanOk p m ∧ OwnK MeanR 67 2 base v S (ms ++ [m]) xs w
theorem More12.kept {base p : Nat} {ms : List Mean} {v : Value} {w w' : World} (h : More12 base p ms v w) {row : Option Nat} (hg : w.grownBy w' row) (hr : ∀ k, row = some k → k < base) : More12 base p ms v w' := let ⟨S, m, xs, h1, h2⟩ := h; ⟨S, m, xs, h1, h2.kept hg hr⟩

def b12 (b : Bool) (n : Nat) : Nat := if b then n else 0
theorem b12_le (b : Bool) (n : Nat) : b12 b n ≤ n := by cases b <;> simp [b12]
structure W12 (w0 : World) (d : Nat) (A : Option Addr) (l : List Int) (c m : Nat) (wE W8 : World) (B base p : Nat) (vS : Value) (S : Nat → Prop) (ms : List Mean) (xs : List Value) (done : Nat → Bool) (w : World) : Prop where
  deck : DeckAt w0 d A l c (m + b12 (done 2) 4 + b12 (done 6) p) w
  grown : wE.grownBy w (some d)
  keep : W8.heap.size ≤ w.heap.size ∧ ∀ k, k < W8.heap.size → k ≠ d → vS.ownBlock ≠ some k → w.heap[k]? = W8.heap[k]?
  own : done 9 = false → OwnK MeanR 67 2 base vS S ms xs w

def Fact12 (d B base b3 p : Nat) (vS : Value) (ms : List Mean) : Nat → Value → World → Prop
  | 0, v, _ => v = vS
  | 1, v, _ => v = .pointer (some ⟨d, 0, none⟩)
  | 2, v, w => OwnN b3 4 v w
  | 3, v, _ => v = .pointer (some ⟨d, 0, none⟩)
  | 4, v, _ => v = .pointer (some ⟨B, 0, none⟩)
  | 5, v, _ => v = .int .i64 p
  | 6, v, w => OwnN b3 p v w
  | 7, v, w => ∃ v1 v2 m, v = .agg #[v1, v2] ∧ OwnM b3 p v1 v2 w m
  | 8, v, w => ∃ v1 v2 m b, v = .slice (some ⟨b, 0, none⟩) 1 1 ∧ OwnM b3 p v1 v2 w m ∧ Blk w b 67 #[v1, v2] ∧ b3 ≤ b
  | 9, v, w => More12 base p ms v w
  | 10, v, w => More12 base p ms v w
  | _, _, _ => True
theorem Fact12.kept {d B base b3 p : Nat} {vS : Value} {ms : List Mean} {w w' : World} {row : Option Nat} (hg : w.grownBy w' row) (hr : ∀ k, row = some k → k < base) (hb : base ≤ b3) {i : Nat} {v : Value} (h : Fact12 d B base b3 p vS ms i v w) : Fact12 d B base b3 p vS ms i v w' := by
  have hr' : ∀ k, row = some k → k < b3 := fun k e => Nat.lt_of_lt_of_le (hr k e) hb
  unfold Fact12 at h ⊢
  split at h <;> first
    | exact h
    | exact OwnN.kept h hg hr'
    | exact More12.kept h hg hr
    | (obtain ⟨v1, v2, m, e, h1⟩ := h; exact ⟨v1, v2, m, e, h1.kept hg hr'⟩)
    | (obtain ⟨v1, v2, m, b, e, h1, h2, h3⟩ := h; exact ⟨v1, v2, m, b, e, h1.kept hg hr', h2.grown hg (fun e => by have := hr' b e.symm; omega), h3⟩)
theorem Fact12.low {d B base b3 p : Nat} {vS : Value} {ms : List Mean} {w w' : World} {row : Option Nat} (hg : w.grownBy w' row) (hr : ∀ k, row = some k → k < b3) {i : Nat} (hi : i < 9) {v : Value} (h : Fact12 d B base b3 p vS ms i v w) : Fact12 d B base b3 p vS ms i v w' := by
  unfold Fact12 at h ⊢
  split at h <;> first
    | exact h
    | omega
    | exact OwnN.kept h hg hr
    | (obtain ⟨v1, v2, m, e, h1⟩ := h; exact ⟨v1, v2, m, e, h1.kept hg hr⟩)
    | (obtain ⟨v1, v2, m, b, e, h1, h2, h3⟩ := h; exact ⟨v1, v2, m, b, e, h1.kept hg hr, h2.grown hg (fun e => by have := hr b e.symm; omega), h3⟩)

section
variable {w0 : World} {d : Nat} {A : Option Addr} {l : List Int} {c m : Nat} {wE W8 : World} {B base p : Nat} {vS : Value} {S : Nat → Prop} {ms : List Mean} {xs : List Value} {done : Nat → Bool} {w w' : World}
theorem W12.same (h : W12 w0 d A l c m wE W8 B base p vS S ms xs done w) {i : Nat} (h2 : i ≠ 2) (h6 : i ≠ 6) (h9 : i ≠ 9) : W12 w0 d A l c m wE W8 B base p vS S ms xs (Go.upd done i) w := by
  have e : ∀ j, j ≠ i → Go.upd done i j = done j := fun j hj => by unfold Go.upd; rw [if_neg hj]
  refine ⟨?_, h.grown, h.keep, ?_⟩
  · rw [e 2 (Ne.symm h2), e 6 (Ne.symm h6)]; exact h.deck
  · rw [e 9 (Ne.symm h9)]; exact h.own
theorem W12.kept (h : W12 w0 d A l c m wE W8 B base p vS S ms xs done w) {row : Option Nat} (hg : w.grownBy w' row) (hr : ∀ k, row = some k → k = d ∨ vS.ownBlock = some k) : W8.heap.size ≤ w'.heap.size ∧ ∀ k, k < W8.heap.size → k ≠ d → vS.ownBlock ≠ some k → w'.heap[k]? = W8.heap[k]? :=
  ⟨Nat.le_trans h.keep.1 hg.size, fun k hk h1 h3 => (hg.block k (Nat.lt_of_lt_of_le hk h.keep.1) (fun e => by rcases hr k e.symm with g | g <;> (first | exact h1 g | exact h3 g))).trans (h.keep.2 k hk h1 h3)⟩
end

set_option maxRecDepth 100000 in
set_option maxHeartbeats 2000000 in
theorem region12_made (w0 : World) (d : Nat) (A : Option Addr) (l : List Int) (c m : Nat) (wE : World) (B base p : Nat) (vS : Value) (S : Nat → Prop) (ms : List Mean) (xs : List Value) (z1 z2 z3 z4 : Value) (a0 : Act) (Q0 : Exit → Act → World → Prop) (W8 : World)
    (hz : a0.tmps.size = 105) (s0 : a0.eval (.tmp 0) = .pointer (some ⟨d, 0, none⟩)) (s5 : a0.eval (.tmp 5) = .pointer (some ⟨B, 0, none⟩)) (s7 : a0.eval (.tmp 7) = vS) (hp8 : p ≤ 8)
    (hD : DeckAt w0 d A l c m W8) (hm : m ≤ 800000) (hg : wE.grownBy W8 (some d)) (hbx : Blk W8 B 27 #[.int .i64 p, z1, z2, z3, z4]) (hown : OwnK MeanR 67 2 base vS S ms xs W8) (hn : ms.length ≤ 100) (hBb : B < base) (hdB : d < B) (hE : wE.heap.size ≤ base) (hsz : base ≤ W8.heap.size)
    (hexit : ∀ a W', a.tmps.size = 105 → a.defers = a0.defers → (∀ s : Nat, s ≠ 7 → (s < 47 ∨ 56 < s) → a.eval (.tmp s) = a0.eval (.tmp s)) → DeckAt w0 d A l c (m + 4 + p) W' → wE.grownBy W' (some d) →
      (W8.heap.size ≤ W'.heap.size ∧ ∀ k, k < W8.heap.size → k ≠ d → vS.ownBlock ≠ some k → W'.heap[k]? = W8.heap[k]?) → More12 base p ms (a.eval (.tmp 7)) W' → Q0 .normal a W') :
    Code.wp Tryz.prog (Code.region 12 (opsMade 12).toArray true) Q0 a0 W8 := by
  have HEX := Lib.hid hexit
  have hvS : ∀ k, vS.ownBlock = some k → base ≤ k ∧ k < W8.heap.size := fun k e => hown.own.lt k e
  clear hexit
  refine wp_region_facts (by kernel_rfl) 105 hz (by kernel_rfl) (Fact12 d B base W8.heap.size p vS ms) (W12 w0 d A l c m wE W8 B base p vS S ms xs) ⟨hD.aft (Aft.drew _), only_drew hg, ⟨Nat.le_refl _, fun _ _ _ _ => rfl⟩, fun _ => hown.aft (Aft.drew _)⟩ ?step ?fin
  case step =>
    intro i o ho done a w hH hd hp K hK
    have hW := hH.wd
    have hold : ∀ s : Nat, s ≠ 7 → (s < 47 ∨ 56 < s) → a.eval (.tmp s) = a0.eval (.tmp s) := fun s h7 h => hH.old s fun k ok hk hs => by
      match k, hk with
      | 0, hk => cases hk; cases hs; exact absurd h (by decide)
      | 1, hk => cases hk; cases hs; exact absurd h (by decide)
      | 2, hk => cases hk; cases hs; exact absurd h (by decide)
      | 3, hk => cases hk; cases hs; exact absurd h (by decide)
      | 4, hk => cases hk; cases hs; exact absurd h (by decide)
      | 5, hk => cases hk; cases hs; exact absurd h (by decide)
      | 6, hk => cases hk; cases hs; exact absurd h (by decide)
      | 7, hk => cases hk; cases hs; exact absurd h (by decide)
      | 8, hk => cases hk; cases hs; exact absurd h (by decide)
      | 9, hk => cases hk; cases hs; exact absurd h (by decide)
      | 10, hk => cases hk; cases hs; exact absurd rfl h7
      | _ + 11, hk => cases hk
    have hK' : ∀ v, i ≠ 2 → i ≠ 6 → i ≠ 9 → Fact12 d B base W8.heap.size p vS ms i v w → K (a.put o.dst v) w := fun v h2 h6 h9 hv => hK v w hv (hW.same h2 h6 h9) fun j _ u hu => hu
    have hbox : Blk w B 27 #[.int .i64 p, z1, z2, z3, z4] := (hW.keep.2 B (Nat.lt_of_lt_of_le hBb hsz) (by omega) (fun e => by have := (hvS B e).1; omega)).trans hbx
    match i, ho with
    | 0, ho =>
      cases ho
      have e7 : a.eval (.tmp 7) = vS := (hH.old 7 fun k ok hk hs => by
        match k, hk with
        | 0, hk => cases hk; cases hs
        | 1, hk => cases hk; cases hs
        | 2, hk => cases hk; cases hs
        | 3, hk => cases hk; cases hs
        | 4, hk => cases hk; cases hs
        | 5, hk => cases hk; cases hs
        | 6, hk => cases hk; cases hs
        | 7, hk => cases hk; cases hs
        | 8, hk => cases hk; cases hs
        | 9, hk => cases hk; cases hs
        | 10, hk =>
          cases hdk : done 10 with
          | false => rfl
          | true => have := hH.closed 10 _ hk hdk 0 (by cases hk; decide); rw [hd] at this; cases this
        | _ + 11, hk => cases hk).trans s7
      exact op_value (by simp [go_sem, ev e7]) (hK' _ (by decide) (by decide) (by decide) rfl)
    | 1, ho =>
      cases ho
      have e : a.eval (.tmp 0) = .pointer (some ⟨d, 0, none⟩) := (hold 0 (by decide) (by decide)).trans s0
      exact op_value (by simp [go_sem, ev e]) (hK' _ (by decide) (by decide) (by decide) rfl)
    | 2, ho =>
      cases ho
      have e : a.eval (.tmp 48) = .pointer (some ⟨d, 0, none⟩) := hH.fact 1 _ 48 rfl rfl (hp 1 (by decide))
      have hdk := hW.deck
      rw [hd] at hdk
      refine op_call3 Tryz.func40 (by kernel_rfl) (by kernel_rfl) _ _ _ rfl e rfl rfl (some_any w0 d A l c _ 4 2 w hdk (by have h1 := b12_le (done 6) p; have h2 : b12 false 4 = 0 := rfl; omega) (by omega) (by omega) (by omega)) ?_
      rintro e w' ⟨v, ns, rfl, g1, g2, g3, g4, g5, g6⟩
      refine ⟨_, rfl, hK _ _ ⟨ns, World.ownsRow.mono g1 hW.keep.1, g2, g3, g4⟩ ⟨g5.more ?_, hW.grown.trans g6, hW.kept g6 (fun k e => by cases e; exact .inl rfl), fun h => (hW.own h).kept g6 (fun k e => by cases e; omega)⟩ fun j _ u hu => Fact12.kept g6 (fun k e => by cases e; omega) hsz hu⟩
      show m + b12 false 4 + b12 (done 6) p + 4 ≤ m + b12 (Go.upd done 2 2) 4 + b12 (Go.upd done 2 6) p
      have e1 : Go.upd done 2 2 = true := rfl
      have e2 : Go.upd done 2 6 = done 6 := rfl
      rw [e1, e2]; unfold b12; simp; omega
    | 3, ho =>
      cases ho
      have e : a.eval (.tmp 0) = .pointer (some ⟨d, 0, none⟩) := (hold 0 (by decide) (by decide)).trans s0
      exact op_value (by simp [go_sem, ev e]) (hK' _ (by decide) (by decide) (by decide) rfl)
    | 4, ho =>
      cases ho
      have e : a.eval (.tmp 5) = .pointer (some ⟨B, 0, none⟩) := (hold 5 (by decide) (by decide)).trans s5
      exact op_value (by simp [go_sem, ev e]) (hK' _ (by decide) (by decide) (by decide) rfl)
    | 5, ho =>
      cases ho
      have e : a.eval (.tmp 51) = .pointer (some ⟨B, 0, none⟩) := hH.fact 4 _ 51 rfl rfl (hp 4 (by decide))
      have hc : w.cell? ⟨B, 0, none⟩ = some (.int .i64 p) := hbox.cell 0
      exact op_value (by simp [go_sem, ev e, hc]) (hK' _ (by decide) (by decide) (by decide) rfl)
    | 6, ho =>
      cases ho
      have e : a.eval (.tmp 50) = .pointer (some ⟨d, 0, none⟩) := hH.fact 3 _ 50 rfl rfl (hp 3 (by decide))
      have ep : a.eval (.tmp 52) = .int .i64 p := hH.fact 5 _ 52 rfl rfl (hp 5 (by decide))
      have hdk := hW.deck
      rw [hd] at hdk
      refine op_call3 Tryz.func40 (by kernel_rfl) (by kernel_rfl) _ _ _ rfl e ep rfl (some_any w0 d A l c _ p 2 w hdk (by have h1 := b12_le (done 2) 4; have h2 : b12 false p = 0 := rfl; omega) (by omega) (by omega) (by omega)) ?_
      rintro e w' ⟨v, ns, rfl, g1, g2, g3, g4, g5, g6⟩
      refine ⟨_, rfl, hK _ _ ⟨ns, World.ownsRow.mono g1 hW.keep.1, g2, g3, g4⟩ ⟨g5.more ?_, hW.grown.trans g6, hW.kept g6 (fun k e => by cases e; exact .inl rfl), fun h => (hW.own h).kept g6 (fun k e => by cases e; omega)⟩ fun j _ u hu => Fact12.kept g6 (fun k e => by cases e; omega) hsz hu⟩
      show m + b12 (done 2) 4 + b12 false p + p ≤ m + b12 (Go.upd done 6 2) 4 + b12 (Go.upd done 6 6) p
      have e1 : Go.upd done 6 6 = true := rfl
      have e2 : Go.upd done 6 2 = done 2 := rfl
      rw [e1, e2]; unfold b12; simp
    | 7, ho =>
      cases ho
      obtain ⟨ks, g1, g2, g3, g4⟩ : OwnN W8.heap.size 4 (a.eval (.tmp 49)) w := hH.fact 2 _ 49 rfl rfl (hp 2 (by decide))
      obtain ⟨es, q1, q2, q3, q4⟩ : OwnN W8.heap.size p (a.eval (.tmp 53)) w := hH.fact 6 _ 53 rfl rfl (hp 6 (by decide))
      obtain ⟨v1, e1⟩ : ∃ v, a.eval (.tmp 49) = v := ⟨_, rfl⟩
      obtain ⟨v2, e2⟩ : ∃ v, a.eval (.tmp 53) = v := ⟨_, rfl⟩
      rw [e1] at g1
      rw [e2] at q1
      have hf : Fact12 d B base W8.heap.size p vS ms 7 (.agg #[v1, v2]) w := ⟨v1, v2, ⟨ks, es⟩, rfl, g1, q1, g2, q2, ⟨g3, g4⟩, q3, q4⟩
      obtain ⟨sA, sn, sc, rfl⟩ := own_slice' g1
      obtain ⟨tA, tn, tc, rfl⟩ := own_slice' q1
      exact op_value (by simp [go_sem, ev e1, ev e2]) (hK' _ (by decide) (by decide) (by decide) hf)
    | 8, ho =>
      cases ho
      obtain ⟨v1, v2, mm, e, g1⟩ : ∃ v1 v2 m, a.eval (.tmp 54) = .agg #[v1, v2] ∧ OwnM W8.heap.size p v1 v2 w m := hH.fact 7 _ 54 rfl rfl (hp 7 (by decide))
      have h9 : done 9 = false := by
        cases hdk : done 9 with
        | false => rfl
        | true => have := hH.closed 9 _ rfl hdk 8 (by decide); rw [hd] at this; cases this
      have hg' := only_of_aft (Aft.alloc w (.cells #[v1, v2] 67)) none
      have h1 : Fact12 d B base W8.heap.size p vS ms 8 (.slice (some ⟨w.heap.size, 0, none⟩) 1 1) (w.alloc (.cells #[v1, v2] 67)) := ⟨v1, v2, mm, _, rfl, g1.kept hg' (fun k e => by cases e), Blk.new _ _ _, hW.keep.1⟩
      have := hK _ _ h1 ⟨(hW.same (i := 8) (by decide) (by decide) (by decide)).deck.aft (Aft.alloc _ _), only_aft hW.grown (Aft.alloc _ _), hW.kept hg' (fun k e => by cases e), fun _ => (hW.own h9).aft (Aft.alloc _ _)⟩ fun j _ u hu => Fact12.kept hg' (fun k e => by cases e) hsz hu
      obtain ⟨sA, sn, sc, rfl⟩ := own_slice' g1.1
      obtain ⟨tA, tn, tc, rfl⟩ := own_slice' g1.2.1
      unfold Oper.wp
      simpa [go_sem, ev e] using this
    | 9, ho =>
      cases ho
      obtain ⟨v1, v2, mm, b, e, g1, hb, hb3⟩ : ∃ v1 v2 m b, a.eval (.tmp 55) = .slice (some ⟨b, 0, none⟩) 1 1 ∧ OwnM W8.heap.size p v1 v2 w m ∧ Blk w b 67 #[v1, v2] ∧ W8.heap.size ≤ b := hH.fact 8 _ 55 rfl rfl (hp 8 (by decide))
      have e2 : a.eval (.tmp 47) = vS := hH.fact 0 _ 47 rfl rfl (hp 0 (by decide))
      have ho1 := hW.own hd
      have hx := mean_sup g1.1 g1.2.1 (by have := g1.2.2.1; omega) (by have := g1.2.2.2.1; omega)
      have hone : ∀ u ∈ [v1, v2], u.oneCell' = true := fun u hu => by
        rcases List.mem_cons.1 hu with rfl | hu
        · exact own_cell1 g1.1
        · rw [List.mem_singleton] at hu; subst hu; exact own_cell1 g1.2.1
      refine op_app ty78 _ _ rfl (Nat.le_trans hsz hW.keep.1) e2 ho1.own e hb rfl hone (by omega) (by decide) fun v' w' h1 h2 h3 => ?_
      have hpush := ho1.push hx rfl (fun k hk => ?_) h1 h2 h3
      · refine hK _ _ ⟨_, mm, _, g1.2.2.2.2, hpush⟩ ⟨(hW.deck).grown h2 (fun k e => by have := (hvS k e).1; omega), only_grown hW.grown h2 (fun k e => by have := (hvS k e).1; omega), hW.kept h2 (fun k e => .inr e), fun h => (by (have h' : Go.upd done 9 9 = true := rfl); rw [h'] at h; cases h)⟩ fun j hj u hu => ?_
        have : j ≠ 9 := fun e => by rw [e, hd] at hj; cases hj
        have : j ≠ 10 := fun e => by
          subst e
          have := hH.closed 10 _ rfl hj 9 (by decide)
          rw [hd] at this; cases this
        by_cases h9 : j < 9
        · exact Fact12.low h2 (fun k e => (hvS k e).2) h9 hu
        · unfold Fact12 at hu ⊢; split at hu <;> first | exact hu | omega
      · have hk' : W8.heap.size ≤ k := hk.elim (fun e => (g1.1.lt k e).1) (fun e => (g1.2.1.lt k e).1)
        exact ⟨Nat.le_trans hsz hk', fun e => by have := (hvS k e).2; omega⟩
    | 10, ho =>
      cases ho
      obtain ⟨v', e2⟩ : ∃ v', a.eval (.tmp 56) = v' := ⟨_, rfl⟩
      have h1 : More12 base p ms v' w := by rw [← e2]; exact hH.fact 9 _ 56 rfl rfl (hp 9 (by decide))
      exact op_value (by simp [go_sem, ev e2]) (hK' _ (by decide) (by decide) (by decide) h1)
    | _ + 11, ho => cases ho
  case fin =>
    intro done a w hall hH
    have hdone : ∀ i, i < 11 → done i = true := fun i hi => hall i (by exact hi)
    refine HEX.out a w (hH.size.trans hz) hH.defers (fun s h7 h => hH.old s fun k ok hk hs => ?_) ?_ hH.wd.grown hH.wd.keep (hH.fact 10 _ 7 rfl rfl (hdone 10 (by decide)))
    · match k, hk with
      | 0, hk => cases hk; cases hs; exact absurd h (by decide)
      | 1, hk => cases hk; cases hs; exact absurd h (by decide)
      | 2, hk => cases hk; cases hs; exact absurd h (by decide)
      | 3, hk => cases hk; cases hs; exact absurd h (by decide)
      | 4, hk => cases hk; cases hs; exact absurd h (by decide)
      | 5, hk => cases hk; cases hs; exact absurd h (by decide)
      | 6, hk => cases hk; cases hs; exact absurd h (by decide)
      | 7, hk => cases hk; cases hs; exact absurd h (by decide)
      | 8, hk => cases hk; cases hs; exact absurd h (by decide)
      | 9, hk => cases hk; cases hs; exact absurd h (by decide)
      | 10, hk => cases hk; cases hs; exact absurd rfl h7
      | _ + 11, hk => cases hk
    · have := hH.wd.deck
      rw [hdone 2 (by decide), hdone 6 (by decide)] at this
      exact this
end Go.Proofs
end

section
/- Words for memory: append to a list that is used on. -/
namespace Go.Proofs
open Go.RowKit

/-- append(v, y) to a list that has a block: it stays where it was, with the capacity that it had, or it lies in a new block, and the old one is as it was. -/
theorem run_push2 {w : World} {base g n cap : Nat} {l : List Int} (ty : TypeId) (hown : w.ownsRow base 3 1 (.slice (some ⟨g, 0, none⟩) n cap) n (l.map (Value.int .i64))) (hbase : base ≤ w.heap.size) {y : Int} {c b : Nat} (hb : w.cell? ⟨b, 0, none⟩ = some (.int .i64 y)) (hl : n ≤ 1000000) :
    ∃ g' c' w', (Builtin.append_ #[24, 24] ty #[.slice (some ⟨g, 0, none⟩) n cap, .slice (some ⟨b, 0, none⟩) 1 c]).run Tryz.prog w = .ok (.slice (some ⟨g', 0, none⟩) (n + 1) c') w' ∧
      w'.ownsRow base 3 1 (.slice (some ⟨g', 0, none⟩) (n + 1) c') (n + 1) ((l ++ [y]).map (Value.int .i64)) ∧ w.grownBy w' (some g) ∧ ((g' = g ∧ c' = cap) ∨ (g' = w.heap.size ∧ w.grownBy w' none)) := by
  obtain ⟨ht, ⟨i, z, hi, hz, hsize, hby, hzs⟩, hsz⟩ := ty24
  have hnews : ∀ j u, [Value.int .i64 y][j]? = some u → w.cell? ((⟨b, 0, none⟩ : Addr).add j) = some u := fun j u hj => by
    match j, hj with
    | 0, hj => simp at hj; subst hj; rw [Addr.add_lit]; simpa using hb
  obtain ⟨v', w', hr', h2, h3, _, _⟩ := run_append_own_at (P := Tryz.prog) w base 24 ty 3 i z 1 8 ht hi hz hsize hby hzs hsz _ n _ hown ⟨b, 0, none⟩ 1 c [.int .i64 y] rfl hnews (one_int y) (by unfold maxLen; omega) (by omega) hbase
  have h2' : w'.ownsRow base 3 1 v' (n + 1) ((l ++ [y]).map (Value.int .i64)) := by simpa using h2
  rcases hown.2 with ⟨e, _⟩ | ⟨g1, cap1, cur, e, hbg, hg, hnc, hcm, hcs, htake⟩
  · cases e
  · cases e
    by_cases hroom : n + 1 ≤ cap
    · have hr := run_append_room (P := Tryz.prog) w 24 ty 3 i ht hi g n cap cur hg ⟨b, 0, none⟩ 1 c [.int .i64 y] (by rw [hsize]; rfl) hnews (one_int y) hroom (by rw [hsize, hcs]; simp; omega)
      rw [hr'] at hr
      injection hr with e1 e2
      subst e1
      exact ⟨g, cap, w', hr', h2', h3, .inl ⟨rfl, rfl⟩⟩
    · have hr := run_append_grow (P := Tryz.prog) w 24 ty 3 i z ht hi hz ⟨g, 0, none⟩ n cap (l.map (Value.int .i64)) (by rw [hsize]; exact hown.1) (hown.cells (g := g) rfl) ⟨b, 0, none⟩ 1 c [.int .i64 y] (by rw [hsize]; rfl) hnews (by omega) (by omega) (by rw [hby]; exact growslice_fits (by omega) (by omega))
      rw [hr'] at hr
      injection hr with e1 e2
      subst e1
      refine ⟨w.heap.size, _, w', hr', h2', h3, .inr ⟨rfl, ?_⟩⟩
      subst e2
      exact ⟨rfl, rfl, rfl, by simp, fun k hk _ => Below.heap_alloc w.drew _ k hk⟩

theorem step_push2 {w : World} {ops : Array Oper} {o : Oper} {a : Act} {K : Act → World → Prop} {Q : Exit → Act → World → Prop} {E : Prop}
    (hgd : o.guard = none) (s x : Operand) (ho : o.op = .call { callee := .builtin .append, args := #[s, x], argTypes := #[24, 24] })
    {base g n cap : Nat} {l : List Int} (hown : w.ownsRow base 3 1 (.slice (some ⟨g, 0, none⟩) n cap) n (l.map (Value.int .i64))) (hbase : base ≤ w.heap.size) (hs : a.eval s = .slice (some ⟨g, 0, none⟩) n cap)
    {y : Int} {c : Nat} {b : Nat} (hx : a.eval x = .slice (some ⟨b, 0, none⟩) 1 c) (hb : w.cell? ⟨b, 0, none⟩ = some (.int .i64 y)) (hl : n ≤ 1000000)
    (hn : ∀ g' c' w', w'.ownsRow base 3 1 (.slice (some ⟨g', 0, none⟩) (n + 1) c') (n + 1) ((l ++ [y]).map (Value.int .i64)) → w.grownBy w' (some g) → ((g' = g ∧ c' = cap) ∨ (g' = w.heap.size ∧ w.grownBy w' none)) → K (a.put o.dst (.slice (some ⟨g', 0, none⟩) (n + 1) c')) w') :
    if Region.wanted o (yielded ops a.tmps) = true then Oper.wp Tryz.prog o a w K Q else E := by
  have hw : Region.wanted o (yielded ops a.tmps) = true := by simp [Region.wanted, hgd]
  rw [if_pos hw]
  obtain ⟨g', c', w', hr', h2, h3, h4⟩ := run_push2 o.type hown hbase (c := c) hb hl
  unfold Oper.wp execOp
  simp only [ho, resolve, invoke, builtin, Sem.run_bind, Sem.run_pure, Result.andThen_ok, List.map_toArray, List.map_cons, List.map_nil, hs, hx, hr', Oper.upon]
  exact hn g' c' w' h2 h3 h4

/-- What is owned with one more is owned without it. -/
theorem own_less {w : World} {base g n c : Nat} {l : List Int} {y : Int} (hn : n = l.length) (h : w.ownsRow base 3 1 (.slice (some ⟨g, 0, none⟩) (n + 1) c) (n + 1) ((l ++ [y]).map (Value.int .i64))) : w.ownsRow base 3 1 (.slice (some ⟨g, 0, none⟩) n c) n (l.map (Value.int .i64)) := by
  rcases h.2 with ⟨e, _⟩ | ⟨g1, cap1, cur, e, hbg, hg, hnc, hcm, hcs, htake⟩
  · cases e
  · cases e
    refine ⟨by simp [hn], .inr ⟨g, c, cur, rfl, hbg, hg, by omega, hcm, hcs, ?_⟩⟩
    rw [Nat.mul_one] at htake ⊢
    have : (cur.toList.take (n + 1)).take n = ((l ++ [y]).map (Value.int .i64)).take n := by rw [htake]
    rw [List.take_take, Nat.min_eq_left (by omega)] at this
    rw [this, hn]
    simp
end Go.Proofs
end
