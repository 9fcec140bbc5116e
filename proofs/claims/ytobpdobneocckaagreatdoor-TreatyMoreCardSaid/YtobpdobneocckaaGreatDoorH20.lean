/- Own texts, merged: Tol0 Tln Own5 Rbf Tol Mps Pal0 Ral0 Pal1 Srt0 Cmq Srt Pae. -/
import Derived.Test.YtobpdobneocckaaGreatDoorH19
import Derived.Shelf.Strconv.Itoa3
import Derived.Shelf.Strings.OnBuilder
import Derived.Lib.ItoaNum
import Derived.Lib.Join
import Derived.BigGuard
import Derived.Deep.OwnRows
import Derived.Deep.CutRange
import Derived.Maps.OwnSet
import Derived.StringKeys
import Derived.Laws.CopyOwn
import Derived.Shelf.SlLaysF
import Derived.Lib.Small
import Derived.Shelf.SlSortCmp.Whole1
set_option linter.unusedSimpArgs false
set_option linter.unusedVariables false
section
/- Where the library's strconv.Itoa and strings.Join lie. -/
namespace Go.Proofs
open Go.RowKit Go.Shelf
set_option maxRecDepth 100000
def renItoa : Go.Shelf.Ren := ⟨fun | 171 => 117 | 243 => 146 | 246 => 165 | 283 => 173 | 284 => 174 | 285 => 175 | 286 => 176 | 129 => 159 | 317 => 180 | 318 => 181 | 319 => 182 | 320 => 183 | 337 => 184 | 338 => 185 | n => n, fun | 3 => 3 | 9 => 9 | 2 => 2 | 4 => 4 | 171 => 209 | 0 => 0 | 53 => 199 | 37 => 45 | 5 => 5 | 173 => 211 | 212 => 220 | 51 => 118 | 20 => 20 | 213 => 221 | 46 => 166 | 232 => 222 | 233 => 223 | n => n, fun | 17 => 0 | 18 => 2 | 19 => 3 | n => n⟩
theorem layItoa : Lays.n171 Tryz.prog renItoa := {
  mixed := by kernel_rfl
  f129 := Tryz.func159.trans (congrArg some (by kernel_rfl))
  f171 := Tryz.func117.trans (congrArg some (by kernel_rfl))
  f243 := Tryz.func146.trans (congrArg some (by kernel_rfl))
  f246 := Tryz.func165.trans (congrArg some (by kernel_rfl))
  f283 := Tryz.func173.trans (congrArg some (by kernel_rfl))
  f284 := Tryz.func174.trans (congrArg some (by kernel_rfl))
  f285 := Tryz.func175.trans (congrArg some (by kernel_rfl))
  f286 := Tryz.func176.trans (congrArg some (by kernel_rfl))
  f317 := Tryz.func180.trans (congrArg some (by kernel_rfl))
  f318 := Tryz.func181.trans (congrArg some (by kernel_rfl))
  f319 := Tryz.func182.trans (congrArg some (by kernel_rfl))
  f320 := Tryz.func183.trans (congrArg some (by kernel_rfl))
  f337 := Tryz.func184.trans (congrArg some (by kernel_rfl))
  f338 := Tryz.func185.trans (congrArg some (by kernel_rfl))
  t0 := Tryz.underlying0
  a0 := Tryz.isAgg0
  z0 := Tryz.sizeOf0
  v0 := Tryz.zeroValue0
  t2 := Tryz.underlying2
  a2 := Tryz.isAgg2
  z2 := Tryz.sizeOf2
  v2 := Tryz.zeroValue2
  t3 := Tryz.underlying3
  a3 := Tryz.isAgg3
  z3 := Tryz.sizeOf3
  v3 := Tryz.zeroValue3
  t4 := Tryz.underlying4
  a4 := Tryz.isAgg4
  z4 := Tryz.sizeOf4
  v4 := Tryz.zeroValue4
  t5 := Tryz.underlying5
  a5 := Tryz.isAgg5
  z5 := Tryz.sizeOf5
  v5 := Tryz.zeroValue5
  t9 := Tryz.underlying9
  a9 := Tryz.isAgg9
  z9 := Tryz.sizeOf9
  v9 := Tryz.zeroValue9
  t20 := Tryz.underlying20
  a20 := Tryz.isAgg20
  z20 := Tryz.sizeOf20
  v20 := Tryz.zeroValue20
  t37 := Tryz.underlying45
  a37 := Tryz.isAgg45
  z37 := Tryz.sizeOf45
  v37 := Tryz.zeroValue45
  t46 := Tryz.underlying166
  a46 := Tryz.isAgg166
  z46 := Tryz.sizeOf166
  v46 := Tryz.zeroValue166
  t51 := Tryz.underlying118
  a51 := Tryz.isAgg118
  z51 := Tryz.sizeOf118
  v51 := Tryz.zeroValue118
  t53 := Tryz.underlying199
  a53 := Tryz.isAgg199
  z53 := Tryz.sizeOf199
  v53 := Tryz.zeroValue199
  t171 := Tryz.underlying209
  a171 := Tryz.isAgg209
  z171 := Tryz.sizeOf209
  v171 := Tryz.zeroValue209
  t173 := Tryz.underlying211
  a173 := Tryz.isAgg211
  z173 := Tryz.sizeOf211
  v173 := Tryz.zeroValue211
  t212 := Tryz.underlying220
  a212 := Tryz.isAgg220
  z212 := Tryz.sizeOf220
  v212 := Tryz.zeroValue220
  t213 := Tryz.underlying221
  a213 := Tryz.isAgg221
  z213 := Tryz.sizeOf221
  t232 := Tryz.underlying222
  a232 := Tryz.isAgg222
  z232 := Tryz.sizeOf222
  v232 := Tryz.zeroValue222
  t233 := Tryz.underlying223
  a233 := Tryz.isAgg223
  z233 := Tryz.sizeOf223
  v233 := Tryz.zeroValue223
  g17 := by kernel_rfl
  g18 := by kernel_rfl
  g19 := by kernel_rfl }
def renJoin : Go.Shelf.Ren := ⟨fun | 156 => 118 | 165 => 147 | 166 => 148 | 169 => 149 | 240 => 166 | 241 => 167 | 276 => 177 | 277 => 178 | n => n, fun | 31 => 161 | 9 => 9 | 3 => 3 | 4 => 4 | 0 => 0 | 20 => 20 | 72 => 184 | 76 => 187 | 70 => 182 | 37 => 45 | 75 => 186 | 127 => 203 | 164 => 213 | 5 => 5 | 80 => 189 | n => n, fun n => n⟩
theorem layJoin : Lays.n156 Tryz.prog renJoin := {
  mixed := by kernel_rfl
  f156 := Tryz.func118.trans (congrArg some (by kernel_rfl))
  f165 := Tryz.func147.trans (congrArg some (by kernel_rfl))
  f166 := Tryz.func148.trans (congrArg some (by kernel_rfl))
  f169 := Tryz.func149.trans (congrArg some (by kernel_rfl))
  f240 := Tryz.func166.trans (congrArg some (by kernel_rfl))
  f241 := Tryz.func167.trans (congrArg some (by kernel_rfl))
  f276 := Tryz.func177.trans (congrArg some (by kernel_rfl))
  f277 := Tryz.func178.trans (congrArg some (by kernel_rfl))
  t0 := Tryz.underlying0
  a0 := Tryz.isAgg0
  z0 := Tryz.sizeOf0
  v0 := Tryz.zeroValue0
  t3 := Tryz.underlying3
  a3 := Tryz.isAgg3
  z3 := Tryz.sizeOf3
  v3 := Tryz.zeroValue3
  t4 := Tryz.underlying4
  a4 := Tryz.isAgg4
  z4 := Tryz.sizeOf4
  v4 := Tryz.zeroValue4
  t9 := Tryz.underlying9
  a9 := Tryz.isAgg9
  z9 := Tryz.sizeOf9
  v9 := Tryz.zeroValue9
  t20 := Tryz.underlying20
  a20 := Tryz.isAgg20
  z20 := Tryz.sizeOf20
  v20 := Tryz.zeroValue20
  t31 := Tryz.underlying161
  a31 := Tryz.isAgg161
  z31 := Tryz.sizeOf161
  v31 := Tryz.zeroValue161
  t37 := Tryz.underlying45
  a37 := Tryz.isAgg45
  z37 := Tryz.sizeOf45
  v37 := Tryz.zeroValue45
  t70 := Tryz.underlying182
  a70 := Tryz.isAgg182
  z70 := Tryz.sizeOf182
  v70 := Tryz.zeroValue182
  t72 := Tryz.underlying184
  a72 := Tryz.isAgg184
  z72 := Tryz.sizeOf184
  v72 := Tryz.zeroValue184
  t75 := Tryz.underlying186
  a75 := Tryz.isAgg186
  z75 := Tryz.sizeOf186
  v75 := Tryz.zeroValue186
  t76 := Tryz.underlying187
  a76 := Tryz.isAgg187
  z76 := Tryz.sizeOf187
  v76 := Tryz.zeroValue187
  t127 := Tryz.underlying203
  a127 := Tryz.isAgg203
  z127 := Tryz.sizeOf203
  v127 := Tryz.zeroValue203
  t164 := Tryz.underlying213
  a164 := Tryz.isAgg213
  z164 := Tryz.sizeOf213
  v164 := Tryz.zeroValue213 }
theorem extraJoin : Builder.Extra Tryz.prog renJoin := {
  sizeBuilder := by kernel_rfl
  liesBuilder := by kernel_rfl
  t5 := Tryz.underlying5
  a5 := Tryz.isAgg5
  z5 := Tryz.sizeOf5
  v5 := Tryz.zeroValue5
  infoByte := by kernel_rfl
  cellsByte := by kernel_rfl
  sizeByte := by kernel_rfl
  neB5 := by decide }
end Go.Proofs
end

section
/- Plain: a line told by its numbers with blanks between. -/
namespace Go.Proofs
open Go

def toldL (l : List Int) : List UInt8 := Lib.join (l.map fun x => Lib.decDigits x.toNat) [32]
theorem decD_ne (u : Nat) : ∀ c ∈ Lib.decDigits u, c ≠ 32 := by
  induction u using Nat.strongRecOn with
  | ind u ih =>
    intro c hc
    rw [Lib.decDigits] at hc
    have key : ∀ d, d < 10 → UInt8.ofNat (48 + d) ≠ 32 := fun d hd e => by
      have := congrArg UInt8.toNat e
      rw [UInt8.toNat_ofNat', Nat.mod_eq_of_lt (by omega)] at this
      have h32 : (32 : UInt8).toNat = 32 := rfl
      omega
    split at hc
    · rename_i h
      rw [List.mem_singleton] at hc
      rw [hc]; exact key u h
    · rename_i h
      rw [List.mem_append, List.mem_singleton] at hc
      rcases hc with hc | hc
      · exact ih (u / 10) (by omega) c hc
      · rw [hc]; exact key _ (by omega)
theorem decD_len {u : Nat} (h : u < 100) : (Lib.decDigits u).length ≤ 2 := by
  rw [Lib.decDigits]
  split
  · simp
  · rw [Lib.decDigits, dif_pos (by omega)]; simp
theorem ofNat_inj {a b : Nat} (ha : a < 256) (hb : b < 256) (h : UInt8.ofNat a = UInt8.ofNat b) : a = b := by
  have := congrArg UInt8.toNat h
  rwa [UInt8.toNat_ofNat', UInt8.toNat_ofNat', Nat.mod_eq_of_lt ha, Nat.mod_eq_of_lt hb] at this
theorem decD_inj {u v : Nat} (hu : u < 100) (hv : v < 100) (h : Lib.decDigits u = Lib.decDigits v) : u = v := by
  by_cases h1 : u < 10
  · by_cases h2 : v < 10
    · rw [Lib.decDigits_one h1, Lib.decDigits_one h2] at h
      have := ofNat_inj (by omega) (by omega) (List.cons.inj h).1
      omega
    · rw [Lib.decDigits_one h1, Lib.decDigits_two h2 hv] at h
      have := congrArg List.length h
      simp at this
  · by_cases h2 : v < 10
    · rw [Lib.decDigits_two h1 hu, Lib.decDigits_one h2] at h
      have := congrArg List.length h
      simp at this
    · rw [Lib.decDigits_two h1 hu, Lib.decDigits_two h2 hv] at h
      have e1 := ofNat_inj (by omega) (by omega) (List.cons.inj h).1
      have e2 := ofNat_inj (by omega) (by omega) (List.cons.inj (List.cons.inj h).2).1
      omega
theorem cut_blank {t t' : List UInt8} (ht : t = [] ∨ ∃ r, t = 32 :: r) (ht' : t' = [] ∨ ∃ r, t' = 32 :: r) : ∀ {p q : List UInt8}, (∀ c ∈ p, c ≠ 32) → (∀ c ∈ q, c ≠ 32) → p ++ t = q ++ t' → p = q ∧ t = t'
  | [], [], _, _, h => ⟨rfl, h⟩
  | [], c :: q, _, hq, h => by
    rcases ht with rfl | ⟨r, rfl⟩
    · simp at h
    · exact absurd (List.cons.inj h).1.symm (hq c (by simp))
  | c :: p, [], hp, _, h => by
    rcases ht' with rfl | ⟨r, rfl⟩
    · simp at h
    · exact absurd (List.cons.inj h).1 (hp c (by simp))
  | c :: p, d :: q, hp, hq, h => by
    obtain ⟨e1, e2⟩ := List.cons.inj h
    obtain ⟨e3, e4⟩ := cut_blank ht ht' (fun x hx => hp x (by simp [hx])) (fun x hx => hq x (by simp [hx])) e2
    exact ⟨by rw [e1, e3], e4⟩
theorem tail_shape (r : List (List UInt8)) : Lib.joinTail [32] r = [] ∨ ∃ s, Lib.joinTail [32] r = 32 :: s := by
  cases r with
  | nil => exact .inl rfl
  | cons x r => exact .inr ⟨x ++ Lib.joinTail [32] r, by simp [Lib.joinTail]⟩
theorem tail_inj : ∀ {l l' : List Int}, (∀ x ∈ l, 0 ≤ x ∧ x < 100) → (∀ x ∈ l', 0 ≤ x ∧ x < 100) → Lib.joinTail [32] (l.map fun x => Lib.decDigits x.toNat) = Lib.joinTail [32] (l'.map fun x => Lib.decDigits x.toNat) → l = l'
  | [], [], _, _, _ => rfl
  | [], x :: l, _, _, h => by simp [Lib.joinTail] at h
  | x :: l, [], _, _, h => by simp [Lib.joinTail] at h
  | x :: l, y :: l', hl, hl', h => by
    have e : ∀ (z : Int) (k : List Int), Lib.joinTail [32] ((z :: k).map fun x => Lib.decDigits x.toNat) = 32 :: (Lib.decDigits z.toNat ++ Lib.joinTail [32] (k.map fun x => Lib.decDigits x.toNat)) := fun z k => by simp [Lib.joinTail]
    rw [e, e] at h
    obtain ⟨h1, h2⟩ := cut_blank (tail_shape _) (tail_shape _) (decD_ne _) (decD_ne _) (List.cons.inj h).2
    have hx := hl x (by simp)
    have hy := hl' y (by simp)
    have := decD_inj (u := x.toNat) (v := y.toNat) (by omega) (by omega) h1
    have hxy : x = y := by omega
    rw [hxy, tail_inj (fun z hz => hl z (by simp [hz])) (fun z hz => hl' z (by simp [hz])) h2]
/-- Two lines told alike are one. -/
theorem told_inj {l l' : List Int} (hl : ∀ x ∈ l, 0 ≤ x ∧ x < 100) (hl' : ∀ x ∈ l', 0 ≤ x ∧ x < 100) (h0 : l ≠ []) (h0' : l' ≠ []) (h : toldL l = toldL l') : l = l' := by
  rcases l with _ | ⟨x, l⟩
  · exact absurd rfl h0
  rcases l' with _ | ⟨y, l'⟩
  · exact absurd rfl h0'
  unfold toldL at h
  rw [List.map_cons, List.map_cons, Lib.join_cons, Lib.join_cons] at h
  obtain ⟨h1, h2⟩ := cut_blank (tail_shape _) (tail_shape _) (decD_ne _) (decD_ne _) h
  have hx := hl x (by simp)
  have hy := hl' y (by simp)
  have := decD_inj (u := x.toNat) (v := y.toNat) (by omega) (by omega) h1
  have hxy : x = y := by omega
  rw [hxy, tail_inj (fun z hz => hl z (by simp [hz])) (fun z hz => hl' z (by simp [hz])) h2]
theorem tail_len : ∀ (l : List Int), (∀ x ∈ l, 0 ≤ x ∧ x < 100) → (Lib.joinTail [32] (l.map fun x => Lib.decDigits x.toNat)).length ≤ 3 * l.length
  | [], _ => by simp [Lib.joinTail]
  | x :: l, h => by
    have ih := tail_len l fun z hz => h z (by simp [hz])
    have hx := h x (by simp)
    have := decD_len (u := x.toNat) (by omega)
    have e : Lib.joinTail [32] ((x :: l).map fun x => Lib.decDigits x.toNat) = 32 :: (Lib.decDigits x.toNat ++ Lib.joinTail [32] (l.map fun x => Lib.decDigits x.toNat)) := by simp [Lib.joinTail]
    rw [e, List.length_cons, List.length_append, List.length_cons]
    omega
theorem told_len {l : List Int} (h : ∀ x ∈ l, 0 ≤ x ∧ x < 100) : (toldL l).length ≤ 3 * l.length := by
  rcases l with _ | ⟨x, l⟩
  · simp [toldL, Lib.join_nil]
  · unfold toldL
    rw [List.map_cons, Lib.join_cons, List.length_append, List.length_cons]
    have := tail_len l fun z hz => h z (by simp [hz])
    have hx := h x (by simp)
    have := decD_len (u := x.toNat) (by omega)
    omega
end Go.Proofs
end

section
/- Own lists whose rows lie in memory that stands. -/
namespace Go.Proofs
open Go.RowKit

theorem opens_lines {T : Treaty} {f : Nat → Nat → Nat → Bool} : opens T f = false ↔ linesL T f = [] := by
  unfold opens linesL
  rw [List.any_eq_false, List.flatMap_eq_nil_iff]
  refine forall_congr' fun s => forall_congr' fun _ => ?_
  rw [← linesFrom_nil]
  simp
end Go.Proofs
end

section
/- Walks: the reference's before. -/
namespace Go.Proofs
open Go.RowKit
attribute [local go_sem] Oper.semAt_some

theorem lexB_from {x y : List Int} {k : Nat} (h : x.length = y.length) (hk : k < x.length) (he : ∀ i, i < k → x.getD i 0 = y.getD i 0) : lexB x y = lexB (x.drop k) (y.drop k) := by
  induction k generalizing x y with
  | zero => rfl
  | succ k ih =>
    match x, y, h with
    | [], [], _ => simp at hk
    | a :: x, b :: y, h =>
      have e0 : a = b := by have := he 0 (by omega); simpa using this
      subst e0
      rw [lexB, if_pos rfl, List.drop_succ_cons, List.drop_succ_cons]
      exact ih (by simpa using h) (by simpa using hk) fun i hi => by have := he (i + 1) (by omega); simpa using this
theorem lexB_at {x y : List Int} {k : Nat} (h : x.length = y.length) (hk : k < x.length) (he : ∀ i, i < k → x.getD i 0 = y.getD i 0) (hne : x.getD k 0 ≠ y.getD k 0) : lexB x y = decide (x.getD k 0 < y.getD k 0) := by
  rw [lexB_from h hk he]
  have hk' : k < y.length := by omega
  have e1 : x.getD k 0 = x[k] := by rw [List.getD_eq_getElem?_getD, List.getElem?_eq_getElem hk]; rfl
  have e2 : y.getD k 0 = y[k] := by rw [List.getD_eq_getElem?_getD, List.getElem?_eq_getElem hk']; rfl
  rw [e1, e2] at hne ⊢
  rw [List.drop_eq_getElem_cons hk, List.drop_eq_getElem_cons hk', lexB, if_neg hne]
theorem lexB_same {x y : List Int} (h : x.length = y.length) (he : ∀ i, i < x.length → x.getD i 0 = y.getD i 0) : lexB x y = false := by
  have : x = y := by
    refine List.ext_getElem h fun i h1 h2 => ?_
    have := he i h1
    rwa [List.getD_eq_getElem?_getD, List.getElem?_eq_getElem h1, List.getD_eq_getElem?_getD, List.getElem?_eq_getElem h2] at this
  rw [this, lexB_irrefl]

end Go.Proofs
end

section
/- Walks: told. -/
namespace Go.Proofs
open Go.RowKit
attribute [local go_sem] Oper.semAt_some
theorem ty161 : SliceTy Tryz.prog 161 9 1 16 := .mk' (z := .string ⟨#[]⟩) Tryz.underlying161 (by kernel_rfl) rfl (by decide)
def strOf (x : Int) : Value := .string ⟨(Lib.decDigits x.toNat).toArray⟩
theorem itoa_any (W : World) (x : Int) (h0 : 0 ≤ x) (h1 : x < 100) : Calls Tryz.prog 117 #[.int .i64 x] W fun e w' => e = .returned (strOf x) ∧ w' = W := by
  obtain ⟨i, rfl⟩ := Int.eq_ofNat_of_zero_le h0
  exact Any.strconv_Itoa_small layItoa i (by omega) W
theorem join_any (W : World) (b : Nat) {v : Value} {l : List Int} (hv : W.ownsRow b 9 1 v l.length (l.map strOf)) (h0 : l ≠ []) (hl : l.length ≤ 100) (hx : ∀ x ∈ l, 0 ≤ x ∧ x < 100) : Calls Tryz.prog 118 #[v, .string ⟨#[32]⟩] W fun e w' => e = .returned (.string ⟨(toldL l).toArray⟩) ∧ Aft W w' := by
  rcases hv.2 with ⟨_, h⟩ | ⟨g, cap, cur, rfl, hg, hh, hc, hm, hs, ht⟩
  · exact absurd (List.eq_nil_of_length_eq_zero h) h0
  · have e1 : (l.map fun x => (⟨(Lib.decDigits x.toNat).toArray⟩ : ByteArray)).map (·.data.toList) = l.map fun x => Lib.decDigits x.toNat := by
      rw [List.map_map]
      exact List.map_congr_left fun x _ => by simp
    have hlt : g < W.heap.size := (Array.getElem?_eq_some_iff.1 hh).1
    have := Any.strings_Join layJoin extraJoin g 0 cap (l.map fun x => (⟨(Lib.decDigits x.toNat).toArray⟩ : ByteArray)) ⟨#[32]⟩ W (fun j x hj => by
      have hj' : (l.map strOf)[j]? = some (.string x) := by
        rw [List.getElem?_map] at hj ⊢
        obtain ⟨y, hy, rfl⟩ := Option.map_eq_some_iff.1 hj
        rw [hy]; rfl
      have := hv.cells (g := g) rfl j _ hj'
      rw [Addr.add_lit] at this
      exact this) hlt (by rw [List.length_map]; omega) (by rw [List.length_map]; omega) (by
        rw [e1]
        have := told_len hx
        unfold toldL at this
        show (Lib.join _ [32]).length ≤ _
        omega)
    rw [e1, List.length_map] at this
    exact this.mono fun e w' ⟨h1, h2⟩ => ⟨h1, Aft.of_below h2⟩

set_option maxRecDepth 100000 in
set_option maxHeartbeats 4000000 in
theorem told_any (w : World) (l : List Int) (A : Option Addr) (c : Nat) (hA : Ints w A l) (h0 : l ≠ []) (hl : l.length ≤ 100) (hx : ∀ x ∈ l, 0 ≤ x ∧ x < 100) :
    Calls Tryz.prog 57 #[.slice A l.length c] w fun e w' => e = .returned (.string ⟨(toldL l).toArray⟩) ∧ Aft w w' := by
  have HA := Lib.hid hA
  have HX := Lib.hid hx
  have H0 := Lib.hid h0
  have HTK : Hid (∀ k, (hk : k < l.length) → (l.take (k + 1)).map strOf = (l.take k).map strOf ++ [strOf l[k]]) := Lib.hid fun k hk => by rw [List.take_succ_eq_append_getElem hk, List.map_append]; rfl
  have HS0 : Hid (w.ownsRow w.heap.size 9 1 (.slice none 0 0) 0 ((l.take 0).map strOf)) := Lib.hid (World.ownsRow_nil _ _ 9 1)
  clear hA hx h0
  go_enter Tryz.func57, Tryz.ntmps57
  (repeat (first | go_big_skip | go_big_want | go_big_move | go_big_op | go_step | go_upon | go_back))
  go_loopw [3, 8] (fun v i wr => ∃ k : Nat, i = .int .i64 k ∧ k ≤ l.length ∧ Aft w wr ∧ wr.ownsRow w.heap.size 9 1 v k ((l.take k).map strOf)) (fun _ i _ => l.length - (intOf i).toNat)
  case atStart => exact ⟨0, rfl, by omega, Aft.refl _, HS0.out⟩
  case round =>
    obtain ⟨k, rfl, hk, ha, hown⟩ := hrel
    have HW := Lib.hid ha
    have HO := Lib.hid hown
    obtain ⟨sA, sc, rfl⟩ := own_slice2 hown
    have hsz := ha.size
    clear ha hown HS0
    by_cases hkn : k < l.length
    · have hdec : decide (k < l.length) = true := decide_eq_true hkn
      obtain ⟨b, o, e1, hb, hc⟩ := (HA.out.aft HW.out).at hkn
      subst e1
      have hc1 := hc k hkn
      clear hc
      have ik : (0 : Int) ≤ (k : Int) ∧ (k : Int) < (l.length : Int) := by omega
      have hlk := HX.out l[k] (List.getElem_mem hkn)
      have HT := HTK.out k hkn
      obtain ⟨y, hy⟩ : ∃ y, l[k] = y := ⟨_, rfl⟩
      rw [hy] at hc1 hlk HT
      have hit := itoa_any wr y hlk.1 hlk.2
      obtain ⟨s, hs⟩ : ∃ s, strOf y = .string s := ⟨_, rfl⟩
      rw [hs] at HT hit
      have HIT := Lib.hid hit
      have HTT := Lib.hid HT
      clear HT hy HTK hs hit
      (repeat (first | go_big_skip | go_big_want | go_big_move | go_big_op | go_step | go_upon | go_back))
      go_at_call 117
      refine HIT.out.mono ?_
      rintro e w5 ⟨rfl, rfl⟩
      dsimp only
      go_upto_region 6 with (at_builtin; go_loud (refine wpList_app1 ty161 rfl _ _ rfl (Nat.le_trans hsz (Aft.alloc _ _).size) rfl (own_aft HO.out (Aft.alloc _ _)) rfl (Blk.new _ _ _) rfl (fun u hu => by rw [List.mem_singleton] at hu; subst hu; rfl) (by omega) (by decide) ?_; intro v' w6 hown6 hg6 hat6; have HA6 := Lib.hid ((HW.out.then_alloc _).grown hg6 (fun q e => (HO.out.lt q e).1)); have HO6 := Lib.hid hown6; clear hown6 hg6 hat6))
      (repeat (first | go_big_skip | go_big_want | go_big_move | go_big_op | go_step | go_upon | go_back))
      exact ⟨⟨k + 1, by go_num, by omega, HA6.out, by rw [HTT.out]; exact HO6.out⟩, by simp [intOf]; omega⟩
    · have hdec : decide (k < l.length) = false := decide_eq_false hkn
      obtain rfl : k = l.length := by omega
      have HJ := Lib.hid (join_any wr w.heap.size (l := l) (by have := HO.out; rwa [List.take_length] at this) H0.out hl HX.out)
      (repeat (first | go_big_skip | go_big_want | go_big_move | go_big_op | go_step | go_upon | go_back))
      go_at_call 118
      refine HJ.out.mono ?_
      rintro e w5 ⟨rfl, ha5⟩
      dsimp only
      (repeat (first | go_big_skip | go_big_want | go_big_move | go_big_op | go_step | go_upon | go_back))
      go_ret
      exact ⟨rfl, HW.out.trans ha5⟩
end Go.Proofs
end

section
/- A set of lines in a map of the call's own, keyed by their told text. -/
namespace Go.Proofs
open Go.RowKit Go.Maps Go.WideMaps

def LineN (l : List Int) : Prop := l ≠ [] ∧ l.length ≤ 100 ∧ ∀ x ∈ l, 0 ≤ x ∧ x < 100
def toldV (l : List Int) : Value := .string ⟨(toldL l).toArray⟩
theorem LineN.inj {l l' : List Int} (h : LineN l) (h' : LineN l') (e : toldL l = toldL l') : l = l' := told_inj h.2.2 h'.2.2 h.1 h'.1 e
theorem LineN.key {l : List Int} (h : LineN l) : keyOf Tryz.prog 9 (toldV l) = some (.string (toldL l)) := by
  have := told_len h.2.2
  have h2 := h.2.1
  have := keyOf_string_mk (P := Tryz.prog) (k := 9) Tryz.underlying9 (s := ⟨(toldL l).toArray⟩) (by show (toldL l).toArray.size ≤ maxLen; rw [List.size_toArray]; unfold maxLen; omega)
  exact this
/-- The set of the lines S, in block b. -/
def SetM (W : World) (b n : Nat) (S : List (List Int)) : Prop :=
  ∃ D : DataW Unit, W.ownsMap Tryz.prog 9 (plainElem Tryz.prog 4) b n D ∧ ∀ l, LineN l → D.atKey (.string (toldL l)) (.lit (.bool false)) = .lit (.bool (decide (l ∈ S)))
theorem SetM.made (W : World) : SetM (W.alloc (.map #[] 0)) W.heap.size 0 [] := ⟨_, World.ownsMap_made _ _ _ _, fun l _ => by simp [WideAt.atKey_nil, DataW.atKey]⟩
theorem SetM.kept {W W' : World} {b n : Nat} {S : List (List Int)} (h : SetM W b n S) {row : Option Nat} (hg : W.grownBy W' row) (hne : some b ≠ row) : SetM W' b n S := let ⟨D, h1, h2⟩ := h; ⟨D, h1.kept hg hne, h2⟩
theorem SetM.aft {W W' : World} {b n : Nat} {S : List (List Int)} (h : SetM W b n S) (ha : Aft W W') : SetM W' b n S := h.kept (only_aft (only_refl W none) ha) (by simp)
theorem SetM.look {W : World} {b n : Nat} {S : List (List Int)} (h : SetM W b n S) {l : List Int} (hl : LineN l) : (Instr.lookup 104 (.map (some b)) (toldV l) false).run Tryz.prog W = .ok (.bool (decide (l ∈ S))) W := by
  obtain ⟨D, h1, h2⟩ := h
  obtain ⟨v, ps, hrun, hv⟩ := h1.lookup (string_keyed Tryz.underlying9) (e := 4) (t := 104) Tryz.underlying104 (Tryz.zeroValue4 W) (plainElem_bool Tryz.underlying4 false) hl.key
  rw [h2 l hl] at hv
  have hv' : v = .bool (decide (l ∈ S)) := by
    unfold plainElem at hv
    cases v <;> simp_all [Tryz.underlying4]
  rw [hrun, hv']
theorem SetM.put {W : World} {b n : Nat} {S : List (List Int)} (h : SetM W b n S) {l : List Int} (hl : LineN l) (hn : n < 1000000) : ∃ w', (Instr.mapUpdate 104 (.map (some b)) (toldV l) (.bool true)).run Tryz.prog W = .ok () w' ∧ SetM w' b (n + 1) (S ++ [l]) ∧ W.grownBy w' (some b) := by
  obtain ⟨D, h1, h2⟩ := h
  obtain ⟨w', hrun, h3, h4⟩ := h1.update (string_keyed Tryz.underlying9) (e := 4) (t := 104) Tryz.underlying104 (by unfold maxLen; omega) hl.key (plainElem_bool Tryz.underlying4 true)
  refine ⟨w', hrun, ⟨_, h3, fun l' hl' => ?_⟩, h4⟩
  by_cases e : l' = l
  · subst e
    rw [atKey_put_same h1.isMap (by trivial)]
    simp
  · rw [atKey_put_other (fun e' => e (hl'.inj hl (by injection e'))), h2 l' hl']
    have : decide (l' ∈ S ++ [l]) = decide (l' ∈ S) := by simp [e]
    rw [this]
end Go.Proofs
end

section
/- Plain: the program's All: each line once, as they come, then in order. -/
namespace Go.Proofs
open Go

structure AMI (T : Treaty) (k : Nat) (M : List (List Int)) (k2 : Nat) (S : List (List Int)) : Prop where
  nd : S.Nodup
  few : S.length ≤ 200 + k2
  sub : ∀ y ∈ S, y ∈ unionL T
  done : ∀ i, i < k → ∀ y ∈ linesL T (leadsF T ((readingsL T).getD i [])), y ∈ S
  here : ∀ j, j < k2 → M.getD j [] ∈ S
theorem AMI.start (T : Treaty) : AMI T 0 [] 0 [] := ⟨List.Pairwise.nil, by simp, by simp, fun i hi => absurd hi (Nat.not_lt_zero _), fun i hi => absurd hi (Nat.not_lt_zero _)⟩
theorem AMI.into {T : Treaty} {k : Nat} {M S : List (List Int)} (h : AMI T k M 0 S) (M' : List (List Int)) : AMI T k M' 0 S := ⟨h.nd, h.few, h.sub, h.done, fun i hi => absurd hi (Nat.not_lt_zero _)⟩
theorem AMI.has {T : Treaty} {k k2 : Nat} {M S : List (List Int)} (h : AMI T k M k2 S) {l : List Int} (hl : M.getD k2 [] = l) (hm : l ∈ S) : AMI T k M (k2 + 1) S :=
  ⟨h.nd, by have := h.few; omega, h.sub, h.done, fun j hj => by
    by_cases e : j = k2
    · rw [e, hl]; exact hm
    · exact h.here j (by omega)⟩
theorem AMI.put {T : Treaty} {k k2 : Nat} {M S : List (List Int)} (h : AMI T k M k2 S) {l : List Int} (hl : M.getD k2 [] = l) (hm : l ∉ S) (hu : l ∈ unionL T) : AMI T k M (k2 + 1) (S ++ [l]) := by
  refine ⟨?_, ?_, fun y hy => ?_, fun i hi y hy => List.mem_append.2 (.inl (h.done i hi y hy)), fun j hj => ?_⟩
  · rw [List.nodup_append]
    exact ⟨h.nd, List.pairwise_singleton _ _, fun a ha b hb e => hm (by rw [List.mem_singleton] at hb; rw [← hb, ← e]; exact ha)⟩
  · have := h.few; simp; omega
  · rcases List.mem_append.1 hy with hy | hy
    · exact h.sub y hy
    · rw [List.mem_singleton.1 hy]; exact hu
  · by_cases e : j = k2
    · rw [e, hl]; simp
    · exact List.mem_append.2 (.inl (h.here j (by omega)))
theorem AMI.next {T : Treaty} (ok : TOk T) {k : Nat} {M S : List (List Int)} (h : AMI T k M M.length S) (hM : M = (linesL T (leadsF T ((readingsL T).getD k []))).take 201) (hS : S.length ≤ 200) : AMI T (k + 1) [] 0 S := by
  have hnd : M.Nodup := by
    rw [hM]
    exact (linesL_ok ok _).nodup.sublist (List.take_sublist _ _)
  have hin : ∀ y ∈ M, y ∈ S := fun y hy => by
    obtain ⟨j, hj, rfl⟩ := List.getElem_of_mem hy
    have := h.here j hj
    rwa [List.getD_eq_getElem?_getD, List.getElem?_eq_getElem hj] at this
  have hle : M.length ≤ 200 := Nat.le_trans (hnd.length_le_of_subset hin) hS
  have hall : (linesL T (leadsF T ((readingsL T).getD k []))).take 201 = linesL T (leadsF T ((readingsL T).getD k [])) := by
    rw [hM, List.length_take] at hle
    exact List.take_of_length_le (by omega)
  refine ⟨h.nd, by omega, h.sub, fun i hi y hy => ?_, fun i hi => absurd hi (Nat.not_lt_zero _)⟩
  by_cases e : i = k
  · subst e
    rw [← hall, ← hM] at hy
    exact hin y hy
  · exact h.done i (by omega) y hy
theorem AMI.all {T : Treaty} {M S L : List (List Int)} {k2 : Nat} (h : AMI T (readingsL T).length M k2 S) (hp : L.Perm S) (hs : SortedL L) : allL T = L := by
  refine sorted_unique (allL_spec T).1 hs fun y => ?_
  rw [(allL_spec T).2, hp.mem_iff]
  refine ⟨fun hy => ?_, h.sub y⟩
  unfold unionL at hy
  obtain ⟨R, hR, hy⟩ := List.mem_flatMap.1 hy
  obtain ⟨i, hi, rfl⟩ := List.getElem_of_mem hR
  refine h.done i hi y ?_
  rw [List.getD_eq_getElem?_getD, List.getElem?_eq_getElem hi]
  exact hy
theorem unionL_n {T : Treaty} (ok : TOk T) {l : List Int} (h : l ∈ unionL T) : LineN l := by
  unfold unionL at h
  obtain ⟨R, _, hl⟩ := List.mem_flatMap.1 h
  have hlin := ((mem_linesL ok.starts).1 hl).1
  obtain ⟨hlen, hx⟩ := linedB_iff.1 hlin
  have hn := ok.nlegs
  have hp := ok.p2
  refine ⟨fun e => by rw [e] at hlen; simp at hlen, by omega, fun x hx' => ?_⟩
  have := hx x hx'
  omega
end Go.Proofs
end

section
/- For the reference's All: a line is put into a list of lines of the call's own. -/
namespace Go.Proofs
open Go.RowKit



theorem ints_grown {w w' : World} {A : Option Addr} {l : List Int} {row : Option Nat} (h : Ints w A l) (hg : w.grownBy w' row) (hr : ∀ b o, A = some ⟨b, o, none⟩ → some b ≠ row) : Ints w' A l := by
  refine ⟨h.1, ?_⟩
  rcases h.2 with h | ⟨b, o, rfl, hb, hc⟩
  · exact .inl h
  · refine .inr ⟨b, o, rfl, Nat.lt_of_lt_of_le hb hg.size, fun i hi => ?_⟩
    obtain ⟨vs, h1, h2, h3⟩ := hc i hi
    exact ⟨vs, h1, h2, fun j hj => (World.cell?_of_block (hg.block b hb (hr b o rfl))).trans (h3 j hj)⟩
end Go.Proofs
end

section
/- For the program's All: the list under way, and a row of the list of a reading's lines. -/
namespace Go.Proofs
open Go.RowKit

/-- The list under way: its rows lie in other blocks than it does, all of them from base on. -/
structure OutB (W : World) (base : Nat) (L : List (List Int)) (v : Value) : Prop where
  ex : ∃ vs, W.ownsRow base 24 1 v L.length vs ∧ ∀ i, (hi : i < L.length) → ∃ A c, vs[i]? = some (.slice A L[i].length c) ∧ Ints W A L[i] ∧ ∀ b o, A = some ⟨b, o, none⟩ → base ≤ b ∧ v.ownBlock ≠ some b
theorem OutB.nil (W : World) (base : Nat) : OutB W base [] (.slice none 0 0) := ⟨[], World.ownsRow_nil _ _ 24 1, fun i hi => absurd hi (Nat.not_lt_zero _)⟩
theorem OutB.kept {W W' : World} {base : Nat} {L : List (List Int)} {v : Value} (h : OutB W base L v) {row : Option Nat} (hg : W.grownBy W' row) (hr : ∀ k, row = some k → k < base) : OutB W' base L v := by
  obtain ⟨vs, h1, h2⟩ := h
  refine ⟨vs, own_kept' h1 hg hr, fun i hi => ?_⟩
  obtain ⟨A, c, e1, e2, e3⟩ := h2 i hi
  exact ⟨A, c, e1, ints_grown e2 hg (fun b o e h => by have := (e3 b o e).1; have := hr b h.symm; omega), e3⟩
theorem OutB.aft {W W' : World} {base : Nat} {L : List (List Int)} {v : Value} (h : OutB W base L v) (ha : Aft W W') : OutB W' base L v := h.kept (only_aft (only_refl W none) ha) (fun _ e => by cases e)
theorem OutB.slice {W : World} {base : Nat} {L : List (List Int)} {v : Value} (h : OutB W base L v) : ∃ A c, v = .slice A L.length c := let ⟨_, h1, _⟩ := h; own_slice2 h1
theorem OutB.ge {W : World} {base : Nat} {L : List (List Int)} {v : Value} (h : OutB W base L v) : ∀ g, v.ownBlock = some g → base ≤ g ∧ g < W.heap.size := fun g hg => let ⟨_, h1, _⟩ := h; h1.lt g hg
theorem OutB.push {W w6 : World} {base : Nat} {L : List (List Int)} {v v' : Value} {vs : List Value} {l : List Int} {Al : Option Addr} {cl : Nat} (h1 : W.ownsRow base 24 1 v L.length vs)
    (h2 : ∀ i, (hi : i < L.length) → ∃ A c, vs[i]? = some (.slice A L[i].length c) ∧ Ints W A L[i] ∧ ∀ b o, A = some ⟨b, o, none⟩ → base ≤ b ∧ v.ownBlock ≠ some b) (hne : ∀ x ∈ L, x ≠ []) (hl : l ≠ []) (hil : Ints W Al l)
    (hlb : ∀ b o, Al = some ⟨b, o, none⟩ → base ≤ b ∧ v.ownBlock ≠ some b) (hg6 : W.grownBy w6 v.ownBlock) (hat : v'.ownBlock = v.ownBlock ∨ v'.ownBlock = some W.heap.size)
    (hown6 : w6.ownsRow base 24 1 v' (L.length + 1) (vs ++ [.slice Al l.length cl])) : OutB w6 base (L ++ [l]) v' := by
  have hvl : vs.length = L.length := by simpa using h1.1
  have keep : ∀ (A : Option Addr) (x : List Int), x ≠ [] → Ints W A x → (∀ b o, A = some ⟨b, o, none⟩ → base ≤ b ∧ v.ownBlock ≠ some b) → Ints w6 A x ∧ ∀ b o, A = some ⟨b, o, none⟩ → base ≤ b ∧ v'.ownBlock ≠ some b := fun A x hx hi hb => by
    refine ⟨ints_grown hi hg6 fun b o e h => (hb b o e).2 h.symm, fun b o e => ⟨(hb b o e).1, fun hv => ?_⟩⟩
    rcases hat with h | h
    · rw [h] at hv; exact (hb b o e).2 hv
    · rw [hv] at h
      injection h with h
      obtain ⟨b', o', e', hlt, -⟩ := hi.at (k := 0) (by rcases x with _ | ⟨a, x⟩; exact absurd rfl hx; simp)
      rw [e] at e'
      cases e'
      omega
  have hlen : (L ++ [l]).length = L.length + 1 := by simp
  refine ⟨vs ++ [.slice Al l.length cl], by rw [hlen]; exact hown6, fun i hi => ?_⟩
  by_cases h : i < L.length
  · obtain ⟨A, c, e1, e2, e3⟩ := h2 i h
    have eL : (L ++ [l])[i] = L[i] := List.getElem_append_left h
    have hk := keep A L[i] (hne _ (List.getElem_mem _)) e2 e3
    rw [eL]
    exact ⟨A, c, by rw [List.getElem?_append_left (by omega)]; exact e1, hk.1, hk.2⟩
  · obtain rfl : i = L.length := by omega
    have eL : (L ++ [l])[L.length] = l := by simp
    have hk := keep Al l hl hil hlb
    rw [eL]
    exact ⟨Al, cl, by rw [List.getElem?_append_right (by omega), hvl]; simp, hk.1, hk.2⟩
theorem ints_blocks {w w' : World} {A : Option Addr} {l : List Int} (h : Ints w A l) (hs : w.heap.size ≤ w'.heap.size) (hb : ∀ b o, A = some ⟨b, o, none⟩ → w'.heap[b]? = w.heap[b]?) : Ints w' A l := by
  refine ⟨h.1, ?_⟩
  rcases h.2 with h | ⟨b, o, rfl, hb', hc⟩
  · exact .inl h
  · refine .inr ⟨b, o, rfl, Nat.lt_of_lt_of_le hb' hs, fun i hi => ?_⟩
    obtain ⟨vs, h1, h2, h3⟩ := hc i hi
    exact ⟨vs, h1, h2, fun j hj => (World.cell?_of_block (hb b o rfl)).trans (h3 j hj)⟩
/-- A row of an own list of lists, and where it lies. -/
theorem OwnLs.row_at {W : World} {base : Nat} {v : Value} {vs : List Value} {ls : List (List Int)} (h : OwnLs W base v vs ls) {i : Nat} (hi : i < ls.length) (hr : ls[i].length ≤ 1000) :
    ∃ g c A d, v = .slice (some ⟨g, 0, none⟩) ls.length c ∧ base ≤ g ∧ g < W.heap.size ∧ W.cell? ⟨g, i, none⟩ = some (.slice A ls[i].length d) ∧ Ints W A ls[i] ∧ ∀ b o, A = some ⟨b, o, none⟩ → base ≤ b ∧ b < W.heap.size := by
  have hiv : i < vs.length := by rw [h.len]; exact hi
  rcases h.own.2 with ⟨rfl, h0⟩ | ⟨g, cap, cur, rfl, hg, hh, hc, hm, hs, ht⟩
  · omega
  · have hrow := h.rows i hi hiv
    obtain ⟨A, d, e, _, hi2⟩ := own_ints hrow (by omega)
    refine ⟨g, cap, A, d, rfl, hg, (Array.getElem?_eq_some_iff.1 hh).1, ?_, hi2, fun b o e' => ?_⟩
    · have := h.own.cells (g := g) rfl i vs[i] (List.getElem?_eq_getElem hiv)
      rw [Addr.add_lit] at this
      rw [← e]
      simpa using this
    · subst e'
      exact hrow.lt b (by rw [e]; rfl)

/-- What stands while the lines of a reading are looked through. -/
structure AllK (w : World) (T : Treaty) (a1 a2 a3 a4 : Option Addr) (c1 c2 c3 c4 : Nat) (S bM bE : Nat) (W wr : World) : Prop where
  kept : Kept3 (S + 4) W wr
  aft : Aft w wr
  box : Blk wr w.heap.size 27 #[.int .i64 T.places, .slice a1 T.ways.length c1, .slice a2 T.words.length c2, .slice a3 T.starts.length c3, .slice a4 T.legs.length c4]
  r2 : ∃ c, Blk wr (w.heap.size + 1) 37 #[c]
  r3 : ∃ c, Blk wr (w.heap.size + 2) 38 #[c]
  mapc : Blk wr (S + 1) 104 #[.map (some S)]
  box2 : Blk wr (S + 3) 27 #[.int .i64 T.places, .slice a1 T.ways.length c1, .slice a2 T.words.length c2, .slice a3 T.starts.length c3, .slice a4 T.legs.length c4]
  size : bE ≤ wr.heap.size
theorem AllK.grow {w : World} {T : Treaty} {a1 a2 a3 a4 : Option Addr} {c1 c2 c3 c4 : Nat} {S bM bE : Nat} {W wr wr' : World} (h : AllK w T a1 a2 a3 a4 c1 c2 c3 c4 S bM bE W wr) (hS : w.heap.size + 2 < S) (hW : S + 7 ≤ W.heap.size) {row : Option Nat} (hg : wr.grownBy wr' row)
    (hr : ∀ g, row = some g → g = S ∨ g = S + 2 ∨ S + 7 ≤ g) : AllK w T a1 a2 a3 a4 c1 c2 c3 c4 S bM bE W wr' := by
  obtain ⟨h1, h2, h3, ⟨c, h4⟩, ⟨c', h5⟩, h6, h7, h8⟩ := h
  have hs := h1.size
  exact ⟨h1.trans (Kept3.of_grown hg (by omega) (fun g e => by have := hr g e; omega)), h2.grown hg (fun g e => by have := hr g e; omega), h3.grown hg (fun e => by have := hr _ e.symm; omega),
    ⟨c, h4.grown hg (fun e => by have := hr _ e.symm; omega)⟩, ⟨c', h5.grown hg (fun e => by have := hr _ e.symm; omega)⟩, h6.grown hg (fun e => by have := hr _ e.symm; omega), h7.grown hg (fun e => by have := hr _ e.symm; omega), Nat.le_trans h8 hg.size⟩
theorem AllK.later {w : World} {T : Treaty} {a1 a2 a3 a4 : Option Addr} {c1 c2 c3 c4 : Nat} {S bM bE : Nat} {W wr wr' : World} (h : AllK w T a1 a2 a3 a4 c1 c2 c3 c4 S bM bE W wr) (hS : w.heap.size + 2 < S) (hW : S + 7 ≤ W.heap.size) (ha : Aft wr wr') : AllK w T a1 a2 a3 a4 c1 c2 c3 c4 S bM bE W wr' :=
  h.grow hS hW (only_aft (only_refl wr none) ha) (fun _ e => by cases e)

/-- The blocks of a list that has been handed over stand. -/
def RowsK (bM : Nat) (w6 wr : World) : Prop := ∀ b, bM ≤ b → b < w6.heap.size → wr.heap[b]? = w6.heap[b]?
theorem RowsK.refl (bM : Nat) (w6 : World) : RowsK bM w6 w6 := fun _ _ _ => rfl
theorem RowsK.grow {bM : Nat} {w6 wr wr' : World} (h : RowsK bM w6 wr) (hs : w6.heap.size ≤ wr.heap.size) {row : Option Nat} (hg : wr.grownBy wr' row) (hr : ∀ g, row = some g → g < bM ∨ w6.heap.size ≤ g) : RowsK bM w6 wr' := fun b h1 h2 =>
  (hg.block b (by omega) (fun e => by have := hr b e.symm; omega)).trans (h b h1 h2)
theorem RowsK.later {bM : Nat} {w6 wr wr' : World} (h : RowsK bM w6 wr) (hs : w6.heap.size ≤ wr.heap.size) (ha : Aft wr wr') : RowsK bM w6 wr' := h.grow hs (only_aft (only_refl wr none) ha) (fun _ e => by cases e)

/-- The loop over the lines of a reading. -/
structure AllL (w : World) (T : Treaty) (a1 a2 a3 a4 : Option Addr) (c1 c2 c3 c4 : Nat) (S k bM : Nat) (M : List (List Int)) (W w6 wr : World) (j : Nat) (L : List (List Int)) (v : Value) : Prop where
  base : AllK w T a1 a2 a3 a4 c1 c2 c3 c4 S bM w6.heap.size W wr
  rows : RowsK bM w6 wr
  cell : Blk wr (S + 2) 37 #[v]
  out : OutB wr (S + 7) L v
  far : ∀ g, v.ownBlock = some g → g < bM ∨ w6.heap.size ≤ g
  set : SetM wr S L.length L
  ami : AMI T k M j L
theorem AllL.later {w : World} {T : Treaty} {a1 a2 a3 a4 : Option Addr} {c1 c2 c3 c4 : Nat} {S k bM : Nat} {M : List (List Int)} {W w6 wr wr' : World} {j : Nat} {L : List (List Int)} {v : Value} (h : AllL w T a1 a2 a3 a4 c1 c2 c3 c4 S k bM M W w6 wr j L v) (hS : w.heap.size + 2 < S) (hW : S + 7 ≤ W.heap.size) (ha : Aft wr wr') :
    AllL w T a1 a2 a3 a4 c1 c2 c3 c4 S k bM M W w6 wr' j L v :=
  ⟨h.base.later hS hW ha, h.rows.later h.base.size ha, h.cell.aft ha, h.out.aft ha, h.far, h.set.aft ha, h.ami⟩
/-- A line that is there already. -/
theorem AllL.has {w : World} {T : Treaty} {a1 a2 a3 a4 : Option Addr} {c1 c2 c3 c4 : Nat} {S k bM : Nat} {M : List (List Int)} {W w6 wr : World} {j : Nat} {L : List (List Int)} {v : Value} (h : AllL w T a1 a2 a3 a4 c1 c2 c3 c4 S k bM M W w6 wr j L v) {l : List Int} (hl : M.getD j [] = l) (hm : l ∈ L) :
    AllL w T a1 a2 a3 a4 c1 c2 c3 c4 S k bM M W w6 wr (j + 1) L v := ⟨h.base, h.rows, h.cell, h.out, h.far, h.set, h.ami.has hl hm⟩

/-- A line that is not. -/
theorem AllL.push {w : World} {T : Treaty} {a1 a2 a3 a4 : Option Addr} {c1 c2 c3 c4 : Nat} {S k bM : Nat} {M : List (List Int)} {W w6 w7 w8 w10 : World} {j : Nat} {L : List (List Int)} {v v' : Value} (h : AllL w T a1 a2 a3 a4 c1 c2 c3 c4 S k bM M W w6 w7 j L v) (ok : TOk T) (hS : w.heap.size + 2 < S) (hW : S + 7 ≤ W.heap.size) (hbM : S + 7 ≤ bM)
    {l : List Int} (hl : M.getD j [] = l) (hm : l ∉ L) (hu : l ∈ unionL T) {Al : Option Addr} {cl : Nat} (hil : Ints (w8.alloc (.cells #[.slice Al l.length cl] 24)) Al l) (hlb : ∀ b o, Al = some ⟨b, o, none⟩ → bM ≤ b ∧ b < w6.heap.size)
    (hset8 : SetM w8 S (L.length + 1) (L ++ [l])) (hg8 : w7.grownBy w8 (some S)) {vs : List Value} (h1 : (w8.alloc (.cells #[.slice Al l.length cl] 24)).ownsRow (S + 7) 24 1 v L.length vs)
    (h2 : ∀ i, (hi : i < L.length) → ∃ A c, vs[i]? = some (.slice A L[i].length c) ∧ Ints (w8.alloc (.cells #[.slice Al l.length cl] 24)) A L[i] ∧ ∀ b o, A = some ⟨b, o, none⟩ → S + 7 ≤ b ∧ v.ownBlock ≠ some b)
    (hown : w10.ownsRow (S + 7) 24 1 v' (L.length + 1) (vs ++ [.slice Al l.length cl])) (hg10 : (w8.alloc (.cells #[.slice Al l.length cl] 24)).grownBy w10 v.ownBlock)
    (hat : v'.ownBlock = v.ownBlock ∨ v'.ownBlock = some (w8.alloc (.cells #[.slice Al l.length cl] 24)).heap.size) : AllL w T a1 a2 a3 a4 c1 c2 c3 c4 S k bM M W w6 (w10.setCell ⟨S + 2, 0, none⟩ v') (j + 1) (L ++ [l]) v' := by
  have hlen : (L ++ [l]).length = L.length + 1 := by simp
  have hge := h.out.ge
  have hfar := h.far
  have ha9 : Aft w8 (w8.alloc (.cells #[.slice Al l.length cl] 24)) := Aft.alloc _ _
  have hb9 : Blk (w8.alloc (.cells #[.slice Al l.length cl] 24)) (S + 2) 37 #[v] := (h.cell.grown hg8 (fun e => by injection e with e; omega)).alloc _
  have hs8 := h.base.grow hS hW hg8 (fun g e => by cases e; exact .inl rfl)
  have hs9 := hs8.later hS hW ha9
  have hr9 := (h.rows.grow h.base.size hg8 (fun g e => by cases e; omega)).later hs8.size ha9
  have hset9 := hset8.aft ha9
  have hz := h.base.size
  generalize (w8.alloc (.cells #[.slice Al l.length cl] 24)) = w9 at *
  have hs10 := hs9.grow hS hW hg10 (fun g e => by have := (hge g e).1; omega)
  have hr10 := hr9.grow hs9.size hg10 (fun g e => hfar g e)
  have hgS := grownBy_setCell' w10 (S + 2) v'
  refine ⟨hs10.grow hS hW hgS (fun g e => by cases e; exact .inr (.inl rfl)), hr10.grow hs10.size hgS (fun g e => by cases e; omega), (hb9.grown hg10 (fun e => by have := (hge _ e.symm).1; omega)).store 0 v', ?_, ?_, ?_, h.ami.put hl hm hu⟩
  · exact (OutB.push h1 h2 (fun x hx => (unionL_n ok (h.ami.sub x hx)).1) (unionL_n ok hu).1 hil (fun b o e => by
      have := hlb b o e
      exact ⟨by omega, fun hv => by have := hfar b hv; omega⟩) hg10 hat hown).kept hgS (fun g e => by cases e; omega)
  · intro g hg
    rcases hat with e | e
    · rw [e] at hg; exact hfar g hg
    · rw [e] at hg
      injection hg with hg
      have := hs9.size
      exact .inr (by omega)
  · rw [hlen]
    exact (hset9.kept hg10 (fun e => by have := (hge _ e.symm).1; omega)).kept hgS (fun e => by cases e)

end Go.Proofs
end

section
/- Where the library's slices.SortFunc lies. -/
namespace Go.Proofs
open Go.RowKit Go.Shelf
set_option maxRecDepth 100000
def renSort : Go.Shelf.Ren := ⟨fun | 6 => 58 | 15 => 120 | 14 => 119 | 28 => 158 | 29 => 159 | 20 => 150 | 21 => 151 | 22 => 152 | 23 => 153 | 24 => 154 | 25 => 155 | 26 => 156 | 27 => 157 | 46 => 168 | 47 => 169 | 48 => 170 | 49 => 171 | 50 => 172 | 57 => 179 | n => n, fun | 22 => 37 | 24 => 24 | 25 => 51 | 3 => 3 | 39 => 166 | 0 => 0 | 53 => 118 | 55 => 199 | 4 => 4 | 46 => 192 | 45 => 191 | 50 => 145 | 5 => 5 | 9 => 9 | 66 => 204 | 70 => 63 | 76 => 216 | 77 => 217 | n => n, fun n => n⟩
theorem laySort : SlLaysF.n6 Tryz.prog renSort := {
  mixed := by kernel_rfl
  f6 := ⟨Tryz.f58.name, by kernel_rfl, Tryz.func58.trans (congrArg some (by kernel_rfl))⟩
  f14 := ⟨Tryz.f119.name, by kernel_rfl, Tryz.func119.trans (congrArg some (by kernel_rfl))⟩
  f15 := Tryz.func120.trans (congrArg some (by kernel_rfl))
  f20 := ⟨Tryz.f150.name, by kernel_rfl, Tryz.func150.trans (congrArg some (by kernel_rfl))⟩
  f21 := ⟨Tryz.f151.name, by kernel_rfl, Tryz.func151.trans (congrArg some (by kernel_rfl))⟩
  f22 := ⟨Tryz.f152.name, by kernel_rfl, Tryz.func152.trans (congrArg some (by kernel_rfl))⟩
  f23 := ⟨Tryz.f153.name, by kernel_rfl, Tryz.func153.trans (congrArg some (by kernel_rfl))⟩
  f24 := ⟨Tryz.f154.name, by kernel_rfl, Tryz.func154.trans (congrArg some (by kernel_rfl))⟩
  f25 := ⟨Tryz.f155.name, by kernel_rfl, Tryz.func155.trans (congrArg some (by kernel_rfl))⟩
  f26 := ⟨Tryz.f156.name, by kernel_rfl, Tryz.func156.trans (congrArg some (by kernel_rfl))⟩
  f27 := ⟨Tryz.f157.name, by kernel_rfl, Tryz.func157.trans (congrArg some (by kernel_rfl))⟩
  f28 := Tryz.func158.trans (congrArg some (by kernel_rfl))
  f29 := Tryz.func159.trans (congrArg some (by kernel_rfl))
  f46 := ⟨Tryz.f168.name, by kernel_rfl, Tryz.func168.trans (congrArg some (by kernel_rfl))⟩
  f47 := Tryz.func169.trans (congrArg some (by kernel_rfl))
  f48 := Tryz.func170.trans (congrArg some (by kernel_rfl))
  f49 := ⟨Tryz.f171.name, by kernel_rfl, Tryz.func171.trans (congrArg some (by kernel_rfl))⟩
  f50 := ⟨Tryz.f172.name, by kernel_rfl, Tryz.func172.trans (congrArg some (by kernel_rfl))⟩
  f57 := ⟨Tryz.f179.name, by kernel_rfl, Tryz.func179.trans (congrArg some (by kernel_rfl))⟩
  t0 := Tryz.underlying0
  a0 := Tryz.isAgg0
  z0 := Tryz.sizeOf0
  v0 := Tryz.zeroValue0
  t3 := Tryz.underlying3
  a3 := Tryz.isAgg3
  z3 := Tryz.sizeOf3
  v3 := Tryz.zeroValue3
  t4 := Tryz.underlying4
  a4 := Tryz.isAgg4
  z4 := Tryz.sizeOf4
  v4 := Tryz.zeroValue4
  t5 := Tryz.underlying5
  a5 := Tryz.isAgg5
  z5 := Tryz.sizeOf5
  v5 := Tryz.zeroValue5
  t9 := Tryz.underlying9
  a9 := Tryz.isAgg9
  z9 := Tryz.sizeOf9
  v9 := Tryz.zeroValue9
  t22 := Tryz.underlying37
  a22 := Tryz.isAgg37
  z22 := Tryz.sizeOf37
  v22 := Tryz.zeroValue37
  a24 := Tryz.isAgg24
  z24 := Tryz.sizeOf24
  t25 := Tryz.underlying51
  a25 := Tryz.isAgg51
  z25 := Tryz.sizeOf51
  v25 := Tryz.zeroValue51
  t39 := Tryz.underlying166
  a39 := Tryz.isAgg166
  z39 := Tryz.sizeOf166
  v39 := Tryz.zeroValue166
  t45 := Tryz.underlying191
  a45 := Tryz.isAgg191
  z45 := Tryz.sizeOf191
  v45 := Tryz.zeroValue191
  t46 := Tryz.underlying192
  a46 := Tryz.isAgg192
  z46 := Tryz.sizeOf192
  v46 := Tryz.zeroValue192
  t50 := Tryz.underlying145
  a50 := Tryz.isAgg145
  z50 := Tryz.sizeOf145
  v50 := Tryz.zeroValue145
  t53 := Tryz.underlying118
  a53 := Tryz.isAgg118
  z53 := Tryz.sizeOf118
  v53 := Tryz.zeroValue118
  t55 := Tryz.underlying199
  a55 := Tryz.isAgg199
  z55 := Tryz.sizeOf199
  v55 := Tryz.zeroValue199
  t66 := Tryz.underlying204
  a66 := Tryz.isAgg204
  z66 := Tryz.sizeOf204
  v66 := Tryz.zeroValue204
  t70 := Tryz.underlying63
  a70 := Tryz.isAgg63
  z70 := Tryz.sizeOf63
  v70 := Tryz.zeroValue63
  t76 := Tryz.underlying216
  a76 := Tryz.isAgg216
  z76 := Tryz.sizeOf216
  v76 := Tryz.zeroValue216
  t77 := Tryz.underlying217
  a77 := Tryz.isAgg217
  z77 := Tryz.sizeOf217
  v77 := Tryz.zeroValue217 }
end Go.Proofs
end

section
/- Walks: slices.Compare of two lists of numbers of one length. -/
namespace Go.Proofs
open Go.RowKit
attribute [local go_sem] Oper.semAt_some

set_option maxHeartbeats 1000000 in
theorem cmp67_any (x y : Int) (w : World) : Calls Tryz.prog 67 #[.int .i64 x, .int .i64 y] w fun e w' => e = .returned (.int .i64 (Lib.compareInt x y)) ∧ w' = w := by
  go_enter Tryz.func67, Tryz.ntmps67
  go_wp2
  all_goals (go_ret; refine ⟨?_, rfl⟩; unfold Lib.compareInt; (repeat' split) <;> first | rfl | (exfalso; omega))
theorem compareInt_zero {x y : Int} : Lib.compareInt x y = 0 ↔ x = y := by
  unfold Lib.compareInt
  (repeat' split) <;> constructor <;> intro h <;> first | omega | contradiction | (exfalso; omega)
/-- how two lists compare -/
def cmpB (x y : List Int) : Int := if lexB x y = true then -1 else if lexB y x = true then 1 else 0
theorem cmpB_neg {x y : List Int} : decide (cmpB x y < 0) = lexB x y := by
  unfold cmpB
  cases h : lexB x y
  · rw [if_neg (by simp)]
    split <;> rfl
  · rw [if_pos rfl]; rfl
theorem cmpB_at {x y : List Int} (hl : x.length = y.length) {k : Nat} (hk : k < x.length) (he : ∀ i, i < k → x.getD i 0 = y.getD i 0) (hne : x.getD k 0 ≠ y.getD k 0) : cmpB x y = Lib.compareInt (x.getD k 0) (y.getD k 0) := by
  have h1 := lexB_at hl hk he hne
  have h2 := lexB_at hl.symm (by omega) (fun i hi => (he i hi).symm) (Ne.symm hne)
  unfold cmpB Lib.compareInt
  rw [h1, h2]
  (repeat' split) <;> simp_all <;> omega
theorem cmpB_same {x y : List Int} (hl : x.length = y.length) (he : ∀ i, i < x.length → x.getD i 0 = y.getD i 0) : cmpB x y = 0 := by
  unfold cmpB
  rw [lexB_same hl he, lexB_same hl.symm (fun i hi => (he i (by omega)).symm)]
  rfl

set_option maxRecDepth 100000 in
set_option maxHeartbeats 4000000 in
theorem compare22_any (w : World) (x y : List Int) (A B : Option Addr) (c d : Nat) (hA : Ints w A x) (hB : Ints w B y) (hl : x.length = y.length) :
    Calls Tryz.prog 22 #[.slice A x.length c, .slice B y.length d] w fun e w' => e = .returned (.int .i64 (cmpB x y)) ∧ w' = w := by
  have HA := Lib.hid hA
  have HB := Lib.hid hB
  have hal := hA.len
  have HLL := Lib.hid hl
  have HAT : Hid (∀ k, k < x.length → (∀ i, i < k → x.getD i 0 = y.getD i 0) → x.getD k 0 ≠ y.getD k 0 → cmpB x y = Lib.compareInt (x.getD k 0) (y.getD k 0)) := Lib.hid fun k hk he hne => cmpB_at hl hk he hne
  have HSM : Hid ((∀ i, i < x.length → x.getD i 0 = y.getD i 0) → cmpB x y = 0) := Lib.hid (cmpB_same hl)
  obtain ⟨r, hr⟩ : ∃ r, cmpB x y = r := ⟨_, rfl⟩
  rw [hr] at HAT HSM ⊢
  rw [← hl]
  clear hA hB hl hr
  go_enter Tryz.func22, Tryz.ntmps22
  (repeat (first | go_big_skip | go_big_want | go_big_move | go_big_op | go_step | go_upon | go_back))
  go_loopw [11] (fun i wr => ∃ k : Nat, i = .int .i64 k ∧ k ≤ x.length ∧ wr = w ∧ ∀ i, i < k → x.getD i 0 = y.getD i 0) (fun i _ => x.length - (intOf i).toNat)
  case atStart => exact ⟨0, rfl, by omega, rfl, fun i hi => absurd hi (Nat.not_lt_zero _)⟩
  case round =>
    obtain ⟨k, rfl, hk, rfl, heq⟩ := hrel
    have HEQ := Lib.hid heq
    clear heq
    by_cases hkn : k < x.length
    · have hdec : decide (k < x.length) = true := decide_eq_true hkn
      have hge : decide (x.length ≤ k) = false := decide_eq_false (by omega)
      have hge2 : decide ((x.length : Int) ≤ (k : Int)) = false := decide_eq_false (by omega)
      have hky : k < y.length := by have := HLL.out; omega
      obtain ⟨bx, ox, rfl, -, hx⟩ := HA.out.at hkn
      obtain ⟨bY, oY, rfl, -, hy⟩ := HB.out.at hky
      have x0 := hx k hkn
      have y0 := hy k hky
      have ex : x.getD k 0 = x[k] := by rw [List.getD_eq_getElem?_getD, List.getElem?_eq_getElem hkn]; rfl
      have ey : y.getD k 0 = y[k] := by rw [List.getD_eq_getElem?_getD, List.getElem?_eq_getElem hky]; rfl
      rw [← ex] at x0
      rw [← ey] at y0
      have HR := Lib.hid (HAT.out k hkn HEQ.out)
      have HNX : Hid (x.getD k 0 = y.getD k 0 → ∀ i, i < k + 1 → x.getD i 0 = y.getD i 0) := Lib.hid fun h i hi => by
        by_cases e : i = k
        · rw [e]; exact h
        · exact HEQ.out i (by omega)
      have i1 : (0 : Int) ≤ (k : Int) ∧ (k : Int) < (x.length : Int) := by omega
      clear hx hy ex ey
      generalize x.getD k 0 = u at *
      generalize y.getD k 0 = v at *
      obtain ⟨q, hq⟩ : ∃ q, Lib.compareInt u v = q := ⟨_, rfl⟩
      have HQ : Hid (q = 0 ↔ u = v) := Lib.hid (by rw [← hq]; exact compareInt_zero)
      have HC := Lib.hid (cmp67_any u v wr)
      rw [hq] at HC HR
      clear hq
      (repeat (first | go_big_skip | go_big_want | go_big_move | go_big_op | go_step | go_upon | go_back))
      go_at_call 67
      refine HC.out.mono ?_
      rintro e w5 ⟨rfl, rfl⟩
      dsimp only
      by_cases huv : u = v
      · have hq0 := HQ.out.2 huv
        subst hq0
        have HN2 := Lib.hid (HNX.out huv)
        clear huv HNX
        (repeat (first | go_big_skip | go_big_want | go_big_move | go_big_op | go_step | go_upon | go_back))
        exact ⟨⟨k + 1, by go_num, by omega, by trivial, HN2.out⟩, by simp [intOf]; omega⟩
      · have hqn : (q != 0) = true := by
          simp only [bne_iff_ne, ne_eq]
          exact fun e => huv (HQ.out.1 e)
        have hrr := HR.out huv
        have HRR := Lib.hid hrr
        clear huv HNX hrr
        (repeat (first | go_big_skip | go_big_want | go_big_move | go_big_op | go_step | go_upon | go_back))
        go_ret
        exact ⟨by rw [HRR.out]; rfl, rfl⟩
    · have hdec : decide (k < x.length) = false := decide_eq_false hkn
      have hr0 := HSM.out (fun i hi => HEQ.out i (by omega))
      have HR0 := Lib.hid hr0
      clear hr0
      (repeat (first | go_big_skip | go_big_want | go_big_move | go_big_op | go_step | go_upon | go_back))
      go_ret
      exact ⟨by rw [HR0.out]; rfl, rfl⟩
end Go.Proofs
end

section
/- The program's SortFunc over a list of lines of the call's own. -/
namespace Go.Proofs
open Go.RowKit Go.Sort Go.Shelf

theorem grownBy_sortedV {α : Type} [Inhabited α] {enc : α → Value} {w : World} {g n : Nat} {os : Array Obj} (d : Array α) : w.grownBy (sortWorld enc w g 0 n d os) (some g) := by
  unfold sortWorld
  refine ⟨rfl, rfl, rfl, by simp, fun k hk hne => ?_⟩
  rw [heap_grow_old _ _ (by simpa using hk)]
  have : g ≠ k := fun e => hne (by rw [e])
  simp [putRow, mapBlock, Sort.ahead, Array.getElem?_modify, this]
theorem swo_lex {row : Nat → List Int} {m : Nat} (hm : ∀ i, (row i).length = m) : SWO (ltOf fun i j => cmpB (row i) (row j)) := by
  have e : ∀ x y, ltOf (fun i j => cmpB (row i) (row j)) x y = lexB (row x) (row y) := fun x y => cmpB_neg
  refine ⟨fun x => by rw [e]; exact lexB_irrefl _, fun x y z h1 h2 => ?_, fun x y z h1 h2 => ?_⟩
  · rw [e] at *; exact lexB_trans h1 h2
  · rw [e] at *
    cases h : lexB (row x) (row z)
    · rfl
    · cases h3 : lexB (row y) (row x)
      · have := lexB_total (by rw [hm, hm]) h1 h3
        rw [this] at h; rw [h] at h2; cases h2
      · have := lexB_trans h3 h; rw [this] at h2; cases h2
theorem ints_blocks' {w w' : World} {A : Option Addr} {l : List Int} (h : Ints w A l) (hs : w.heap.size ≤ w'.heap.size) (hb : ∀ b o, A = some ⟨b, o, none⟩ → b < w.heap.size → w'.heap[b]? = w.heap[b]?) : Ints w' A l := by
  refine ⟨h.1, ?_⟩
  rcases h.2 with h | ⟨b, o, rfl, hb', hc⟩
  · exact .inl h
  · refine .inr ⟨b, o, rfl, Nat.lt_of_lt_of_le hb' hs, fun i hi => ?_⟩
    obtain ⟨vs, h1, h2, h3⟩ := hc i hi
    exact ⟨vs, h1, h2, fun j hj => (World.cell?_of_block (hb b o rfl hb')).trans (h3 j hj)⟩
set_option maxHeartbeats 1000000 in
theorem sort_any (W : World) (base : Nat) {g cap : Nat} {vs : List Value} {L : List (List Int)} {m : Nat} (hown : W.ownsRow base 24 1 (.slice (some ⟨g, 0, none⟩) L.length cap) L.length vs) (h0 : 0 < L.length) (hl : L.length ≤ 1000)
    (hrows : ∀ i, (hi : i < L.length) → ∃ A c, vs[i]? = some (.slice A L[i].length c) ∧ Ints W A L[i] ∧ ∀ b o, A = some ⟨b, o, none⟩ → base ≤ b ∧ g ≠ b) (hlen : ∀ x ∈ L, x.length = m) (hnd : L.Nodup) :
    Calls Tryz.prog 58 #[.slice (some ⟨g, 0, none⟩) L.length cap, .func (.func 22) #[] #[]] W fun e w' => e = .returned (.tuple #[]) ∧ W.grownBy w' (some g) ∧ ∃ L', L'.Perm L ∧ SortedL L' ∧ ∀ X' : World, (∀ b, base ≤ b → b < w'.heap.size → X'.heap[b]? = w'.heap[b]?) → w'.heap.size ≤ X'.heap.size → Lists X' (some ⟨g, 0, none⟩) L' := by
  have hvl : vs.length = L.length := by simpa using hown.1
  let cl : Nat → Nat := fun i => if i < L.length then i else 0
  have hcl : ∀ i, cl i < L.length := fun i => by simp only [cl]; split <;> omega
  let enc : Nat → Value := fun i => vs.getD (cl i) (.slice none 0 0)
  let row : Nat → List Int := fun i => L.getD (cl i) []
  have hrow : ∀ i, row i = L[cl i]'(hcl i) := fun i => by simp only [row]; rw [List.getD_eq_getElem?_getD, List.getElem?_eq_getElem (hcl i)]; rfl
  have henc : ∀ i, ∃ A c, enc i = .slice A (row i).length c ∧ Ints W A (row i) ∧ ∀ b o, A = some ⟨b, o, none⟩ → base ≤ b ∧ g ≠ b := fun i => by
    obtain ⟨A, c, h1, h2, h3⟩ := hrows (cl i) (hcl i)
    refine ⟨A, c, ?_, by rw [hrow]; exact h2, h3⟩
    simp only [enc]
    rw [List.getD_eq_getElem?_getD, h1, hrow]
    rfl
  have hm : ∀ i, (row i).length = m := fun i => by rw [hrow]; exact hlen _ (List.getElem_mem _)
  have h1 : OneCell enc := fun i => by obtain ⟨A, c, e, _⟩ := henc i; rw [e]; rfl
  have hgb : g < W.heap.size := (hown.lt g rfl).2
  have hH : Holds enc W g 0 (Array.range L.length) := fun j hj => by
    have hj' : j < L.length := by simpa using hj
    have e1 : (Array.range L.length)[j]! = j := by rw [getElem!_pos _ j hj]; simp
    refine ⟨?_, hown.frozenAt _⟩
    rw [e1]
    have := hown.cells (g := g) rfl j (enc j) (by simp only [enc, cl, if_pos hj']; rw [List.getD_eq_getElem?_getD, List.getElem?_eq_getElem (by omega)]; rfl)
    rw [Addr.add_lit] at this
    exact this
  have hcmp : CmpReads Tryz.prog 22 #[] enc (fun i j => cmpB (row i) (row j)) g 0 (Array.range L.length).size W := fun k os dk _ x y => by
    obtain ⟨A, c, e1, i1, n1⟩ := henc x
    obtain ⟨B, d, e2, i2, n2⟩ := henc y
    have hg := grownBy_sortedV (enc := enc) (w := W) (g := g) (n := k) (os := os) dk
    have := compare22_any (sortWorld enc W g 0 k dk os) (row x) (row y) A B c d (ints_grown i1 hg fun b o e h => (n1 b o e).2 (by injection h with h; exact h.symm)) (ints_grown i2 hg fun b o e h => (n2 b o e).2 (by injection h with h; exact h.symm)) (by rw [hm, hm])
    rw [← e1, ← e2] at this
    exact this.mono fun e w' ⟨h, h'⟩ => ⟨h, 0, h'⟩
  have hs := Any.slices_SortFunc laySort enc h1 (fun i j => cmpB (row i) (row j)) (swo_lex hm) 22 #[] g 0 cap (Array.range L.length) W (fun args w => by simp [go_sem]) hcmp.lays hH hgb (by simp; omega)
  rw [Array.size_range] at hs
  refine hs.mono ?_
  rintro e w' ⟨he, d', k, os, ⟨hsz, -, hperm⟩, hsrt, rfl⟩
  rw [Array.size_range] at hsz
  have hg := grownBy_sortedV (enc := enc) (w := W) (g := g) (n := k) (os := os) d'
  have hp : d'.toList.Perm (List.range L.length) := by
    have e1 : (d'.extract 0 L.length).toList = d'.toList := by rw [← hsz]; simp
    have e2 : ((Array.range L.length).extract 0 L.length).toList = List.range L.length := by
      have : (Array.range L.length).extract 0 L.length = Array.range L.length := by
        have h := Array.extract_size (xs := Array.range L.length)
        rwa [Array.size_range] at h
      rw [this]; simp
    rw [e1, e2] at hperm
    exact hperm
  have hmap : (List.range L.length).map row = L := by
    apply List.ext_getElem (by simp)
    intro i h1 h2
    simp only [List.getElem_map, List.getElem_range]
    rw [hrow]
    simp only [cl, if_pos h2]
  have hL' : (d'.toList.map row).Perm L := by have := hp.map row; rwa [hmap] at this
  have hget : ∀ j, (hj : j < L.length) → d'[j]! = d'.toList[j]'(by simpa [hsz] using hj) := fun j hj => by rw [getElem!_pos _ j (by omega)]; simp
  refine ⟨he, hg, d'.toList.map row, hL', ?_, ?_⟩
  · unfold SortedL
    rw [List.pairwise_iff_getElem]
    intro i j hi hj hij
    simp only [List.length_map, Array.length_toList, hsz] at hi hj
    have hil : i < d'.toList.length := by simpa [hsz] using hi
    have hjl : j < d'.toList.length := by simpa [hsz] using hj
    simp only [List.getElem_map]
    have h := hsrt i j (Nat.zero_le _) hij hj
    rw [hget i hi, hget j hj] at h
    have h' : lexB (row d'.toList[j]) (row d'.toList[i]) = false := by rw [← cmpB_neg]; exact h
    cases h2 : lexB (row d'.toList[i]) (row d'.toList[j])
    · have heq := lexB_total (by rw [hm, hm]) h2 h'
      have hnd' : (d'.toList.map row).Nodup := hL'.nodup_iff.2 hnd
      have := (List.pairwise_iff_getElem.1 hnd') i j (by simpa [hsz] using hi) (by simpa [hsz] using hj) hij
      simp only [List.getElem_map] at this
      exact absurd heq this
    · rfl
  · intro X' hX hsX
    refine ⟨by simp [hsz]; omega, .inr ⟨g, 0, rfl, Nat.lt_of_lt_of_le hgb (Nat.le_trans hg.size hsX), fun i hi => ?_⟩⟩
    have hi' : i < L.length := by simpa [hsz] using hi
    have hil : i < d'.toList.length := by simpa [hsz] using hi'
    obtain ⟨A, c, e1, i1, n1⟩ := henc (d'.toList[i]'(by simpa [hsz] using hi'))
    have hc := cell?_putRow enc (Sort.ahead W k) g 0 (Array.range L.length) d' hH (by simp [hsz]) i (by omega)
    refine ⟨[enc d'.toList[i]], rfl, ⟨A, c, ?_, ?_⟩, fun j hj => ?_⟩
    · rw [e1]; simp
    · simp only [List.getElem_map]
      exact ints_blocks' (ints_grown i1 hg fun b o e h => (n1 b o e).2 (by injection h with h; exact h.symm)) hsX fun b o e hb => hX b (n1 b o e).1 hb
    · have : j = 0 := by simpa using hj
      subst this
      rw [hget i hi'] at hc
      refine (World.cell?_of_block (hX g (hown.lt g rfl).1 (Nat.lt_of_lt_of_le hgb hg.size))).trans ?_
      show (sortWorld enc W g 0 k d' os).cell? ⟨g, 0 + i * 1 + 0, none⟩ = some (enc _)
      unfold sortWorld
      rw [cell?_grow _ _ _ (by simpa [putRow, mapBlock, Sort.ahead] using hgb)]
      simpa using hc

/-- The library's sort at no element. -/
theorem insertion_none (p : Option Addr) (cap : Nat) (fv : Value) (w : World) :
    Calls Tryz.prog 150 #[.slice p 0 cap, .int .i64 0, .int .i64 0, fv] w fun e w' => e = .returned (.tuple #[]) ∧ w' = w := by
  go_enter Tryz.func150, Tryz.ntmps150
  go_wp2
  refine wp_loop_rounds 1 ?_
  rw [rounds_succ]
  go_wp2
  go_end0
  exact ⟨rfl, rfl⟩
theorem pdq_none (p : Option Addr) (cap : Nat) (lim : Int) (fv : Value) (w : World) :
    Calls Tryz.prog 119 #[.slice p 0 cap, .int .i64 0, .int .i64 0, .int .i64 lim, fv] w fun e w' => e = .returned (.tuple #[]) ∧ w' = w := by
  have hi := fun W => insertion_none p cap fv W
  go_enter Tryz.func119, Tryz.ntmps119
  go_wp2
  refine wp_loop_rounds 1 ?_
  rw [rounds_succ]
  go_wp2_with (go_at_call 150; refine (hi _).mono ?_; rintro e w' ⟨rfl, rfl⟩)
  (try simp only [Exit.inBlock, Exit.then]); refine bodyPost_ret (results_none rfl _ _ _) rfl ?_
  exact ⟨rfl, rfl⟩
theorem sort_none (p : Option Addr) (cap : Nat) (fv : Value) (w : World) :
    Calls Tryz.prog 58 #[.slice p 0 cap, fv] w fun e w' => e = .returned (.tuple #[]) ∧ w' = w := by
  have hp := fun lim W => pdq_none p cap lim fv W
  have hl : ∀ W, Calls Tryz.prog 120 #[.int .u64 0] W fun e w' => e = .returned (.int .i64 (Lib.bitLen 0 : Nat)) ∧ w' = W := fun W => by
    have h := Any.bits_Len (SlLaysF0.n15.bits (P := Tryz.prog) (ρ := renSort) { laySort with }) 0 W (by omega) (by omega)
    exact h
  go_enter Tryz.func58, Tryz.ntmps58
  go_wp2_with (first | (go_at_call 120; refine (hl _).mono ?_; rintro e w' ⟨rfl, rfl⟩) | (go_at_call 119; refine (hp _ _).mono ?_; rintro e w' ⟨rfl, rfl⟩))
  go_end0
  exact ⟨rfl, rfl⟩
end Go.Proofs
end

section
/- Walks: All and Ends where the treaty is not right. -/
namespace Go.Proofs
open Go.RowKit


/-- A list of lists that stands as long as the blocks from base on do. -/
def ListsF (base : Nat) (w : World) (A : Option Addr) (L : List (List Int)) : Prop := ∀ X' : World, (∀ b, base ≤ b → b < w.heap.size → X'.heap[b]? = w.heap[b]?) → w.heap.size ≤ X'.heap.size → Lists X' A L
theorem ListsF.lists {base : Nat} {w : World} {A : Option Addr} {L : List (List Int)} (h : ListsF base w A L) : Lists w A L := h w (fun _ _ _ => rfl) (Nat.le_refl _)
theorem ListsF.grown {base : Nat} {w w' : World} {A : Option Addr} {L : List (List Int)} (h : ListsF base w A L) {row : Option Nat} (hg : w.grownBy w' row) (hr : ∀ k, row = some k → k < base) : ListsF base w' A L := fun X' h1 h2 =>
  h X' (fun b hb1 hb2 => (h1 b hb1 (Nat.lt_of_lt_of_le hb2 hg.size)).trans (hg.block b hb2 (fun e => by have := hr b e.symm; omega))) (Nat.le_trans hg.size h2)
theorem ListsF.aft {base : Nat} {w w' : World} {A : Option Addr} {L : List (List Int)} (h : ListsF base w A L) (ha : Aft w w') : ListsF base w' A L := h.grown (only_aft (only_refl w none) ha) (fun _ e => by cases e)
def AllF (w : World) (T : Treaty) (e : Ending) (w' : World) : Prop :=
  Aft w w' ∧ ∃ A c, e = .returned (.tuple #[.slice A (allX T).length c, .int .i64 (allE T)]) ∧ ListsF w.heap.size w' A (allX T)
theorem AllF.all {w w' : World} {T : Treaty} {e : Ending} (h : AllF w T e w') : AllU w T e w' := let ⟨h1, A, c, h2, h3⟩ := h; ⟨h1, A, c, h2, h3.lists⟩
theorem allF_err {w w' : World} {T : Treaty} {e : Ending} {E : Int} (hE : allE T = E) (h0 : E ≠ 0) (h : e = .returned (.tuple #[.slice none 0 0, .int .i64 E])) (ha : Aft w w') : AllF w T e w' := by
  have hx : allX T = [] := by unfold allX; rw [if_neg (by rw [hE]; exact h0)]
  rw [AllF, hx, hE]
  exact ⟨ha, none, 0, h, fun X' _ _ => lists_nil X'⟩

set_option maxRecDepth 100000 in
set_option maxHeartbeats 4000000 in
theorem all_bad (w : World) (T : Treaty) (a1 a2 a3 a4 : Option Addr) (c1 c2 c3 c4 : Nat) (hT : TRep w T a1 a2 a3 a4) (hc : checkE T ≠ 0) : Calls Tryz.prog 15 #[.agg #[.int .i64 T.places, .slice a1 T.ways.length c1, .slice a2 T.words.length c2, .slice a3 T.starts.length c3, .slice a4 T.legs.length c4]] w (AllF w T) := by
  have hE : allE T = checkE T := by unfold allE; rw [if_neg hc]
  have HFI : Hid (∀ W, Aft w W → AllF w T (.returned (.tuple #[.slice none 0 0, .int .i64 (checkE T)])) W) := Lib.hid fun W ha => allF_err hE hc rfl ha
  have hne : (checkE T != 0) = true := by simpa using hc
  have HCK : Hid (∀ W, Aft w W → Calls Tryz.prog 37 #[.agg #[.int .i64 T.places, .slice a1 T.ways.length c1, .slice a2 T.words.length c2, .slice a3 T.starts.length c3, .slice a4 T.legs.length c4]] W fun e w' => e = .returned (.int .i64 (checkE T)) ∧ Aft W w') := Lib.hid fun W ha => check_any T a1 a2 a3 a4 c1 c2 c3 c4 W (hT.aft ha)
  clear hT hc hE
  generalize checkE T = E at *
  go_enter Tryz.func15, Tryz.ntmps15
  have hA0 : Aft w (((w.alloc (.cells #[.int .i64 T.places, .slice a1 T.ways.length c1, .slice a2 T.words.length c2, .slice a3 T.starts.length c3, .slice a4 T.legs.length c4] 27)).alloc (.cells #[.slice none 0 0] 37)).alloc (.cells #[.int .i64 0] 38)) := ((Aft.alloc w _).then_alloc _).then_alloc _
  have hb0 := ((Blk.new w 27 #[.int .i64 T.places, .slice a1 T.ways.length c1, .slice a2 T.words.length c2, .slice a3 T.starts.length c3, .slice a4 T.legs.length c4]).alloc (.cells #[.slice none 0 0] 37)).alloc (.cells #[.int .i64 0] 38)
  have hr0 := (Blk.new (w.alloc (.cells #[.int .i64 T.places, .slice a1 T.ways.length c1, .slice a2 T.words.length c2, .slice a3 T.starts.length c3, .slice a4 T.legs.length c4] 27)) 37 #[.slice none 0 0]).alloc (.cells #[.int .i64 0] 38)
  have hs0 := Blk.new ((w.alloc (.cells #[.int .i64 T.places, .slice a1 T.ways.length c1, .slice a2 T.words.length c2, .slice a3 T.starts.length c3, .slice a4 T.legs.length c4] 27)).alloc (.cells #[.slice none 0 0] 37)) 38 #[.int .i64 0]
  simp only [World.size_alloc] at hr0 hs0
  have HA0 := Lib.hid hA0
  have HB0 := Lib.hid hb0
  have HR0 := Lib.hid hr0
  have HS0 := Lib.hid hs0
  clear hA0 hb0 hr0 hs0
  go_wp2_with (go_at_call 37; refine (HCK.out _ HA0.out).mono ?_; rintro e w1 ⟨rfl, ha1⟩; have hb1 := HB0.out.aft ha1; have hlt1 := hb1.lt; obtain ⟨k0, k1, k2, k3, k4⟩ := box_cells hb1; have HA1 := Lib.hid ha1; have hr1 := HR0.out.aft ha1; have hs1 := HS0.out.aft ha1; have kr : w1.cell? ⟨w.heap.size + 1, 0, none⟩ = some (.slice none 0 0) := hr1.cell 0; have fr := hr1.frozen 0; have lr := hr1.lt; have ks : w1.cell? ⟨w.heap.size + 1 + 1, 0, none⟩ = some (.int .i64 0) := hs1.cell 0; have fs := hs1.frozen 0; have ls := hs1.lt; have HR1 := Lib.hid hr1; have HS1 := Lib.hid hs1; clear ha1 hr1 hs1)
  have z4 : ((w1.setCell ⟨w.heap.size + 1, 0, none⟩ (.slice none 0 0)).setCell ⟨w.heap.size + 1 + 1, 0, none⟩ (.int .i64 E)).cell? ⟨w.heap.size + 1, 0, none⟩ = some (.slice none 0 0) := ((HR1.out.store 0 _).far (p := ⟨w.heap.size + 1 + 1, 0, none⟩) (by show w.heap.size + 1 ≠ w.heap.size + 1 + 1; omega) _).cell 0
  have z5 : ((w1.setCell ⟨w.heap.size + 1, 0, none⟩ (.slice none 0 0)).setCell ⟨w.heap.size + 1 + 1, 0, none⟩ (.int .i64 E)).cell? ⟨w.heap.size + 1 + 1, 0, none⟩ = some (.int .i64 E) := ((HS1.out.far (p := ⟨w.heap.size + 1, 0, none⟩) (by show w.heap.size + 1 + 1 ≠ w.heap.size + 1; omega) _).store 0 _).cell 0
  (try simp only [Exit.noGoto_ret, Exit.inBlock, Exit.then])
  refine bodyPost_ret (v := .tuple #[.slice none 0 0, .int .i64 E]) (by simp [results, Tryz.results15, go_sem, z4, z5]) rfl ?_
  exact HFI.out _ (((HA0.out.trans HA1.out).then_setCell (p := ⟨w.heap.size + 1, 0, none⟩) (by show w.heap.size ≤ w.heap.size + 1; omega) _).then_setCell (p := ⟨w.heap.size + 1 + 1, 0, none⟩) (by show w.heap.size ≤ w.heap.size + 1 + 1; omega) _)
end Go.Proofs
end
