/- Own texts, merged: Pal Xl Lsp Rfs Mrp Mrq Mrw. -/
import Derived.Test.YtobpdobneocckaaGreatDoorH20
import Derived.Scope
import Derived.LoopIn
import Derived.LoopNIn
import Derived.Deep.OwnRows
import Derived.BigGuard
import Derived.Deep.CutRange
set_option linter.unusedSimpArgs false
set_option linter.unusedVariables false
section
/- Walks: the program's All. -/
namespace Go.Proofs
open Go.RowKit
attribute [local go_sem] Oper.semAt_some

theorem sortB (W : World) (base : Nat) {L : List (List Int)} {vA : Option Addr} {vc m : Nat} (h : OutB W base L (.slice vA L.length vc)) (hl : L.length ≤ 1000) (hlen : ∀ x ∈ L, x.length = m) (hnd : L.Nodup) :
    Calls Tryz.prog 58 #[.slice vA L.length vc, .func (.func 22) #[] #[]] W fun e w' => e = .returned (.tuple #[]) ∧ ∃ (row : Option Nat) (L' : List (List Int)), W.grownBy w' row ∧ (∀ g, row = some g → base ≤ g) ∧ L'.Perm L ∧ SortedL L' ∧ ∀ X' : World, (∀ b, base ≤ b → b < w'.heap.size → X'.heap[b]? = w'.heap[b]?) → w'.heap.size ≤ X'.heap.size → Lists X' vA L' := by
  obtain ⟨vs, h1, h2⟩ := h
  by_cases h0 : L.length = 0
  · have e : L = [] := List.eq_nil_of_length_eq_zero h0
    subst e
    refine (sort_none vA vc _ W).mono ?_
    rintro e w' ⟨rfl, rfl⟩
    exact ⟨rfl, none, [], World.grownBy.refl _ _, (fun g h => by cases h), List.Perm.refl _, List.Pairwise.nil, fun _ _ _ => ⟨by simp, .inl rfl⟩⟩
  · have hge := (h1.lt · ·)
    obtain ⟨g, cap, cur, e, hg, -⟩ : ∃ g cap cur, Value.slice vA L.length vc = .slice (some ⟨g, 0, none⟩) L.length cap ∧ base ≤ g ∧ W.heap[g]? = some (.cells cur 24 (0, 0)) := by
      rcases h1.2 with ⟨_, h'⟩ | ⟨g, cap, cur, e, hg, hh, _⟩
      · omega
      · exact ⟨g, cap, cur, e, hg, hh⟩
    cases e
    refine (sort_any W base h1 (by omega) hl (fun i hi => ?_) hlen hnd).mono ?_
    · obtain ⟨A, c, e1, e2, e3⟩ := h2 i hi
      exact ⟨A, c, e1, e2, fun b o e => ⟨(e3 b o e).1, fun hgb => (e3 b o e).2 (by rw [← hgb]; rfl)⟩⟩
    · rintro e w' ⟨he, hgr, L', hp, hs, hli⟩
      exact ⟨he, some g, L', hgr, (fun k e => by cases e; exact hg), hp, hs, hli⟩

/-- Between two rounds of All. -/
structure AllI (w : World) (T : Treaty) (a1 a2 a3 a4 : Option Addr) (c1 c2 c3 c4 : Nat) (S k : Nat) (W : World) : Prop where
  aft : Aft w W
  box : Blk W w.heap.size 27 #[.int .i64 T.places, .slice a1 T.ways.length c1, .slice a2 T.words.length c2, .slice a3 T.starts.length c3, .slice a4 T.legs.length c4]
  r2 : ∃ c, Blk W (w.heap.size + 1) 37 #[c]
  r3 : ∃ c, Blk W (w.heap.size + 2) 38 #[c]
  mapc : Blk W (S + 1) 104 #[.map (some S)]
  box2 : Blk W (S + 3) 27 #[.int .i64 T.places, .slice a1 T.ways.length c1, .slice a2 T.words.length c2, .slice a3 T.starts.length c3, .slice a4 T.legs.length c4]
  out : ∃ v L, Blk W (S + 2) 37 #[v] ∧ OutB W (S + 7) L v ∧ SetM W S L.length L ∧ AMI T k [] 0 L
/-- A round has returned. -/
structure AllZ (w : World) (T : Treaty) (W : World) : Prop where
  aft : Aft w W
  out : 200 < (allL T).length ∧ Blk W (w.heap.size + 1) 37 #[.slice none 0 0] ∧ Blk W (w.heap.size + 2) 38 #[.int .i64 11]
theorem AllI.three {w : World} {T : Treaty} {a1 a2 a3 a4 : Option Addr} {c1 c2 c3 c4 : Nat} {S : Nat} (hS : w.heap.size + 2 < S) : Three (S + 4) (fun k W => AllI w T a1 a2 a3 a4 c1 c2 c3 c4 S k W) := by
  rintro k W W' r ⟨h1, h2, ⟨c, h3⟩, ⟨c', h4⟩, h5, h6, v, L, g1, g2, g3, g4⟩ hg hr1 hr2
  exact ⟨h1.grown hg (fun k e => by cases e; omega), h2.grown hg (fun e => by cases e; omega), ⟨c, h3.grown hg (fun e => by cases e; omega)⟩, ⟨c', h4.grown hg (fun e => by cases e; omega)⟩, h5.grown hg (fun e => by cases e; omega), h6.grown hg (fun e => by cases e; omega),
    v, L, g1.grown hg (fun e => by cases e; omega), g2.kept hg (fun k e => by cases e; omega), g3.kept hg (fun e => by cases e; omega), g4⟩
theorem AllZ.three {w : World} {T : Treaty} {S : Nat} (hS : w.heap.size + 2 < S) (c : Code) : Three (S + 4) (fun (_ : Unit) W => c = .ret ∧ AllZ w T W) := by
  rintro _ W W' r ⟨h0, h1, h2, h3, h4⟩ hg hr1 hr2
  exact ⟨h0, h1.grown hg (fun k e => by cases e; omega), h2, h3.grown hg (fun e => by cases e; omega), h4.grown hg (fun e => by cases e; omega)⟩

set_option maxRecDepth 100000 in
set_option maxHeartbeats 2000000 in
theorem all_good (w : World) (T : Treaty) (a1 a2 a3 a4 : Option Addr) (c1 c2 c3 c4 : Nat) (hT : TRep w T a1 a2 a3 a4) (hc : checkE T = 0) : Calls Tryz.prog 15 #[.agg #[.int .i64 T.places, .slice a1 T.ways.length c1, .slice a2 T.words.length c2, .slice a3 T.starts.length c3, .slice a4 T.legs.length c4]] w (AllF w T) := by
  have ok := checkE_ok hc
  have HC := Lib.hid hc
  have HT := Lib.hid hT
  have OK := Lib.hid ok
  have HCK : Hid (∀ W, Aft w W → Calls Tryz.prog 37 #[.agg #[.int .i64 T.places, .slice a1 T.ways.length c1, .slice a2 T.words.length c2, .slice a3 T.starts.length c3, .slice a4 T.legs.length c4]] W fun e w' => e = .returned (.int .i64 (checkE T)) ∧ Aft W w') := Lib.hid fun W ha => check_any T a1 a2 a3 a4 c1 c2 c3 c4 W (HT.out.aft ha)
  rw [HC.out] at HCK
  clear hc hT ok
  refine (callsIn_wide (n := 5)).1 ?_
  refine callsIn_of_wp_marks Tryz.func15 rfl trivial ?_ rfl
  simp only [Tryz.ntmps15, List.size_toArray, List.length_cons, List.length_nil, Nat.reduceAdd, Nat.reduceSub, Array.replicate_succ, Array.replicate_zero, List.push_toArray, List.append_toArray, List.nil_append, List.cons_append]
  refine wpIn_wide.2 ?_
  have hA0 : Aft w (((w.alloc (.cells #[.int .i64 T.places, .slice a1 T.ways.length c1, .slice a2 T.words.length c2, .slice a3 T.starts.length c3, .slice a4 T.legs.length c4] 27)).alloc (.cells #[.slice none 0 0] 37)).alloc (.cells #[.int .i64 0] 38)) := ((Aft.alloc w _).then_alloc _).then_alloc _
  have hb0 := ((Blk.new w 27 #[.int .i64 T.places, .slice a1 T.ways.length c1, .slice a2 T.words.length c2, .slice a3 T.starts.length c3, .slice a4 T.legs.length c4]).alloc (.cells #[.slice none 0 0] 37)).alloc (.cells #[.int .i64 0] 38)
  have hr0 := (Blk.new (w.alloc (.cells #[.int .i64 T.places, .slice a1 T.ways.length c1, .slice a2 T.words.length c2, .slice a3 T.starts.length c3, .slice a4 T.legs.length c4] 27)) 37 #[.slice none 0 0]).alloc (.cells #[.int .i64 0] 38)
  have hs0 := Blk.new ((w.alloc (.cells #[.int .i64 T.places, .slice a1 T.ways.length c1, .slice a2 T.words.length c2, .slice a3 T.starts.length c3, .slice a4 T.legs.length c4] 27)).alloc (.cells #[.slice none 0 0] 37)) 38 #[.int .i64 0]
  simp only [World.size_alloc] at hr0 hs0
  have HA0 := Lib.hid hA0
  have HB0 := Lib.hid hb0
  have HR0 := Lib.hid hr0
  have HS0 := Lib.hid hs0
  clear hA0 hb0 hr0 hs0
  have hmm := @run_makeMap Tryz.prog
  go_upto_region 6 with (go_at_call 37; refine (HCK.out _ HA0.out).mono ?_; rintro e w1 ⟨rfl, ha1⟩; have hb1 := HB0.out.aft ha1; have hlt1 := hb1.lt; obtain ⟨k0, k1, k2, k3, k4⟩ := box_cells hb1; have HA1 := Lib.hid ha1; clear ha1)
  have hA3 : Aft w (((w1.alloc (.map #[] 0)).alloc (.cells #[.map (some w1.heap.size)] 104)).alloc (.cells #[.slice none 0 0] 37)) := (((HA0.out.trans HA1.out).then_alloc _).then_alloc _).then_alloc _
  have hb3 := ((hb1.alloc (.map #[] 0)).alloc (.cells #[.map (some w1.heap.size)] 104)).alloc (.cells #[.slice none 0 0] 37)
  have hr3 := (((HR0.out.aft HA1.out).alloc (.map #[] 0)).alloc (.cells #[.map (some w1.heap.size)] 104)).alloc (.cells #[.slice none 0 0] 37)
  have hs3 := (((HS0.out.aft HA1.out).alloc (.map #[] 0)).alloc (.cells #[.map (some w1.heap.size)] 104)).alloc (.cells #[.slice none 0 0] 37)
  have hm3 := ((SetM.made w1).aft (Aft.alloc _ (.cells #[.map (some w1.heap.size)] 104))).aft (Aft.alloc _ (.cells #[.slice none 0 0] 37))
  have hc3 := (Blk.new (w1.alloc (.map #[] 0)) 104 #[.map (some w1.heap.size)]).alloc (.cells #[.slice none 0 0] 37)
  have ho3 := Blk.new ((w1.alloc (.map #[] 0)).alloc (.cells #[.map (some w1.heap.size)] 104)) 37 #[.slice none 0 0]
  have hz3 : (((w1.alloc (.map #[] 0)).alloc (.cells #[.map (some w1.heap.size)] 104)).alloc (.cells #[.slice none 0 0] 37)).heap.size = w1.heap.size + 3 := by simp
  have hS2 : w.heap.size + 2 < w1.heap.size := (HS0.out.aft HA1.out).lt
  simp only [World.size_alloc] at hc3 ho3
  clear k0 k1 k2 k3 k4 hb1 hlt1
  generalize (((w1.alloc (.map #[] 0)).alloc (.cells #[.map (some w1.heap.size)] 104)).alloc (.cells #[.slice none 0 0] 37)) = w3 at *
  obtain ⟨k0, k1, k2, k3, k4⟩ := box_cells hb3
  have hlt3 := hb3.lt
  go_upto_block 0 with (go_at_call 48; refine (readings_any T a1 a2 a3 a4 c1 c2 c3 c4 _).mono ?_; rintro e w4 ⟨rfl, rfl⟩)
  have hA4 : Aft w (w3.alloc (.cells #[.int .i64 T.places, .slice a1 T.ways.length c1, .slice a2 T.words.length c2, .slice a3 T.starts.length c3, .slice a4 T.legs.length c4] 27)) := hA3.then_alloc _
  have he4 := Blk.new w3 27 #[.int .i64 T.places, .slice a1 T.ways.length c1, .slice a2 T.words.length c2, .slice a3 T.starts.length c3, .slice a4 T.legs.length c4]
  have hI0 : AllI w T a1 a2 a3 a4 c1 c2 c3 c4 w1.heap.size 0 (w3.alloc (.cells #[.int .i64 T.places, .slice a1 T.ways.length c1, .slice a2 T.words.length c2, .slice a3 T.starts.length c3, .slice a4 T.legs.length c4] 27)) := ⟨hA4, hb3.alloc _, ⟨_, hr3.alloc _⟩, ⟨_, hs3.alloc _⟩, hc3.alloc _, by rw [← hz3]; exact he4, _, [], ho3.alloc _, OutB.nil _ _, hm3.aft (Aft.alloc _ _), AMI.start T⟩
  have hz4 : (w3.alloc (.cells #[.int .i64 T.places, .slice a1 T.ways.length c1, .slice a2 T.words.length c2, .slice a3 T.starts.length c3, .slice a4 T.legs.length c4] 27)).heap.size = w1.heap.size + 4 := by simp [hz3]
  have HI0 := Lib.hid hI0
  clear k0 k1 k2 k3 k4 hlt3 hA3 hb3 hr3 hs3 hm3 hc3 ho3 hA4 he4 hI0 HA1 HR0 HS0 HB0 HA0 hz3
  generalize w3.alloc (.cells #[.int .i64 T.places, .slice a1 T.ways.length c1, .slice a2 T.words.length c2, .slice a3 T.starts.length c3, .slice a4 T.legs.length c4] 27) = w4 at *
  generalize w1.heap.size = S at *
  refine wp_block ?_
  refine (wpIn_wide (n := 5)).1 ?_
  refine wpIn_range3 (gf := 106) (lb := #[.pointer (some ⟨S + 3, 0, none⟩)]) rfl (fun args w => by simp [go_sem]) (iter109 _ (S + 3) _ T a2 c2 OK.out) (fun k W0 W v r o h hr => h.put hr o)
    (fun k W => AllI w T a1 a2 a3 a4 c1 c2 c3 c4 S k W) (fun c W => c = .ret ∧ AllZ w T W) (by rw [hz4]; exact AllI.three hS2) (fun c => by rw [hz4]; exact AllZ.three hS2 c) (fun k W h => ⟨(box_cells h.box2).2.2.1, (HT.out.aft h.aft).words⟩) HI0.out
    (fun v => { tmps := #[.agg #[.int .i64 T.places, .slice a1 T.ways.length c1, .slice a2 T.words.length c2, .slice a3 T.starts.length c3, .slice a4 T.legs.length c4], .pointer (some ⟨w.heap.size, 0, none⟩), .pointer (some ⟨w.heap.size + 1, 0, none⟩), .pointer (some ⟨w.heap.size + 1 + 1, 0, none⟩), .int .i64 0, .pointer (some ⟨S + 1, 0, none⟩), .pointer (some ⟨S + 1 + 1, 0, none⟩), v, undef, undef, undef, undef, undef, .agg #[.int .i64 T.places, .slice a1 T.ways.length c1, .slice a2 T.words.length c2, .slice a3 T.starts.length c3, .slice a4 T.legs.length c4], .int .i64 0, .int .i64 0, .bool false, undef, .map (some S), .agg #[.int .i64 T.places, .slice a1 T.ways.length c1, .slice a2 T.words.length c2, .slice a3 T.starts.length c3, .slice a4 T.legs.length c4], .func (.func 106) #[] #[.pointer (some ⟨S + 3, 0, none⟩)], v, undef, undef, undef, undef, undef, undef, undef, undef, undef, undef, undef, undef, undef, undef, undef, undef, undef, undef, undef, undef, undef, undef, undef, undef, undef, undef, undef, undef, undef, undef, undef, undef], defers := [] }) ?assign ?body ?done ?stop
  case assign =>
    intro l v W K hK
    gi_wp2_with fail
    exact hK
  case body =>
    intro ll k v W0 W hk hI ha hB hv
    have hdl : (dig (lensOf T) k).length ≤ 6 := by rw [dig_len]; simp only [lensOf, List.length_map]; exact OK.out.nwords
    obtain ⟨AR, cR, rfl, _, hir⟩ := own_ints hv (by omega)
    have hTW := HT.out.aft (hI.aft.trans ha)
    have hro := readOk_iff.2 (dig_ok _ _ OK.out.lens hk)
    have HOP := Lib.hid (opened_any W T a1 a2 a3 a4 c1 c2 c3 c4 (dig (lensOf T) k) AR cR hTW hir OK.out hro)
    have hk' : k < (readingsL T).length := by rw [readingsL_len]; exact hk
    have hRK : (readingsL T).getD k [] = dig (lensOf T) k := by rw [List.getD_eq_getElem?_getD, List.getElem?_eq_getElem hk', Option.getD_some, readingsL_get]
    have hRM : dig (lensOf T) k ∈ readingsL T := by rw [← readingsL_get T hk']; exact List.getElem_mem hk'
    have HNX : Hid (∀ M L, M = (linesL T (leadsF T (dig (lensOf T) k))).take 201 → AMI T k M M.length L → L.length ≤ 200 → AMI T (k + 1) [] 0 L) := Lib.hid fun M L hM h hL => h.next OK.out (by rw [hRK]; exact hM) hL
    have HUN : Hid (∀ x ∈ (linesL T (leadsF T (dig (lensOf T) k))).take 201, x ∈ unionL T) := Lib.hid fun x hx => by
      unfold unionL
      exact List.mem_flatMap.2 ⟨_, hRM, List.mem_of_mem_take hx⟩
    have HLD : Hid (∀ w5 D, Aft W w5 → Desk w5 D T a1 a2 a3 a4 c1 c2 c3 c4 (leadsF T (dig (lensOf T) k)) → Calls Tryz.prog 56 #[.pointer (some ⟨D, 0, none⟩), .int .i64 201] w5 fun e w' => ∃ (M : List (List Int)) (mA : Option Addr) (mc : Nat) (bb : Bool) (vsM : List Value), M = (linesL T (leadsF T (dig (lensOf T) k))).take 201 ∧ e = .returned (.tuple #[.slice mA M.length mc, .bool bb]) ∧ Aft w5 w' ∧ OwnLs w' w5.heap.size (.slice mA M.length mc) vsM M) := Lib.hid fun w5 D h5 hd => (linesD_any w5 T a1 a2 a3 a4 c1 c2 c3 c4 _ D 201 hd (hTW.starts.aft h5) OK.out.starts OK.out.nlegs OK.out.p2 OK.out.p1 (by decide)).mono fun e w' ⟨ha6, vM, he, vsM, hls⟩ => by
      obtain ⟨mA, mc, hvM⟩ := own_slice2 hls.own
      subst hvM
      exact ⟨_, mA, mc, _, vsM, rfl, he, ha6, hls⟩
    have HII := Lib.hid hI
    have HAA := Lib.hid ha
    have hbW := hI.box.aft ha
    obtain ⟨k0, k1, k2, k3, k4⟩ := box_cells hbW
    have hltW := hbW.lt
    rw [hz4] at hB
    have hsW : S + 7 ≤ W.heap.size := by have := ha.size; omega
    clear hTW hro hI hv ha hir hbW hRK hRM hk' hmm
    generalize dig (lensOf T) k = R at *
    refine wpIn_block ?_
    refine wpIn_seq_k fun K1 H1 => ?_
    refine wpIn_region_of_list (by kernel_rfl) ?_
    go_wp2_with (first
      | (go_at_call 49; refine HOP.out.mono ?_; rintro e w5 ⟨D, cs, rfl, hD, ha5, hbD, hgD⟩; have hd5 := hgD.desk hbD; have HD5 := Lib.hid hd5; have HA5 := Lib.hid ha5; clear hbD hgD hd5 ha5 HOP)
      | (go_at_call 56; refine (HLD.out w5 D HA5.out HD5.out).mono ?_; rintro e w6 ⟨M, mA, mc, bb, vsM, hM, rfl, ha6, hls⟩; have HLS := Lib.hid hls; have HA6 := Lib.hid (HA5.out.trans ha6); have HMM := Lib.hid hM; clear hls ha6 hM))
    change K1 _ _
    refine H1 _ _ ?_
    clear H1
    have hbM : S + 7 ≤ w5.heap.size := by have := HA5.out.size; omega
    have hWM := HA5.out.size
    generalize w5.heap.size = bM at *
    have hM201 : M.length ≤ 201 := by rw [HMM.out, List.length_take]; omega
    rw [← HMM.out] at HUN
    clear k0 k1 k2 k3 k4 hltW HD5
    have HL0 : Hid (∃ L v, AllL w T a1 a2 a3 a4 c1 c2 c3 c4 S k bM M W w6 w6 0 L v) := Lib.hid (by
      obtain ⟨h1, h2, ⟨q3, h3⟩, ⟨q4, h4⟩, h5, h6, v, L, g1, g2, g3, g4⟩ := HII.out
      have ha := HAA.out.trans HA6.out
      refine ⟨L, v, ⟨Kept3.of_aft HA6.out (by omega), h1.trans ha, h2.aft ha, ⟨q3, h3.aft ha⟩, ⟨q4, h4.aft ha⟩, h5.aft ha, h6.aft ha, Nat.le_refl _⟩, RowsK.refl _ _, g1.aft ha, g2.aft ha, fun g hg => .inl ?_, g3.aft ha, g4.into M⟩
      have := (g2.ge g hg).2
      have := HAA.out.size
      omega)
    gi_wp2_with fail
    gi_loopw [31] (fun i wr => ∃ j L v, i = .int .i64 (Nat.cast j) ∧ j ≤ M.length ∧ AllL w T a1 a2 a3 a4 c1 c2 c3 c4 S k bM M W w6 wr j L v) (fun i _ => M.length - (intOf i).toNat)
    case atStart =>
      obtain ⟨L, v, h⟩ := HL0.out
      exact ⟨0, L, v, rfl, by omega, h⟩
    case round =>
      obtain ⟨j, L, v, rfl, hj, hal⟩ := hrel
      have HAL := Lib.hid hal
      by_cases hjm : j < M.length
      · have hun := HUN.out M[j] (List.getElem_mem hjm)
        have hN := unionL_n OK.out hun
        have hl1 : M[j].length ≤ 1000 := by have := hN.2.1; omega
        obtain ⟨g, cM, A, d, e, hg1, hg2, hcell, hint, hblk⟩ := HLS.out.row_at hjm hl1
        cases e
        have hcw : wr.cell? ⟨g, j, none⟩ = some (.slice A M[j].length d) := (World.cell?_of_block (hal.rows g hg1 hg2)).trans hcell
        have hgw : g < wr.heap.size := Nat.lt_of_lt_of_le hg2 hal.base.size
        have hiw : Ints wr A M[j] := ints_blocks hint hal.base.size (fun b o e => hal.rows b (hblk b o e).1 (hblk b o e).2)
        have HTO := Lib.hid (told_any wr M[j] A d hiw hN.1 hN.2.1 hN.2.2)
        have HMJ : Hid (M.getD j [] = M[j]) := Lib.hid (by rw [List.getD_eq_getElem?_getD, List.getElem?_eq_getElem hjm]; rfl)
        have HLOOK : Hid (∀ w7, Aft wr w7 → (Instr.lookup 104 (.map (some S)) (toldV M[j]) false).run Tryz.prog w7 = .ok (.bool (decide (M[j] ∈ L))) w7) := Lib.hid fun w7 h7 => (HAL.out.later hS2 hsW h7).set.look hN
        have HPUT : Hid (∀ w7, Aft wr w7 → ∃ w', (Instr.mapUpdate 104 (.map (some S)) (toldV M[j]) (.bool true)).run Tryz.prog w7 = .ok () w' ∧ SetM w' S (L.length + 1) (L ++ [M[j]]) ∧ w7.grownBy w' (some S)) := Lib.hid fun w7 h7 => (HAL.out.later hS2 hsW h7).set.put hN (by have := HAL.out.ami.few; omega)
        have HUNL := Lib.hid hun
        have HBLK := Lib.hid hblk
        have HIW := Lib.hid hiw
        have hll := hiw.len
        unfold toldV at HLOOK HPUT
        obtain ⟨s, hs⟩ : ∃ s, Value.string ⟨(toldL M[j]).toArray⟩ = Value.string s := ⟨_, rfl⟩
        rw [hs] at HTO HLOOK HPUT
        generalize M[j] = l at *
        have i1 : (0 : Int) ≤ (j : Int) ∧ (j : Int) < (M.length : Int) := by omega
        clear hun hN hl1 hint hblk hiw hcell hal hs
        have hdec : decide ((j : Int) < (M.length : Int)) = true := by simp; omega
        have HHW := Lib.hid hsW
        refine wpIn_seq_k fun K2 H2 => ?_
        refine wpIn_region_of_list (by kernel_rfl) ?_
        go_wp2_with fail
        change K2 _ _
        refine H2 _ _ ?_
        clear H2
        refine wpIn_seq_k fun K2 H2 => ?_
        refine wpIn_cond_true (by simp [Act.eval, hdec]) ?_
        refine wpIn_skip ?_
        change K2 _ _
        refine H2 _ _ ?_
        clear H2 hdec
        refine wpIn_seq_k fun K2 H2 => ?_
        refine wpIn_block ?_
        refine wpIn_seq_k fun K3 H3 => ?_
        refine wpIn_region_of_list (by kernel_rfl) ?_
        go_wp2_with fail
        change K3 _ _
        refine H3 _ _ ?_
        clear H3
        refine wpIn_seq_k fun K3 H3 => ?_
        refine wpIn_region_of_list (by kernel_rfl) ?_
        go_wp2_with (go_at_call 57; refine HTO.out.mono ?_; rintro e w7 ⟨rfl, ha7⟩; have HA7 := Lib.hid ha7; clear ha7)
        change K3 _ _
        refine H3 _ _ ?_
        clear H3 hcw hgw
        have hal7 := HAL.out.later hS2 hsW HA7.out
        have m7 : w7.cell? ⟨S + 1, 0, none⟩ = some (.map (some S)) := hal7.base.mapc.cell 0
        have hlt7 := hal7.base.mapc.lt
        have hlk := HLOOK.out w7 HA7.out
        have HAL7 := Lib.hid hal7
        clear hal7
        by_cases hm : l ∈ L
        · rw [decide_eq_true hm] at hlk
          refine wpIn_seq_k fun K3 H3 => ?_
          refine wpIn_region_of_list (by kernel_rfl) ?_
          go_wp2_with fail
          change K3 _ _
          refine H3 _ _ ?_
          clear H3
          refine wpIn_cond_false (by simp [Act.eval]) ?_
          refine wpIn_skip ?_
          change K2 _ _
          refine H2 _ _ ?_
          clear H2
          gi_wp2_with fail
          exact ⟨⟨j + 1, L, v, by go_num, by omega, HAL7.out.has HMJ.out hm⟩, by simp [intOf]; omega⟩
        · rw [decide_eq_false hm] at hlk
          obtain ⟨w8, hup, hset8, hg8⟩ := HPUT.out w7 HA7.out
          have HSET := Lib.hid hset8
          have HG8 := Lib.hid hg8
          refine wpIn_seq_k fun K3 H3 => ?_
          refine wpIn_region_of_list (by kernel_rfl) ?_
          go_wp2_with fail
          change K3 _ _
          refine H3 _ _ ?_
          clear H3 hlk
          refine wpIn_cond_true (by simp [Act.eval]) ?_
          refine wpIn_seq_k fun K3 H3 => ?_
          refine wpIn_region_of_list (by kernel_rfl) ?_
          go_wp2_with fail
          change K3 _ _
          refine H3 _ _ ?_
          clear H3 hup m7 hlt7 hset8 hg8
          have hb8 : Blk w8 (S + 2) 37 #[v] := HAL7.out.cell.grown HG8.out (fun e => by injection e with e; omega)
          have c8 : w8.cell? ⟨S + 2, 0, none⟩ = some v := hb8.cell 0
          have hlt8 := hb8.lt
          obtain ⟨vs, h1, h2⟩ := (HAL7.out.out.kept HG8.out (fun g e => by cases e; omega)).aft (Aft.alloc w8 (.cells #[.slice A l.length d] 24))
          have H1' := Lib.hid h1
          have H2' := Lib.hid h2
          have hsz8 := Nat.le_trans HAL7.out.base.kept.size HG8.out.size
          have hb9 := hb8.alloc (.cells #[.slice A l.length d] 24)
          have HB9 := Lib.hid hb9
          have hLn : L.length ≤ 1000000 := by have := HAL.out.ami.few; omega
          obtain ⟨vA, vc, rfl⟩ := HAL7.out.out.slice
          clear h1 h2 hb8 hb9
          refine wpIn_region_of_list (by kernel_rfl) ?_
          go_wp2_with (at_builtin; refine wpList_app1 ty41 rfl _ _ rfl (by simp; omega) rfl H1'.out rfl (Blk.new w8 24 #[.slice A l.length d]) rfl (fun u hu => by simp at hu; subst hu; rfl) hLn (by decide) ?_; intro v' w10 hown hg10 hat; obtain ⟨nA, nc, rfl⟩ := own_slice2 hown; have HOWN := Lib.hid hown; have HG10 := Lib.hid hg10; have HAT := Lib.hid hat; have hne : some (S + 2) ≠ (Value.slice vA L.length vc).ownBlock := (fun e => by have := (HAL7.out.out.ge _ e.symm).1; omega); have hb10 := HB9.out.grown hg10 hne; have t10 : w10.cell? ⟨S + 2, 0, none⟩ = some (.slice vA L.length vc) := hb10.cell 0; have f10 := hb10.frozen 0; have l10 := hb10.lt; clear hb10 hown hg10 hat)
          change K2 _ _
          refine H2 _ _ ?_
          clear H2 t10 f10 l10
          have hal8 := HAL7.out.push OK.out hS2 HHW.out hbM HMJ.out hm HUNL.out ((ints_grown (HIW.out.aft HA7.out) HG8.out (fun b o e h => by injection h with h; have := (HBLK.out b o e).1; omega)).aft (Aft.alloc _ _)) HBLK.out HSET.out HG8.out H1'.out H2'.out HOWN.out HG10.out HAT.out
          gi_wp2_with fail
          exact ⟨⟨j + 1, L ++ [l], _, by go_num, by omega, hal8⟩, by simp [intOf]; omega⟩
      · obtain rfl : j = M.length := by omega
        have hdec : decide ((M.length : Int) < (M.length : Int)) = false := by simp
        have hcell : wr.cell? ⟨S + 2, 0, none⟩ = some v := hal.cell.cell 0
        have hlt := hal.cell.lt
        obtain ⟨vA, vc, rfl⟩ := hal.out.slice
        have hfew := hal.ami.few
        clear hal
        by_cases h200 : 200 < L.length
        · have hd2 : decide ((200 : Int) < (L.length : Int)) = true := by simp; omega
          obtain ⟨v4, h4⟩ := HAL.out.base.r2
          obtain ⟨v5, h5⟩ := HAL.out.base.r3
          have q4 : wr.cell? ⟨w.heap.size + 1, 0, none⟩ = some v4 := h4.cell 0
          have q5 : wr.cell? ⟨w.heap.size + 1 + 1, 0, none⟩ = some v5 := h5.cell 0
          have z4 : wr.frozen? ⟨w.heap.size + 1, 0, none⟩ = false := h4.frozen 0
          have z5 : wr.frozen? ⟨w.heap.size + 1 + 1, 0, none⟩ = false := h5.frozen 0
          have l4 := h4.lt
          have l5 := h5.lt
          have HG4 := Lib.hid h4
          have HG5 := Lib.hid h5
          clear h4 h5
          gi_wp2_with fail
          change Kept3 w4.heap.size W ((wr.setCell ⟨w.heap.size + 1, 0, none⟩ (.slice none 0 0)).setCell ⟨w.heap.size + 2, 0, none⟩ (.int .i64 11)) ∧ Code.ret = .ret ∧ AllZ w T ((wr.setCell ⟨w.heap.size + 1, 0, none⟩ (.slice none 0 0)).setCell ⟨w.heap.size + 2, 0, none⟩ (.int .i64 11))
          rw [hz4]
          refine ⟨(HAL.out.base.kept.setCell (.inl (by show w.heap.size + 1 < S + 4; omega)) _).setCell (.inl (by show w.heap.size + 2 < S + 4; omega)) _, rfl, (HAL.out.base.aft.then_setCell (p := ⟨w.heap.size + 1, 0, none⟩) (by show w.heap.size ≤ w.heap.size + 1; omega) _).then_setCell (p := ⟨w.heap.size + 2, 0, none⟩) (by show w.heap.size ≤ w.heap.size + 2; omega) _, ?_, (HG4.out.store 0 _).far (by show w.heap.size + 1 ≠ w.heap.size + 2; omega) _, (HG5.out.far (by show w.heap.size + 2 ≠ w.heap.size + 1; omega) _).store 0 _⟩
          have := HAL.out.ami.nd.length_le_of_subset fun y hy => ((allL_spec T).2 y).2 (HAL.out.ami.sub y hy)
          omega
        · have hd2 : decide ((200 : Int) < (L.length : Int)) = false := by simp; omega
          have hq := HNX.out M L HMM.out HAL.out.ami (by omega)
          have HQ := Lib.hid hq
          clear hq
          gi_wp2_with fail
          change Kept3 w4.heap.size W wr ∧ AllI w T a1 a2 a3 a4 c1 c2 c3 c4 S (k + 1) wr
          rw [hz4]
          exact ⟨HAL.out.base.kept, HAL.out.base.aft, HAL.out.base.box, HAL.out.base.r2, HAL.out.base.r3, HAL.out.base.mapc, HAL.out.base.box2, _, L, HAL.out.cell, HAL.out.out, HAL.out.set, HQ.out⟩
  case done =>
    intro D W hD hI hK
    have hDz : D = S + 4 := by omega
    have hDW : D < W.heap.size := (Array.getElem?_eq_some_iff.1 hK).1
    obtain ⟨h1, h2, ⟨q3, h3⟩, ⟨q4, h4⟩, h5, h6, v, L, g1, g2, g3, g4⟩ := hI
    obtain ⟨vA, vc, rfl⟩ := g2.slice
    rw [← readingsL_len] at g4
    have hLE := @unionL_len T
    have hL200 : L.length ≤ 1000 := by have := g4.few; omega
    have HSR := Lib.hid (sortB W (S + 7) g2 hL200 (fun x hx => hLE x (g4.sub x hx)) g4.nd)
    have HFI : Hid (∀ L' X, L'.Perm L → SortedL L' → ListsF w.heap.size X vA L' → Aft w X → AllF w T (.returned (.tuple #[.slice vA L.length vc, .int .i64 0])) X) := Lib.hid fun L' X hp hs hl ha => by
      have e := g4.all hp hs
      have e0 : L'.length = L.length := hp.length_eq
      have e2 : allE T = 0 := by
        unfold allE
        rw [if_pos HC.out, e, e0, if_pos (by have := g4.few; omega)]
      have e3 : allX T = L' := by unfold allX; rw [if_pos e2, e]
      unfold AllF
      rw [e3, e2, e0]
      exact ⟨ha, vA, vc, rfl, hl⟩
    have c1 : W.cell? ⟨S + 2, 0, none⟩ = some (.slice vA L.length vc) := g1.cell 0
    have l1 := g1.lt
    have HG1 := Lib.hid g1
    have HH1 := Lib.hid h1
    have HH3 := Lib.hid h3
    have HH4 := Lib.hid h4
    have HKD := Lib.hid hK
    clear h1 h2 h3 h4 h5 h6 g1 g2 g3 g4 hLE hK
    go_wp2_with (go_at_call 58; refine HSR.out.mono ?_; rintro e X ⟨rfl, row, L', hgr, hrow, hperm, hsrt, hli⟩; have b1 := HG1.out.grown hgr (fun e => by have := hrow _ e.symm; omega); have b3 := HH3.out.grown hgr (fun e => by have := hrow _ e.symm; omega); have b4 := HH4.out.grown hgr (fun e => by have := hrow _ e.symm; omega); have x1 : X.cell? ⟨S + 2, 0, none⟩ = some (.slice vA L.length vc) := b1.cell 0; have m1 := b1.lt; have x3 : X.cell? ⟨w.heap.size + 1, 0, none⟩ = some q3 := b3.cell 0; have x4 : X.cell? ⟨w.heap.size + 1 + 1, 0, none⟩ = some q4 := b4.cell 0; have z3 := b3.frozen 0; have z4 : X.frozen? ⟨w.heap.size + 1 + 1, 0, none⟩ = false := b4.frozen 0; have m3 := b3.lt; have m4 : w.heap.size + 1 + 1 < X.heap.size := b4.lt; have HB3 := Lib.hid b3; have HB4 := Lib.hid b4; have HGR := Lib.hid hgr; have HPE := Lib.hid hperm; have HSO := Lib.hid hsrt; have HLI := Lib.hid hli; clear b1 b3 b4 hgr hperm hsrt hli)
    subst hDz
    clear x1 x3 x4 z3 z4 c1
    have hrS : ∀ k, k < S + 7 → some k ≠ row := fun k hk e => by have := hrow _ e.symm; omega
    have HKX : Hid (((X.setCell ⟨w.heap.size + 1, 0, none⟩ (.slice vA L.length vc)).setCell ⟨w.heap.size + 1 + 1, 0, none⟩ (.int .i64 0)).heap[S + 4]? = some (.deferred (some []))) := Lib.hid (by
      rw [Below.heap_setCell _ _ _ _ (by show S + 4 ≠ w.heap.size + 1 + 1; omega), Below.heap_setCell _ _ _ _ (by show S + 4 ≠ w.heap.size + 1; omega)]
      exact (HGR.out.block (S + 4) hDW (hrS _ (by omega))).trans HKD.out)
    have hb3 := (HB3.out.store 0 (.slice vA L.length vc)).far (p := ⟨w.heap.size + 1 + 1, 0, none⟩) (by show w.heap.size + 1 ≠ w.heap.size + 1 + 1; omega) (.int .i64 0)
    have hb4 := (HB4.out.far (p := ⟨w.heap.size + 1, 0, none⟩) (by show w.heap.size + 2 ≠ w.heap.size + 1; omega) (.slice vA L.length vc)).store 0 (.int .i64 0)
    have hgA := grownBy_setCell' X (w.heap.size + 1) (.slice vA L.length vc)
    have hgB := grownBy_setCell' (X.setCell ⟨w.heap.size + 1, 0, none⟩ (.slice vA L.length vc)) (w.heap.size + 1 + 1) (.int .i64 0)
    have haX := ((HH1.out.grown HGR.out (fun k e => by have := hrow k e; omega)).grown hgA (fun k e => by cases e; omega)).grown hgB (fun k e => by cases e; omega)
    have hsA := hgA.size
    have hsB := hgB.size
    have hX2 : ∀ b, S + 7 ≤ b → b < X.heap.size → ((X.setCell ⟨w.heap.size + 1, 0, none⟩ (.slice vA L.length vc)).setCell ⟨w.heap.size + 1 + 1, 0, none⟩ (.int .i64 0)).heap[b]? = X.heap[b]? := fun b h1 h2 =>
      (hgB.block b (by omega) (fun e => by injection e with e; omega)).trans (hgA.block b h2 (fun e => by injection e with e; omega))
    generalize (X.setCell ⟨w.heap.size + 1, 0, none⟩ (.slice vA L.length vc)) = XA at *
    generalize (XA.setCell ⟨w.heap.size + 1 + 1, 0, none⟩ (.int .i64 0)) = XB at *
    have hgC := grownBy_putObj' XB (S + 4) (.deferred none)
    have y4 := (hb3.grown hgC (fun e => by injection e with e; omega)).cell 0
    have y5 := (hb4.grown hgC (fun e => by injection e with e; omega)).cell 0
    have hli : ListsF w.heap.size (XB.putObj (S + 4) (.deferred none)) vA L' := fun X' h hs => HLI.out X' (fun b h1 h2 => (h b (by omega) (by have := hgC.size; omega)).trans ((hgC.block b (by omega) (fun e => by injection e with e; omega)).trans (hX2 b h1 h2))) (by have := hgC.size; omega)
    have hall := HFI.out L' _ HPE.out HSO.out hli (haX.grown hgC (fun k e => by cases e; omega))
    refine ⟨by simp, .inl ⟨_, _, rfl, run_takeDeferred HKX.out, ?_⟩⟩
    refine ⟨.tuple #[.slice vA L.length vc, .int .i64 0], ?_, hall⟩
    generalize (XB.putObj (S + 4) (.deferred none)) = Y at *
    have y4' : Y.cell? ⟨w.heap.size + 1, 0, none⟩ = some (.slice vA L.length vc) := y4
    have y5' : Y.cell? ⟨w.heap.size + 1 + 1, 0, none⟩ = some (.int .i64 0) := y5
    simp [results, Tryz.results15, go_sem, y4', y5']
  case stop =>
    rintro D c W hD ⟨rfl, hX⟩ hK
    have hDz : D = S + 4 := by omega
    refine wpIn_ret ?_
    obtain ⟨ha, h1, h2, h3⟩ := hX
    have hAX := ha.grown (grownBy_putObj' W D (.deferred none)) (fun k e => by cases e; omega)
    have y4 := (h2.grown (grownBy_putObj' W D (.deferred none)) (fun e => by cases e; omega)).cell 0
    have y5 := (h3.grown (grownBy_putObj' W D (.deferred none)) (fun e => by cases e; omega)).cell 0
    have hE : allE T = 11 := by unfold allE; rw [if_pos HC.out, if_neg (by omega)]
    refine ⟨by simp, .inl ⟨_, _, rfl, run_takeDeferred hK, ?_⟩⟩
    refine ⟨.tuple #[.slice none 0 0, .int .i64 11], ?_, allF_err hE (by decide) rfl hAX⟩
    generalize (W.putObj D (.deferred none)) = X at *
    have y4' : X.cell? ⟨w.heap.size + 1, 0, none⟩ = some (.slice none 0 0) := y4
    have y5' : X.cell? ⟨w.heap.size + 1 + 1, 0, none⟩ = some (.int .i64 11) := y5
    simp [results, Tryz.results15, go_sem, y4', y5']
theorem allTopF_any (w : World) (T : Treaty) (a1 a2 a3 a4 : Option Addr) (c1 c2 c3 c4 : Nat) (hT : TRep w T a1 a2 a3 a4) : Calls Tryz.prog 15 #[.agg #[.int .i64 T.places, .slice a1 T.ways.length c1, .slice a2 T.words.length c2, .slice a3 T.starts.length c3, .slice a4 T.legs.length c4]] w (AllF w T) := by
  by_cases hc : checkE T = 0
  · exact all_good w T a1 a2 a3 a4 c1 c2 c3 c4 hT hc
  · exact all_bad w T a1 a2 a3 a4 c1 c2 c3 c4 hT hc
theorem allTop_any (w : World) (T : Treaty) (a1 a2 a3 a4 : Option Addr) (c1 c2 c3 c4 : Nat) (hT : TRep w T a1 a2 a3 a4) : Calls Tryz.prog 15 #[.agg #[.int .i64 T.places, .slice a1 T.ways.length c1, .slice a2 T.words.length c2, .slice a3 T.starts.length c3, .slice a4 T.legs.length c4]] w (AllU w T) :=
  (allTopF_any w T a1 a2 a3 a4 c1 c2 c3 c4 hT).mono fun _ _ h => h.all
end Go.Proofs
end

section
/- Walks: whether all lists are among others. -/
namespace Go.Proofs
open Go.RowKit

theorem containsFunc_lists {α : Type} (R : World → α → List Value → Prop) (K : FuncId) (cap : List Value) (p : α → Bool) (A : Option Addr) (l : List α) (c : Nat) (w : World) (hA : RowsP w A 1 R l)
    (hK : ∀ args w, (callFunc K args).run Tryz.prog w = .ok (.enter K args) w)
    (hp : ∀ x ∈ l, ∀ v0, R w x [v0] → Asks Tryz.prog K cap w v0 (p x)) :
    Calls Tryz.prog 25 #[.slice A l.length c, .func (.func K) #[] cap.toArray] w fun e w' => e = .returned (.bool (l.any p)) ∧ Aft w w' := by
  have HC := Lib.hid (indexFunc_lists R K cap p A l c w hA hK hp)
  go_enter Tryz.func25, Tryz.ntmps25
  go_wp2_with (go_at_call 70; refine HC.out.mono ?_; rintro e w' ⟨hr, ha⟩; obtain ⟨n, rfl, hn⟩ := hr.sign; clear hr; have HN := Lib.hid hn; clear hn)
  go_ret
  exact ⟨ret_bool (by have := HN.out; cases h : l.any p <;> simp_all), ha⟩

theorem runs_83 (args : Array Value) (w : World) : (callFunc 98 args).run Tryz.prog w = .ok (.enter 98 args) w := by simp [go_sem]

theorem same_any (bx : Nat) (Ax : Option Addr) (r : List Int) (cx : Nat) (Ay : Option Addr) (y : List Int) (cy : Nat) (w : World) (hx : w.cell? ⟨bx, 0, none⟩ = some (.slice Ax r.length cx)) (hr : Ints w Ax r) (hy : Ints w Ay y) :
    Calls Tryz.prog 98 #[.slice Ay y.length cy, .pointer (some ⟨bx, 0, none⟩)] w fun e w' => e = .returned (.bool (eqB r y)) ∧ Aft w w' := by
  have HE := Lib.hid (kitEqual_int Ax Ay r y cx cy w hr hy)
  go_enter Tryz.func98, Tryz.ntmps98
  go_wp2_with (go_at_call 27; refine HE.out.mono ?_; rintro e w' ⟨rfl, ha⟩)
  go_ret
  exact ⟨rfl, ha⟩

def amongB (a b : List (List Int)) : Bool := a.all fun x => b.any fun y => eqB x y

set_option maxRecDepth 100000 in
set_option maxHeartbeats 2000000 in
theorem among_any (w : World) (A A' : Option Addr) (l l' : List (List Int)) (c c' : Nat) (hA : Lists w A l) (hA' : Lists w A' l') :
    Calls Tryz.prog 42 #[.slice A l.length c, .slice A' l'.length c'] w fun e w' => e = .returned (.bool (amongB l l')) ∧ Aft w w' := by
  have hl := hA.len
  have hl' := hA'.len
  go_enter Tryz.func42, Tryz.ntmps42
  go_wp2_with fail
  go_loopw [9] (fun i wr => ∃ k : Nat, i = .int .i64 k ∧ k ≤ l.length ∧ (∀ x ∈ l.take k, (l'.any fun y => eqB x y) = true) ∧ Aft w wr) (fun i _ => l.length - (intOf i).toNat)
  case atStart => exact ⟨0, rfl, by omega, by simp, Aft.refl _⟩
  case round =>
    obtain ⟨k, rfl, hk, hh, hw⟩ := hrel
    have HH := Lib.hid hh
    clear hh
    by_cases hkl : k < l.length
    · obtain ⟨b, o, rfl, hb, hc⟩ := (hA.aft hw).at hkl
      obtain ⟨A1, c1, h1, h2⟩ := hc k hkl
      have i1 : (0 : Int) ≤ (k : Int) ∧ (k : Int) < (l.length : Int) := by omega
      have HST := Lib.hid (show (l'.any fun y => eqB l[k] y) = true → ∀ x ∈ l.take (k + 1), (l'.any fun y => eqB x y) = true from fun e x hx => by
        rw [List.take_succ_eq_append_getElem hkl, List.mem_append, List.mem_singleton] at hx
        rcases hx with hx | rfl
        · exact HH.out x hx
        · exact e)
      have HNE := Lib.hid (show (l'.any fun y => eqB l[k] y) = false → amongB l l' = false from fun e => by
        unfold amongB
        rw [List.all_eq_false]
        exact ⟨_, List.getElem_mem hkl, by rw [e]; simp⟩)
      clear hc
      generalize l[k] = r at *
      have ha3 : Aft wr (wr.alloc (.cells #[.slice A1 r.length c1] 24)) := Aft.alloc _ _
      have HC := Lib.hid (containsFunc_lists ListR 98 [.pointer (some ⟨wr.heap.size, 0, none⟩)] (fun y => eqB r y) A' l' c' (wr.alloc (.cells #[.slice A1 r.length c1] 24)) ((hA'.aft hw).aft ha3) runs_83 (fun y hy v0 hv u => by
        obtain ⟨Ay, cy, e, hyi⟩ := hv
        cases e
        exact same_any wr.heap.size A1 r c1 Ay y cy _ ((World.lat_cell _ _ _ _ (by simp)).trans (by simp)) ((h2.aft ha3).lat u) (hyi.lat u)))
      cases he : (l'.any fun y => eqB r y)
      all_goals
        rw [he] at HC
        have HE := Lib.hid he
        clear he
        go_wp2_with (go_at_call 25; refine HC.out.mono ?_; rintro e w2 ⟨rfl, ha⟩)
      · go_ret
        exact ⟨ret_bool (HNE.out HE.out).symm, (hw.then_alloc _).trans ha⟩
      · exact ⟨⟨k + 1, by go_num, by omega, HST.out HE.out, (hw.then_alloc _).trans ha⟩, by simp [intOf]; omega⟩
    · obtain rfl : k = l.length := by omega
      go_wp2_with fail
      go_ret
      refine ⟨ret_bool ?_, hw⟩
      have := HH.out
      rw [List.take_length] at this
      exact (List.all_eq_true.2 this).symm
end Go.Proofs
end

section
/- The law TreatyListed: what its calls answer, in plain words; its closures. -/
namespace Go.Proofs
open Go.RowKit

theorem allE_two {T : Treaty} (hc : checkE T = 0) : allE T = 0 ∨ allE T = 11 := by
  unfold allE
  rw [if_pos hc]
  split
  · exact .inl rfl
  · exact .inr rfl
theorem allX_zero {T : Treaty} (h : allE T = 0) : allX T = allL T := by unfold allX; rw [if_pos h]
theorem allL_few {T : Treaty} (hc : checkE T = 0) (h : allE T = 0) : (allL T).length ≤ 200 := by
  unfold allE at h
  rw [if_pos hc] at h
  split at h
  · assumption
  · exact absurd h (by decide)

theorem allZ_any (w : World) (T : Treaty) (a1 a2 a3 a4 : Option Addr) (c1 c2 c3 c4 : Nat) (hT : TRep w T a1 a2 a3 a4) : Calls Tryz.prog 15 #[.agg #[.int .i64 T.places, .slice a1 T.ways.length c1, .slice a2 T.words.length c2, .slice a3 T.starts.length c3, .slice a4 T.legs.length c4]] w fun e w' => ∃ A c, e = .returned (.tuple #[.slice A (allX T).length c, .int .i64 (allE T)]) ∧ Lists w' A (allX T) ∧ Aft w w' :=
  (allTop_any w T a1 a2 a3 a4 c1 c2 c3 c4 hT).mono fun e w' ⟨ha, A, c, he, hl⟩ => ⟨A, c, he, hl, ha⟩
end Go.Proofs
end

section
/- Walks: the reference's Fewest. -/
namespace Go.Proofs
open Go.RowKit

noncomputable def fewN (T : Treaty) : Int := if checkE T = 0 then (fewK T (prodN (lensOf T))).2 else 0

end Go.Proofs
end

section
/- The law TreatyMore: its plain part: a treaty that leads to no less. -/
namespace Go.Proofs
open Go

/-- Two treaties of one ground, of the same starts and as many legs. -/
structure Alike (T U : Treaty) : Prop where
  p : U.places = T.places
  s : U.starts = T.starts
  n : U.legs.length = T.legs.length
theorem lines_mono {T U : Treaty} (okT : TOk T) (okU : TOk U) (h : Alike T U) {f g : Nat → Nat → Nat → Bool} (hfg : ∀ i a b, f i a b = true → g i a b = true) {l : List Int} (hl : l ∈ linesL T f) : l ∈ linesL U g := by
  obtain ⟨h1, h2, h3⟩ := (mem_linesL okT.starts).1 hl
  obtain ⟨h4, h5⟩ := linedB_iff.1 h1
  refine (mem_linesL okU.starts).2 ⟨linedB_iff.2 ⟨by rw [h.n]; exact h4, fun x hx => by rw [h.p]; exact h5 x hx⟩, by rw [h.s]; exact h2, keepsTo_iff.2 fun i hi => hfg _ _ _ (keepsTo_iff.1 h3 i (by rw [← h.n]; exact hi))⟩
theorem opens_mono {T U : Treaty} (okT : TOk T) (okU : TOk U) (h : Alike T U) {f g : Nat → Nat → Nat → Bool} (hfg : ∀ i a b, f i a b = true → g i a b = true) (ho : opens T f = true) : opens U g = true := by
  cases hg : opens U g with
  | true => rfl
  | false =>
    exfalso
    have e := opens_lines.1 hg
    have hne : linesL T f ≠ [] := fun e' => by rw [opens_lines.2 e'] at ho; cases ho
    obtain ⟨l, hl⟩ := List.exists_mem_of_ne_nil _ hne
    have := lines_mono okT okU h hfg hl
    rw [e] at this
    cases this
theorem cost_mono {T U : Treaty} (okT : TOk T) (okU : TOk U) (h : Alike T U) {R R' : List Int} (hfg : ∀ i a b, leadsF T R i a b = true → leadsF U R' i a b = true) : costL U R' ≤ costL T R := by
  have h1 := yieldL_opens okT (leadsF T R) (S := yieldL T (leadsF T R)) (fun x hx => hx)
  have h2 : opens U (setS (leadsF U R') (yieldL T (leadsF T R)) U.places.toNat) = true := by
    refine opens_mono okT okU h (fun i a b hi => ?_) h1
    rw [h.p]
    unfold setS at hi ⊢
    rw [Bool.or_eq_true] at hi ⊢
    exact hi.imp (hfg i a b) id
  have h3 := opens_min okU h2
  have h4 := yieldL_len okT (leadsF T R)
  unfold costL
  omega
theorem few_le (T : Treaty) : ∀ k, k ≤ (readingsL T).length → (fewK T k).2 ≤ 11 ∧ ∀ i, i < k → (fewK T k).2 ≤ costL T ((readingsL T).getD i [])
  | 0, _ => ⟨Int.le_refl _, fun i hi => absurd hi (Nat.not_lt_zero _)⟩
  | k + 1, hk => by
    obtain ⟨h1, h2⟩ := few_le T k (by omega)
    have hk' : k < (readingsL T).length := by omega
    have hkd : (readingsL T).getD k [] = dig (lensOf T) k := by rw [List.getD_eq_getElem?_getD, List.getElem?_eq_getElem hk', readingsL_get]; rfl
    have e := fewK_succ T (k := k) (by rw [readingsL_len] at hk; omega)
    rw [← hkd] at e
    unfold fewStep at e
    by_cases hc : costL T ((readingsL T).getD k []) < (fewK T k).2
    · rw [if_pos hc] at e
      rw [e]
      refine ⟨by show costL T _ ≤ 11; omega, fun i hi => ?_⟩
      by_cases ei : i = k
      · rw [ei]; exact Int.le_refl _
      · have := h2 i (by omega); show costL T _ ≤ _; omega
    · rw [if_neg hc] at e
      rw [e]
      refine ⟨h1, fun i hi => ?_⟩
      by_cases ei : i = k
      · rw [ei]; omega
      · exact h2 i (by omega)
theorem few_at (T : Treaty) : ∀ k, k ≤ (readingsL T).length → (fewK T k).2 = 11 ∨ ∃ i, i < k ∧ (fewK T k).2 = costL T ((readingsL T).getD i [])
  | 0, _ => .inl rfl
  | k + 1, hk => by
    have hk' : k < (readingsL T).length := by omega
    have hkd : (readingsL T).getD k [] = dig (lensOf T) k := by rw [List.getD_eq_getElem?_getD, List.getElem?_eq_getElem hk', readingsL_get]; rfl
    have e := fewK_succ T (k := k) (by rw [readingsL_len] at hk; omega)
    rw [← hkd] at e
    unfold fewStep at e
    by_cases hc : costL T ((readingsL T).getD k []) < (fewK T k).2
    · rw [if_pos hc] at e
      exact .inr ⟨k, by omega, by rw [e]⟩
    · rw [if_neg hc] at e
      rw [e]
      rcases few_at T k (by omega) with h | ⟨i, h1, h2⟩
      · exact .inl h
      · exact .inr ⟨i, by omega, h2⟩
/-- More readings and more that leads: no more legs must yield. -/
theorem fewN_mono {T U : Treaty} (hT : checkE T = 0) (hU : checkE U = 0) (h : Alike T U) (hR : ∀ R ∈ readingsL T, R ∈ readingsL U ∧ ∀ i a b, leadsF T R i a b = true → leadsF U R i a b = true) : fewN U ≤ fewN T := by
  have okT := checkE_ok hT
  have okU := checkE_ok hU
  unfold fewN
  rw [if_pos hT, if_pos hU, ← readingsL_len, ← readingsL_len]
  have h1 := few_le U _ (Nat.le_refl (readingsL U).length)
  rcases few_at T _ (Nat.le_refl (readingsL T).length) with e | ⟨i, hi, e⟩
  · rw [e]; exact h1.1
  · rw [e]
    have hm : (readingsL T).getD i [] ∈ readingsL T := by rw [List.getD_eq_getElem?_getD, List.getElem?_eq_getElem hi]; exact List.getElem_mem hi
    obtain ⟨h2, h3⟩ := hR _ hm
    obtain ⟨j, hj, ej⟩ := List.getElem_of_mem h2
    have h4 := h1.2 j hj
    rw [List.getD_eq_getElem?_getD, List.getElem?_eq_getElem hj, Option.getD_some, ej] at h4
    have h5 := cost_mono okT okU h h3
    omega
/-- .. and no fewer lines. -/
theorem allL_mono {T U : Treaty} (hT : checkE T = 0) (hU : checkE U = 0) (h : Alike T U) (hR : ∀ R ∈ readingsL T, R ∈ readingsL U ∧ ∀ i a b, leadsF T R i a b = true → leadsF U R i a b = true) : ∀ l ∈ allL T, l ∈ allL U := fun l hl => by
  have hu := ((allL_spec T).2 l).1 hl
  unfold unionL at hu
  obtain ⟨R, hR0, hm⟩ := List.mem_flatMap.1 hu
  obtain ⟨h1, h2⟩ := hR R hR0
  exact ((allL_spec U).2 l).2 (List.mem_flatMap.2 ⟨R, h1, lines_mono (checkE_ok hT) (checkE_ok hU) h h2 hm⟩)
theorem allE_mono {T U : Treaty} (hT : checkE T = 0) (hU : checkE U = 0) (h : ∀ l ∈ allL T, l ∈ allL U) (hE : allE U = 0) : allE T = 0 := by
  have h1 := allL_few hU hE
  have h2 := (allL_spec T).1.nodup.length_le_of_subset h
  unfold allE
  rw [if_pos hT, if_pos (by omega)]
theorem reach_mono {E E' : Int → Int → Bool} (h : ∀ x y, E x y = true → E' x y = true) {a b : Int} (hr : ReachP E a b) : ReachP E' a b := by
  induction hr with
  | one h1 => exact .one (h _ _ h1)
  | step h1 _ ih => exact .step (h _ _ h1) ih
/-- What leads. -/
theorem leads_mono {T U : Treaty} {R R' : List Int} (hp : U.places = T.places) (hn : U.legs.length = T.legs.length) (hw : ∀ w ∈ T.ways, w ∈ U.ways)
    (hk : ∀ i, (h : i < T.legs.length) → (h' : i < U.legs.length) → (∀ x ∈ kindsAt T R T.legs[i], x ∈ kindsAt U R' U.legs[i]) ∧ ∀ x ∈ endsAt T R T.legs[i], x ∈ endsAt U R' U.legs[i]) {i a b : Nat} (h : leadsF T R i a b = true) : leadsF U R' i a b = true := by
  rw [leadsF_iff] at h ⊢
  obtain ⟨hi, ha, hr, he⟩ := h
  have hi' : i < U.legs.length := by omega
  obtain ⟨hk1, hk2⟩ := hk i hi hi'
  refine ⟨hi', by rw [hp]; exact ha, ?_, hasB_iff.2 (hk2 _ (hasB_iff.1 he))⟩
  have hE : ∀ x y : Int, edgeB T.ways (kindsAt T R T.legs[i]) x y = true → edgeB U.ways (kindsAt U R' U.legs[i]) x y = true := fun x y hxy => by
    unfold edgeB at hxy ⊢
    rw [List.any_eq_true] at hxy ⊢
    obtain ⟨w, hw1, hw2⟩ := hxy
    refine ⟨w, hw w hw1, ?_⟩
    unfold joins at hw2 ⊢
    rw [Bool.and_eq_true] at hw2 ⊢
    exact ⟨hasB_iff.2 (hk1 _ (hasB_iff.1 hw2.1)), hw2.2⟩
  exact reach_mono hE hr
theorem mem_common2 {k1 k2 : List Int} {x : Int} : x ∈ commonL k1 [k2] ↔ x ∈ k1 ∧ x ∈ k2 := by
  unfold commonL
  rw [List.foldl_cons, List.foldl_nil, List.mem_filter, hasB_iff]
theorem kinds_mono {T U : Treaty} {R R' : List Int} {l l' : Leg} (h1 : ∀ x ∈ (meanAt T R l.word).kinds, x ∈ (meanAt U R' l'.word).kinds) (h2 : l'.other = -1 ∨ l.other ≠ -1 ∧ ∀ x ∈ (meanAt T R l.other).kinds, x ∈ (meanAt U R' l'.other).kinds) : ∀ x ∈ kindsAt T R l, x ∈ kindsAt U R' l' := fun x hx => by
  unfold kindsAt at hx ⊢
  by_cases e : l.other = -1
  · rw [if_pos e] at hx
    rcases h2 with h2 | ⟨h2, _⟩
    · rw [if_pos h2]; exact h1 x hx
    · exact absurd e h2
  · rw [if_neg e] at hx
    obtain ⟨hx1, hx2⟩ := mem_common2.1 hx
    by_cases e' : l'.other = -1
    · rw [if_pos e']; exact h1 x hx1
    · rw [if_neg e']
      rcases h2 with h2 | ⟨_, h2⟩
      · exact absurd h2 e'
      · exact mem_common2.2 ⟨h1 x hx1, h2 x hx2⟩
theorem ends_mono {T U : Treaty} {R R' : List Int} {l l' : Leg} (h1 : ∀ x ∈ (meanAt T R l.word).ends, x ∈ (meanAt U R' l'.word).ends) (h2 : l'.other = -1 ∨ l.other ≠ -1 ∧ ∀ x ∈ (meanAt T R l.other).ends, x ∈ (meanAt U R' l'.other).ends) : ∀ x ∈ endsAt T R l, x ∈ endsAt U R' l' := fun x hx => by
  unfold endsAt at hx ⊢
  by_cases e : l.other = -1
  · rw [if_pos e] at hx
    rcases h2 with h2 | ⟨h2, _⟩
    · rw [if_pos h2]; exact h1 x hx
    · exact absurd e h2
  · rw [if_neg e] at hx
    obtain ⟨hx1, hx2⟩ := mem_common2.1 hx
    by_cases e' : l'.other = -1
    · rw [if_pos e']; exact h1 x hx1
    · rw [if_neg e']
      rcases h2 with h2 | ⟨_, h2⟩
      · exact absurd h2 e'
      · exact mem_common2.2 ⟨h1 x hx1, h2 x hx2⟩
end Go.Proofs
end

section
/- The law TreatyMore: the three treaties that are made of one. -/
namespace Go.Proofs
open Go

/-- As a made treaty, with a little more room. -/
structure WOk (T : Treaty) : Prop where
  p1 : 2 ≤ T.places
  p2 : T.places ≤ 8
  nways : T.ways.length ≤ 40
  nwords : T.words.length ≤ 3
  nwords1 : 1 ≤ T.words.length
  nstarts : 1 ≤ T.starts.length
  nstarts2 : T.starts.length ≤ T.places
  nlegs : T.legs.length ≤ 10
  wlen : ∀ l ∈ T.words, 1 ≤ l.length ∧ l.length ≤ 4
  ways : ∀ x ∈ T.ways, 0 ≤ x.a ∧ x.a < T.places ∧ 0 ≤ x.b ∧ x.b < T.places ∧ x.a ≠ x.b ∧ 0 ≤ x.kind ∧ x.kind < 4
  kinds : ∀ l ∈ T.words, ∀ m ∈ l, (∀ x ∈ m.kinds, 0 ≤ x ∧ x < 4) ∧ risesB m.kinds = true
  ends : ∀ l ∈ T.words, ∀ m ∈ l, (∀ x ∈ m.ends, 0 ≤ x ∧ x < T.places) ∧ risesB m.ends = true
  starts : ∀ x ∈ T.starts, 0 ≤ x ∧ x < T.places
  rstarts : risesB T.starts = true
  legs : ∀ l ∈ T.legs, 0 ≤ l.word ∧ l.word < T.words.length ∧ -1 ≤ l.other ∧ l.other < T.words.length
theorem MOk.room {T : Treaty} (h : MOk T) : WOk T := by
  obtain ⟨h1, h2, h3, h4, h5, h6, h7, h8, h9, h10, h11, h12, h13, h14, h15⟩ := h
  exact ⟨h1, h2, by omega, h4, h5, h6, h7, h8, fun l hl => by have := h9 l hl; omega, h10, h11, h12, h13, h14, h15⟩
theorem WOk.check {T : Treaty} (h : WOk T) : checkE T = 0 := by
  obtain ⟨h1, h2, h3, h4, h5, h6, h7, h8, h9, h10, h11, h12, h13, h14, h15⟩ := h
  unfold checkE
  have e1 : cntBad T = false := by
    simp only [cntBad, Bool.or_eq_false_iff, Bool.not_eq_false', fromB_iff, decide_eq_false_iff_not]
    omega
  have e2 : T.words.all (fun l => fromB l.length 1 4) = true := List.all_eq_true.2 fun l hl => fromB_iff.2 (by have := h9 l hl; omega)
  have e3 : waysErr T.places T.ways = 0 := (waysErr_zero _ _).2 fun x hx => by
    obtain ⟨g1, g2, g3, g4, g5, g6, g7⟩ := h10 x hx
    have i1 : fromB x.a 0 (T.places - 1) = true := fromB_iff.2 (by omega)
    have i2 : fromB x.b 0 (T.places - 1) = true := fromB_iff.2 (by omega)
    have i3 : fromB x.kind 0 7 = true := fromB_iff.2 (by omega)
    unfold wayErr
    rw [i1, i2, i3]
    simp [g5]
  have e4 : T.words.all (fun l => l.all fun m => m.kinds.all fun x => fromB x 0 7) = true := by
    simp only [List.all_eq_true, fromB_iff]
    intro l hl m hm x hx
    have := (h11 l hl m hm).1 x hx; omega
  have e5 : T.words.all (fun l => l.all fun m => m.ends.all fun x => fromB x 0 (T.places - 1)) = true := by
    simp only [List.all_eq_true, fromB_iff]
    intro l hl m hm x hx
    have := (h12 l hl m hm).1 x hx; omega
  have e6 : T.starts.all (fun x => fromB x 0 (T.places - 1)) = true := by
    simp only [List.all_eq_true, fromB_iff]
    intro x hx
    have := h13 x hx; omega
  have e7 : T.legs.all (legOk T.words.length) = true := by
    simp only [List.all_eq_true, legOk, fromB_iff, Bool.and_eq_true, Bool.or_eq_true, decide_eq_true_eq]
    intro l hl
    have := h15 l hl; omega
  have e8 : (T.words.all (fun l => l.all fun m => risesB m.kinds && risesB m.ends) && risesB T.starts) = true := by
    simp only [List.all_eq_true, Bool.and_eq_true]
    exact ⟨fun l hl m hm => ⟨(h11 l hl m hm).2, (h12 l hl m hm).2⟩, h14⟩
  have e9 : prodLen T.words ≤ 64 := prodLen_three _ (fun l hl => by have := h9 l hl; omega) h4
  rw [if_neg (by rw [e1]; decide), if_neg (by rw [e2]; decide), if_neg (by rw [e3]; simp), if_neg (by rw [e4]; decide), if_neg (by rw [e5]; decide), if_neg (by rw [e6]; decide), if_neg (by rw [e7]; decide), if_neg (by rw [e8]; decide), if_neg (by omega)]

/-- One meaning more, of the word w. -/
def toldT (T : Treaty) (w : Nat) (mm : Mean) : Treaty := { T with words := T.words.set w (T.words.getD w [] ++ [mm]) }
theorem told_alike (T : Treaty) (w : Nat) (mm : Mean) : Alike T (toldT T w mm) := ⟨rfl, rfl, rfl⟩
theorem told_ok {T : Treaty} (h : MOk T) {w : Nat} (hw : w < T.words.length) {mm : Mean} (hk : (∀ x ∈ mm.kinds, 0 ≤ x ∧ x < 4) ∧ risesB mm.kinds = true) (he : (∀ x ∈ mm.ends, 0 ≤ x ∧ x < T.places) ∧ risesB mm.ends = true) : WOk (toldT T w mm) := by
  obtain ⟨h1, h2, h3, h4, h5, h6, h7, h8, h9, h10, h11, h12, h13, h14, h15⟩ := h
  have hd : T.words.getD w [] = T.words[w] := by rw [List.getD_eq_getElem?_getD, List.getElem?_eq_getElem hw]; rfl
  have hm : ∀ l ∈ (toldT T w mm).words, l ∈ T.words ∨ l = T.words[w] ++ [mm] := fun l hl => by
    unfold toldT at hl
    rw [hd] at hl
    rcases List.mem_or_eq_of_mem_set hl with h | h
    · exact .inl h
    · exact .inr h
  have hlen : (toldT T w mm).words.length = T.words.length := by unfold toldT; simp
  refine ⟨h1, h2, by show T.ways.length ≤ 40; omega, by omega, by omega, h6, h7, h8, fun l hl => ?_, h10, fun l hl m hml => ?_, fun l hl m hml => ?_, h13, h14, fun l hl => by rw [hlen]; exact h15 l hl⟩
  · rcases hm l hl with h | rfl
    · have := h9 l h; omega
    · have := h9 _ (List.getElem_mem hw); simp; omega
  · rcases hm l hl with h | rfl
    · exact h11 l h m hml
    · rcases List.mem_append.1 hml with h | h
      · exact h11 _ (List.getElem_mem hw) m h
      · rw [List.mem_singleton.1 h]; exact hk
  · rcases hm l hl with h | rfl
    · exact h12 l h m hml
    · rcases List.mem_append.1 hml with h | h
      · exact h12 _ (List.getElem_mem hw) m h
      · rw [List.mem_singleton.1 h]; exact he
theorem told_leads {T : Treaty} (h : MOk T) {w : Nat} (hw : w < T.words.length) {mm : Mean} (hU : checkE (toldT T w mm) = 0) : ∀ R ∈ readingsL T, R ∈ readingsL (toldT T w mm) ∧ ∀ i a b, leadsF T R i a b = true → leadsF (toldT T w mm) R i a b = true := by
  intro R hR
  have okT := checkE_ok h.check
  have okU := checkE_ok hU
  have hd : T.words.getD w [] = T.words[w] := by rw [List.getD_eq_getElem?_getD, List.getElem?_eq_getElem hw]; rfl
  obtain ⟨hl, hx⟩ := (mem_readings okT).1 hR
  have hlen : (toldT T w mm).words.length = T.words.length := by unfold toldT; simp
  have hget : ∀ k, (hk : k < T.words.length) → (hk' : k < (toldT T w mm).words.length) → (toldT T w mm).words[k] = if w = k then T.words[w] ++ [mm] else T.words[k] := fun k hk hk' => by
    unfold toldT
    simp only [hd, List.getElem_set]
  have hmean : ∀ n : Int, 0 ≤ n → n < T.words.length → meanAt (toldT T w mm) R n = meanAt T R n := fun n h0 h1 => by
    obtain ⟨k, rfl⟩ := Int.eq_ofNat_of_zero_le h0
    have hk : k < T.words.length := by omega
    have hkR : k < R.length := by omega
    obtain ⟨g0, g1⟩ := hx k hkR hk
    obtain ⟨r, hr⟩ := Int.eq_ofNat_of_zero_le g0
    have hr' : r < T.words[k].length := by omega
    have hrU : r < (toldT T w mm).words[k].length := by
      rw [hget k hk (by omega)]
      split
      · rename_i e; subst e; simp; omega
      · exact hr'
    rw [meanAt_eq hk hkR hr hr', meanAt_eq (T := toldT T w mm) (by omega) hkR hr hrU]
    simp only [hget k hk (by omega)]
    by_cases e : w = k
    · subst e
      simp only [if_true]
      rw [List.getElem_append_left hr']
    · simp only [if_neg e]
  refine ⟨(mem_readings okU).2 ⟨by rw [hlen]; exact hl, fun k hk hk' => ?_⟩, fun i a b hi => ?_⟩
  · have hkT : k < T.words.length := by omega
    have := hx k hk hkT
    rw [hget k hkT hk']
    split
    · rename_i e; subst e; simp; omega
    · exact this
  · refine leads_mono (T := T) (U := toldT T w mm) rfl rfl (fun w hw => hw) (fun i h1 h2 => ?_) hi
    have hleg := okT.legs _ (List.getElem_mem h1)
    have e1 := hmean T.legs[i].word hleg.1 hleg.2.1
    have hso : T.legs[i].other = -1 ∨ T.legs[i].other ≠ -1 ∧ 0 ≤ T.legs[i].other ∧ T.legs[i].other < T.words.length := by
      rcases hleg.2.2 with h | h
      · exact .inl h
      · exact .inr ⟨by omega, h⟩
    refine ⟨kinds_mono (l' := T.legs[i]) (fun x hx => by rw [e1]; exact hx) (hso.imp id fun ⟨h3, h4, h5⟩ => ⟨h3, fun x hx => by rw [hmean _ h4 h5]; exact hx⟩), ends_mono (l' := T.legs[i]) (fun x hx => by rw [e1]; exact hx) (hso.imp id fun ⟨h3, h4, h5⟩ => ⟨h3, fun x hx => by rw [hmean _ h4 h5]; exact hx⟩)⟩

/-- Legs that nobody told in a second language are told in one. -/
def strictT (T : Treaty) (os : List Int) : Treaty := { T with legs := T.legs.mapIdx fun i l => if l.other = -1 then ⟨l.word, os.getD i 0⟩ else l }
theorem strict_alike (T : Treaty) (os : List Int) : Alike (strictT T os) T := ⟨rfl, rfl, by show T.legs.length = (T.legs.mapIdx _).length; simp⟩
theorem strict_ok {T : Treaty} (h : MOk T) {os : List Int} (ho : ∀ i, i < T.legs.length → 0 ≤ os.getD i 0 ∧ os.getD i 0 < T.words.length) : WOk (strictT T os) := by
  obtain ⟨h1, h2, h3, h4, h5, h6, h7, h8, h9, h10, h11, h12, h13, h14, h15⟩ := h
  refine ⟨h1, h2, by show T.ways.length ≤ 40; omega, h4, h5, h6, h7, by show (T.legs.mapIdx _).length ≤ 10; simp; exact h8, fun l hl => by have := h9 l hl; omega, h10, h11, h12, h13, h14, fun l hl => ?_⟩
  unfold strictT at hl
  obtain ⟨i, hi, rfl⟩ := List.getElem_of_mem hl
  have hi' : i < T.legs.length := by simpa using hi
  have hb := h15 _ (List.getElem_mem hi')
  have ho' := ho i hi'
  simp only [List.getElem_mapIdx]
  show 0 ≤ _ ∧ _ < (T.words.length : Int) ∧ _ ∧ _ < (T.words.length : Int)
  split
  · exact ⟨hb.1, hb.2.1, by show -1 ≤ os.getD i 0; omega, ho'.2⟩
  · exact hb
theorem strict_leads {T : Treaty} (h : MOk T) {os : List Int} : ∀ R ∈ readingsL (strictT T os), R ∈ readingsL T ∧ ∀ i a b, leadsF (strictT T os) R i a b = true → leadsF T R i a b = true := by
  intro R hR
  refine ⟨hR, fun i a b hi => ?_⟩
  refine leads_mono (T := strictT T os) (U := T) rfl (by show T.legs.length = (T.legs.mapIdx _).length; simp) (fun w hw => hw) (fun i h1 h2 => ?_) hi
  have e : (strictT T os).legs[i] = if T.legs[i].other = -1 then ⟨T.legs[i].word, os.getD i 0⟩ else T.legs[i] := by unfold strictT; simp
  rw [e]
  split
  · rename_i e1
    exact ⟨kinds_mono (fun x hx => hx) (.inl e1), ends_mono (fun x hx => hx) (.inl e1)⟩
  · rename_i e1
    exact ⟨kinds_mono (fun x hx => hx) (.inr ⟨e1, fun x hx => hx⟩), ends_mono (fun x hx => hx) (.inr ⟨e1, fun x hx => hx⟩)⟩
end Go.Proofs
end

section
/- The law TreatyMore: the wider treaty. -/
namespace Go.Proofs
open Go

theorem risesB_iff {l : List Int} : risesB l = true ↔ l.Pairwise (fun x y => x < y) := by
  constructor
  · intro h
    rw [List.pairwise_iff_getElem]
    intro i j hi hj hij
    have step : ∀ d i, (h1 : i + d + 1 < l.length) → l[i] < l[i + d + 1] := by
      intro d
      induction d with
      | zero =>
        intro i h1
        by_cases h2 : l[i] < l[i + 0 + 1]
        · exact h2
        · have := risesB_false l i h1 (Int.not_lt.1 h2)
          rw [h] at this; cases this
      | succ d ih =>
        intro i h1
        have h2 := ih i (by omega)
        by_cases h3 : l[i + d + 1] < l[i + d + 1 + 1]
        · show l[i] < l[i + (d + 1) + 1]
          have e : i + (d + 1) + 1 = i + d + 1 + 1 := by omega
          simp only [e]
          omega
        · have := risesB_false l (i + d + 1) (by omega) (Int.not_lt.1 h3)
          rw [h] at this; cases this
    obtain ⟨d, rfl⟩ : ∃ d, j = i + d + 1 := ⟨j - i - 1, by omega⟩
    exact step d i hj
  · exact fun h => risesB_pair h
/-- A list with a number, rising. -/
def joinL (l : List Int) (x : Int) : List Int := if x ∈ l then l else l.takeWhile (fun y => decide (y < x)) ++ x :: l.dropWhile (fun y => decide (y < x))
theorem mem_joinL {l : List Int} {x y : Int} : y ∈ joinL l x ↔ y ∈ l ∨ y = x := by
  unfold joinL
  split
  · rename_i h
    exact ⟨.inl, fun h' => h'.elim id (fun e => by rw [e]; exact h)⟩
  · have e := List.takeWhile_append_dropWhile (p := fun y => decide (y < x)) (l := l)
    conv => rhs; rw [← e]
    simp only [List.mem_append, List.mem_cons]
    constructor
    · rintro (h | h | h)
      · exact .inl (.inl h)
      · exact .inr h
      · exact .inl (.inr h)
    · rintro ((h | h) | h)
      · exact .inl h
      · exact .inr (.inr h)
      · exact .inr (.inl h)
theorem take_lt : ∀ {l : List Int} {x : Int}, ∀ y ∈ l.takeWhile (fun y => decide (y < x)), y < x
  | [], x, y, hy => by cases hy
  | a :: r, x, y, hy => by
    by_cases h : a < x
    · rw [List.takeWhile_cons_of_pos (by simpa using h)] at hy
      rcases List.mem_cons.1 hy with rfl | hy
      · exact h
      · exact take_lt y hy
    · rw [List.takeWhile_cons_of_neg (by simpa using h)] at hy
      cases hy
theorem drop_ge : ∀ {l : List Int} {x : Int}, l.Pairwise (fun a b => a < b) → x ∉ l → ∀ y ∈ l.dropWhile (fun y => decide (y < x)), x < y
  | [], x, _, _, y, hy => by cases hy
  | a :: r, x, hp, hx, y, hy => by
    rw [List.pairwise_cons] at hp
    rw [List.mem_cons, not_or] at hx
    by_cases h : a < x
    · rw [List.dropWhile_cons_of_pos (by simpa using h)] at hy
      exact drop_ge hp.2 hx.2 y hy
    · rw [List.dropWhile_cons_of_neg (by simpa using h)] at hy
      have hax : x < a := by have := hx.1; omega
      rcases List.mem_cons.1 hy with rfl | hy
      · exact hax
      · have := hp.1 y hy; omega
theorem rises_joinL {l : List Int} {x : Int} (h : risesB l = true) : risesB (joinL l x) = true := by
  unfold joinL
  split
  · exact h
  · rename_i hx
    rw [risesB_iff] at h ⊢
    have e := List.takeWhile_append_dropWhile (p := fun y => decide (y < x)) (l := l)
    have hp := h
    rw [← e, List.pairwise_append] at hp
    rw [List.pairwise_append, List.pairwise_cons]
    refine ⟨hp.1, ⟨drop_ge h hx, hp.2.1⟩, fun a ha b hb => ?_⟩
    rcases List.mem_cons.1 hb with rfl | hb
    · exact take_lt a ha
    · exact hp.2.2 a ha b hb
def joinM (kind en : Int) (m : Mean) : Mean := ⟨joinL m.kinds kind, joinL m.ends en⟩
/-- A way more, and a kind and an end more in each meaning. -/
def wideT (T : Treaty) (wy : Way) (kind en : Int) : Treaty := { T with ways := T.ways ++ [wy], words := T.words.map fun l => l.map (joinM kind en) }
theorem wide_alike (T : Treaty) (wy : Way) (kind en : Int) : Alike T (wideT T wy kind en) := ⟨rfl, rfl, rfl⟩
theorem wide_ok {T : Treaty} (h : MOk T) {wy : Way} {kind en : Int} (hw : 0 ≤ wy.a ∧ wy.a < T.places ∧ 0 ≤ wy.b ∧ wy.b < T.places ∧ wy.a ≠ wy.b ∧ 0 ≤ wy.kind ∧ wy.kind < 4) (hk : 0 ≤ kind ∧ kind < 4) (he : 0 ≤ en ∧ en < T.places) : WOk (wideT T wy kind en) := by
  obtain ⟨h1, h2, h3, h4, h5, h6, h7, h8, h9, h10, h11, h12, h13, h14, h15⟩ := h
  have hlen : (wideT T wy kind en).words.length = T.words.length := by unfold wideT; simp
  have hm : ∀ l ∈ (wideT T wy kind en).words, ∃ l0 ∈ T.words, l = l0.map (joinM kind en) := fun l hl => by
    unfold wideT at hl
    obtain ⟨l0, h0, rfl⟩ := List.mem_map.1 hl
    exact ⟨l0, h0, rfl⟩
  refine ⟨h1, h2, by show (T.ways ++ [wy]).length ≤ 40; simp; omega, by omega, by omega, h6, h7, h8, fun l hl => ?_, fun x hx => ?_, fun l hl m hml => ?_, fun l hl m hml => ?_, h13, h14, fun l hl => by rw [hlen]; exact h15 l hl⟩
  · obtain ⟨l0, h0, rfl⟩ := hm l hl
    have := h9 l0 h0
    simp; omega
  · have hx' : x ∈ T.ways ++ [wy] := hx
    rcases List.mem_append.1 hx' with h | h
    · exact h10 x h
    · rw [List.mem_singleton.1 h]; exact hw
  · obtain ⟨l0, h0, rfl⟩ := hm l hl
    obtain ⟨m0, hm0, rfl⟩ := List.mem_map.1 hml
    have := h11 l0 h0 m0 hm0
    refine ⟨fun x hx => ?_, rises_joinL this.2⟩
    rcases mem_joinL.1 hx with h | h
    · exact this.1 x h
    · rw [h]; exact hk
  · obtain ⟨l0, h0, rfl⟩ := hm l hl
    obtain ⟨m0, hm0, rfl⟩ := List.mem_map.1 hml
    have := h12 l0 h0 m0 hm0
    refine ⟨fun x hx => ?_, rises_joinL this.2⟩
    rcases mem_joinL.1 hx with h | h
    · exact this.1 x h
    · rw [h]; exact he
theorem wide_lens (T : Treaty) (wy : Way) (kind en : Int) : lensOf (wideT T wy kind en) = lensOf T := by
  unfold lensOf wideT
  simp [List.map_map, Function.comp_def]
theorem wide_leads {T : Treaty} (h : MOk T) {wy : Way} {kind en : Int} : ∀ R ∈ readingsL T, R ∈ readingsL (wideT T wy kind en) ∧ ∀ i a b, leadsF T R i a b = true → leadsF (wideT T wy kind en) R i a b = true := by
  intro R hR
  have okT := checkE_ok h.check
  obtain ⟨hl, hx⟩ := (mem_readings okT).1 hR
  refine ⟨by unfold readingsL; rw [wide_lens]; exact hR, fun i a b hi => ?_⟩
  have hmean : ∀ n : Int, 0 ≤ n → n < T.words.length → meanAt (wideT T wy kind en) R n = joinM kind en (meanAt T R n) := fun n h0 h1 => by
    obtain ⟨k, rfl⟩ := Int.eq_ofNat_of_zero_le h0
    have hk : k < T.words.length := by omega
    have hkR : k < R.length := by omega
    obtain ⟨g0, g1⟩ := hx k hkR hk
    obtain ⟨r, hr⟩ := Int.eq_ofNat_of_zero_le g0
    have hr' : r < T.words[k].length := by omega
    have hkU : k < (wideT T wy kind en).words.length := by unfold wideT; simpa using hk
    have eU : (wideT T wy kind en).words[k] = T.words[k].map (joinM kind en) := by simp only [wideT, List.getElem_map]
    rw [meanAt_eq hk hkR hr hr', meanAt_eq (T := wideT T wy kind en) hkU hkR hr (by rw [eU]; simpa using hr')]
    simp only [eU, List.getElem_map]
  refine leads_mono (T := T) (U := wideT T wy kind en) rfl rfl (fun w hw => List.mem_append_left _ hw) (fun i h1 h2 => ?_) hi
  have hleg := okT.legs _ (List.getElem_mem h1)
  have e1 := hmean T.legs[i].word hleg.1 hleg.2.1
  have hso : T.legs[i].other = -1 ∨ T.legs[i].other ≠ -1 ∧ 0 ≤ T.legs[i].other ∧ T.legs[i].other < T.words.length := by
    rcases hleg.2.2 with h | h
    · exact .inl h
    · exact .inr ⟨by omega, h⟩
  exact ⟨kinds_mono (l' := T.legs[i]) (fun x hx => by rw [e1]; exact mem_joinL.2 (.inl hx)) (hso.imp id fun ⟨h3, h4, h5⟩ => ⟨h3, fun x hx => by rw [hmean _ h4 h5]; exact mem_joinL.2 (.inl hx)⟩),
    ends_mono (l' := T.legs[i]) (fun x hx => by rw [e1]; exact mem_joinL.2 (.inl hx)) (hso.imp id fun ⟨h3, h4, h5⟩ => ⟨h3, fun x hx => by rw [hmean _ h4 h5]; exact mem_joinL.2 (.inl hx)⟩)⟩
end Go.Proofs
end
