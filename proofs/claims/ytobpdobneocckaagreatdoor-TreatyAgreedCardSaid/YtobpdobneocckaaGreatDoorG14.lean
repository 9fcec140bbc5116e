/- Own texts, merged: Agb Fou Awb Awc. -/
import Derived.Test.YtobpdobneocckaaGreatDoorG13
import Derived.Lib.BufferWrite
import Derived.BigGuard
set_option linter.unusedSimpArgs false
set_option linter.unusedVariables false
section
/- Walks: the errors of Agrees. -/
namespace Go.Proofs
open Go.RowKit

set_option maxRecDepth 100000 in
set_option maxHeartbeats 4000000 in
theorem agrees_check (w : World) (T : Treaty) (a1 a2 a3 a4 : Option Addr) (c1 c2 c3 c4 : Nat) (l : List Int) (Al : Option Addr) (cl : Nat) (hT : TRep w T a1 a2 a3 a4) (hA : Ints w Al l) (hc : checkE T ≠ 0) :
    Calls Tryz.prog 23 #[.agg #[.int .i64 T.places, .slice a1 T.ways.length c1, .slice a2 T.words.length c2, .slice a3 T.starts.length c3, .slice a4 T.legs.length c4], .slice Al l.length cl] w fun e w' => e = .returned (.tuple #[.slice none 0 0, .int .i64 (checkE T)]) ∧ Aft w w' := by
  have hal := hA.len
  have HT := Lib.hid hT
  have HAI := Lib.hid hA
  have hne : (checkE T != 0) = true := by simpa using hc
  have HCK : Hid (∀ W, Aft w W → Calls Tryz.prog 37 #[.agg #[.int .i64 T.places, .slice a1 T.ways.length c1, .slice a2 T.words.length c2, .slice a3 T.starts.length c3, .slice a4 T.legs.length c4]] W fun e w' => e = .returned (.int .i64 (checkE T)) ∧ Aft W w') := Lib.hid fun W ha => check_any T a1 a2 a3 a4 c1 c2 c3 c4 W (HT.out.aft ha)
  clear hT hA hc
  generalize checkE T = E at *
  go_enter Tryz.func23, Tryz.ntmps23
  have hA0 : Aft w ((((w.alloc (.cells #[.int .i64 T.places, .slice a1 T.ways.length c1, .slice a2 T.words.length c2, .slice a3 T.starts.length c3, .slice a4 T.legs.length c4] 27)).alloc (.cells #[.slice Al l.length cl] 24)).alloc (.cells #[.slice none 0 0] 24)).alloc (.cells #[.int .i64 0] 38)) := (((Aft.alloc w _).then_alloc _).then_alloc _).then_alloc _
  have hb0 := (((Blk.new w 27 #[.int .i64 T.places, .slice a1 T.ways.length c1, .slice a2 T.words.length c2, .slice a3 T.starts.length c3, .slice a4 T.legs.length c4]).alloc (.cells #[.slice Al l.length cl] 24)).alloc (.cells #[.slice none 0 0] 24)).alloc (.cells #[.int .i64 0] 38)
  have hl0 := ((Blk.new (w.alloc (.cells #[.int .i64 T.places, .slice a1 T.ways.length c1, .slice a2 T.words.length c2, .slice a3 T.starts.length c3, .slice a4 T.legs.length c4] 27)) 24 #[.slice Al l.length cl]).alloc (.cells #[.slice none 0 0] 24)).alloc (.cells #[.int .i64 0] 38)
  have hr0 := (Blk.new ((w.alloc (.cells #[.int .i64 T.places, .slice a1 T.ways.length c1, .slice a2 T.words.length c2, .slice a3 T.starts.length c3, .slice a4 T.legs.length c4] 27)).alloc (.cells #[.slice Al l.length cl] 24)) 24 #[.slice none 0 0]).alloc (.cells #[.int .i64 0] 38)
  have hs0 := Blk.new (((w.alloc (.cells #[.int .i64 T.places, .slice a1 T.ways.length c1, .slice a2 T.words.length c2, .slice a3 T.starts.length c3, .slice a4 T.legs.length c4] 27)).alloc (.cells #[.slice Al l.length cl] 24)).alloc (.cells #[.slice none 0 0] 24)) 38 #[.int .i64 0]
  simp only [World.size_alloc] at hl0 hr0 hs0
  have HA0 := Lib.hid hA0
  have HB0 := Lib.hid hb0
  have HL0 := Lib.hid hl0
  have HR0 := Lib.hid hr0
  have HS0 := Lib.hid hs0
  clear hA0 hb0 hl0 hr0 hs0
  go_wp2_with fail
  refine wp_scope_straight ?_
  go_wp2_with (go_at_call 37; refine (HCK.out _ HA0.out).mono ?_; rintro e w1 ⟨rfl, ha1⟩; have hb1 := HB0.out.aft ha1; have hlt1 := hb1.lt; obtain ⟨k0, k1, k2, k3, k4⟩ := box_cells hb1; have hl1 := HL0.out.aft ha1; have kl : w1.cell? ⟨w.heap.size + 1, 0, none⟩ = some (.slice Al l.length cl) := hl1.cell 0; have hlt1' := hl1.lt; have HA1 := Lib.hid ha1; have hr1 := HR0.out.aft ha1; have hs1 := HS0.out.aft ha1; have kr : w1.cell? ⟨w.heap.size + 1 + 1, 0, none⟩ = some (.slice none 0 0) := hr1.cell 0; have fr := hr1.frozen 0; have lr := hr1.lt; have ks : w1.cell? ⟨w.heap.size + 1 + 1 + 1, 0, none⟩ = some (.int .i64 0) := hs1.cell 0; have fs := hs1.frozen 0; have ls := hs1.lt; have HR1 := Lib.hid hr1; have HS1 := Lib.hid hs1; clear ha1 hr1 hs1)
  have z4 : ((w1.setCell ⟨w.heap.size + 1 + 1, 0, none⟩ (.slice none 0 0)).setCell ⟨w.heap.size + 1 + 1 + 1, 0, none⟩ (.int .i64 E)).cell? ⟨w.heap.size + 1 + 1, 0, none⟩ = some (.slice none 0 0) := ((HR1.out.store 0 _).far (p := ⟨w.heap.size + 1 + 1 + 1, 0, none⟩) (by show w.heap.size + 1 + 1 ≠ w.heap.size + 1 + 1 + 1; omega) _).cell 0
  have z5 : ((w1.setCell ⟨w.heap.size + 1 + 1, 0, none⟩ (.slice none 0 0)).setCell ⟨w.heap.size + 1 + 1 + 1, 0, none⟩ (.int .i64 E)).cell? ⟨w.heap.size + 1 + 1 + 1, 0, none⟩ = some (.int .i64 E) := ((HS1.out.far (p := ⟨w.heap.size + 1 + 1, 0, none⟩) (by show w.heap.size + 1 + 1 + 1 ≠ w.heap.size + 1 + 1; omega) _).store 0 _).cell 0
  simp only [Exit.noGoto_ret, Exit.inBlock, Exit.then]
  refine bodyPost_ret (v := .tuple #[.slice none 0 0, .int .i64 E]) (by simp [results, Tryz.results23, go_sem, z4, z5]) rfl ?_
  exact ⟨rfl, ((HA0.out.trans HA1.out).then_setCell (p := ⟨w.heap.size + 1 + 1, 0, none⟩) (by show w.heap.size ≤ w.heap.size + 1 + 1; omega) _).then_setCell (p := ⟨w.heap.size + 1 + 1 + 1, 0, none⟩) (by show w.heap.size ≤ w.heap.size + 1 + 1 + 1; omega) _⟩

set_option maxRecDepth 100000 in
set_option maxHeartbeats 4000000 in
theorem agrees_lined (w : World) (T : Treaty) (a1 a2 a3 a4 : Option Addr) (c1 c2 c3 c4 : Nat) (l : List Int) (Al : Option Addr) (cl : Nat) (hT : TRep w T a1 a2 a3 a4) (hA : Ints w Al l) (hc : checkE T = 0) (hli : linedB T l = false) :
    Calls Tryz.prog 23 #[.agg #[.int .i64 T.places, .slice a1 T.ways.length c1, .slice a2 T.words.length c2, .slice a3 T.starts.length c3, .slice a4 T.legs.length c4], .slice Al l.length cl] w fun e w' => e = .returned (.tuple #[.slice none 0 0, .int .i64 (2)]) ∧ Aft w w' := by
  have hal := hA.len
  have HT := Lib.hid hT
  have HAI := Lib.hid hA
  have ok := checkE_ok hc
  have HC := Lib.hid hc
  have HCK : Hid (∀ W, Aft w W → Calls Tryz.prog 37 #[.agg #[.int .i64 T.places, .slice a1 T.ways.length c1, .slice a2 T.words.length c2, .slice a3 T.starts.length c3, .slice a4 T.legs.length c4]] W fun e w' => e = .returned (.int .i64 (checkE T)) ∧ Aft W w') := Lib.hid fun W ha => check_any T a1 a2 a3 a4 c1 c2 c3 c4 W (HT.out.aft ha)
  rw [HC.out] at HCK
  have HLI := Lib.hid (fun (W : World) (h : Aft w W) => lined_any W T a1 a2 a3 a4 c1 c2 c3 c4 l Al cl (hA.aft h) ok.p1 ok.p2 ok.nlegs)
  rw [hli] at HLI
  clear hT hA hc hli ok
  go_enter Tryz.func23, Tryz.ntmps23
  have hA0 : Aft w ((((w.alloc (.cells #[.int .i64 T.places, .slice a1 T.ways.length c1, .slice a2 T.words.length c2, .slice a3 T.starts.length c3, .slice a4 T.legs.length c4] 27)).alloc (.cells #[.slice Al l.length cl] 24)).alloc (.cells #[.slice none 0 0] 24)).alloc (.cells #[.int .i64 0] 38)) := (((Aft.alloc w _).then_alloc _).then_alloc _).then_alloc _
  have hb0 := (((Blk.new w 27 #[.int .i64 T.places, .slice a1 T.ways.length c1, .slice a2 T.words.length c2, .slice a3 T.starts.length c3, .slice a4 T.legs.length c4]).alloc (.cells #[.slice Al l.length cl] 24)).alloc (.cells #[.slice none 0 0] 24)).alloc (.cells #[.int .i64 0] 38)
  have hl0 := ((Blk.new (w.alloc (.cells #[.int .i64 T.places, .slice a1 T.ways.length c1, .slice a2 T.words.length c2, .slice a3 T.starts.length c3, .slice a4 T.legs.length c4] 27)) 24 #[.slice Al l.length cl]).alloc (.cells #[.slice none 0 0] 24)).alloc (.cells #[.int .i64 0] 38)
  have hr0 := (Blk.new ((w.alloc (.cells #[.int .i64 T.places, .slice a1 T.ways.length c1, .slice a2 T.words.length c2, .slice a3 T.starts.length c3, .slice a4 T.legs.length c4] 27)).alloc (.cells #[.slice Al l.length cl] 24)) 24 #[.slice none 0 0]).alloc (.cells #[.int .i64 0] 38)
  have hs0 := Blk.new (((w.alloc (.cells #[.int .i64 T.places, .slice a1 T.ways.length c1, .slice a2 T.words.length c2, .slice a3 T.starts.length c3, .slice a4 T.legs.length c4] 27)).alloc (.cells #[.slice Al l.length cl] 24)).alloc (.cells #[.slice none 0 0] 24)) 38 #[.int .i64 0]
  simp only [World.size_alloc] at hl0 hr0 hs0
  have HA0 := Lib.hid hA0
  have HB0 := Lib.hid hb0
  have HL0 := Lib.hid hl0
  have HR0 := Lib.hid hr0
  have HS0 := Lib.hid hs0
  clear hA0 hb0 hl0 hr0 hs0
  go_wp2_with fail
  refine wp_scope_straight ?_
  go_wp2_with (first | (go_at_call 37; refine (HCK.out _ HA0.out).mono ?_; rintro e w1 ⟨rfl, ha1⟩; have hb1 := HB0.out.aft ha1; have hlt1 := hb1.lt; obtain ⟨k0, k1, k2, k3, k4⟩ := box_cells hb1; have hl1 := HL0.out.aft ha1; have kl : w1.cell? ⟨w.heap.size + 1, 0, none⟩ = some (.slice Al l.length cl) := hl1.cell 0; have hlt1' := hl1.lt; have HA1 := Lib.hid ha1; have hr1 := HR0.out.aft ha1; have hs1 := HS0.out.aft ha1; have kr : w1.cell? ⟨w.heap.size + 1 + 1, 0, none⟩ = some (.slice none 0 0) := hr1.cell 0; have fr := hr1.frozen 0; have lr := hr1.lt; have ks : w1.cell? ⟨w.heap.size + 1 + 1 + 1, 0, none⟩ = some (.int .i64 0) := hs1.cell 0; have fs := hs1.frozen 0; have ls := hs1.lt; have HR1 := Lib.hid hr1; have HS1 := Lib.hid hs1; clear ha1 hr1 hs1) | (go_at_call 68; refine (HLI.out _ (HA0.out.trans HA1.out)).mono ?_; rintro e w2 ⟨rfl, ha2⟩; have HA2 := Lib.hid (HA1.out.trans ha2); have hr2 := HR1.out.aft ha2; have hs2 := HS1.out.aft ha2; have kr2 : w2.cell? ⟨w.heap.size + 1 + 1, 0, none⟩ = some (.slice none 0 0) := hr2.cell 0; have fr2 := hr2.frozen 0; have lr2 := hr2.lt; have ks2 : w2.cell? ⟨w.heap.size + 1 + 1 + 1, 0, none⟩ = some (.int .i64 0) := hs2.cell 0; have fs2 := hs2.frozen 0; have ls2 := hs2.lt; have HR2 := Lib.hid hr2; have HS2 := Lib.hid hs2; clear ha2 hr2 hs2))
  have z4 : ((w2.setCell ⟨w.heap.size + 1 + 1, 0, none⟩ (.slice none 0 0)).setCell ⟨w.heap.size + 1 + 1 + 1, 0, none⟩ (.int .i64 2)).cell? ⟨w.heap.size + 1 + 1, 0, none⟩ = some (.slice none 0 0) := ((HR2.out.store 0 _).far (p := ⟨w.heap.size + 1 + 1 + 1, 0, none⟩) (by show w.heap.size + 1 + 1 ≠ w.heap.size + 1 + 1 + 1; omega) _).cell 0
  have z5 : ((w2.setCell ⟨w.heap.size + 1 + 1, 0, none⟩ (.slice none 0 0)).setCell ⟨w.heap.size + 1 + 1 + 1, 0, none⟩ (.int .i64 2)).cell? ⟨w.heap.size + 1 + 1 + 1, 0, none⟩ = some (.int .i64 2) := ((HS2.out.far (p := ⟨w.heap.size + 1 + 1, 0, none⟩) (by show w.heap.size + 1 + 1 + 1 ≠ w.heap.size + 1 + 1; omega) _).store 0 _).cell 0
  simp only [Exit.noGoto_ret, Exit.inBlock, Exit.then]
  refine bodyPost_ret (v := .tuple #[.slice none 0 0, .int .i64 2]) (by simp [results, Tryz.results23, go_sem, z4, z5]) rfl ?_
  exact ⟨rfl, ((HA0.out.trans HA2.out).then_setCell (p := ⟨w.heap.size + 1 + 1, 0, none⟩) (by show w.heap.size ≤ w.heap.size + 1 + 1; omega) _).then_setCell (p := ⟨w.heap.size + 1 + 1 + 1, 0, none⟩) (by show w.heap.size ≤ w.heap.size + 1 + 1 + 1; omega) _⟩

set_option maxRecDepth 100000 in
set_option maxHeartbeats 4000000 in
theorem agrees_start (w : World) (T : Treaty) (a1 a2 a3 a4 : Option Addr) (c1 c2 c3 c4 : Nat) (l : List Int) (Al : Option Addr) (cl : Nat) (hT : TRep w T a1 a2 a3 a4) (hA : Ints w Al l) (hc : checkE T = 0) (hli : linedB T l = true) (hst : hasB T.starts (l.getD 0 0) = false) :
    Calls Tryz.prog 23 #[.agg #[.int .i64 T.places, .slice a1 T.ways.length c1, .slice a2 T.words.length c2, .slice a3 T.starts.length c3, .slice a4 T.legs.length c4], .slice Al l.length cl] w fun e w' => e = .returned (.tuple #[.slice none 0 0, .int .i64 (7)]) ∧ Aft w w' := by
  have hal := hA.len
  have HT := Lib.hid hT
  have HAI := Lib.hid hA
  have ok := checkE_ok hc
  have HC := Lib.hid hc
  have HCK : Hid (∀ W, Aft w W → Calls Tryz.prog 37 #[.agg #[.int .i64 T.places, .slice a1 T.ways.length c1, .slice a2 T.words.length c2, .slice a3 T.starts.length c3, .slice a4 T.legs.length c4]] W fun e w' => e = .returned (.int .i64 (checkE T)) ∧ Aft W w') := Lib.hid fun W ha => check_any T a1 a2 a3 a4 c1 c2 c3 c4 W (HT.out.aft ha)
  rw [HC.out] at HCK
  have HLI := Lib.hid (fun (W : World) (h : Aft w W) => lined_any W T a1 a2 a3 a4 c1 c2 c3 c4 l Al cl (hA.aft h) ok.p1 ok.p2 ok.nlegs)
  rw [hli] at HLI
  obtain ⟨hlen, hL2⟩ := linedB_iff.1 hli
  have hpos : 0 < l.length := by omega
  obtain ⟨n0, hn0, hn0p, hn0d⟩ := int_bool hL2 hpos
  have hn1 : l.getD 0 0 = n0 := by rw [List.getD_eq_getElem?_getD, List.getElem?_eq_getElem hpos, Option.getD_some, hn0]
  rw [hn1] at hst
  have HS := Lib.hid hst
  have HN0 := Lib.hid hn0
  have h0l : (0 : Int) < (l.length : Int) := by omega
  clear hT hA hc hli ok hst hn0 hn1 hn0d hL2 hlen
  go_enter Tryz.func23, Tryz.ntmps23
  have hA0 : Aft w ((((w.alloc (.cells #[.int .i64 T.places, .slice a1 T.ways.length c1, .slice a2 T.words.length c2, .slice a3 T.starts.length c3, .slice a4 T.legs.length c4] 27)).alloc (.cells #[.slice Al l.length cl] 24)).alloc (.cells #[.slice none 0 0] 24)).alloc (.cells #[.int .i64 0] 38)) := (((Aft.alloc w _).then_alloc _).then_alloc _).then_alloc _
  have hb0 := (((Blk.new w 27 #[.int .i64 T.places, .slice a1 T.ways.length c1, .slice a2 T.words.length c2, .slice a3 T.starts.length c3, .slice a4 T.legs.length c4]).alloc (.cells #[.slice Al l.length cl] 24)).alloc (.cells #[.slice none 0 0] 24)).alloc (.cells #[.int .i64 0] 38)
  have hl0 := ((Blk.new (w.alloc (.cells #[.int .i64 T.places, .slice a1 T.ways.length c1, .slice a2 T.words.length c2, .slice a3 T.starts.length c3, .slice a4 T.legs.length c4] 27)) 24 #[.slice Al l.length cl]).alloc (.cells #[.slice none 0 0] 24)).alloc (.cells #[.int .i64 0] 38)
  have hr0 := (Blk.new ((w.alloc (.cells #[.int .i64 T.places, .slice a1 T.ways.length c1, .slice a2 T.words.length c2, .slice a3 T.starts.length c3, .slice a4 T.legs.length c4] 27)).alloc (.cells #[.slice Al l.length cl] 24)) 24 #[.slice none 0 0]).alloc (.cells #[.int .i64 0] 38)
  have hs0 := Blk.new (((w.alloc (.cells #[.int .i64 T.places, .slice a1 T.ways.length c1, .slice a2 T.words.length c2, .slice a3 T.starts.length c3, .slice a4 T.legs.length c4] 27)).alloc (.cells #[.slice Al l.length cl] 24)).alloc (.cells #[.slice none 0 0] 24)) 38 #[.int .i64 0]
  simp only [World.size_alloc] at hl0 hr0 hs0
  have HA0 := Lib.hid hA0
  have HB0 := Lib.hid hb0
  have HL0 := Lib.hid hl0
  have HR0 := Lib.hid hr0
  have HS0 := Lib.hid hs0
  clear hA0 hb0 hl0 hr0 hs0
  go_wp2_with fail
  refine wp_scope_straight ?_
  go_wp2_with (first | (go_at_call 37; refine (HCK.out _ HA0.out).mono ?_; rintro e w1 ⟨rfl, ha1⟩; have hb1 := HB0.out.aft ha1; have hlt1 := hb1.lt; obtain ⟨k0, k1, k2, k3, k4⟩ := box_cells hb1; have hl1 := HL0.out.aft ha1; have kl : w1.cell? ⟨w.heap.size + 1, 0, none⟩ = some (.slice Al l.length cl) := hl1.cell 0; have hlt1' := hl1.lt; have HA1 := Lib.hid ha1; have hr1 := HR0.out.aft ha1; have hs1 := HS0.out.aft ha1; have kr : w1.cell? ⟨w.heap.size + 1 + 1, 0, none⟩ = some (.slice none 0 0) := hr1.cell 0; have fr := hr1.frozen 0; have lr := hr1.lt; have ks : w1.cell? ⟨w.heap.size + 1 + 1 + 1, 0, none⟩ = some (.int .i64 0) := hs1.cell 0; have fs := hs1.frozen 0; have ls := hs1.lt; have HR1 := Lib.hid hr1; have HS1 := Lib.hid hs1; clear ha1 hr1 hs1) | (go_at_call 68; refine (HLI.out _ (HA0.out.trans HA1.out)).mono ?_; rintro e w2 ⟨rfl, ha2⟩; have HA2 := Lib.hid (HA1.out.trans ha2); have hr2 := HR1.out.aft ha2; have hs2 := HS1.out.aft ha2; have HR2 := Lib.hid hr2; have HS2 := Lib.hid hs2; clear ha2 hr2 hs2))
  obtain ⟨bl, ol, rfl, hbl, hcl⟩ := (HAI.out.aft (HA0.out.trans HA2.out)).at hpos
  have cL : w2.drew.cell? ⟨bl, ol, none⟩ = some (.int .i64 n0) := by have := hcl 0 hpos; rw [HN0.out] at this; exact this
  have k32 : w2.drew.cell? ⟨w.heap.size, 3, none⟩ = some (.slice a3 T.starts.length c3) := (box_cells (HB0.out.aft HA2.out).drew).2.2.2.1
  have kl2 : w2.drew.cell? ⟨w.heap.size + 1, 0, none⟩ = some (.slice (some ⟨bl, ol, none⟩) l.length cl) := (HL0.out.aft HA2.out).drew.cell 0
  have HCT := Lib.hid (show Calls Tryz.prog 60 #[.slice a3 T.starts.length c3, .int .i64 n0] w2.drew (fun e w' => e = .returned (.bool false) ∧ w' = w2.drew) from (contains_any a3 T.starts c3 n0 w2.drew ((HT.out.starts.aft (HA0.out.trans HA2.out)).aft (Aft.drew _))).mono fun _ _ ⟨h1, h2⟩ => ⟨by rw [h1, HS.out], h2.symm⟩)
  clear hcl k0 k1 k2 k3 k4 kl hl1
  refine wp_region_tail 7 (by kernel_rfl) (by kernel_rfl) ?_
  simp only [List.take_succ_cons, List.take_zero, List.drop_succ_cons, List.drop_zero]
  repeat (first | go_big_quiet_skip | (go_big_quiet_want; go_big_quiet_op; go_big_quiet_on))
  (go_big_quiet_want; go_big_quiet_op; refine ⟨_, HCT.out, ?_⟩; go_big_quiet_on)
  repeat (first | go_big_quiet_skip | (go_big_quiet_want; go_big_quiet_op; go_big_quiet_on))
  refine wpQuiet_nil ?_
  have HA3 := Lib.hid (HA2.out.then_drew)
  have HR3 := Lib.hid (HR2.out.drew)
  have HS3 := Lib.hid (HS2.out.drew)
  clear HA2 cL k32 kl2 HCT hb1 hlt1 hlt1' HA1 kr fr lr ks fs ls
  generalize w2.drew = w3 at *
  have kr : w3.cell? ⟨w.heap.size + 1 + 1, 0, none⟩ = some (.slice none 0 0) := HR3.out.cell 0
  have fr := HR3.out.frozen 0
  have lr := HR3.out.lt
  have ks : w3.cell? ⟨w.heap.size + 1 + 1 + 1, 0, none⟩ = some (.int .i64 0) := HS3.out.cell 0
  have fs := HS3.out.frozen 0
  have ls := HS3.out.lt
  go_wp2_with fail
  have z4 : ((w3.setCell ⟨w.heap.size + 1 + 1, 0, none⟩ (.slice none 0 0)).setCell ⟨w.heap.size + 1 + 1 + 1, 0, none⟩ (.int .i64 7)).cell? ⟨w.heap.size + 1 + 1, 0, none⟩ = some (.slice none 0 0) := ((HR3.out.store 0 _).far (p := ⟨w.heap.size + 1 + 1 + 1, 0, none⟩) (by show w.heap.size + 1 + 1 ≠ w.heap.size + 1 + 1 + 1; omega) _).cell 0
  have z5 : ((w3.setCell ⟨w.heap.size + 1 + 1, 0, none⟩ (.slice none 0 0)).setCell ⟨w.heap.size + 1 + 1 + 1, 0, none⟩ (.int .i64 7)).cell? ⟨w.heap.size + 1 + 1 + 1, 0, none⟩ = some (.int .i64 7) := ((HS3.out.far (p := ⟨w.heap.size + 1 + 1, 0, none⟩) (by show w.heap.size + 1 + 1 + 1 ≠ w.heap.size + 1 + 1; omega) _).store 0 _).cell 0
  simp only [Exit.noGoto_ret, Exit.inBlock, Exit.then]
  refine bodyPost_ret (v := .tuple #[.slice none 0 0, .int .i64 7]) (by simp [results, Tryz.results23, go_sem, z4, z5]) rfl ?_
  exact ⟨rfl, ((HA0.out.trans HA3.out).then_setCell (p := ⟨w.heap.size + 1 + 1, 0, none⟩) (by show w.heap.size ≤ w.heap.size + 1 + 1; omega) _).then_setCell (p := ⟨w.heap.size + 1 + 1 + 1, 0, none⟩) (by show w.heap.size ≤ w.heap.size + 1 + 1 + 1; omega) _⟩
end Go.Proofs
end

section
/- Walks: the treaty of example 1. -/
namespace Go.Proofs
open Go.RowKit

theorem rows_blk {α : Type} {R : World → α → List Value → Prop} {w : World} {b : Nat} {t : TypeId} {cs : Array Value} {sz : Nat} {l : List α} (hb : Blk w b t cs) (hl : l.length * sz ≤ 17592186043904)
    (h : ∀ i, (hi : i < l.length) → ∃ vs : List Value, vs.length = sz ∧ R w l[i] vs ∧ ∀ j, (hj : j < vs.length) → cs[i * sz + j]? = some vs[j]) : RowsP w (some ⟨b, 0, none⟩) sz R l := by
  refine ⟨hl, .inr ⟨b, 0, rfl, hb.lt, fun i hi => ?_⟩⟩
  obtain ⟨vs, h1, h2, h3⟩ := h i hi
  refine ⟨vs, h1, h2, fun j hj => ?_⟩
  rw [Nat.zero_add]
  exact (hb.cell _).trans (h3 j hj)
theorem ints_blk {w : World} {b : Nat} {t : TypeId} {l : List Int} (hb : Blk w b t (l.map (Value.int .i64)).toArray) (hl : l.length ≤ 17592186043904) : Ints w (some ⟨b, 0, none⟩) l :=
  rows_blk hb (by omega) fun i hi => ⟨[.int .i64 l[i]], rfl, rfl, fun j hj => by
    have : j = 0 := by simp at hj; omega
    subst this
    simp [hi]⟩

/-- What Four answers: the treaty; its legs in a block that can be written apart from the rest. -/
def FourR (w : World) (e : Ending) (w' : World) : Prop :=
  ∃ b1 b2 b3 L c1 c2 c3 c4, e = .returned (.agg #[.int .i64 4, .slice (some ⟨b1, 0, none⟩) 4 c1, .slice (some ⟨b2, 0, none⟩) 2 c2, .slice (some ⟨b3, 0, none⟩) 1 c3, .slice (some ⟨L, 0, none⟩) 2 c4]) ∧ Aft w w' ∧ w.heap.size ≤ L ∧
    Blk w' L 70 #[.int .i64 0, .int .i64 (-1), .int .i64 1, .int .i64 (-1)] ∧
    ∀ w'', w'.grownBy w'' (some L) → RowsP w'' (some ⟨b1, 0, none⟩) 3 WayR T4.ways ∧ RowsP w'' (some ⟨b2, 0, none⟩) 1 WordR T4.words ∧ Ints w'' (some ⟨b3, 0, none⟩) T4.starts

theorem four_final (w X : World) (hX : X = (((((((((((((w.alloc (.cells #[.int .i64 4, .slice (some ⟨w.heap.size + 1, 0, none⟩) 4 4, .slice (some ⟨w.heap.size + 1 + 1 + 1 + 1 + 1 + 1 + 1 + 1 + 1 + 1, 0, none⟩) 2 2, .slice (some ⟨w.heap.size + 1 + 1 + 1 + 1 + 1 + 1 + 1 + 1 + 1 + 1 + 1, 0, none⟩) 1 1, .slice (some ⟨w.heap.size + 1 + 1 + 1 + 1 + 1 + 1 + 1 + 1 + 1 + 1 + 1 + 1, 0, none⟩) 2 2] 27)).alloc (.cells #[.int .i64 0, .int .i64 1, .int .i64 0, .int .i64 1, .int .i64 2, .int .i64 0, .int .i64 1, .int .i64 3, .int .i64 1, .int .i64 2, .int .i64 3, .int .i64 2] 65)).alloc (.cells #[.int .i64 0] 3)).alloc (.cells #[.int .i64 1, .int .i64 2] 3)).alloc (.cells #[.int .i64 1] 3)).alloc (.cells #[.int .i64 3] 3)).alloc (.cells #[.slice (some ⟨w.heap.size + 1 + 1, 0, none⟩) 1 1, .slice (some ⟨w.heap.size + 1 + 1 + 1, 0, none⟩) 2 2, .slice (some ⟨w.heap.size + 1 + 1 + 1 + 1, 0, none⟩) 1 1, .slice (some ⟨w.heap.size + 1 + 1 + 1 + 1 + 1, 0, none⟩) 1 1] 67)).alloc (.cells #[.int .i64 1, .int .i64 2] 3)).alloc (.cells #[.int .i64 3] 3)).alloc (.cells #[.slice (some ⟨w.heap.size + 1 + 1 + 1 + 1 + 1 + 1 + 1, 0, none⟩) 2 2, .slice (some ⟨w.heap.size + 1 + 1 + 1 + 1 + 1 + 1 + 1 + 1, 0, none⟩) 1 1] 67)).alloc (.cells #[.slice (some ⟨w.heap.size + 1 + 1 + 1 + 1 + 1 + 1, 0, none⟩) 2 2, .slice (some ⟨w.heap.size + 1 + 1 + 1 + 1 + 1 + 1 + 1 + 1 + 1, 0, none⟩) 1 1] 68)).alloc (.cells #[.int .i64 0] 3)).alloc (.cells #[.int .i64 0, .int .i64 (-1), .int .i64 1, .int .i64 (-1)] 70))) : FourR w (.returned (.agg #[.int .i64 4, .slice (some ⟨w.heap.size + 1, 0, none⟩) 4 4, .slice (some ⟨w.heap.size + 1 + 1 + 1 + 1 + 1 + 1 + 1 + 1 + 1 + 1, 0, none⟩) 2 2, .slice (some ⟨w.heap.size + 1 + 1 + 1 + 1 + 1 + 1 + 1 + 1 + 1 + 1 + 1, 0, none⟩) 1 1, .slice (some ⟨w.heap.size + 1 + 1 + 1 + 1 + 1 + 1 + 1 + 1 + 1 + 1 + 1 + 1, 0, none⟩) 2 2])) X := by
  have hsz : X.heap.size = w.heap.size + 13 := by rw [hX]; simp
  have hA : Aft w X := by
    rw [hX]
    exact (((((((((((((Aft.alloc w _).then_alloc _).then_alloc _).then_alloc _).then_alloc _).then_alloc _).then_alloc _).then_alloc _).then_alloc _).then_alloc _).then_alloc _).then_alloc _).then_alloc _)
  have B1 : Blk X (w.heap.size + 1) 65 #[.int .i64 0, .int .i64 1, .int .i64 0, .int .i64 1, .int .i64 2, .int .i64 0, .int .i64 1, .int .i64 3, .int .i64 1, .int .i64 2, .int .i64 3, .int .i64 2] := by
    have h := Blk.new (w.alloc (.cells #[.int .i64 4, .slice (some ⟨w.heap.size + 1, 0, none⟩) 4 4, .slice (some ⟨w.heap.size + 1 + 1 + 1 + 1 + 1 + 1 + 1 + 1 + 1 + 1, 0, none⟩) 2 2, .slice (some ⟨w.heap.size + 1 + 1 + 1 + 1 + 1 + 1 + 1 + 1 + 1 + 1 + 1, 0, none⟩) 1 1, .slice (some ⟨w.heap.size + 1 + 1 + 1 + 1 + 1 + 1 + 1 + 1 + 1 + 1 + 1 + 1, 0, none⟩) 2 2] 27)) 65 #[.int .i64 0, .int .i64 1, .int .i64 0, .int .i64 1, .int .i64 2, .int .i64 0, .int .i64 1, .int .i64 3, .int .i64 1, .int .i64 2, .int .i64 3, .int .i64 2]
    simp only [World.size_alloc] at h
    rw [hX]
    exact (((((((((((h.alloc _).alloc _).alloc _).alloc _).alloc _).alloc _).alloc _).alloc _).alloc _).alloc _).alloc _)
  have B2 : Blk X (w.heap.size + 2) 3 #[.int .i64 0] := by
    have h := Blk.new ((w.alloc (.cells #[.int .i64 4, .slice (some ⟨w.heap.size + 1, 0, none⟩) 4 4, .slice (some ⟨w.heap.size + 1 + 1 + 1 + 1 + 1 + 1 + 1 + 1 + 1 + 1, 0, none⟩) 2 2, .slice (some ⟨w.heap.size + 1 + 1 + 1 + 1 + 1 + 1 + 1 + 1 + 1 + 1 + 1, 0, none⟩) 1 1, .slice (some ⟨w.heap.size + 1 + 1 + 1 + 1 + 1 + 1 + 1 + 1 + 1 + 1 + 1 + 1, 0, none⟩) 2 2] 27)).alloc (.cells #[.int .i64 0, .int .i64 1, .int .i64 0, .int .i64 1, .int .i64 2, .int .i64 0, .int .i64 1, .int .i64 3, .int .i64 1, .int .i64 2, .int .i64 3, .int .i64 2] 65)) 3 #[.int .i64 0]
    simp only [World.size_alloc] at h
    rw [hX]
    exact ((((((((((h.alloc _).alloc _).alloc _).alloc _).alloc _).alloc _).alloc _).alloc _).alloc _).alloc _)
  have B3 : Blk X (w.heap.size + 3) 3 #[.int .i64 1, .int .i64 2] := by
    have h := Blk.new (((w.alloc (.cells #[.int .i64 4, .slice (some ⟨w.heap.size + 1, 0, none⟩) 4 4, .slice (some ⟨w.heap.size + 1 + 1 + 1 + 1 + 1 + 1 + 1 + 1 + 1 + 1, 0, none⟩) 2 2, .slice (some ⟨w.heap.size + 1 + 1 + 1 + 1 + 1 + 1 + 1 + 1 + 1 + 1 + 1, 0, none⟩) 1 1, .slice (some ⟨w.heap.size + 1 + 1 + 1 + 1 + 1 + 1 + 1 + 1 + 1 + 1 + 1 + 1, 0, none⟩) 2 2] 27)).alloc (.cells #[.int .i64 0, .int .i64 1, .int .i64 0, .int .i64 1, .int .i64 2, .int .i64 0, .int .i64 1, .int .i64 3, .int .i64 1, .int .i64 2, .int .i64 3, .int .i64 2] 65)).alloc (.cells #[.int .i64 0] 3)) 3 #[.int .i64 1, .int .i64 2]
    simp only [World.size_alloc] at h
    rw [hX]
    exact (((((((((h.alloc _).alloc _).alloc _).alloc _).alloc _).alloc _).alloc _).alloc _).alloc _)
  have B4 : Blk X (w.heap.size + 4) 3 #[.int .i64 1] := by
    have h := Blk.new ((((w.alloc (.cells #[.int .i64 4, .slice (some ⟨w.heap.size + 1, 0, none⟩) 4 4, .slice (some ⟨w.heap.size + 1 + 1 + 1 + 1 + 1 + 1 + 1 + 1 + 1 + 1, 0, none⟩) 2 2, .slice (some ⟨w.heap.size + 1 + 1 + 1 + 1 + 1 + 1 + 1 + 1 + 1 + 1 + 1, 0, none⟩) 1 1, .slice (some ⟨w.heap.size + 1 + 1 + 1 + 1 + 1 + 1 + 1 + 1 + 1 + 1 + 1 + 1, 0, none⟩) 2 2] 27)).alloc (.cells #[.int .i64 0, .int .i64 1, .int .i64 0, .int .i64 1, .int .i64 2, .int .i64 0, .int .i64 1, .int .i64 3, .int .i64 1, .int .i64 2, .int .i64 3, .int .i64 2] 65)).alloc (.cells #[.int .i64 0] 3)).alloc (.cells #[.int .i64 1, .int .i64 2] 3)) 3 #[.int .i64 1]
    simp only [World.size_alloc] at h
    rw [hX]
    exact ((((((((h.alloc _).alloc _).alloc _).alloc _).alloc _).alloc _).alloc _).alloc _)
  have B5 : Blk X (w.heap.size + 5) 3 #[.int .i64 3] := by
    have h := Blk.new (((((w.alloc (.cells #[.int .i64 4, .slice (some ⟨w.heap.size + 1, 0, none⟩) 4 4, .slice (some ⟨w.heap.size + 1 + 1 + 1 + 1 + 1 + 1 + 1 + 1 + 1 + 1, 0, none⟩) 2 2, .slice (some ⟨w.heap.size + 1 + 1 + 1 + 1 + 1 + 1 + 1 + 1 + 1 + 1 + 1, 0, none⟩) 1 1, .slice (some ⟨w.heap.size + 1 + 1 + 1 + 1 + 1 + 1 + 1 + 1 + 1 + 1 + 1 + 1, 0, none⟩) 2 2] 27)).alloc (.cells #[.int .i64 0, .int .i64 1, .int .i64 0, .int .i64 1, .int .i64 2, .int .i64 0, .int .i64 1, .int .i64 3, .int .i64 1, .int .i64 2, .int .i64 3, .int .i64 2] 65)).alloc (.cells #[.int .i64 0] 3)).alloc (.cells #[.int .i64 1, .int .i64 2] 3)).alloc (.cells #[.int .i64 1] 3)) 3 #[.int .i64 3]
    simp only [World.size_alloc] at h
    rw [hX]
    exact (((((((h.alloc _).alloc _).alloc _).alloc _).alloc _).alloc _).alloc _)
  have B6 : Blk X (w.heap.size + 6) 67 #[.slice (some ⟨w.heap.size + 1 + 1, 0, none⟩) 1 1, .slice (some ⟨w.heap.size + 1 + 1 + 1, 0, none⟩) 2 2, .slice (some ⟨w.heap.size + 1 + 1 + 1 + 1, 0, none⟩) 1 1, .slice (some ⟨w.heap.size + 1 + 1 + 1 + 1 + 1, 0, none⟩) 1 1] := by
    have h := Blk.new ((((((w.alloc (.cells #[.int .i64 4, .slice (some ⟨w.heap.size + 1, 0, none⟩) 4 4, .slice (some ⟨w.heap.size + 1 + 1 + 1 + 1 + 1 + 1 + 1 + 1 + 1 + 1, 0, none⟩) 2 2, .slice (some ⟨w.heap.size + 1 + 1 + 1 + 1 + 1 + 1 + 1 + 1 + 1 + 1 + 1, 0, none⟩) 1 1, .slice (some ⟨w.heap.size + 1 + 1 + 1 + 1 + 1 + 1 + 1 + 1 + 1 + 1 + 1 + 1, 0, none⟩) 2 2] 27)).alloc (.cells #[.int .i64 0, .int .i64 1, .int .i64 0, .int .i64 1, .int .i64 2, .int .i64 0, .int .i64 1, .int .i64 3, .int .i64 1, .int .i64 2, .int .i64 3, .int .i64 2] 65)).alloc (.cells #[.int .i64 0] 3)).alloc (.cells #[.int .i64 1, .int .i64 2] 3)).alloc (.cells #[.int .i64 1] 3)).alloc (.cells #[.int .i64 3] 3)) 67 #[.slice (some ⟨w.heap.size + 1 + 1, 0, none⟩) 1 1, .slice (some ⟨w.heap.size + 1 + 1 + 1, 0, none⟩) 2 2, .slice (some ⟨w.heap.size + 1 + 1 + 1 + 1, 0, none⟩) 1 1, .slice (some ⟨w.heap.size + 1 + 1 + 1 + 1 + 1, 0, none⟩) 1 1]
    simp only [World.size_alloc] at h
    rw [hX]
    exact ((((((h.alloc _).alloc _).alloc _).alloc _).alloc _).alloc _)
  have B7 : Blk X (w.heap.size + 7) 3 #[.int .i64 1, .int .i64 2] := by
    have h := Blk.new (((((((w.alloc (.cells #[.int .i64 4, .slice (some ⟨w.heap.size + 1, 0, none⟩) 4 4, .slice (some ⟨w.heap.size + 1 + 1 + 1 + 1 + 1 + 1 + 1 + 1 + 1 + 1, 0, none⟩) 2 2, .slice (some ⟨w.heap.size + 1 + 1 + 1 + 1 + 1 + 1 + 1 + 1 + 1 + 1 + 1, 0, none⟩) 1 1, .slice (some ⟨w.heap.size + 1 + 1 + 1 + 1 + 1 + 1 + 1 + 1 + 1 + 1 + 1 + 1, 0, none⟩) 2 2] 27)).alloc (.cells #[.int .i64 0, .int .i64 1, .int .i64 0, .int .i64 1, .int .i64 2, .int .i64 0, .int .i64 1, .int .i64 3, .int .i64 1, .int .i64 2, .int .i64 3, .int .i64 2] 65)).alloc (.cells #[.int .i64 0] 3)).alloc (.cells #[.int .i64 1, .int .i64 2] 3)).alloc (.cells #[.int .i64 1] 3)).alloc (.cells #[.int .i64 3] 3)).alloc (.cells #[.slice (some ⟨w.heap.size + 1 + 1, 0, none⟩) 1 1, .slice (some ⟨w.heap.size + 1 + 1 + 1, 0, none⟩) 2 2, .slice (some ⟨w.heap.size + 1 + 1 + 1 + 1, 0, none⟩) 1 1, .slice (some ⟨w.heap.size + 1 + 1 + 1 + 1 + 1, 0, none⟩) 1 1] 67)) 3 #[.int .i64 1, .int .i64 2]
    simp only [World.size_alloc] at h
    rw [hX]
    exact (((((h.alloc _).alloc _).alloc _).alloc _).alloc _)
  have B8 : Blk X (w.heap.size + 8) 3 #[.int .i64 3] := by
    have h := Blk.new ((((((((w.alloc (.cells #[.int .i64 4, .slice (some ⟨w.heap.size + 1, 0, none⟩) 4 4, .slice (some ⟨w.heap.size + 1 + 1 + 1 + 1 + 1 + 1 + 1 + 1 + 1 + 1, 0, none⟩) 2 2, .slice (some ⟨w.heap.size + 1 + 1 + 1 + 1 + 1 + 1 + 1 + 1 + 1 + 1 + 1, 0, none⟩) 1 1, .slice (some ⟨w.heap.size + 1 + 1 + 1 + 1 + 1 + 1 + 1 + 1 + 1 + 1 + 1 + 1, 0, none⟩) 2 2] 27)).alloc (.cells #[.int .i64 0, .int .i64 1, .int .i64 0, .int .i64 1, .int .i64 2, .int .i64 0, .int .i64 1, .int .i64 3, .int .i64 1, .int .i64 2, .int .i64 3, .int .i64 2] 65)).alloc (.cells #[.int .i64 0] 3)).alloc (.cells #[.int .i64 1, .int .i64 2] 3)).alloc (.cells #[.int .i64 1] 3)).alloc (.cells #[.int .i64 3] 3)).alloc (.cells #[.slice (some ⟨w.heap.size + 1 + 1, 0, none⟩) 1 1, .slice (some ⟨w.heap.size + 1 + 1 + 1, 0, none⟩) 2 2, .slice (some ⟨w.heap.size + 1 + 1 + 1 + 1, 0, none⟩) 1 1, .slice (some ⟨w.heap.size + 1 + 1 + 1 + 1 + 1, 0, none⟩) 1 1] 67)).alloc (.cells #[.int .i64 1, .int .i64 2] 3)) 3 #[.int .i64 3]
    simp only [World.size_alloc] at h
    rw [hX]
    exact ((((h.alloc _).alloc _).alloc _).alloc _)
  have B9 : Blk X (w.heap.size + 9) 67 #[.slice (some ⟨w.heap.size + 1 + 1 + 1 + 1 + 1 + 1 + 1, 0, none⟩) 2 2, .slice (some ⟨w.heap.size + 1 + 1 + 1 + 1 + 1 + 1 + 1 + 1, 0, none⟩) 1 1] := by
    have h := Blk.new (((((((((w.alloc (.cells #[.int .i64 4, .slice (some ⟨w.heap.size + 1, 0, none⟩) 4 4, .slice (some ⟨w.heap.size + 1 + 1 + 1 + 1 + 1 + 1 + 1 + 1 + 1 + 1, 0, none⟩) 2 2, .slice (some ⟨w.heap.size + 1 + 1 + 1 + 1 + 1 + 1 + 1 + 1 + 1 + 1 + 1, 0, none⟩) 1 1, .slice (some ⟨w.heap.size + 1 + 1 + 1 + 1 + 1 + 1 + 1 + 1 + 1 + 1 + 1 + 1, 0, none⟩) 2 2] 27)).alloc (.cells #[.int .i64 0, .int .i64 1, .int .i64 0, .int .i64 1, .int .i64 2, .int .i64 0, .int .i64 1, .int .i64 3, .int .i64 1, .int .i64 2, .int .i64 3, .int .i64 2] 65)).alloc (.cells #[.int .i64 0] 3)).alloc (.cells #[.int .i64 1, .int .i64 2] 3)).alloc (.cells #[.int .i64 1] 3)).alloc (.cells #[.int .i64 3] 3)).alloc (.cells #[.slice (some ⟨w.heap.size + 1 + 1, 0, none⟩) 1 1, .slice (some ⟨w.heap.size + 1 + 1 + 1, 0, none⟩) 2 2, .slice (some ⟨w.heap.size + 1 + 1 + 1 + 1, 0, none⟩) 1 1, .slice (some ⟨w.heap.size + 1 + 1 + 1 + 1 + 1, 0, none⟩) 1 1] 67)).alloc (.cells #[.int .i64 1, .int .i64 2] 3)).alloc (.cells #[.int .i64 3] 3)) 67 #[.slice (some ⟨w.heap.size + 1 + 1 + 1 + 1 + 1 + 1 + 1, 0, none⟩) 2 2, .slice (some ⟨w.heap.size + 1 + 1 + 1 + 1 + 1 + 1 + 1 + 1, 0, none⟩) 1 1]
    simp only [World.size_alloc] at h
    rw [hX]
    exact (((h.alloc _).alloc _).alloc _)
  have B10 : Blk X (w.heap.size + 10) 68 #[.slice (some ⟨w.heap.size + 1 + 1 + 1 + 1 + 1 + 1, 0, none⟩) 2 2, .slice (some ⟨w.heap.size + 1 + 1 + 1 + 1 + 1 + 1 + 1 + 1 + 1, 0, none⟩) 1 1] := by
    have h := Blk.new ((((((((((w.alloc (.cells #[.int .i64 4, .slice (some ⟨w.heap.size + 1, 0, none⟩) 4 4, .slice (some ⟨w.heap.size + 1 + 1 + 1 + 1 + 1 + 1 + 1 + 1 + 1 + 1, 0, none⟩) 2 2, .slice (some ⟨w.heap.size + 1 + 1 + 1 + 1 + 1 + 1 + 1 + 1 + 1 + 1 + 1, 0, none⟩) 1 1, .slice (some ⟨w.heap.size + 1 + 1 + 1 + 1 + 1 + 1 + 1 + 1 + 1 + 1 + 1 + 1, 0, none⟩) 2 2] 27)).alloc (.cells #[.int .i64 0, .int .i64 1, .int .i64 0, .int .i64 1, .int .i64 2, .int .i64 0, .int .i64 1, .int .i64 3, .int .i64 1, .int .i64 2, .int .i64 3, .int .i64 2] 65)).alloc (.cells #[.int .i64 0] 3)).alloc (.cells #[.int .i64 1, .int .i64 2] 3)).alloc (.cells #[.int .i64 1] 3)).alloc (.cells #[.int .i64 3] 3)).alloc (.cells #[.slice (some ⟨w.heap.size + 1 + 1, 0, none⟩) 1 1, .slice (some ⟨w.heap.size + 1 + 1 + 1, 0, none⟩) 2 2, .slice (some ⟨w.heap.size + 1 + 1 + 1 + 1, 0, none⟩) 1 1, .slice (some ⟨w.heap.size + 1 + 1 + 1 + 1 + 1, 0, none⟩) 1 1] 67)).alloc (.cells #[.int .i64 1, .int .i64 2] 3)).alloc (.cells #[.int .i64 3] 3)).alloc (.cells #[.slice (some ⟨w.heap.size + 1 + 1 + 1 + 1 + 1 + 1 + 1, 0, none⟩) 2 2, .slice (some ⟨w.heap.size + 1 + 1 + 1 + 1 + 1 + 1 + 1 + 1, 0, none⟩) 1 1] 67)) 68 #[.slice (some ⟨w.heap.size + 1 + 1 + 1 + 1 + 1 + 1, 0, none⟩) 2 2, .slice (some ⟨w.heap.size + 1 + 1 + 1 + 1 + 1 + 1 + 1 + 1 + 1, 0, none⟩) 1 1]
    simp only [World.size_alloc] at h
    rw [hX]
    exact ((h.alloc _).alloc _)
  have B11 : Blk X (w.heap.size + 11) 3 #[.int .i64 0] := by
    have h := Blk.new (((((((((((w.alloc (.cells #[.int .i64 4, .slice (some ⟨w.heap.size + 1, 0, none⟩) 4 4, .slice (some ⟨w.heap.size + 1 + 1 + 1 + 1 + 1 + 1 + 1 + 1 + 1 + 1, 0, none⟩) 2 2, .slice (some ⟨w.heap.size + 1 + 1 + 1 + 1 + 1 + 1 + 1 + 1 + 1 + 1 + 1, 0, none⟩) 1 1, .slice (some ⟨w.heap.size + 1 + 1 + 1 + 1 + 1 + 1 + 1 + 1 + 1 + 1 + 1 + 1, 0, none⟩) 2 2] 27)).alloc (.cells #[.int .i64 0, .int .i64 1, .int .i64 0, .int .i64 1, .int .i64 2, .int .i64 0, .int .i64 1, .int .i64 3, .int .i64 1, .int .i64 2, .int .i64 3, .int .i64 2] 65)).alloc (.cells #[.int .i64 0] 3)).alloc (.cells #[.int .i64 1, .int .i64 2] 3)).alloc (.cells #[.int .i64 1] 3)).alloc (.cells #[.int .i64 3] 3)).alloc (.cells #[.slice (some ⟨w.heap.size + 1 + 1, 0, none⟩) 1 1, .slice (some ⟨w.heap.size + 1 + 1 + 1, 0, none⟩) 2 2, .slice (some ⟨w.heap.size + 1 + 1 + 1 + 1, 0, none⟩) 1 1, .slice (some ⟨w.heap.size + 1 + 1 + 1 + 1 + 1, 0, none⟩) 1 1] 67)).alloc (.cells #[.int .i64 1, .int .i64 2] 3)).alloc (.cells #[.int .i64 3] 3)).alloc (.cells #[.slice (some ⟨w.heap.size + 1 + 1 + 1 + 1 + 1 + 1 + 1, 0, none⟩) 2 2, .slice (some ⟨w.heap.size + 1 + 1 + 1 + 1 + 1 + 1 + 1 + 1, 0, none⟩) 1 1] 67)).alloc (.cells #[.slice (some ⟨w.heap.size + 1 + 1 + 1 + 1 + 1 + 1, 0, none⟩) 2 2, .slice (some ⟨w.heap.size + 1 + 1 + 1 + 1 + 1 + 1 + 1 + 1 + 1, 0, none⟩) 1 1] 68)) 3 #[.int .i64 0]
    simp only [World.size_alloc] at h
    rw [hX]
    exact (h.alloc _)
  have B12 : Blk X (w.heap.size + 12) 70 #[.int .i64 0, .int .i64 (-1), .int .i64 1, .int .i64 (-1)] := by
    have h := Blk.new ((((((((((((w.alloc (.cells #[.int .i64 4, .slice (some ⟨w.heap.size + 1, 0, none⟩) 4 4, .slice (some ⟨w.heap.size + 1 + 1 + 1 + 1 + 1 + 1 + 1 + 1 + 1 + 1, 0, none⟩) 2 2, .slice (some ⟨w.heap.size + 1 + 1 + 1 + 1 + 1 + 1 + 1 + 1 + 1 + 1 + 1, 0, none⟩) 1 1, .slice (some ⟨w.heap.size + 1 + 1 + 1 + 1 + 1 + 1 + 1 + 1 + 1 + 1 + 1 + 1, 0, none⟩) 2 2] 27)).alloc (.cells #[.int .i64 0, .int .i64 1, .int .i64 0, .int .i64 1, .int .i64 2, .int .i64 0, .int .i64 1, .int .i64 3, .int .i64 1, .int .i64 2, .int .i64 3, .int .i64 2] 65)).alloc (.cells #[.int .i64 0] 3)).alloc (.cells #[.int .i64 1, .int .i64 2] 3)).alloc (.cells #[.int .i64 1] 3)).alloc (.cells #[.int .i64 3] 3)).alloc (.cells #[.slice (some ⟨w.heap.size + 1 + 1, 0, none⟩) 1 1, .slice (some ⟨w.heap.size + 1 + 1 + 1, 0, none⟩) 2 2, .slice (some ⟨w.heap.size + 1 + 1 + 1 + 1, 0, none⟩) 1 1, .slice (some ⟨w.heap.size + 1 + 1 + 1 + 1 + 1, 0, none⟩) 1 1] 67)).alloc (.cells #[.int .i64 1, .int .i64 2] 3)).alloc (.cells #[.int .i64 3] 3)).alloc (.cells #[.slice (some ⟨w.heap.size + 1 + 1 + 1 + 1 + 1 + 1 + 1, 0, none⟩) 2 2, .slice (some ⟨w.heap.size + 1 + 1 + 1 + 1 + 1 + 1 + 1 + 1, 0, none⟩) 1 1] 67)).alloc (.cells #[.slice (some ⟨w.heap.size + 1 + 1 + 1 + 1 + 1 + 1, 0, none⟩) 2 2, .slice (some ⟨w.heap.size + 1 + 1 + 1 + 1 + 1 + 1 + 1 + 1 + 1, 0, none⟩) 1 1] 68)).alloc (.cells #[.int .i64 0] 3)) 70 #[.int .i64 0, .int .i64 (-1), .int .i64 1, .int .i64 (-1)]
    simp only [World.size_alloc] at h
    rw [hX]
    exact h
  clear hX
  refine ⟨w.heap.size + 1, w.heap.size + 10, w.heap.size + 11, w.heap.size + 12, _, _, _, _, rfl, hA, by omega, B12, fun w2 hg => ?_⟩
  have C1 := B1.grown hg (fun e => by injection e with e; omega)
  have C2 := B2.grown hg (fun e => by injection e with e; omega)
  have C3 := B3.grown hg (fun e => by injection e with e; omega)
  have C4 := B4.grown hg (fun e => by injection e with e; omega)
  have C5 := B5.grown hg (fun e => by injection e with e; omega)
  have C6 := B6.grown hg (fun e => by injection e with e; omega)
  have C7 := B7.grown hg (fun e => by injection e with e; omega)
  have C8 := B8.grown hg (fun e => by injection e with e; omega)
  have C9 := B9.grown hg (fun e => by injection e with e; omega)
  have C10 := B10.grown hg (fun e => by injection e with e; omega)
  have C11 := B11.grown hg (fun e => by injection e with e; omega)
  have I2 : Ints w2 (some ⟨w.heap.size + 2, 0, none⟩) [0] := ints_blk (t := 3) (by exact C2) (by decide)
  have I3 : Ints w2 (some ⟨w.heap.size + 3, 0, none⟩) [1, 2] := ints_blk (t := 3) (by exact C3) (by decide)
  have I4 : Ints w2 (some ⟨w.heap.size + 4, 0, none⟩) [1] := ints_blk (t := 3) (by exact C4) (by decide)
  have I5 : Ints w2 (some ⟨w.heap.size + 5, 0, none⟩) [3] := ints_blk (t := 3) (by exact C5) (by decide)
  have I7 : Ints w2 (some ⟨w.heap.size + 7, 0, none⟩) [1, 2] := ints_blk (t := 3) (by exact C7) (by decide)
  have I8 : Ints w2 (some ⟨w.heap.size + 8, 0, none⟩) [3] := ints_blk (t := 3) (by exact C8) (by decide)
  have M6 : RowsP w2 (some ⟨w.heap.size + 6, 0, none⟩) 2 MeanR [⟨[0], [1, 2]⟩, ⟨[1], [3]⟩] := rows_blk C6 (by decide) fun i hi => by
    match i, hi with
    | 0, _ => exact ⟨[.slice (some ⟨w.heap.size + 2, 0, none⟩) 1 1, .slice (some ⟨w.heap.size + 3, 0, none⟩) 2 2], rfl, ⟨_, 1, _, 2, rfl, I2, I3⟩, fun j hj => by match j, hj with | 0, _ => rfl | 1, _ => rfl⟩
    | 1, _ => exact ⟨[.slice (some ⟨w.heap.size + 4, 0, none⟩) 1 1, .slice (some ⟨w.heap.size + 5, 0, none⟩) 1 1], rfl, ⟨_, 1, _, 1, rfl, I4, I5⟩, fun j hj => by match j, hj with | 0, _ => rfl | 1, _ => rfl⟩
  have M9 : RowsP w2 (some ⟨w.heap.size + 9, 0, none⟩) 2 MeanR [⟨[1, 2], [3]⟩] := rows_blk C9 (by decide) fun i hi => by
    match i, hi with
    | 0, _ => exact ⟨[.slice (some ⟨w.heap.size + 7, 0, none⟩) 2 2, .slice (some ⟨w.heap.size + 8, 0, none⟩) 1 1], rfl, ⟨_, 2, _, 1, rfl, I7, I8⟩, fun j hj => by match j, hj with | 0, _ => rfl | 1, _ => rfl⟩
  refine ⟨rows_blk C1 (by decide) fun i hi => ?_, rows_blk C10 (by decide) fun i hi => ?_, ints_blk (t := 3) (by exact C11) (by decide)⟩
  · match i, hi with
    | 0, _ => exact ⟨[.int .i64 0, .int .i64 1, .int .i64 0], rfl, rfl, fun j hj => by match j, hj with | 0, _ => rfl | 1, _ => rfl | 2, _ => rfl⟩
    | 1, _ => exact ⟨[.int .i64 1, .int .i64 2, .int .i64 0], rfl, rfl, fun j hj => by match j, hj with | 0, _ => rfl | 1, _ => rfl | 2, _ => rfl⟩
    | 2, _ => exact ⟨[.int .i64 1, .int .i64 3, .int .i64 1], rfl, rfl, fun j hj => by match j, hj with | 0, _ => rfl | 1, _ => rfl | 2, _ => rfl⟩
    | 3, _ => exact ⟨[.int .i64 2, .int .i64 3, .int .i64 2], rfl, rfl, fun j hj => by match j, hj with | 0, _ => rfl | 1, _ => rfl | 2, _ => rfl⟩
  · match i, hi with
    | 0, _ => exact ⟨[.slice (some ⟨w.heap.size + 6, 0, none⟩) 2 2], rfl, ⟨_, 2, rfl, M6⟩, fun j hj => by match j, hj with | 0, _ => rfl⟩
    | 1, _ => exact ⟨[.slice (some ⟨w.heap.size + 9, 0, none⟩) 1 1], rfl, ⟨_, 1, rfl, M9⟩, fun j hj => by match j, hj with | 0, _ => rfl⟩

set_option maxRecDepth 100000 in
set_option maxHeartbeats 2000000 in
theorem four_any (w : World) : Calls Tryz.prog 34 #[] w (FourR w) := by
  go_enter Tryz.func34, Tryz.ntmps34
  go_wp2_with fail
  refine bodyPost_ret (v := .agg #[.int .i64 4, .slice (some ⟨w.heap.size + 1, 0, none⟩) 4 4, .slice (some ⟨w.heap.size + 1 + 1 + 1 + 1 + 1 + 1 + 1 + 1 + 1 + 1, 0, none⟩) 2 2, .slice (some ⟨w.heap.size + 1 + 1 + 1 + 1 + 1 + 1 + 1 + 1 + 1 + 1 + 1, 0, none⟩) 1 1, .slice (some ⟨w.heap.size + 1 + 1 + 1 + 1 + 1 + 1 + 1 + 1 + 1 + 1 + 1 + 1, 0, none⟩) 2 2]) (by simp [results, Tryz.results34, go_sem]) rfl ?_
  exact four_final w _ rfl
end Go.Proofs
end

section
/- Walks: what the program asks of itself before it holds anything: the contracts. -/
namespace Go.Proofs
open Go.RowKit

theorem al1 (w : World) (t : TypeId) (cs : Array Value) : Blk (w.alloc (.cells cs t)) w.heap.size t cs := Blk.new w t cs
theorem al2 (w : World) (x : Obj) (t : TypeId) (cs : Array Value) : Blk ((w.alloc x).alloc (.cells cs t)) (w.heap.size + 1) t cs := by
  have h := Blk.new (w.alloc x) t cs
  rwa [World.size_alloc] at h
theorem al3 (w : World) (x y : Obj) (t : TypeId) (cs : Array Value) : Blk (((w.alloc x).alloc y).alloc (.cells cs t)) (w.heap.size + 1 + 1) t cs := by
  have h := al2 (w.alloc x) y t cs
  rwa [World.size_alloc] at h
theorem al4 (w : World) (x y z : Obj) (t : TypeId) (cs : Array Value) : Blk ((((w.alloc x).alloc y).alloc z).alloc (.cells cs t)) (w.heap.size + 1 + 1 + 1) t cs := by
  have h := al3 (w.alloc x) y z t cs
  rwa [World.size_alloc] at h
theorem al5 (w : World) (x y z u : Obj) (t : TypeId) (cs : Array Value) : Blk (((((w.alloc x).alloc y).alloc z).alloc u).alloc (.cells cs t)) (w.heap.size + 1 + 1 + 1 + 1) t cs := by
  have h := al4 (w.alloc x) y z u t cs
  rwa [World.size_alloc] at h
theorem lists_blk {w : World} {b : Nat} {cs : Array Value} {l : List (List Int)} (hb : Blk w b 24 cs) (hl : l.length ≤ 17592186043904)
    (h : ∀ i, (hi : i < l.length) → ∃ A c, cs[i]? = some (.slice A l[i].length c) ∧ Ints w A l[i]) : Lists w (some ⟨b, 0, none⟩) l := by
  refine rows_blk hb (by omega) fun i hi => ?_
  obtain ⟨A, c, h1, h2⟩ := h i hi
  refine ⟨[.slice A l[i].length c], rfl, ⟨A, c, rfl, h2⟩, fun j hj => ?_⟩
  have : j = 0 := by simp at hj; omega
  subst this
  simpa using h1

section
variable {W : World} {b1 b2 b3 L c1 c2 c3 c4 : Nat}
theorem aw15 (hT : TRep W T4 (some ⟨b1, 0, none⟩) (some ⟨b2, 0, none⟩) (some ⟨b3, 0, none⟩) (some ⟨L, 0, none⟩)) {g : Nat} (hg : Blk W g 3 #[.int .i64 0, .int .i64 0]) : Calls Tryz.prog 31 #[.agg #[.int .i64 4, .slice (some ⟨b1, 0, none⟩) 4 c1, .slice (some ⟨b2, 0, none⟩) 2 c2, .slice (some ⟨b3, 0, none⟩) 1 c3, .slice (some ⟨L, 0, none⟩) 2 c4], .slice (some ⟨g, 0, none⟩) 2 2] W fun e w' => Aft W w' ∧ ∃ A c, e = .returned (.tuple #[.slice A 2 c, .int .i64 0]) ∧ Lists w' A [[0, 1, 3], [0, 2, 3]] := by
  refine (lines_any W T4 _ _ _ _ c1 c2 c3 c4 [0, 0] _ 2 hT (ints_blk (t := 3) (l := [0, 0]) (by exact hg) (by decide))).mono ?_
  rintro e w' ⟨ha, h | h⟩
  · exact (h.1 linesE400).elim
  · obtain ⟨_, v, rfl, hv⟩ := h
    rw [lines400] at hv
    obtain ⟨A, c, rfl, _, hl⟩ := hv.lists (by decide) (by decide)
    exact ⟨ha, A, c, rfl, hl⟩
theorem aw15b (hT : TRep W T4 (some ⟨b1, 0, none⟩) (some ⟨b2, 0, none⟩) (some ⟨b3, 0, none⟩) (some ⟨L, 0, none⟩)) {g : Nat} (hg : Blk W g 3 #[.int .i64 1, .int .i64 0]) : Calls Tryz.prog 31 #[.agg #[.int .i64 4, .slice (some ⟨b1, 0, none⟩) 4 c1, .slice (some ⟨b2, 0, none⟩) 2 c2, .slice (some ⟨b3, 0, none⟩) 1 c3, .slice (some ⟨L, 0, none⟩) 2 c4], .slice (some ⟨g, 0, none⟩) 2 2] W fun e w' => Aft W w' ∧ ∃ A c, e = .returned (.tuple #[.slice A 0 c, .int .i64 0]) := by
  refine (lines_any W T4 _ _ _ _ c1 c2 c3 c4 [1, 0] _ 2 hT (ints_blk (t := 3) (l := [1, 0]) (by exact hg) (by decide))).mono ?_
  rintro e w' ⟨ha, h | h⟩
  · exact (h.1 linesE410).elim
  · obtain ⟨_, v, rfl, hv⟩ := h
    rw [lines410] at hv
    obtain ⟨A, c, rfl, _, hl⟩ := hv.lists (by decide) (by decide)
    exact ⟨ha, A, c, rfl⟩
theorem aw43 (hT : TRep W T4 (some ⟨b1, 0, none⟩) (some ⟨b2, 0, none⟩) (some ⟨b3, 0, none⟩) (some ⟨L, 0, none⟩))  : Calls Tryz.prog 12 #[.agg #[.int .i64 4, .slice (some ⟨b1, 0, none⟩) 4 c1, .slice (some ⟨b2, 0, none⟩) 2 c2, .slice (some ⟨b3, 0, none⟩) 1 c3, .slice (some ⟨L, 0, none⟩) 2 c4]] W fun e w' => Aft W w' ∧ ∃ A c, e = .returned (.tuple #[.slice A 1 c, .int .i64 0]) ∧ Lists w' A [[0, 0]] := by
  refine (readingsX_any W T4 _ _ _ _ c1 c2 c3 c4 hT).mono ?_
  rintro e w' ⟨ha, h | h⟩
  · exact (h.1 chk4).elim
  · obtain ⟨_, v, rfl, hv⟩ := h
    rw [read4] at hv
    obtain ⟨A, c, rfl, _, hl⟩ := hv.lists (by decide) (by decide)
    exact ⟨ha, A, c, rfl, hl⟩
theorem aw45 (hT : TRep W T4 (some ⟨b1, 0, none⟩) (some ⟨b2, 0, none⟩) (some ⟨b3, 0, none⟩) (some ⟨L, 0, none⟩))  : Calls Tryz.prog 17 #[.agg #[.int .i64 4, .slice (some ⟨b1, 0, none⟩) 4 c1, .slice (some ⟨b2, 0, none⟩) 2 c2, .slice (some ⟨b3, 0, none⟩) 1 c3, .slice (some ⟨L, 0, none⟩) 2 c4]] W fun e w' => Aft W w' ∧ ∃ A c, e = .returned (.tuple #[.slice A 3 c, .int .i64 0]) ∧ Lists w' A [[0], [1, 2], [3]] := by
  refine (ends_good W T4 _ _ _ _ c1 c2 c3 c4 hT chk4).mono ?_
  rintro e w' ⟨ha, h | h⟩
  · exact (h.1 endsOk4).elim
  · obtain ⟨_, v, rfl, hv⟩ := h
    rw [ends4] at hv
    obtain ⟨A, c, rfl, _, hl⟩ := hv.lists (by decide) (by decide)
    exact ⟨ha, A, c, rfl, hl⟩
theorem aw21 (hT : TRep W T4 (some ⟨b1, 0, none⟩) (some ⟨b2, 0, none⟩) (some ⟨b3, 0, none⟩) (some ⟨L, 0, none⟩)) {g : Nat} (hg : Blk W g 3 #[.int .i64 0, .int .i64 1, .int .i64 3]) : Calls Tryz.prog 23 #[.agg #[.int .i64 4, .slice (some ⟨b1, 0, none⟩) 4 c1, .slice (some ⟨b2, 0, none⟩) 2 c2, .slice (some ⟨b3, 0, none⟩) 1 c3, .slice (some ⟨L, 0, none⟩) 2 c4], .slice (some ⟨g, 0, none⟩) 3 3] W fun e w' => Aft W w' ∧ ∃ A c, e = .returned (.tuple #[.slice A 2 c, .int .i64 0]) ∧ Ints w' A [0, 0] := by
  refine (agrees_good W T4 _ _ _ _ c1 c2 c3 c4 [0, 1, 3] _ 3 hT (ints_blk (t := 3) (l := [0, 1, 3]) (by exact hg) (by decide)) chk4 lin4 st4).mono ?_
  rintro e w' ⟨ha, h | ⟨R, v, h, rfl, hv⟩⟩
  · rw [agr4] at h; cases h.1
  · rw [agr4] at h
    cases h
    obtain ⟨A, c, rfl, _, hl⟩ := own_ints hv (by decide)
    exact ⟨ha, A, c, rfl, hl⟩
theorem aw18 (hT : TRep W T4 (some ⟨b1, 0, none⟩) (some ⟨b2, 0, none⟩) (some ⟨b3, 0, none⟩) (some ⟨L, 0, none⟩)) {g k : Nat} (hg : Blk W g 3 #[.int .i64 1, .int .i64 0]) (hk : Blk W k 3 #[.int .i64 0, .int .i64 1, .int .i64 3]) : Calls Tryz.prog 24 #[.agg #[.int .i64 4, .slice (some ⟨b1, 0, none⟩) 4 c1, .slice (some ⟨b2, 0, none⟩) 2 c2, .slice (some ⟨b3, 0, none⟩) 1 c3, .slice (some ⟨L, 0, none⟩) 2 c4], .slice (some ⟨g, 0, none⟩) 2 2, .slice (some ⟨k, 0, none⟩) 3 3] W fun e w' => Aft W w' ∧ ∃ A c, e = .returned (.tuple #[.slice A 1 c, .int .i64 0]) ∧ Ints w' A [0] := by
  refine (breaks_any W T4 _ _ _ _ c1 c2 c3 c4 [1, 0] _ 2 [0, 1, 3] _ 3 hT (ints_blk (t := 3) (l := [1, 0]) (by exact hg) (by decide)) (ints_blk (t := 3) (l := [0, 1, 3]) (by exact hk) (by decide))).mono ?_
  rintro e w' ⟨ha, h | h⟩
  · exact (h.1 brkE4).elim
  · obtain ⟨_, v, rfl, hv⟩ := h
    rw [brk4] at hv
    obtain ⟨A, c, rfl, _, hl⟩ := own_ints hv (by decide)
    exact ⟨ha, A, c, rfl, hl⟩
theorem aw27 (hT : TRep W T4 (some ⟨b1, 0, none⟩) (some ⟨b2, 0, none⟩) (some ⟨b3, 0, none⟩) (some ⟨L, 0, none⟩)) {g : Nat} (hg : Blk W g 3 #[.int .i64 1, .int .i64 0]) : Calls Tryz.prog 43 #[.agg #[.int .i64 4, .slice (some ⟨b1, 0, none⟩) 4 c1, .slice (some ⟨b2, 0, none⟩) 2 c2, .slice (some ⟨b3, 0, none⟩) 1 c3, .slice (some ⟨L, 0, none⟩) 2 c4], .slice (some ⟨g, 0, none⟩) 2 2] W fun e w' => Aft W w' ∧ ∃ A c, e = .returned (.tuple #[.slice A 1 c, .int .i64 0]) ∧ Ints w' A [0] ∧ ∀ b o, A = some ⟨b, o, none⟩ → W.heap.size ≤ b := by
  refine (yield_any W T4 _ _ _ _ c1 c2 c3 c4 [1, 0] _ 2 hT (ints_blk (t := 3) (l := [1, 0]) (by exact hg) (by decide))).mono ?_
  rintro e w' ⟨ha, h | h⟩
  · exact (h.1 rE410).elim
  · obtain ⟨_, v, rfl, hv⟩ := h
    rw [yl4] at hv
    obtain ⟨A, c, rfl, _, hl⟩ := own_ints hv (by decide)
    exact ⟨ha, A, c, rfl, hl, fun b o e => by subst e; exact (hv.lt b rfl).1⟩
theorem aw30 (hT : TRep W T4 (some ⟨b1, 0, none⟩) (some ⟨b2, 0, none⟩) (some ⟨b3, 0, none⟩) (some ⟨L, 0, none⟩)) {g k1 k2 k3 k : Nat} (hg : Blk W g 3 #[.int .i64 1, .int .i64 0]) (h1 : Blk W k1 3 #[.int .i64 0, .int .i64 3, .int .i64 3, .int .i64 3]) (h2 : Blk W k2 3 #[.int .i64 1, .int .i64 1, .int .i64 1, .int .i64 1]) (h3 : Blk W k3 3 #[.int .i64 2, .int .i64 2, .int .i64 2, .int .i64 1]) (hk : Blk W k 24 #[.slice (some ⟨k1, 0, none⟩) 4 4, .slice (some ⟨k2, 0, none⟩) 4 4, .slice (some ⟨k3, 0, none⟩) 4 4]) :
    Calls Tryz.prog 44 #[.agg #[.int .i64 4, .slice (some ⟨b1, 0, none⟩) 4 c1, .slice (some ⟨b2, 0, none⟩) 2 c2, .slice (some ⟨b3, 0, none⟩) 1 c3, .slice (some ⟨L, 0, none⟩) 2 c4], .slice (some ⟨g, 0, none⟩) 2 2, .slice (some ⟨k, 0, none⟩) 3 3] W fun e w' => Aft W w' ∧ e = .returned (.tuple #[.int .i64 1, .int .i64 0]) := by
  have hF : Lists W (some ⟨k, 0, none⟩) F4 := lists_blk hk (by decide) fun i hi => by
    match i, hi with
    | 0, _ => exact ⟨_, 4, rfl, ints_blk (t := 3) (l := [0, 3, 3, 3]) (by exact h1) (by decide)⟩
    | 1, _ => exact ⟨_, 4, rfl, ints_blk (t := 3) (l := [1, 1, 1, 1]) (by exact h2) (by decide)⟩
    | 2, _ => exact ⟨_, 4, rfl, ints_blk (t := 3) (l := [2, 2, 2, 1]) (by exact h3) (by decide)⟩
  refine (proves_any W T4 _ _ _ _ c1 c2 c3 c4 [1, 0] _ 2 F4 _ 3 hT (ints_blk (t := 3) (l := [1, 0]) (by exact hg) (by decide)) hF).mono ?_
  rintro e w' ⟨ha, h⟩
  rw [prN4, prE4] at h
  exact ⟨ha, h⟩
theorem aw38 (hT : TRep W T5 (some ⟨b1, 0, none⟩) (some ⟨b2, 0, none⟩) (some ⟨b3, 0, none⟩) (some ⟨L, 0, none⟩)) : Calls Tryz.prog 38 #[.agg #[.int .i64 4, .slice (some ⟨b1, 0, none⟩) 4 c1, .slice (some ⟨b2, 0, none⟩) 2 c2, .slice (some ⟨b3, 0, none⟩) 1 c3, .slice (some ⟨L, 0, none⟩) 2 c4]] W fun e w' => Aft W w' ∧ ∃ A c, e = .returned (.tuple #[.slice A 2 c, .int .i64 1, .int .i64 0]) ∧ Ints w' A [0, 0] := by
  refine (fewest_any W T5 _ _ _ _ c1 c2 c3 c4 hT).mono ?_
  rintro e w' ⟨ha, h | h⟩
  · exact (h.1 chk5).elim
  · obtain ⟨_, v, rfl, hv⟩ := h
    rw [few5] at hv ⊢
    obtain ⟨A, c, rfl, _, hl⟩ := own_ints hv (by decide)
    exact ⟨ha, A, c, rfl, hl⟩
theorem aw17a {A : Option Addr} {c k1 k2 k : Nat} (hA : Lists W A [[0, 1, 3], [0, 2, 3]]) (h1 : Blk W k1 3 #[.int .i64 0, .int .i64 1, .int .i64 3]) (h2 : Blk W k2 3 #[.int .i64 0, .int .i64 2, .int .i64 3]) (hk : Blk W k 24 #[.slice (some ⟨k1, 0, none⟩) 3 3, .slice (some ⟨k2, 0, none⟩) 3 3]) :
    Calls Tryz.prog 14 #[.slice A 2 c, .slice (some ⟨k, 0, none⟩) 2 2] W fun e w' => e = .returned (.bool true) ∧ Aft W w' :=
  equalAll_any W A _ [[0, 1, 3], [0, 2, 3]] [[0, 1, 3], [0, 2, 3]] c 2 hA (lists_blk hk (by decide) fun i hi => by
    match i, hi with
    | 0, _ => exact ⟨_, 3, rfl, ints_blk (t := 3) (l := [0, 1, 3]) (by exact h1) (by decide)⟩
    | 1, _ => exact ⟨_, 3, rfl, ints_blk (t := 3) (l := [0, 2, 3]) (by exact h2) (by decide)⟩)
theorem aw17b {A : Option Addr} {c k1 k : Nat} (hA : Lists W A [[0, 0]]) (h1 : Blk W k1 3 #[.int .i64 0, .int .i64 0]) (hk : Blk W k 24 #[.slice (some ⟨k1, 0, none⟩) 2 2]) :
    Calls Tryz.prog 14 #[.slice A 1 c, .slice (some ⟨k, 0, none⟩) 1 1] W fun e w' => e = .returned (.bool true) ∧ Aft W w' :=
  equalAll_any W A _ [[0, 0]] [[0, 0]] c 1 hA (lists_blk hk (by decide) fun i hi => by
    match i, hi with
    | 0, _ => exact ⟨_, 2, rfl, ints_blk (t := 3) (l := [0, 0]) (by exact h1) (by decide)⟩)
theorem aw17c {A : Option Addr} {c k1 k2 k3 k : Nat} (hA : Lists W A [[0], [1, 2], [3]]) (h1 : Blk W k1 3 #[.int .i64 0]) (h2 : Blk W k2 3 #[.int .i64 1, .int .i64 2]) (h3 : Blk W k3 3 #[.int .i64 3]) (hk : Blk W k 24 #[.slice (some ⟨k1, 0, none⟩) 1 1, .slice (some ⟨k2, 0, none⟩) 2 2, .slice (some ⟨k3, 0, none⟩) 1 1]) :
    Calls Tryz.prog 14 #[.slice A 3 c, .slice (some ⟨k, 0, none⟩) 3 3] W fun e w' => e = .returned (.bool true) ∧ Aft W w' :=
  equalAll_any W A _ [[0], [1, 2], [3]] [[0], [1, 2], [3]] c 3 hA (lists_blk hk (by decide) fun i hi => by
    match i, hi with
    | 0, _ => exact ⟨_, 1, rfl, ints_blk (t := 3) (l := [0]) (by exact h1) (by decide)⟩
    | 1, _ => exact ⟨_, 2, rfl, ints_blk (t := 3) (l := [1, 2]) (by exact h2) (by decide)⟩
    | 2, _ => exact ⟨_, 1, rfl, ints_blk (t := 3) (l := [3]) (by exact h3) (by decide)⟩)
end
end Go.Proofs
end

section
/- Walks: what the program asks of itself before it holds anything. -/
namespace Go.Proofs
open Go.RowKit

structure Aw (w : World) (b1 b2 b3 L c1 c2 c3 c4 D : Nat) (X : World) : Prop where
  aft : Aft w X
  base : w.heap.size ≤ L
  far : L < D
  rows : ∀ Z, X.grownBy Z (some L) → RowsP Z (some ⟨b1, 0, none⟩) 3 WayR T4.ways ∧ RowsP Z (some ⟨b2, 0, none⟩) 1 WordR T4.words ∧ Ints Z (some ⟨b3, 0, none⟩) T4.starts
  legs : Blk X L 70 #[.int .i64 0, .int .i64 (-1), .int .i64 1, .int .i64 (-1)]
  box : Blk X D 27 #[.int .i64 4, .slice (some ⟨b1, 0, none⟩) 4 c1, .slice (some ⟨b2, 0, none⟩) 2 c2, .slice (some ⟨b3, 0, none⟩) 1 c3, .slice (some ⟨L, 0, none⟩) 2 c4]
section
variable {w X Y : World} {b1 b2 b3 L c1 c2 c3 c4 D : Nat}
theorem Aw.start (h : Aft w X) (h2 : w.heap.size ≤ L) (h3 : Blk X L 70 #[.int .i64 0, .int .i64 (-1), .int .i64 1, .int .i64 (-1)]) (h4 : ∀ Z, X.grownBy Z (some L) → RowsP Z (some ⟨b1, 0, none⟩) 3 WayR T4.ways ∧ RowsP Z (some ⟨b2, 0, none⟩) 1 WordR T4.words ∧ Ints Z (some ⟨b3, 0, none⟩) T4.starts) :
    Aw w b1 b2 b3 L c1 c2 c3 c4 X.heap.size (X.alloc (.cells #[.int .i64 4, .slice (some ⟨b1, 0, none⟩) 4 c1, .slice (some ⟨b2, 0, none⟩) 2 c2, .slice (some ⟨b3, 0, none⟩) 1 c3, .slice (some ⟨L, 0, none⟩) 2 c4] 27)) :=
  ⟨h.then_alloc _, h2, h3.lt, fun Z hz => h4 Z ((only_of_aft (Aft.alloc _ _) _).trans hz), h3.alloc _, Blk.new _ _ _⟩
theorem Aw.next (h : Aw w b1 b2 b3 L c1 c2 c3 c4 D X) (ha : Aft X Y) : Aw w b1 b2 b3 L c1 c2 c3 c4 D Y := ⟨h.aft.trans ha, h.base, h.far, fun Z hz => h.rows Z ((only_of_aft ha _).trans hz), h.legs.aft ha, h.box.aft ha⟩
theorem legs_blk {l : List Leg} {b : Nat} {cs : Array Value} (hb : Blk X b 70 cs) (hl : l.length * 2 ≤ 17592186043904) (h : ∀ i, (hi : i < l.length) → cs[i * 2]? = some (.int .i64 l[i].word) ∧ cs[i * 2 + 1]? = some (.int .i64 l[i].other)) : RowsP X (some ⟨b, 0, none⟩) 2 LegR l :=
  rows_blk hb hl fun i hi => ⟨[.int .i64 l[i].word, .int .i64 l[i].other], rfl, rfl, fun j hj => by match j, hj with | 0, _ => exact (h i hi).1 | 1, _ => exact (h i hi).2⟩
theorem Aw.rep (h : Aw w b1 b2 b3 L c1 c2 c3 c4 D X) : TRep X T4 (some ⟨b1, 0, none⟩) (some ⟨b2, 0, none⟩) (some ⟨b3, 0, none⟩) (some ⟨L, 0, none⟩) :=
  ⟨(h.rows X (only_refl _ _)).1, (h.rows X (only_refl _ _)).2.1, (h.rows X (only_refl _ _)).2.2, legs_blk h.legs (by decide) fun i hi => by match i, hi with | 0, _ => exact ⟨rfl, rfl⟩ | 1, _ => exact ⟨rfl, rfl⟩⟩
theorem setc (X : World) (L i : Nat) (v : Value) : X.grownBy (X.setCell ⟨L, i, none⟩ v) (some L) := Go.Lib.grownBy_setCell X L i v
theorem Aw.rep5 (h : Aw w b1 b2 b3 L c1 c2 c3 c4 D X) : TRep (X.setCell ⟨L, 1, none⟩ (.int .i64 1)) T5 (some ⟨b1, 0, none⟩) (some ⟨b2, 0, none⟩) (some ⟨b3, 0, none⟩) (some ⟨L, 0, none⟩) :=
  ⟨(h.rows _ (setc X L 1 _)).1, (h.rows _ (setc X L 1 _)).2.1, (h.rows _ (setc X L 1 _)).2.2, legs_blk (h.legs.store 1 _) (by decide) fun i hi => by match i, hi with | 0, _ => exact ⟨rfl, rfl⟩ | 1, _ => exact ⟨rfl, rfl⟩⟩
theorem Aw.aft5 (h : Aw w b1 b2 b3 L c1 c2 c3 c4 D X) (v : Value) : Aft w (X.setCell ⟨L, 1, none⟩ v) := h.aft.then_setCell (by exact h.base) v
theorem Aw.cells (h : Blk X D 27 #[.int .i64 4, .slice (some ⟨b1, 0, none⟩) 4 c1, .slice (some ⟨b2, 0, none⟩) 2 c2, .slice (some ⟨b3, 0, none⟩) 1 c3, .slice (some ⟨L, 0, none⟩) 2 c4]) :
    X.cell? ⟨D, 0, none⟩ = some (.int .i64 4) ∧ X.cell? ⟨D, 1, none⟩ = some (.slice (some ⟨b1, 0, none⟩) 4 c1) ∧ X.cell? ⟨D, 2, none⟩ = some (.slice (some ⟨b2, 0, none⟩) 2 c2) ∧ X.cell? ⟨D, 3, none⟩ = some (.slice (some ⟨b3, 0, none⟩) 1 c3) ∧ X.cell? ⟨D, 4, none⟩ = some (.slice (some ⟨L, 0, none⟩) 2 c4) :=
  ⟨h.cell 0, h.cell 1, h.cell 2, h.cell 3, h.cell 4⟩
theorem hwL {A : Option Addr} {n : Nat} (h : L < n) (hf : ∀ b o, A = some ⟨b, o, none⟩ → n ≤ b) : ∀ b o, A = some ⟨b, o, none⟩ → some b ≠ some L := fun b o e h2 => by have := hf b o e; cases h2; omega
theorem aw20 {A A' : Option Addr} {c c' : Nat} (l : List Int) (hA : Ints X A l) (hA' : Ints X A' l) :
    Calls Tryz.prog 27 #[.slice A l.length c, .slice A' l.length c'] X fun e w' => e = .returned (.bool true) ∧ Aft X w' := by
  refine (kitEqual_int A A' l l c c' X hA hA').mono ?_
  rintro e w' ⟨rfl, ha⟩
  exact ⟨by simp [eqB], ha⟩
end

set_option maxRecDepth 100000 in
set_option maxHeartbeats 4000000 in
theorem awake_any (w : World) : Calls Tryz.prog 9 #[] w fun e w' => e = .returned (.bool true) ∧ Aft w w' := by
  go_enter Tryz.func9, Tryz.ntmps9
  go_upto_region 2 with (first
    | (go_at_call 34; refine (four_any _).mono ?_; rintro e x ⟨b1, b2, b3, L, c1, c2, c3, c4, rfl, ha1, hL, hbL, hst⟩; have HS := Lib.hid (Aw.start (c1 := c1) (c2 := c2) (c3 := c3) (c4 := c4) ha1 hL hbL hst); clear ha1 hL hbL hst))
  have hb := HS.out.box
  generalize hx2 : (x.alloc (Obj.cells #[Value.int IntKind.i64 4, Value.slice (some { block := b1, off := 0 }) 4 c1, Value.slice (some { block := b2, off := 0 }) 2 c2, Value.slice (some { block := b3, off := 0 }) 1 c3, Value.slice (some { block := L, off := 0 }) 2 c4] 27)) = x2 at *
  clear hx2
  generalize x.heap.size = D at *
  have hlt := hb.lt
  obtain ⟨k0, k1, k2, k3, k4⟩ := Aw.cells hb
  clear hb
  go_upto_region 8 with (first
    | (go_at_call 31; refine (aw15 (HS.out.next (Aft.alloc _ _)).rep (al1 _ _ _)).mono ?_; rintro e x ⟨ha, A1, d1, rfl, hl⟩; have HL1 := Lib.hid hl; clear hl; have HS := Lib.hid (HS.out.next ((Aft.alloc _ _).trans ha)); have hb := HS.out.box; clear hlt k0 k1 k2 k3 k4; have hlt := hb.lt; obtain ⟨k0, k1, k2, k3, k4⟩ := Aw.cells hb; clear hb ha)
    | (go_at_call 31; refine (aw15b (HS.out.next (Aft.alloc _ _)).rep (al1 _ _ _)).mono ?_; rintro e x ⟨ha, A2, d2, rfl⟩; have HL1 := Lib.hid (HL1.out.aft ((Aft.alloc _ _).trans ha)); have HS := Lib.hid (HS.out.next ((Aft.alloc _ _).trans ha)); have hb := HS.out.box; clear hlt k0 k1 k2 k3 k4; have hlt := hb.lt; obtain ⟨k0, k1, k2, k3, k4⟩ := Aw.cells hb; clear hb ha)
    | (go_at_call 12; refine (aw43 HS.out.rep).mono ?_; rintro e x ⟨ha, A3, d3, rfl, hl⟩; have HL3 := Lib.hid hl; clear hl;have HL1 := Lib.hid (HL1.out.aft ha); have HS := Lib.hid (HS.out.next ha); have hb := HS.out.box; clear hlt k0 k1 k2 k3 k4; have hlt := hb.lt; obtain ⟨k0, k1, k2, k3, k4⟩ := Aw.cells hb; clear hb ha)
    | (go_at_call 17; refine (aw45 HS.out.rep).mono ?_; rintro e x ⟨ha, A4, d4, rfl, hl⟩; have HL4 := Lib.hid hl; clear hl;have HL1 := Lib.hid (HL1.out.aft ha); have HL3 := Lib.hid (HL3.out.aft ha); have HS := Lib.hid (HS.out.next ha); have hb := HS.out.box; clear hlt k0 k1 k2 k3 k4; have hlt := hb.lt; obtain ⟨k0, k1, k2, k3, k4⟩ := Aw.cells hb; clear hb ha)
    | (go_at_call 23; refine (aw21 (HS.out.next (Aft.alloc _ _)).rep (al1 _ _ _)).mono ?_; rintro e x ⟨ha, A5, d5, rfl, hl⟩; have HL5 := Lib.hid hl; clear hl;have HL1 := Lib.hid (HL1.out.aft ((Aft.alloc _ _).trans ha)); have HL3 := Lib.hid (HL3.out.aft ((Aft.alloc _ _).trans ha)); have HL4 := Lib.hid (HL4.out.aft ((Aft.alloc _ _).trans ha)); have HS := Lib.hid (HS.out.next ((Aft.alloc _ _).trans ha)); have hb := HS.out.box; clear hlt k0 k1 k2 k3 k4; have hlt := hb.lt; obtain ⟨k0, k1, k2, k3, k4⟩ := Aw.cells hb; clear hb ha)
    | (go_at_call 24; refine (aw18 (HS.out.next (Aft.then_alloc (Aft.alloc _ _) _)).rep ((al1 _ _ _).alloc _) (al2 _ _ _ _)).mono ?_; rintro e x ⟨ha, A6, d6, rfl, hl⟩; have HL6 := Lib.hid hl; clear hl;have HL1 := Lib.hid (HL1.out.aft ((Aft.then_alloc (Aft.alloc _ _) _).trans ha)); have HL3 := Lib.hid (HL3.out.aft ((Aft.then_alloc (Aft.alloc _ _) _).trans ha)); have HL4 := Lib.hid (HL4.out.aft ((Aft.then_alloc (Aft.alloc _ _) _).trans ha)); have HL5 := Lib.hid (HL5.out.aft ((Aft.then_alloc (Aft.alloc _ _) _).trans ha)); have HS := Lib.hid (HS.out.next ((Aft.then_alloc (Aft.alloc _ _) _).trans ha)); have hb := HS.out.box; clear hlt k0 k1 k2 k3 k4; have hlt := hb.lt; obtain ⟨k0, k1, k2, k3, k4⟩ := Aw.cells hb; clear hb ha))
  clear hlt k0 k1 k2 k3 k4
  apply wp_region_lit
  (repeat (first | go_big_skip | go_big_want | go_big_move | go_big_op | go_step | go_upon | go_back))
  go_at_call 14
  refine (aw17a (HL1.out.aft (Aft.then_alloc (Aft.then_alloc (Aft.alloc _ _) _) _)) (((al1 _ _ _).alloc _).alloc _) ((al2 _ _ _ _).alloc _) (al3 _ _ _ _ _)).mono ?_
  rintro e x ⟨rfl, ha⟩
  dsimp only
  have HL3 := Lib.hid (HL3.out.aft ((Aft.then_alloc (Aft.then_alloc (Aft.alloc _ _) _) _).trans ha))
  have HL4 := Lib.hid (HL4.out.aft ((Aft.then_alloc (Aft.then_alloc (Aft.alloc _ _) _) _).trans ha))
  have HL5 := Lib.hid (HL5.out.aft ((Aft.then_alloc (Aft.then_alloc (Aft.alloc _ _) _) _).trans ha))
  have HL6 := Lib.hid (HL6.out.aft ((Aft.then_alloc (Aft.then_alloc (Aft.alloc _ _) _) _).trans ha))
  have HS := Lib.hid (HS.out.next ((Aft.then_alloc (Aft.then_alloc (Aft.alloc _ _) _) _).trans ha))
  clear ha
  (repeat (first | go_big_skip | go_big_want | go_big_move | go_big_op | go_step | go_upon | go_back))
  go_at_call 14
  refine (aw17b (HL3.out.aft (Aft.then_alloc (Aft.alloc _ _) _)) ((al1 _ _ _).alloc _) (al2 _ _ _ _)).mono ?_
  rintro e x ⟨rfl, ha⟩
  dsimp only
  have HL4 := Lib.hid (HL4.out.aft ((Aft.then_alloc (Aft.alloc _ _) _).trans ha))
  have HL5 := Lib.hid (HL5.out.aft ((Aft.then_alloc (Aft.alloc _ _) _).trans ha))
  have HL6 := Lib.hid (HL6.out.aft ((Aft.then_alloc (Aft.alloc _ _) _).trans ha))
  have HS := Lib.hid (HS.out.next ((Aft.then_alloc (Aft.alloc _ _) _).trans ha))
  clear ha
  (repeat (first | go_big_skip | go_big_want | go_big_move | go_big_op | go_step | go_upon | go_back))
  go_at_call 14
  refine (aw17c (HL4.out.aft (Aft.then_alloc (Aft.then_alloc (Aft.then_alloc (Aft.alloc _ _) _) _) _)) ((((al1 _ _ _).alloc _).alloc _).alloc _) (((al2 _ _ _ _).alloc _).alloc _) ((al3 _ _ _ _ _).alloc _) (al4 _ _ _ _ _ _)).mono ?_
  rintro e x ⟨rfl, ha⟩
  dsimp only
  have HL5 := Lib.hid (HL5.out.aft ((Aft.then_alloc (Aft.then_alloc (Aft.then_alloc (Aft.alloc _ _) _) _) _).trans ha))
  have HL6 := Lib.hid (HL6.out.aft ((Aft.then_alloc (Aft.then_alloc (Aft.then_alloc (Aft.alloc _ _) _) _) _).trans ha))
  have HS := Lib.hid (HS.out.next ((Aft.then_alloc (Aft.then_alloc (Aft.then_alloc (Aft.alloc _ _) _) _) _).trans ha))
  clear ha
  (repeat (first | go_big_skip | go_big_want | go_big_move | go_big_op | go_step | go_upon | go_back))
  go_at_call 27
  refine (aw20 [0, 0] (HL5.out.aft (Aft.alloc _ _)) (ints_blk (l := [0, 0]) (t := 3) (by exact (al1 _ _ _)) (by decide))).mono ?_
  rintro e x ⟨rfl, ha⟩
  dsimp only
  have HL6 := Lib.hid (HL6.out.aft ((Aft.alloc _ _).trans ha))
  have HS := Lib.hid (HS.out.next ((Aft.alloc _ _).trans ha))
  clear ha
  (repeat (first | go_big_skip | go_big_want | go_big_move | go_big_op | go_step | go_upon | go_back))
  go_at_call 27
  refine (aw20 [0] (HL6.out.aft (Aft.alloc _ _)) (ints_blk (l := [0]) (t := 3) (by exact (al1 _ _ _)) (by decide))).mono ?_
  rintro e x ⟨rfl, ha⟩
  dsimp only
  have HS := Lib.hid (HS.out.next ((Aft.alloc _ _).trans ha))
  clear ha
  have hb := HS.out.box
  have hlt := hb.lt
  obtain ⟨k0, k1, k2, k3, k4⟩ := Aw.cells hb
  clear hb
  (repeat (first | go_big_skip | go_big_want | go_big_move | go_big_op | go_step | go_upon | go_back))
  go_at_call 43
  refine (aw27 (HS.out.next (Aft.alloc _ _)).rep (al1 _ _ _)).mono ?_
  rintro e x ⟨ha, A7, d7, rfl, hl, hfar⟩
  dsimp only
  have HL7 := Lib.hid hl
  have HF7 := Lib.hid (hwL (Nat.lt_of_lt_of_le HS.out.legs.lt (Aft.alloc _ _).size) hfar)
  have HS := Lib.hid (HS.out.next ((Aft.alloc _ _).trans ha))
  clear hl hfar ha hlt k0 k1 k2 k3 k4
  have hb := HS.out.box
  have hlt := hb.lt
  obtain ⟨k0, k1, k2, k3, k4⟩ := Aw.cells hb
  clear hb
  (repeat (first | go_big_skip | go_big_want | go_big_move | go_big_op | go_step | go_upon | go_back))
  go_at_call 44
  refine (aw30 (HS.out.next (Aft.then_alloc (Aft.then_alloc (Aft.then_alloc (Aft.then_alloc (Aft.alloc _ _) _) _) _) _)).rep (((((al1 _ _ _).alloc _).alloc _).alloc _).alloc _) ((((al2 _ _ _ _).alloc _).alloc _).alloc _) (((al3 _ _ _ _ _).alloc _).alloc _) ((al4 _ _ _ _ _ _).alloc _) (al5 _ _ _ _ _ _ _)).mono ?_
  rintro e x ⟨ha, rfl⟩
  dsimp only
  have HL7 := Lib.hid (HL7.out.aft ((Aft.then_alloc (Aft.then_alloc (Aft.then_alloc (Aft.then_alloc (Aft.alloc _ _) _) _) _) _).trans ha))
  have HS := Lib.hid (HS.out.next ((Aft.then_alloc (Aft.then_alloc (Aft.then_alloc (Aft.then_alloc (Aft.alloc _ _) _) _) _) _).trans ha))
  clear ha hlt k0 k1 k2 k3 k4
  have hb := HS.out.box
  have hlt := hb.lt
  obtain ⟨k0, k1, k2, k3, k4⟩ := Aw.cells hb
  clear hb
  have hf := HS.out.legs.frozen 1
  have hc1 : x.cell? ⟨L, 1, none⟩ = some (.int .i64 (-1)) := HS.out.legs.cell 1
  have hl2 := HS.out.legs.lt
  have hn1 : ¬ L = D := by have := HS.out.far; omega
  have hn2 : ¬ D = L := fun e => hn1 e.symm
  (repeat (first | go_big_skip | go_big_want | go_big_move | go_big_op | go_step | go_upon | go_back))
  go_at_call 38
  refine (aw38 HS.out.rep5).mono ?_
  rintro e y ⟨ha, A9, d9, rfl, hl⟩
  dsimp only
  have HL9 := Lib.hid hl
  have HL7 := Lib.hid ((Go.Proofs.Ints.grown HL7.out (setc x L 1 (.int .i64 1)) HF7.out).aft ha)
  have HA := Lib.hid ((HS.out.aft5 (.int .i64 1)).trans ha)
  clear hl ha hlt k0 k1 k2 k3 k4 hf hc1 hl2 hn1 hn2
  (repeat (first | go_big_skip | go_big_want | go_big_move | go_big_op | go_step | go_upon | go_back))
  go_at_call 27
  refine (aw20 [0] (HL7.out.aft (Aft.alloc _ _)) (ints_blk (l := [0]) (t := 3) (by exact (al1 _ _ _)) (by decide))).mono ?_
  rintro e z ⟨rfl, ha⟩
  dsimp only
  have HL9 := Lib.hid (HL9.out.aft ((Aft.alloc _ _).trans ha))
  have HA := Lib.hid (HA.out.trans ((Aft.alloc _ _).trans ha))
  clear ha
  (repeat (first | go_big_skip | go_big_want | go_big_move | go_big_op | go_step | go_upon | go_back))
  go_at_call 27
  refine (aw20 [0, 0] (HL9.out.aft (Aft.alloc _ _)) (ints_blk (l := [0, 0]) (t := 3) (by exact (al1 _ _ _)) (by decide))).mono ?_
  rintro e z2 ⟨rfl, ha⟩
  dsimp only
  have HA := Lib.hid (HA.out.trans ((Aft.alloc _ _).trans ha))
  clear ha
  (repeat (first | go_big_skip | go_big_want | go_big_move | go_big_op | go_step | go_upon | go_back))
  refine bodyPost_ret (v := .bool true) (by simp [results, Tryz.results9, go_sem]) rfl ?_
  exact ⟨rfl, HA.out⟩
end Go.Proofs
end
