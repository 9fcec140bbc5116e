/- Own texts, merged: CtL4. -/
import Derived.Test.YtbchfakfdikkjaaGreatS17
set_option linter.unusedSimpArgs false
set_option linter.unusedVariables false
set_option linter.unnecessarySimpa false
section
/- Walks: the law CourtStands (4). -/
namespace Go.Proofs
open Go.RowKit
open Court (refL begF noS award)
attribute [local go_sem] Oper.semAt_some
structure Cx (W0:World) (C:CaseL) (R L:List Int) (done:Nat -> Bool) (a:Act) (W:World):Prop where
 aft:Aft W0 W
 o1:done 1 = true -> ∃ v1 v2,a.eval (.tmp 26) = .agg #[.int .i64 C.claims,v1,v2] /\ W.ownsRow W0.heap.size 57 2 v1 C.strikes.length (strC C.strikes) /\ OwnLists W W0.heap.size v2 C.surveys
 o3:done 3 = true -> ∃ v,a.eval (.tmp 28) = v /\ W.ownsRow W0.heap.size 3 1 v R.length (R.map (Value.int .i64))
 o5:done 5 = true -> ∃ v,a.eval (.tmp 30) = v /\ W.ownsRow W0.heap.size 3 1 v L.length (L.map (Value.int .i64))
 o7:done 7 = true -> ∃ v1 v2,a.eval (.tmp 32) = .agg #[.int .i64 C.claims,v1,v2] /\ W.ownsRow W0.heap.size 84 2 v1 C.strikes.length (strC C.strikes) /\ OwnLists W W0.heap.size v2 C.surveys
 o8:done 8 = true -> ∃ g,a.eval (.tmp 7) = .pointer (some ⟨g,0,none⟩) /\ W0.heap.size <= g /\ Blk W g 25 #[.int .i64 0,.slice none 0 0,.slice none 0 0]
 o9:done 9 = true -> ∃ g,a.eval (.tmp 10) = .pointer (some ⟨g,0,none⟩) /\ W0.heap.size <= g /\ Blk W g 31 #[.int .i64 0,.slice none 0 0,.slice none 0 0]
section
variable {W0 W W':World} {C:CaseL} {R L:List Int} {done:Nat -> Bool} {a:Act}
theorem Cx.start:Cx W0 C R L (fun _=>false) a W0.drew:=⟨Aft.drew _,(fun h=>by cases h),(fun h=>by cases h),(fun h=>by cases h),(fun h=>by cases h),(fun h=>by cases h),(fun h=>by cases h)⟩
theorem Cx.keep (h:Cx W0 C R L done a W) {i:Nat} {dst:Option Tmp} {v:Value} (hi:i ≠ 1 /\ i ≠ 3 /\ i ≠ 5 /\ i ≠ 7 /\ i ≠ 8 /\ i ≠ 9) (hd:dst ≠ some 26 /\ dst ≠ some 28 /\ dst ≠ some 30 /\ dst ≠ some 32 /\ dst ≠ some 7 /\ dst ≠ some 10):Cx W0 C R L (Go.upd done i) (a.put dst v) W:=by
 refine ⟨h.aft,fun p=>?_,fun p=>?_,fun p=>?_,fun p=>?_,fun p=>?_,fun p=>?_⟩
 ·rw [upd_ne' (Ne.symm hi.1)] at p;obtain ⟨v1,v2,e,hs⟩:=h.o1 p;exact ⟨v1,v2,by rw [evne hd.1];exact e,hs⟩
 ·rw [upd_ne' (Ne.symm hi.2.1)] at p;obtain ⟨v,e,hs⟩:=h.o3 p;exact ⟨v,by rw [evne hd.2.1];exact e,hs⟩
 ·rw [upd_ne' (Ne.symm hi.2.2.1)] at p;obtain ⟨v,e,hs⟩:=h.o5 p;exact ⟨v,by rw [evne hd.2.2.1];exact e,hs⟩
 ·rw [upd_ne' (Ne.symm hi.2.2.2.1)] at p;obtain ⟨v1,v2,e,hs⟩:=h.o7 p;exact ⟨v1,v2,by rw [evne hd.2.2.2.1];exact e,hs⟩
 ·rw [upd_ne' (Ne.symm hi.2.2.2.2.1)] at p;obtain ⟨g,e,hs⟩:=h.o8 p;exact ⟨g,by rw [evne hd.2.2.2.2.1];exact e,hs⟩
 ·rw [upd_ne' (Ne.symm hi.2.2.2.2.2)] at p;obtain ⟨g,e,hs⟩:=h.o9 p;exact ⟨g,by rw [evne hd.2.2.2.2.2];exact e,hs⟩
theorem Cx.step1 (h:Cx W0 C R L done a W) (ha:Aft W W') {v1 v2:Value} (hs:W'.ownsRow W0.heap.size 57 2 v1 C.strikes.length (strC C.strikes) /\ OwnLists W' W0.heap.size v2 C.surveys) (hz:26 < a.tmps.size):Cx W0 C R L (Go.upd done 1) (a.put (some 26) (.agg #[.int .i64 C.claims,v1,v2])) W':=by
 refine ⟨h.aft.trans ha,fun _=>⟨v1,v2,Act.eval_put_same _ _ _ hz,hs⟩,fun p=>?_,fun p=>?_,fun p=>?_,fun p=>?_,fun p=>?_⟩
 ·rw [upd_ne' (by decide)] at p;obtain ⟨v,e,hs⟩:=h.o3 p;exact ⟨v,by rw [evne (by decide)];exact e,own_aft hs ha⟩
 ·rw [upd_ne' (by decide)] at p;obtain ⟨v,e,hs⟩:=h.o5 p;exact ⟨v,by rw [evne (by decide)];exact e,own_aft hs ha⟩
 ·rw [upd_ne' (by decide)] at p;obtain ⟨v1,v2,e,hs⟩:=h.o7 p;exact ⟨v1,v2,by rw [evne (by decide)];exact e,⟨own_aft hs.1 ha,hs.2.aft ha⟩⟩
 ·rw [upd_ne' (by decide)] at p;obtain ⟨g,e,hs⟩:=h.o8 p;exact ⟨g,by rw [evne (by decide)];exact e,⟨hs.1,hs.2.aft ha⟩⟩
 ·rw [upd_ne' (by decide)] at p;obtain ⟨g,e,hs⟩:=h.o9 p;exact ⟨g,by rw [evne (by decide)];exact e,⟨hs.1,hs.2.aft ha⟩⟩
theorem Cx.step3 (h:Cx W0 C R L done a W) (ha:Aft W W') {v:Value} (hs:W'.ownsRow W0.heap.size 3 1 v R.length (R.map (Value.int .i64))) (hz:28 < a.tmps.size):Cx W0 C R L (Go.upd done 3) (a.put (some 28) (v)) W':=by
 refine ⟨h.aft.trans ha,fun p=>?_,fun _=>⟨v,Act.eval_put_same _ _ _ hz,hs⟩,fun p=>?_,fun p=>?_,fun p=>?_,fun p=>?_⟩
 ·rw [upd_ne' (by decide)] at p;obtain ⟨v1,v2,e,hs⟩:=h.o1 p;exact ⟨v1,v2,by rw [evne (by decide)];exact e,⟨own_aft hs.1 ha,hs.2.aft ha⟩⟩
 ·rw [upd_ne' (by decide)] at p;obtain ⟨v,e,hs⟩:=h.o5 p;exact ⟨v,by rw [evne (by decide)];exact e,own_aft hs ha⟩
 ·rw [upd_ne' (by decide)] at p;obtain ⟨v1,v2,e,hs⟩:=h.o7 p;exact ⟨v1,v2,by rw [evne (by decide)];exact e,⟨own_aft hs.1 ha,hs.2.aft ha⟩⟩
 ·rw [upd_ne' (by decide)] at p;obtain ⟨g,e,hs⟩:=h.o8 p;exact ⟨g,by rw [evne (by decide)];exact e,⟨hs.1,hs.2.aft ha⟩⟩
 ·rw [upd_ne' (by decide)] at p;obtain ⟨g,e,hs⟩:=h.o9 p;exact ⟨g,by rw [evne (by decide)];exact e,⟨hs.1,hs.2.aft ha⟩⟩
theorem Cx.step5 (h:Cx W0 C R L done a W) (ha:Aft W W') {v:Value} (hs:W'.ownsRow W0.heap.size 3 1 v L.length (L.map (Value.int .i64))) (hz:30 < a.tmps.size):Cx W0 C R L (Go.upd done 5) (a.put (some 30) (v)) W':=by
 refine ⟨h.aft.trans ha,fun p=>?_,fun p=>?_,fun _=>⟨v,Act.eval_put_same _ _ _ hz,hs⟩,fun p=>?_,fun p=>?_,fun p=>?_⟩
 ·rw [upd_ne' (by decide)] at p;obtain ⟨v1,v2,e,hs⟩:=h.o1 p;exact ⟨v1,v2,by rw [evne (by decide)];exact e,⟨own_aft hs.1 ha,hs.2.aft ha⟩⟩
 ·rw [upd_ne' (by decide)] at p;obtain ⟨v,e,hs⟩:=h.o3 p;exact ⟨v,by rw [evne (by decide)];exact e,own_aft hs ha⟩
 ·rw [upd_ne' (by decide)] at p;obtain ⟨v1,v2,e,hs⟩:=h.o7 p;exact ⟨v1,v2,by rw [evne (by decide)];exact e,⟨own_aft hs.1 ha,hs.2.aft ha⟩⟩
 ·rw [upd_ne' (by decide)] at p;obtain ⟨g,e,hs⟩:=h.o8 p;exact ⟨g,by rw [evne (by decide)];exact e,⟨hs.1,hs.2.aft ha⟩⟩
 ·rw [upd_ne' (by decide)] at p;obtain ⟨g,e,hs⟩:=h.o9 p;exact ⟨g,by rw [evne (by decide)];exact e,⟨hs.1,hs.2.aft ha⟩⟩
theorem Cx.step7 (h:Cx W0 C R L done a W) (ha:Aft W W') {v1 v2:Value} (hs:W'.ownsRow W0.heap.size 84 2 v1 C.strikes.length (strC C.strikes) /\ OwnLists W' W0.heap.size v2 C.surveys) (hz:32 < a.tmps.size):Cx W0 C R L (Go.upd done 7) (a.put (some 32) (.agg #[.int .i64 C.claims,v1,v2])) W':=by
 refine ⟨h.aft.trans ha,fun p=>?_,fun p=>?_,fun p=>?_,fun _=>⟨v1,v2,Act.eval_put_same _ _ _ hz,hs⟩,fun p=>?_,fun p=>?_⟩
 ·rw [upd_ne' (by decide)] at p;obtain ⟨v1,v2,e,hs⟩:=h.o1 p;exact ⟨v1,v2,by rw [evne (by decide)];exact e,⟨own_aft hs.1 ha,hs.2.aft ha⟩⟩
 ·rw [upd_ne' (by decide)] at p;obtain ⟨v,e,hs⟩:=h.o3 p;exact ⟨v,by rw [evne (by decide)];exact e,own_aft hs ha⟩
 ·rw [upd_ne' (by decide)] at p;obtain ⟨v,e,hs⟩:=h.o5 p;exact ⟨v,by rw [evne (by decide)];exact e,own_aft hs ha⟩
 ·rw [upd_ne' (by decide)] at p;obtain ⟨g,e,hs⟩:=h.o8 p;exact ⟨g,by rw [evne (by decide)];exact e,⟨hs.1,hs.2.aft ha⟩⟩
 ·rw [upd_ne' (by decide)] at p;obtain ⟨g,e,hs⟩:=h.o9 p;exact ⟨g,by rw [evne (by decide)];exact e,⟨hs.1,hs.2.aft ha⟩⟩
theorem Cx.step8 (h:Cx W0 C R L done a W) (ha:Aft W W') {g:Nat} (hs:W0.heap.size <= g /\ Blk W' g 25 #[.int .i64 0,.slice none 0 0,.slice none 0 0]) (hz:7 < a.tmps.size):Cx W0 C R L (Go.upd done 8) (a.put (some 7) (.pointer (some ⟨g,0,none⟩))) W':=by
 refine ⟨h.aft.trans ha,fun p=>?_,fun p=>?_,fun p=>?_,fun p=>?_,fun _=>⟨g,Act.eval_put_same _ _ _ hz,hs⟩,fun p=>?_⟩
 ·rw [upd_ne' (by decide)] at p;obtain ⟨v1,v2,e,hs⟩:=h.o1 p;exact ⟨v1,v2,by rw [evne (by decide)];exact e,⟨own_aft hs.1 ha,hs.2.aft ha⟩⟩
 ·rw [upd_ne' (by decide)] at p;obtain ⟨v,e,hs⟩:=h.o3 p;exact ⟨v,by rw [evne (by decide)];exact e,own_aft hs ha⟩
 ·rw [upd_ne' (by decide)] at p;obtain ⟨v,e,hs⟩:=h.o5 p;exact ⟨v,by rw [evne (by decide)];exact e,own_aft hs ha⟩
 ·rw [upd_ne' (by decide)] at p;obtain ⟨v1,v2,e,hs⟩:=h.o7 p;exact ⟨v1,v2,by rw [evne (by decide)];exact e,⟨own_aft hs.1 ha,hs.2.aft ha⟩⟩
 ·rw [upd_ne' (by decide)] at p;obtain ⟨g,e,hs⟩:=h.o9 p;exact ⟨g,by rw [evne (by decide)];exact e,⟨hs.1,hs.2.aft ha⟩⟩
theorem Cx.step9 (h:Cx W0 C R L done a W) (ha:Aft W W') {g:Nat} (hs:W0.heap.size <= g /\ Blk W' g 31 #[.int .i64 0,.slice none 0 0,.slice none 0 0]) (hz:10 < a.tmps.size):Cx W0 C R L (Go.upd done 9) (a.put (some 10) (.pointer (some ⟨g,0,none⟩))) W':=by
 refine ⟨h.aft.trans ha,fun p=>?_,fun p=>?_,fun p=>?_,fun p=>?_,fun p=>?_,fun _=>⟨g,Act.eval_put_same _ _ _ hz,hs⟩⟩
 ·rw [upd_ne' (by decide)] at p;obtain ⟨v1,v2,e,hs⟩:=h.o1 p;exact ⟨v1,v2,by rw [evne (by decide)];exact e,⟨own_aft hs.1 ha,hs.2.aft ha⟩⟩
 ·rw [upd_ne' (by decide)] at p;obtain ⟨v,e,hs⟩:=h.o3 p;exact ⟨v,by rw [evne (by decide)];exact e,own_aft hs ha⟩
 ·rw [upd_ne' (by decide)] at p;obtain ⟨v,e,hs⟩:=h.o5 p;exact ⟨v,by rw [evne (by decide)];exact e,own_aft hs ha⟩
 ·rw [upd_ne' (by decide)] at p;obtain ⟨v1,v2,e,hs⟩:=h.o7 p;exact ⟨v1,v2,by rw [evne (by decide)];exact e,⟨own_aft hs.1 ha,hs.2.aft ha⟩⟩
 ·rw [upd_ne' (by decide)] at p;obtain ⟨g,e,hs⟩:=h.o8 p;exact ⟨g,by rw [evne (by decide)];exact e,⟨hs.1,hs.2.aft ha⟩⟩
end
theorem list6 {α:Type} {us:List α} (h:us.length = 6):∃ x1 x2 x3 x4 x5 x6,us = [x1,x2,x3,x4,x5,x6]:=by
 match us,h with
 | [x1,x2,x3,x4,x5,x6],_=>exact ⟨x1,x2,x3,x4,x5,x6,rfl⟩
structure Two4 (C:CaseL) (R L:List Int) (W:World) (g7 g8 b3:Nat) (a1 a2:Option Addr) (c1 c2:Nat) (A1 A2 A3 A4:Option Addr) (k1 k2 k3 k4:Nat) (AR AL A5 A6:Option Addr):Prop where
 k7:Blk W g7 25 #[.int .i64 C.claims,.slice A1 C.strikes.length k1,.slice A2 C.surveys.length k2]
 k8:Blk W g8 31 #[.int .i64 C.claims,.slice A3 C.strikes.length k3,.slice A4 C.surveys.length k4]
 k3:Blk W b3 25 #[.int .i64 C.claims,.slice a1 C.strikes.length c1,.slice a2 C.surveys.length c2]
 r7:CRep W C A1 A2
 r8:CRep W C A3 A4
 r3:CRep W C a1 a2
 i1:Ints W AR R
 i2:Ints W AL L
 i5:Ints W A5 R
 i6:Ints W A6 L
theorem Two4.aft {C:CaseL} {R L:List Int} {W W':World} {g7 g8 b3:Nat} {a1 a2:Option Addr} {c1 c2:Nat} {A1 A2 A3 A4:Option Addr} {k1 k2 k3 k4:Nat} {AR AL A5 A6:Option Addr} (h:Two4 C R L W g7 g8 b3 a1 a2 c1 c2 A1 A2 A3 A4 k1 k2 k3 k4 AR AL A5 A6) (ha:Aft W W'):Two4 C R L W' g7 g8 b3 a1 a2 c1 c2 A1 A2 A3 A4 k1 k2 k3 k4 AR AL A5 A6 :=
 ⟨h.k7.aft ha,h.k8.aft ha,h.k3.aft ha,h.r7.aft ha,h.r8.aft ha,h.r3.aft ha,h.i1.aft ha,h.i2.aft ha,h.i5.aft ha,h.i6.aft ha⟩
theorem listsQ_two {W:World} {A B:Option Addr} {R L:List Int} {c d:Nat} (hR:IntsQ W A R) (hL:IntsQ W B L):ListsQ (W.alloc (.cells #[.slice A R.length c,.slice B L.length d] 33)) (some ⟨W.heap.size,0,none⟩) [R,L]:=by
 have hb:=Blk.new W 33 #[.slice A R.length c,.slice B L.length d];refine ⟨by simp,.inr ⟨W.heap.size,0,rfl,hb.lt,fun i hi=>?_⟩⟩
 match i,hi with
 | 0,_=>exact ⟨[.slice A R.length c],rfl,⟨A,c,rfl,hR.aft (Aft.alloc _ _)⟩,fun j hj=>by
   have:j = 0:=by simpa using hj
   subst this;exact hb.cell 0⟩
 | 1,_=>exact ⟨[.slice B L.length d],rfl,⟨B,d,rfl,hL.aft (Aft.alloc _ _)⟩,fun j hj=>by
   have:j = 0:=by simpa using hj
   subst this;exact hb.cell 1⟩
set_option maxRecDepth 100000 in
set_option maxHeartbeats 16000000 in
theorem standsLaw_any (C:CaseL) (a1 a2:Option Addr) (c1 c2:Nat) (R:List Int) (AR:Option Addr) (cR:Nat) (L:List Int) (AL:Option Addr) (cL:Nat) (w:World) (hC:CRepQ w C a1 a2) (hR:IntsQ w AR R) (hL:IntsQ w AL L):Calls Tryz.prog 4 #[(.agg #[.int .i64 C.claims,.slice a1 C.strikes.length c1,.slice a2 C.surveys.length c2]),.slice AR R.length cR,.slice AL L.length cL] w fun e w'=>e = .returned (.bool true) /\ Aft w w':=by
 have H0:=Lib.hid (Aft.alloc w (.cells #[.int .i64 C.claims,.slice a1 C.strikes.length c1,.slice a2 C.surveys.length c2] 25));have HB:=Lib.hid (Blk.new w 25 #[.int .i64 C.claims,.slice a1 C.strikes.length c1,.slice a2 C.surveys.length c2]);have HQ:=Lib.hid (hC.aft H0.out);have HRQ:=Lib.hid (hR.aft H0.out);have HLQ:=Lib.hid (hL.aft H0.out);clear hC hR hL;obtain ⟨b3,hb3⟩:∃ b3,w.heap.size = b3:=⟨_,rfl⟩;rw [hb3] at HB;have HBC:=Lib.hid hb3;clear hb3;go_enter Tryz.func4,Tryz.ntmps4;go_upto_region 1 with fail
 rw [HBC.out];generalize w.alloc (.cells #[.int .i64 C.claims,.slice a1 C.strikes.length c1,.slice a2 C.surveys.length c2] 25) = W0 at *;obtain ⟨k0,k1,k2⟩:=box25 HB.out;have k3:=HB.out.lt;have HGR:Hid (Calls Tryz.prog 11 #[(.agg #[.int .i64 C.claims,.slice a1 C.strikes.length c1,.slice a2 C.surveys.length c2]),.int .i64 9,.slice (some ⟨W0.heap.size,0,none⟩) 2 2] (W0.alloc (.cells #[.slice AR R.length cR,.slice AL L.length cL] 33)) (GreatR C [R,L] (W0.alloc (.cells #[.slice AR R.length cR,.slice AL L.length cL] 33)))):=Lib.hid (great_any C a1 a2 c1 c2 9 [R,L] (some ⟨W0.heap.size,0,none⟩) 2 _ (HQ.out.aft (Aft.alloc _ _)) (listsQ_two HRQ.out HLQ.out));(repeat (first | go_big_skip | go_big_want | go_big_move | go_big_op | go_step | go_upon | go_back));go_at_call 11;refine HGR.out.mono ?_;rintro e W1 ⟨b,rfl,hs,ha⟩;dsimp only;have HA1:=Lib.hid ((Aft.alloc W0 (.cells #[.slice AR R.length cR,.slice AL L.length cL] 33)).trans ha);have HSM:=Lib.hid hs;clear ha hs k0 k1 k2 k3 HGR;cases b
 ·have hsm:=HSM.out rfl;have HC:=Lib.hid ((HQ.out.aft HA1.out).small hsm)
  replace HB:=Lib.hid (HB.out.aft HA1.out)
  have hs1:=hsm.few;have hs2:=hsm.fews;have hr30:R.length <= 30:=hsm.lists R (by simp);have hl30:L.length <= 30:=hsm.lists L (by simp);have HRI:=Lib.hid ((HRQ.out.aft HA1.out).small (by omega));have HLI:=Lib.hid ((HLQ.out.aft HA1.out).small (by omega));have HS3:=Lib.hid hsm.surveys;clear hsm HSM HQ HRQ HLQ;go_upto_region 3 with fail
  have HC0:Hid (∀ W,Aft W1 W -> W.cell? ⟨b3,0,none⟩ = some (.int .i64 C.claims) /\ W.cell? ⟨b3,1,none⟩ = some (.slice a1 C.strikes.length c1) /\ W.cell? ⟨b3,2,none⟩ = some (.slice a2 C.surveys.length c2)):=Lib.hid fun W h=>box25 (HB.out.aft h)
  have H13:Hid (∀ W,Aft W1 W -> Calls Tryz.prog 13 #[(.agg #[.int .i64 C.claims,.slice a1 C.strikes.length c1,.slice a2 C.surveys.length c2])] W (CopyR 57 C W)):=Lib.hid fun W h=>cloneCase_any C a1 a2 c1 c2 W (HC.out.aft h) (by omega) (by omega) (fun l hl=>by have:=HS3.out l hl;omega)
  have H14:Hid (∀ W,Aft W1 W -> Calls Tryz.prog 14 #[(.agg #[.int .i64 C.claims,.slice a1 C.strikes.length c1,.slice a2 C.surveys.length c2])] W (CopyR 84 C W)):=Lib.hid fun W h=>caseR_any C a1 a2 c1 c2 W (HC.out.aft h) (by omega) (by omega) (fun l hl=>by have:=HS3.out l hl;omega)
  have H24R:Hid (∀ W,Aft W1 W -> Calls Tryz.prog 24 #[.slice AR R.length cR] W (OwnInts W R)):=Lib.hid fun W h=>kitClone_int AR R cR W (HRI.out.aft h)
  have H24L:Hid (∀ W,Aft W1 W -> Calls Tryz.prog 24 #[.slice AL L.length cL] W (OwnInts W L)):=Lib.hid fun W h=>kitClone_int AL L cL W (HLI.out.aft h)
  refine wp_region_valsU (by kernel_rfl) 10 114 rfl (by kernel_rfl) (by kernel_rfl) [some ((.agg #[.int .i64 C.claims,.slice a1 C.strikes.length c1,.slice a2 C.surveys.length c2])),none,some (.slice AR R.length cR),none,some (.slice AL L.length cL),none,some ((.agg #[.int .i64 C.claims,.slice a1 C.strikes.length c1,.slice a2 C.surveys.length c2])),none,none,none] (by kernel_rfl) rfl (Cx W1 C R L) (Cx.start) ?st1 ?fi1
  case st1 =>
   intro i o v ho hv
   match i,ho,hv with
   | 0,ho,hv =>
    cases ho;cases hv;refine .inl ⟨rfl,fun done a W hz hd hp hk hw K hK=>?_⟩;have e3:=hk.s 3;obtain ⟨y0,y1,y2⟩:=HC0.out W hw.aft;exact op_val (v:=(.agg #[.int .i64 C.claims,.slice a1 C.strikes.length c1,.slice a2 C.surveys.length c2])) (by simp [go_sem,ev' e3,y0,y1,y2]) (hK _ _ (fun u hu=>by cases hu;rfl) (hw.keep (by decide) (by decide)))
   | 1,ho,hv =>
    cases ho;cases hv;refine .inl ⟨rfl,fun done a W hz hd hp hk hw K hK=>?_⟩;have e25:=hk.t 0;refine op_callN rfl rfl rfl _ rfl (vs:=#[(.agg #[.int .i64 C.claims,.slice a1 C.strikes.length c1,.slice a2 C.surveys.length c2])]) (by simp [e25]) (H13.out W hw.aft) fun e w' h=>?_
    obtain ⟨v1,v2,rfl,ho,hl,ha⟩:=h;exact ⟨_,rfl,hK _ _ (fun u hu=>by cases hu) (hw.step1 ha ⟨own_base ho hw.aft.size,hl.mono hw.aft.size⟩ (by rw [hz];decide))⟩
   | 2,ho,hv =>
    cases ho;cases hv;refine .inl ⟨rfl,fun done a W hz hd hp hk hw K hK=>?_⟩;have e1:=hk.s 1;exact op_val (v:=.slice AR R.length cR) (by simp [go_sem,ev' e1]) (hK _ _ (fun u hu=>by cases hu;rfl) (hw.keep (by decide) (by decide)))
   | 3,ho,hv =>
    cases ho;cases hv;refine .inl ⟨rfl,fun done a W hz hd hp hk hw K hK=>?_⟩;have e27:=hk.t 2;refine op_callN rfl rfl rfl _ rfl (vs:=#[.slice AR R.length cR]) (by simp [e27]) (H24R.out W hw.aft) fun e w' h=>?_
    obtain ⟨v1,rfl,ho,ha⟩:=h;exact ⟨_,rfl,hK _ _ (fun u hu=>by cases hu) (hw.step3 ha (own_base ho hw.aft.size) (by rw [hz];decide))⟩
   | 4,ho,hv =>
    cases ho;cases hv;refine .inl ⟨rfl,fun done a W hz hd hp hk hw K hK=>?_⟩;have e2:=hk.s 2;exact op_val (v:=.slice AL L.length cL) (by simp [go_sem,ev' e2]) (hK _ _ (fun u hu=>by cases hu;rfl) (hw.keep (by decide) (by decide)))
   | 5,ho,hv =>
    cases ho;cases hv;refine .inl ⟨rfl,fun done a W hz hd hp hk hw K hK=>?_⟩;have e29:=hk.t 4;refine op_callN rfl rfl rfl _ rfl (vs:=#[.slice AL L.length cL]) (by simp [e29]) (H24L.out W hw.aft) fun e w' h=>?_
    obtain ⟨v1,rfl,ho,ha⟩:=h;exact ⟨_,rfl,hK _ _ (fun u hu=>by cases hu) (hw.step5 ha (own_base ho hw.aft.size) (by rw [hz];decide))⟩
   | 6,ho,hv =>
    cases ho;cases hv;refine .inl ⟨rfl,fun done a W hz hd hp hk hw K hK=>?_⟩;have e3:=hk.s 3;obtain ⟨y0,y1,y2⟩:=HC0.out W hw.aft;exact op_val (v:=(.agg #[.int .i64 C.claims,.slice a1 C.strikes.length c1,.slice a2 C.surveys.length c2])) (by simp [go_sem,ev' e3,y0,y1,y2]) (hK _ _ (fun u hu=>by cases hu;rfl) (hw.keep (by decide) (by decide)))
   | 7,ho,hv =>
    cases ho;cases hv;refine .inl ⟨rfl,fun done a W hz hd hp hk hw K hK=>?_⟩;have e31:=hk.t 6;refine op_callN rfl rfl rfl _ rfl (vs:=#[(.agg #[.int .i64 C.claims,.slice a1 C.strikes.length c1,.slice a2 C.surveys.length c2])]) (by simp [e31]) (H14.out W hw.aft) fun e w' h=>?_
    obtain ⟨v1,v2,rfl,ho,hl,ha⟩:=h;exact ⟨_,rfl,hK _ _ (fun u hu=>by cases hu) (hw.step7 ha ⟨own_base ho hw.aft.size,hl.mono hw.aft.size⟩ (by rw [hz];decide))⟩
   | 8,ho,hv =>
    cases ho;cases hv;refine .inl ⟨rfl,fun done a W hz hd hp hk hw K hK=>?_⟩;exact op_valW (w':=W.alloc (.cells #[.int .i64 0,.slice none 0 0,.slice none 0 0] 25)) (v:=.pointer (some ⟨W.heap.size,0,none⟩)) (by simp [go_sem]) (hK _ _ (fun u hu=>by cases hu) (hw.step8 (Aft.alloc _ _) ⟨hw.aft.size,Blk.new W 25 _⟩ (by rw [hz];decide)))
   | 9,ho,hv =>
    cases ho;cases hv;refine .inl ⟨rfl,fun done a W hz hd hp hk hw K hK=>?_⟩;exact op_valW (w':=W.alloc (.cells #[.int .i64 0,.slice none 0 0,.slice none 0 0] 31)) (v:=.pointer (some ⟨W.heap.size,0,none⟩)) (by simp [go_sem]) (hK _ _ (fun u hu=>by cases hu) (hw.step9 (Aft.alloc _ _) ⟨hw.aft.size,Blk.new W 31 _⟩ (by rw [hz];decide)))
   | _ + 10,_,hv=>cases hv
  intro done us W hus hd hw;obtain ⟨x1,x2,x3,x4,x5,x6,rfl⟩:=list6 hus;obtain ⟨v1,v2,e26,ho1,hl1⟩:=hw.o1 (hd 1 (by decide));obtain ⟨v5,e28,ho5⟩:=hw.o3 (hd 3 (by decide));obtain ⟨v6,e30,ho6⟩:=hw.o5 (hd 5 (by decide));obtain ⟨v3,v4,e32,ho3,hl3⟩:=hw.o7 (hd 7 (by decide));obtain ⟨g7,e7,hg7,hb7⟩:=hw.o8 (hd 8 (by decide));obtain ⟨g8,e10,hg8,hb8⟩:=hw.o9 (hd 9 (by decide));have e26':x1 = .agg #[.int .i64 C.claims,v1,v2]:=by simpa [fill,putAll,Act.put,Act.eval] using e26
  have e28':x2 = v5:=by simpa [fill,putAll,Act.put,Act.eval] using e28
  have e30':x3 = v6:=by simpa [fill,putAll,Act.put,Act.eval] using e30
  have e32':x4 = .agg #[.int .i64 C.claims,v3,v4]:=by simpa [fill,putAll,Act.put,Act.eval] using e32
  have e7':x5 = .pointer (some ⟨g7,0,none⟩):=by simpa [fill,putAll,Act.put,Act.eval] using e7
  have e10':x6 = .pointer (some ⟨g8,0,none⟩):=by simpa [fill,putAll,Act.put,Act.eval] using e10
  subst e26';subst e28';subst e30';subst e32';subst e7';subst e10';obtain ⟨A1,k1,hv1,_,_⟩:=own_strs ho1 (by omega);obtain ⟨A2,k2,hv2,_,_⟩:=hl1.lists (by omega) (fun l hl=>by have:=HS3.out l hl;omega);obtain ⟨A3,k3,hv3,_,_⟩:=own_strs84 ho3 (by omega);obtain ⟨A4,k4,hv4,_,_⟩:=hl3.lists (by omega) (fun l hl=>by have:=HS3.out l hl;omega);obtain ⟨A5,k5,hv5,_,_⟩:=own_ints ho5 (by omega);obtain ⟨A6,k6,hv6,_,_⟩:=own_ints ho6 (by omega);subst hv1;subst hv2;subst hv3;subst hv4;subst hv5;subst hv6
  have hne:g7 ≠ g8:=fun e=>by
   subst e;have h7:W.heap[g7]? = some (.cells #[.int .i64 0,.slice none 0 0,.slice none 0 0] 25 (0,0)):=hb7;have h8:W.heap[g7]? = some (.cells #[.int .i64 0,.slice none 0 0,.slice none 0 0] 31 (0,0)):=hb8;rw [h7] at h8;cases h8
  have hs7:W.grownBy (W.setCells g7 0 [.int .i64 C.claims,.slice A1 C.strikes.length k1,.slice A2 C.surveys.length k2]) (some g7):=only_setCells _ _ _ (only_refl _ _);have hb7':Blk (W.setCells g7 0 [.int .i64 C.claims,.slice A1 C.strikes.length k1,.slice A2 C.surveys.length k2]) g7 25 #[.int .i64 C.claims,.slice A1 C.strikes.length k1,.slice A2 C.surveys.length k2]:=((hb7.store 0 (.int .i64 C.claims)).store 1 (.slice A1 C.strikes.length k1)).store 2 (.slice A2 C.surveys.length k2);have hb8':=hb8.grown hs7 (fun e=>hne (Option.some.inj e).symm);have ho1:=own_kept_ty ho1 hb7 (by decide) hs7;have ho3:=own_kept_ty ho3 hb7 (by decide) hs7;have ho5:=own_kept_ty ho5 hb7 (by decide) hs7;have ho6:=own_kept_ty ho6 hb7 (by decide) hs7;have hl1:=hl1.kept_ty hb7 (by decide) (by decide) hs7;have hl3:=hl3.kept_ty hb7 (by decide) (by decide) hs7;have hA7:=hw.aft.grown hs7 (fun k e=>by cases e;exact hg7);have HT7:=Lib.hid (blk_there hb7 (rfl:3 = (#[Value.int .i64 0,.slice none 0 0,.slice none 0 0]:Array Value).size));have HT8:=Lib.hid (blk_there hb8' (rfl:3 = (#[Value.int .i64 0,.slice none 0 0,.slice none 0 0]:Array Value).size));obtain ⟨W2,hW2⟩:∃ W2,(W.setCells g7 0 [.int .i64 C.claims,.slice A1 C.strikes.length k1,.slice A2 C.surveys.length k2]).setCells g8 0 [.int .i64 C.claims,.slice A3 C.strikes.length k3,.slice A4 C.surveys.length k4] = W2:=⟨_,rfl⟩;have hs8:(W.setCells g7 0 [.int .i64 C.claims,.slice A1 C.strikes.length k1,.slice A2 C.surveys.length k2]).grownBy W2 (some g8):=by rw [<- hW2];exact only_setCells _ _ _ (only_refl _ _)
  have hb8'':Blk W2 g8 31 #[.int .i64 C.claims,.slice A3 C.strikes.length k3,.slice A4 C.surveys.length k4]:=by rw [<- hW2];exact ((hb8'.store 0 (.int .i64 C.claims)).store 1 (.slice A3 C.strikes.length k3)).store 2 (.slice A4 C.surveys.length k4)
  have hb7'':=hb7'.grown hs8 (fun e=>hne (Option.some.inj e));have ho1:=own_kept_ty ho1 hb8' (by decide) hs8;have ho3:=own_kept_ty ho3 hb8' (by decide) hs8;have ho5:=own_kept_ty ho5 hb8' (by decide) hs8;have ho6:=own_kept_ty ho6 hb8' (by decide) hs8;have hl1:=hl1.kept_ty hb8' (by decide) (by decide) hs8;have hl3:=hl3.kept_ty hb8' (by decide) (by decide) hs8;have hA8:=hA7.grown hs8 (fun k e=>by cases e;exact hg8);have HTW:Hid (Two4 C R L W2 g7 g8 b3 a1 a2 c1 c2 A1 A2 A3 A4 k1 k2 k3 k4 AR AL A5 A6):=Lib.hid (by
   obtain ⟨_,_,f1,g1,_⟩:=own_strs ho1 (by omega);obtain ⟨_,_,f2,_,g2⟩:=hl1.lists (by omega) (fun l hl=>by have:=HS3.out l hl;omega);obtain ⟨_,_,f3,g3,_⟩:=own_strs84 ho3 (by omega);obtain ⟨_,_,f4,_,g4⟩:=hl3.lists (by omega) (fun l hl=>by have:=HS3.out l hl;omega);obtain ⟨_,_,f5,_,g5⟩:=own_ints ho5 (by omega);obtain ⟨_,_,f6,_,g6⟩:=own_ints ho6 (by omega);cases f1;cases f2;cases f3;cases f4;cases f5;cases f6;exact ⟨hb7'',hb8'',HB.out.aft hA8,⟨g1,g2⟩,⟨g3,g4⟩,HC.out.aft hA8,HRI.out.aft hA8,HLI.out.aft hA8,g5,g6⟩)
  have HAW:=Lib.hid (H0.out.trans (HA1.out.trans hA8));have HW2:=Lib.hid hW2;clear hw hd hus e26 e28 e30 e32 e7 e10 ho1 ho3 ho5 ho6 hl1 hl3 hb7 hb8 hb7' hb8' hb8'' hb7'' hs7 hs8 hA7 hA8 hne hg7 hg8 hW2 HC0 H13 H14 H24R H24L HB HC HA1 H0 HRI HLI;simp only [fill,List.drop_succ_cons,List.drop_zero,List.zip_cons_cons,List.zip_nil_right,putAll];simp only [Act.put,List.setIfInBounds_toArray,List.set];go_upto_region 4 with (first | (refine wpList_store_mid rfl 25 (.tmp 7) (.tmp 26) rfl g7 0 #[.int .i64 C.claims,.slice A1 C.strikes.length k1,.slice A2 C.surveys.length k2] rfl rfl HT7.out info25b (all_oneCell_toArray (by intro v hv;simp at hv;rcases hv with rfl | rfl | rfl <;> rfl)) ?_) | (refine wpList_store_mid rfl 31 (.tmp 10) (.tmp 32) rfl g8 0 #[.int .i64 C.claims,.slice A3 C.strikes.length k3,.slice A4 C.surveys.length k4] rfl rfl HT8.out info31 (all_oneCell_toArray (by intro v hv;simp at hv;rcases hv with rfl | rfl | rfl <;> rfl)) ?_;rw [HW2.out]))
  clear HT7 HT8 HW2;obtain ⟨sb,sE,hp25,hp26⟩:∃ (sb:Bool) (sE:Int),(∀ X,CRep X C A1 A2 -> Ints X A5 R -> Ints X A6 L -> Calls Tryz.prog 25 #[.agg #[.int .i64 C.claims,.slice A1 C.strikes.length k1,.slice A2 C.surveys.length k2],.slice A5 R.length k5,.slice A6 L.length k6] X fun e w'=>e = .returned (.tuple #[.bool sb,.int .i64 sE]) /\ Aft X w') /\ (∀ X,CRep X C A3 A4 -> Ints X AR R -> Ints X AL L -> Calls Tryz.prog 26 #[.agg #[.int .i64 C.claims,.slice A3 C.strikes.length k3,.slice A4 C.surveys.length k4],.slice AR R.length cR,.slice AL L.length cL] X fun e w'=>e = .returned (.tuple #[.bool sb,.int .i64 sE]) /\ Aft X w') :=
   ⟨_,_,fun X h1 h2 h3=>stands25_any C A1 A2 k1 k2 R L A5 A6 k5 k6 X h1 h2 h3,fun X h1 h2 h3=>standsTop_any C A3 A4 k3 k4 R L AR AL cR cL X h1 h2 h3⟩
  have H25:=Lib.hid hp25;have H26:=Lib.hid hp26;clear hp25 hp26;obtain ⟨x0,x1,x2⟩:=box25 HTW.out.k7;have x3:=HTW.out.k7.lt;go_upto_region 5 with (go_at_call 25;refine (H25.out _ HTW.out.r7 HTW.out.i5 HTW.out.i6).mono ?_;rintro e W3 ⟨rfl,ha⟩;replace HTW:=Lib.hid (HTW.out.aft ha);replace HAW:=Lib.hid (HAW.out.trans ha);clear ha x0 x1 x2 x3)
  obtain ⟨x0,x1,x2⟩:=box31 HTW.out.k8;have x3:=HTW.out.k8.lt;go_upto_region 6 with (go_at_call 26;refine (H26.out _ HTW.out.r8 HTW.out.i1 HTW.out.i2).mono ?_;rintro e W4 ⟨rfl,ha⟩;replace HTW:=Lib.hid (HTW.out.aft ha);replace HAW:=Lib.hid (HAW.out.trans ha);clear ha x0 x1 x2 x3)
  clear H25 H26;have tE:(sE != sE) = false:=by simp
  go_cut [54] from 47 to 54 (fun sv wx=>sv = .bool false /\ wx = W4)
  case first =>
   cases sb
   ·(repeat (first | go_big_skip | go_big_want | go_big_move | go_big_op | go_step | go_upon | go_back));go_meet;exact ⟨rfl,rfl⟩
   ·(repeat (first | go_big_skip | go_big_want | go_big_move | go_big_op | go_step | go_upon | go_back));go_meet;exact ⟨rfl,rfl⟩
  obtain ⟨rfl,rfl⟩:=hcut;clear tE;obtain ⟨W4,rfl⟩:∃ W4,W4 = wc:=⟨_,rfl⟩;go_upto_region 8 with fail
  obtain ⟨F,E2,hp,hr⟩:=full_pair C R;have H27:=Lib.hid (hp A1 A2 k1 k2 A5 k5);have H28:=Lib.hid (hr A3 A4 k3 k4 AR cR);clear hp hr;obtain ⟨x0,x1,x2⟩:=box25 HTW.out.k7;have x3:=HTW.out.k7.lt;go_upto_region 9 with (go_at_call 27;refine (H27.out _ HTW.out.r7 HTW.out.i5).mono ?_;rintro e W5 ⟨B1,d1,rfl,hi,ha⟩;have HI1:=Lib.hid hi;replace HTW:=Lib.hid (HTW.out.aft ha);replace HAW:=Lib.hid (HAW.out.trans ha);clear hi ha x0 x1 x2 x3)
  obtain ⟨x0,x1,x2⟩:=box31 HTW.out.k8;have x3:=HTW.out.k8.lt;go_upto_region 10 with (go_at_call 28;refine (H28.out _ HTW.out.r8 HTW.out.i1).mono ?_;rintro e W6 ⟨B2,d2,rfl,hi,ha⟩;have HI2:=Lib.hid hi;replace HI1:=Lib.hid (HI1.out.aft ha);replace HTW:=Lib.hid (HTW.out.aft ha);replace HAW:=Lib.hid (HAW.out.trans ha);clear hi ha x0 x1 x2 x3)
  have tE:(E2 != E2) = false:=by simp
  have h29:=equalAll_any W6 B1 B2 F F d1 d2 HI1.out HI2.out;rw [eqB_self] at h29;have H29:=Lib.hid h29;clear h29;go_cut [75] from 67 to 75 (fun sv wx=>sv = .bool false /\ Aft W6 wx)
  case first =>
   (repeat (first | go_big_skip | go_big_want | go_big_move | go_big_op | go_step | go_upon | go_back));go_at_call 29;refine H29.out.mono ?_;rintro e wz ⟨rfl,ha⟩;dsimp only;have HZ:=Lib.hid ha;clear ha;(repeat (first | go_big_skip | go_big_want | go_big_move | go_big_op | go_step | go_upon | go_back));go_meet;exact ⟨rfl,HZ.out⟩
  obtain ⟨rfl,ha⟩:=hcut
  replace HTW:=Lib.hid (HTW.out.aft ha)
  replace HAW:=Lib.hid (HAW.out.trans ha)
  clear ha tE H29 HI1 HI2 H27 H28;obtain ⟨W7,rfl⟩:∃ W7,W7 = wc:=⟨_,rfl⟩;go_upto_region 12 with fail
  obtain ⟨F2,E3,hp,hr⟩:=always_pair C R;have H30:=Lib.hid (hp A1 A2 k1 k2 A5 k5);have H31:=Lib.hid (hr A3 A4 k3 k4 AR cR);clear hp hr;obtain ⟨x0,x1,x2⟩:=box25 HTW.out.k7;have x3:=HTW.out.k7.lt;go_upto_region 13 with (go_at_call 30;refine (H30.out _ HTW.out.r7 HTW.out.i5).mono ?_;rintro e W8 ⟨B1,d1,rfl,hi,ha⟩;have HI1:=Lib.hid hi;replace HTW:=Lib.hid (HTW.out.aft ha);replace HAW:=Lib.hid (HAW.out.trans ha);clear hi ha x0 x1 x2 x3)
  obtain ⟨x0,x1,x2⟩:=box31 HTW.out.k8;have x3:=HTW.out.k8.lt;go_upto_region 14 with (go_at_call 31;refine (H31.out _ HTW.out.r8 HTW.out.i1).mono ?_;rintro e W9 ⟨B2,d2,rfl,hi,ha⟩;have HI2:=Lib.hid hi;replace HI1:=Lib.hid (HI1.out.aft ha);replace HTW:=Lib.hid (HTW.out.aft ha);replace HAW:=Lib.hid (HAW.out.trans ha);clear hi ha x0 x1 x2 x3)
  have tE:(E3 == E3) = true:=by simp
  have h17:=kitEqual_int B1 B2 F2 F2 d1 d2 W9 HI1.out HI2.out;rw [eqB_self] at h17;have H17:=Lib.hid h17;clear h17 H30 H31 HI1 HI2;obtain ⟨W9,rfl⟩:∃ W9',W9' = W9:=⟨_,rfl⟩;(repeat (first | go_big_skip | go_big_want | go_big_move | go_big_op | go_step | go_upon | go_back));go_at_call 17;refine H17.out.mono ?_;rintro e V1 ⟨rfl,ha⟩;dsimp only
  replace HTW:=Lib.hid (HTW.out.aft ha)
  replace HAW:=Lib.hid (HAW.out.trans ha)
  clear ha H17;obtain ⟨x0,x1,x2⟩:=box25 HTW.out.k7;have x3:=HTW.out.k7.lt;obtain ⟨y0,y1,y2⟩:=box25 HTW.out.k3;have y3:=HTW.out.k3.lt;have H23:=Lib.hid (equal_same C A1 A2 k1 k2 a1 a2 c1 c2 V1 HTW.out.r7 HTW.out.r3);(repeat (first | go_big_skip | go_big_want | go_big_move | go_big_op | go_step | go_upon | go_back));go_at_call 23;refine H23.out.mono ?_;rintro e V2 ⟨rfl,ha⟩;dsimp only
  replace HTW:=Lib.hid (HTW.out.aft ha)
  replace HAW:=Lib.hid (HAW.out.trans ha)
  clear ha H23 x0 x1 x2 x3 y0 y1 y2 y3;have h17:=kitEqual_int A5 AR R R k5 cR V2 HTW.out.i5 HTW.out.i1;rw [eqB_self] at h17;have H17:=Lib.hid h17;clear h17;(repeat (first | go_big_skip | go_big_want | go_big_move | go_big_op | go_step | go_upon | go_back));go_at_call 17;refine H17.out.mono ?_;rintro e V3 ⟨rfl,ha⟩;dsimp only
  replace HTW:=Lib.hid (HTW.out.aft ha)
  replace HAW:=Lib.hid (HAW.out.trans ha)
  clear ha H17;have h17:=kitEqual_int A6 AL L L k6 cL V3 HTW.out.i6 HTW.out.i2;rw [eqB_self] at h17;have H17:=Lib.hid h17;clear h17;(repeat (first | go_big_skip | go_big_want | go_big_move | go_big_op | go_step | go_upon | go_back));go_at_call 17;refine H17.out.mono ?_;rintro e V4 ⟨rfl,ha⟩;dsimp only
  replace HAW:=Lib.hid (HAW.out.trans ha)
  clear ha H17 HTW;(repeat (first | go_big_skip | go_big_want | go_big_move | go_big_op | go_step | go_upon | go_back));go_at_call 12;refine (awake_any _).mono ?_;rintro e V5 ⟨rfl,ha⟩;dsimp only;have HEND:=Lib.hid (HAW.out.trans ha);clear ha;(repeat (first | go_big_skip | go_big_want | go_big_move | go_big_op | go_step | go_upon | go_back));go_ret;exact ⟨rfl,HEND.out⟩
 ·go_wp2_with (go_at_call 12;refine (awake_any _).mono ?_;rintro e wz2 ⟨rfl,ha⟩;have HEND:=Lib.hid (H0.out.trans (HA1.out.trans ha));clear ha)
  go_ret;exact ⟨rfl,HEND.out⟩
end Go.Proofs
end
