/- Own texts, merged: Rl. -/
import Derived.Test.YthegmhnaiabcpaaGreatF26
import Derived.BigGuard
set_option linter.unusedSimpArgs false
set_option linter.unusedVariables false
set_option linter.unnecessarySimpa false
section
/- Walks: the law SheetRounds 3. -/
namespace Go.Proofs
open Go.RowKit
attribute [local go_sem] Oper.semAt_some
theorem list7 {α:Type} {us:List α} (h:us.length = 7):∃ a b c d e f g,us = [a,b,c,d,e,f,g]:=by
 match us,h with
 | [a,b,c,d,e,f,g],_=>exact ⟨a,b,c,d,e,f,g,rfl⟩
theorem Fr.add {w W:World} {B:Nat} {bs:List (Nat × TypeId × Array Value)} (h:Fr w B bs W) {g:Nat} {t:TypeId} {cs:Array Value} (hb:Blk W g t cs) (hg:w.heap.size <= g):Fr w W.heap.size (bs ++ [(g,t,cs)]) W :=
 ⟨h.aft,fun x hx=>by
  rcases List.mem_append.1 hx with hx | hx
  ·obtain ⟨h1,h2,h3⟩:=h.blks x hx;exact ⟨Nat.lt_of_lt_of_le h1 h.size,h2,h3⟩
  ·rw [List.mem_singleton] at hx;subst hx;exact ⟨hb.lt,hg,hb⟩,Nat.le_refl _,Nat.le_trans h.ge h.size⟩
theorem blk_ne {W:World} {g b:Nat} {t t':TypeId} {cs cs':Array Value} (h:Blk W g t cs) (h':Blk W b t' cs') (hne:t ≠ t'):g ≠ b:=by
 rintro rfl;unfold Blk at h h';rw [h] at h';injection h' with h'
 injection h' with _ h'
 exact hne h'
set_option maxRecDepth 100000 in
set_option maxHeartbeats 4000000 in
theorem rounds_long (n a b N D:Int) (A Al:Option Addr) (lj ll c cl:Nat) (north:Bool) (w:World) (h:45 < lj \/ 70 < ll) (h1:lj <= 9223372036854775807) (h2:ll <= 9223372036854775807) :
  Calls Tryz.prog 3 #[.agg #[.int .i64 n,.slice A lj c],.agg #[.bool north,.slice Al ll cl],.int .i64 a,.int .i64 b,.agg #[.int .i64 N,.int .i64 D]] w fun e w'=>e = .returned (.bool true) /\ Aft w w':=by
 have HA0:=Lib.hid (((Aft.alloc w (.cells #[.int .i64 n,.slice A lj c] 24)).then_alloc (.cells #[.bool north,.slice Al ll cl] 27)).then_alloc (.cells #[.int .i64 N,.int .i64 D] 29));have HAW:=Lib.hid (awake_any (((w.alloc (.cells #[.int .i64 n,.slice A lj c] 24)).alloc (.cells #[.bool north,.slice Al ll cl] 27)).alloc (.cells #[.int .i64 N,.int .i64 D] 29)));by_cases hj:45 < lj
 ·have t1:decide ((45:Int) < (lj:Int)) = true:=by simp;omega
  clear h h1 h2 hj;go_enter Tryz.func3,Tryz.ntmps3;go_wp2_with (go_at_call 5;refine HAW.out.mono ?_;rintro e w2 ⟨rfl,hw2⟩)
  go_ret;exact ⟨rfl,HA0.out.trans hw2⟩
 ·have t1:decide ((45:Int) < (lj:Int)) = false:=by simp;omega
  have hl:70 < ll:=h.resolve_left hj;have t2:decide ((70:Int) < (ll:Int)) = true:=by simp;omega
  clear h h1 h2 hj hl;go_enter Tryz.func3,Tryz.ntmps3;go_wp2_with (go_at_call 5;refine HAW.out.mono ?_;rintro e w2 ⟨rfl,hw2⟩)
  go_ret;exact ⟨rfl,HA0.out.trans hw2⟩
set_option maxRecDepth 100000 in
set_option maxHeartbeats 16000000 in
theorem rounds_small (n a b N D:Int) (J:List Q4) (A:Option Addr) (c:Nat) (north:Bool) (L:List (Int × Bool)) (Al:Option Addr) (cl:Nat) (w:World) (hA:Quads w A J) (hL:Gs w Al L) (hj:J.length <= 45) (hl:L.length <= 70) :
  Calls Tryz.prog 3 #[.agg #[.int .i64 n,.slice A J.length c],.agg #[.bool north,.slice Al L.length cl],.int .i64 a,.int .i64 b,.agg #[.int .i64 N,.int .i64 D]] w fun e w'=>e = .returned (.bool true) /\ Aft w w':=by
 obtain ⟨s,hs⟩:∃ s,w.heap.size = s:=⟨_,rfl⟩;have F0:=((((Fr.start w).alloc rfl 24 #[.int .i64 n,.slice A J.length c]).alloc (by simp) 27 #[.bool north,.slice Al L.length cl]).alloc (by simp) 29 #[.int .i64 N,.int .i64 D]);simp only [List.nil_append,List.cons_append] at F0;rw [hs] at F0;have HS0:=Lib.hid hs;obtain ⟨W0,hW0⟩:∃ W0,(((w.alloc (.cells #[.int .i64 n,.slice A J.length c] 24)).alloc (.cells #[.bool north,.slice Al L.length cl] 27)).alloc (.cells #[.int .i64 N,.int .i64 D] 29)) = W0:=⟨_,rfl⟩;rw [hW0] at F0;have HF0:=Lib.hid F0;have HQA:=Lib.hid (hA.aft F0.aft);have HGA:=Lib.hid (hL.aft F0.aft);have t1:decide ((45:Int) < (J.length:Int)) = false:=by simp;omega
 have t2:decide ((70:Int) < (L.length:Int)) = false:=by simp;omega
 clear hA hL F0;go_enter Tryz.func3,Tryz.ntmps3;go_upto_region 1 with fail
 try rw [hs]
 try rw [hW0]
 clear hW0;have ldc0:W0.cell? ⟨s,0,none⟩ = some (.int .i64 n):=(HF0.out.nth 0 rfl).cell 0;have ldc1:W0.cell? ⟨s,1,none⟩ = some (.slice A J.length c):=(HF0.out.nth 0 rfl).cell 1;have ldcl:=(HF0.out.nth 0 rfl).lt;have ldd0:W0.cell? ⟨s + 1,0,none⟩ = some (.bool north):=(HF0.out.nth 1 rfl).cell 0;have ldd1:W0.cell? ⟨s + 1,1,none⟩ = some (.slice Al L.length cl):=(HF0.out.nth 1 rfl).cell 1;have lddl:=(HF0.out.nth 1 rfl).lt;go_upto_region 3 with fail
 clear t1 t2 ldc0 ldc1 ldcl ldd0 ldd1 lddl;refine wp_region_valsU (by kernel_rfl) 14 169 rfl (by kernel_rfl) (by kernel_rfl) [some (.agg #[.int .i64 n,.slice A J.length c]),none,some (.pointer (some ⟨s + 1,0,none⟩)),some (.bool north),some (.pointer (some ⟨s + 1,1,none⟩)),some (.slice Al L.length cl),none,none,some (.agg #[.int .i64 n,.slice A J.length c]),none,none,none,none,some undef] (by kernel_rfl) rfl (OpR W0 [(1,37),(6,42),(7,43),(9,45)] [⟨10,11,24,13,1,37⟩,⟨11,12,27,99,99,999⟩,⟨12,13,37,99,99,999⟩] (P3 W0.heap.size n north J L) (fun i=>if i = 11 then #[.bool false,.slice none 0 0] else #[.int .i64 0,.slice none 0 0])) (OpR.start P3.mono) ?st1 ?fi1
 case st1 =>
  intro i o v ho hv
  match i,ho,hv with
  | 0,ho,hv =>
   cases ho;cases hv;refine .inl ⟨rfl,fun done a W hz hd hp hk hw K hK=>?_⟩;have e5:=hk.same 5 (by decide);exact op_val (v:=.agg #[.int .i64 n,.slice A J.length c]) (by simp [go_sem,ev' e5,((HF0.out.nth 0 rfl).aft hw.aft).cell 0,((HF0.out.nth 0 rfl).aft hw.aft).cell 1]) (hK _ _ (fun u hu=>by cases hu;rfl) (hw.keep (Aft.refl _) hd (by decide)))
  | 1,ho,hv =>
   cases ho;cases hv;refine .inl ⟨rfl,fun done a W hz hd hp hk hw K hK=>?_⟩;have e36:=hk.at_ 0 _ 36 _ rfl (by decide) _ rfl rfl rfl;refine op_callN rfl rfl rfl _ rfl (vs:=#[.agg #[.int .i64 n,.slice A J.length c]]) (by simp [e36]) (cloneQ_any n A J c W (HQA.out.aft hw.aft)) ?_;rintro e w7 ⟨u,rfl,h1,h2⟩;exact ⟨_,rfl,hK _ _ (fun u hu=>by cases hu) (hw.step h2 hd ⟨u,rfl,World.ownsRow.mono h1 hw.aft.size⟩ (by rw [hz];decide) (by decide))⟩
  | 2,ho,hv =>
   cases ho;cases hv;refine .inl ⟨rfl,fun done a W hz hd hp hk hw K hK=>?_⟩;have e6:=hk.same 6 (by decide);exact op_val (v:=.pointer (some ⟨s + 1,0,none⟩)) (by simp [go_sem,ev' e6]) (hK _ _ (fun u hu=>by cases hu;rfl) (hw.keep (Aft.refl _) hd (by decide)))
  | 3,ho,hv =>
   cases ho;cases hv;refine .inl ⟨rfl,fun done a W hz hd hp hk hw K hK=>?_⟩;have e38:=hk.at_ 2 _ 38 _ rfl (by decide) _ rfl rfl rfl;exact op_val (v:=.bool north) (by simp [go_sem,ev' e38,((HF0.out.nth 1 rfl).aft hw.aft).cell 0]) (hK _ _ (fun u hu=>by cases hu;rfl) (hw.keep (Aft.refl _) hd (by decide)))
  | 4,ho,hv =>
   cases ho;cases hv;refine .inl ⟨rfl,fun done a W hz hd hp hk hw K hK=>?_⟩;have e6:=hk.same 6 (by decide);exact op_val (v:=.pointer (some ⟨s + 1,1,none⟩)) (by simp [go_sem,ev' e6]) (hK _ _ (fun u hu=>by cases hu;rfl) (hw.keep (Aft.refl _) hd (by decide)))
  | 5,ho,hv =>
   cases ho;cases hv;refine .inl ⟨rfl,fun done a W hz hd hp hk hw K hK=>?_⟩;have e40:=hk.at_ 4 _ 40 _ rfl (by decide) _ rfl rfl rfl;exact op_val (v:=.slice Al L.length cl) (by simp [go_sem,ev' e40,((HF0.out.nth 1 rfl).aft hw.aft).cell 1]) (hK _ _ (fun u hu=>by cases hu;rfl) (hw.keep (Aft.refl _) hd (by decide)))
  | 6,ho,hv =>
   cases ho;cases hv;refine .inl ⟨rfl,fun done a W hz hd hp hk hw K hK=>?_⟩;have e41:=hk.at_ 5 _ 41 _ rfl (by decide) _ rfl rfl rfl;refine op_callN rfl rfl rfl _ rfl (vs:=#[.slice Al L.length cl]) (by simp [e41]) (kitCloneLeg Al L cl W (HGA.out.aft hw.aft)) ?_;rintro e w7 ⟨u,rfl,h1,h2⟩;exact ⟨_,rfl,hK _ _ (fun u hu=>by cases hu) (hw.step h2 hd (World.ownsRow.mono h1 hw.aft.size) (by rw [hz];decide) (by decide))⟩
  | 7,ho,hv =>
   cases ho;cases hv;refine .inl ⟨rfl,fun done a W hz hd hp hk hw K hK=>?_⟩;have e39:=hk.at_ 3 _ 39 _ rfl (by decide) _ rfl rfl rfl;have hq:W.ownsRow W0.heap.size 34 2 (a.eval (.tmp 42)) L.length (L.flatMap encG):=hw.fact (6,42) (by decide) (hp 6 (by decide));obtain ⟨A9,n9,c9,e9⟩:=own_slice_form hq;rw [e9] at hq;exact op_val (v:=.agg #[.bool north,.slice A9 n9 c9]) (by simp [go_sem,ev' e39,ev' e9]) (hK _ _ (fun u hu=>by cases hu) (hw.step (Aft.refl _) hd ⟨_,rfl,hq⟩ (by rw [hz];decide) (by decide)))
  | 8,ho,hv =>
   cases ho;cases hv;refine .inl ⟨rfl,fun done a W hz hd hp hk hw K hK=>?_⟩;have e5:=hk.same 5 (by decide);exact op_val (v:=.agg #[.int .i64 n,.slice A J.length c]) (by simp [go_sem,ev' e5,((HF0.out.nth 0 rfl).aft hw.aft).cell 0,((HF0.out.nth 0 rfl).aft hw.aft).cell 1]) (hK _ _ (fun u hu=>by cases hu;rfl) (hw.keep (Aft.refl _) hd (by decide)))
  | 9,ho,hv =>
   cases ho;cases hv;refine .inl ⟨rfl,fun done a W hz hd hp hk hw K hK=>?_⟩;have e44:=hk.at_ 8 _ 44 _ rfl (by decide) _ rfl rfl rfl;refine op_callN rfl rfl rfl _ rfl (vs:=#[.agg #[.int .i64 n,.slice A J.length c]]) (by simp [e44]) (setL_any n A J c W (HQA.out.aft hw.aft)) ?_;rintro e w7 ⟨u,rfl,h1,h2⟩;exact ⟨_,rfl,hK _ _ (fun u hu=>by cases hu) (hw.step h2 hd ⟨u,rfl,World.ownsRow.mono h1 hw.aft.size⟩ (by rw [hz];decide) (by decide))⟩
  | 10,ho,hv =>
   cases ho;cases hv;refine .inl ⟨rfl,fun done a W hz hd hp hk hw K hK=>?_⟩;exact op_valW (w':=W.alloc (.cells #[.int .i64 0,.slice none 0 0] 24)) (v:=.pointer (some ⟨W.heap.size,0,none⟩)) (by simp [go_sem]) (hK _ _ (fun u hu=>by cases hu) (hw.lay (i:=10) (t:=11) (ty:=24) hd (by rw [hz];decide) (by decide)))
  | 11,ho,hv =>
   cases ho;cases hv;refine .inl ⟨rfl,fun done a W hz hd hp hk hw K hK=>?_⟩;exact op_valW (w':=W.alloc (.cells #[.bool false,.slice none 0 0] 27)) (v:=.pointer (some ⟨W.heap.size,0,none⟩)) (by simp [go_sem]) (hK _ _ (fun u hu=>by cases hu) (hw.lay (i:=11) (t:=12) (ty:=27) hd (by rw [hz];decide) (by decide)))
  | 12,ho,hv =>
   cases ho;cases hv;refine .inl ⟨rfl,fun done a W hz hd hp hk hw K hK=>?_⟩;exact op_valW (w':=W.alloc (.cells #[.int .i64 0,.slice none 0 0] 37)) (v:=.pointer (some ⟨W.heap.size,0,none⟩)) (by simp [go_sem]) (hK _ _ (fun u hu=>by cases hu) (hw.lay (i:=12) (t:=13) (ty:=37) hd (by rw [hz];decide) (by decide)))
  | 13,ho,hv =>
   cases ho;cases hv;refine .inl ⟨rfl,fun done a W hz hd hp hk hw K hK=>?_⟩;obtain ⟨b,cs,eb,hbs,hbk,hzs,-⟩:=hw.box ⟨10,11,24,13,1,37⟩ (by simp) (hp 10 (by decide));obtain ⟨u,ex,hu⟩:=hw.fact (1,37) (by decide) (hp 1 (by decide));dsimp only at eb hbk hzs ex;obtain ⟨A9,n9,c9,e9⟩:=own_slice_form hu;subst e9;have hcs:=hzs hd;rw [if_neg (by decide)] at hcs;subst hcs;have c0:=hbk.cell 0;have c1:=hbk.cell 1;have c2:=hbk.frozen 0;have c3:=hbk.frozen 1;have c4:=hbk.lt;simp only [List.getElem?_toArray,List.getElem?_cons_zero,List.getElem?_cons_succ] at c0 c1;have hs0:=hbk.store 0 (.int .i64 n);exact op_skipW (w':=(W.setCell ⟨b,0,none⟩ (.int .i64 n)).setCell ⟨b,1,none⟩ (.slice A9 n9 c9)) (by simp [go_sem,ev' eb,ev' ex,c0,c1,c2,c3,c4]) (hK _ _ (fun u hu=>by cases hu;rfl) (hw.put (x:=⟨10,11,24,13,1,37⟩) (by simp) (hp 10 (by decide)) (hp 1 (by decide)) eb ex ((hw.aft.then_setCell (p:=⟨b,0,none⟩) hbs _).then_setCell (p:=⟨b,1,none⟩) hbs _) (hs0.store 1 _) (fun b' t cs hb' hk'=>(hk'.far (p:=⟨b,0,none⟩) hb' _).far (p:=⟨b,1,none⟩) hb' _) (fun y hy hdy hP=>(hP.far hbk (by decide) (by decide) (by decide) 0 _).far hs0 (by decide) (by decide) (by decide) 1 _) (by decide)))
  | _ + 14,_,hv=>cases hv
 intro done us W hus hd hw;obtain ⟨x1,x2,x3,x4,x5,x6,x7,rfl⟩:=list7 hus;obtain ⟨u1,e1,h1⟩:=hw.fact (1,37) (by decide) (hd 1 (by decide));obtain ⟨uL,e3,h3⟩:=hw.fact (7,43) (by decide) (hd 7 (by decide));obtain ⟨u9,e4,h4⟩:=hw.fact (9,45) (by decide) (hd 9 (by decide));obtain ⟨b1,q1,e5,g5,k5,-,z5⟩:=hw.box ⟨10,11,24,13,1,37⟩ (by simp) (hd 10 (by decide));obtain ⟨b2,q2,e6,g6,k6,z6,-⟩:=hw.box ⟨11,12,27,99,99,999⟩ (by simp) (hd 11 (by decide));obtain ⟨b3,q3,e7,g7,k7,z7,-⟩:=hw.box ⟨12,13,37,99,99,999⟩ (by simp) (hd 12 (by decide));dsimp only at e1 e3 e4 e5 e6 e7 k5 k6 k7 z5 z6 z7
 replace z5:=z5 (hd 13 (by decide))
 rw [e1] at z5;have z5':q1 = #[.int .i64 n,u1]:=(Value.agg.inj z5).symm;have z6':=z6 hw.no;have z7':=z7 hw.no;rw [if_pos rfl] at z6';rw [if_neg (by decide)] at z7';subst z5' z6' z7';have hwa:=hw.aft;clear hw hd hus z5 z6 z7;simp only [fill,List.drop_succ_cons,List.drop_zero,List.zip_cons_cons,List.zip_nil_right,putAll] at e1 e3 e4 e5 e6 e7 ⊢;simp only [Act.put,List.setIfInBounds_toArray,List.set] at e1 e3 e4 e5 e6 e7 ⊢;have e1':x1 = .agg #[.int .i64 n,u1]:=e1;have e3':x3 = .agg #[.bool north,uL]:=e3;have e4':x4 = .agg #[.int .i64 n,u9]:=e4;have e5':x5 = .pointer (some ⟨b1,0,none⟩):=e5;have e6':x6 = .pointer (some ⟨b2,0,none⟩):=e6;have e7':x7 = .pointer (some ⟨b3,0,none⟩):=e7;clear e1 e3 e4 e5 e6 e7;subst e1' e3' e4' e5' e6' e7';obtain ⟨A1,n1,c1,hv1,-⟩:∃ A n c,u1 = .slice A n c /\ True:=by obtain ⟨A,n,c,e⟩:=own_slice_form h1;exact ⟨A,n,c,e,trivial⟩
 obtain ⟨AL,nL,cL,hvL,-⟩:∃ A n c,uL = .slice A n c /\ True:=by obtain ⟨A,n,c,e⟩:=own_slice_form h3;exact ⟨A,n,c,e,trivial⟩
 obtain ⟨A9,n9,c9,hv9,-⟩:∃ A n c,u9 = .slice A n c /\ True:=by obtain ⟨A,n,c,e⟩:=own_slice_form h4;exact ⟨A,n,c,e,trivial⟩
 subst hv1 hvL hv9;have n12:=blk_ne k5 k6 (by decide);have n13:=blk_ne k5 k7 (by decide);have n23:=blk_ne k6 k7 (by decide);have s2:=k6.store 0 (.bool north);have s2':=s2.store 1 (.slice AL nL cL);have s3:=(k7.far (p:=⟨b2,0,none⟩) n23.symm (.bool north)).far (p:=⟨b2,1,none⟩) n23.symm (.slice AL nL cL);have s3a:=s3.store 0 (.int .i64 n);have s3':=s3a.store 1 (.slice A9 n9 c9);have s1':=(((k5.far (p:=⟨b2,0,none⟩) n12 (.bool north)).far (p:=⟨b2,1,none⟩) n12 (.slice AL nL cL)).far (p:=⟨b3,0,none⟩) n13 (.int .i64 n)).far (p:=⟨b3,1,none⟩) n13 (.slice A9 n9 c9);have s2'':=(s2'.far (p:=⟨b3,0,none⟩) n23 (.int .i64 n)).far (p:=⟨b3,1,none⟩) n23 (.slice A9 n9 c9);have o1:=own_far2 (own_far2 (own_far2 (own_far2 h1 k6 (by decide) 0 (.bool north)) s2 (by decide) 1 (.slice AL nL cL)) s3 (by decide) 0 (.int .i64 n)) s3a (by decide) 1 (.slice A9 n9 c9);have o3:=own_far2 (own_far2 (own_far2 (own_far2 h3 k6 (by decide) 0 (.bool north)) s2 (by decide) 1 (.slice AL nL cL)) s3 (by decide) 0 (.int .i64 n)) s3a (by decide) 1 (.slice A9 n9 c9);have o9:=own_far2 (own_far2 (own_far2 (own_far2 h4 k6 (by decide) 0 (.bool north)) s2 (by decide) 1 (.slice AL nL cL)) s3 (by decide) 0 (.int .i64 n)) s3a (by decide) 1 (.slice A9 n9 c9);have ha:=(((hwa.then_setCell (p:=⟨b2,0,none⟩) g6 (.bool north)).then_setCell (p:=⟨b2,1,none⟩) g6 (.slice AL nL cL)).then_setCell (p:=⟨b3,0,none⟩) g7 (.int .i64 n)).then_setCell (p:=⟨b3,1,none⟩) g7 (.slice A9 n9 c9);have c0:=k6.cell 0;have c1':=k6.cell 1;have c2:=k6.frozen 0;have c3:=k6.frozen 1;have c4:=k6.lt;have d0:=s3.cell 0;have d1:=s3.cell 1;have d2:=s3.frozen 0;have d3:=s3.frozen 1;have d4:=s3.lt;simp only [List.getElem?_toArray,List.getElem?_cons_zero,List.getElem?_cons_succ] at c0 c1' d0 d1
 have hX:∃ X,(((W.setCell ⟨b2,0,none⟩ (.bool north)).setCell ⟨b2,1,none⟩ (.slice AL nL cL)).setCell ⟨b3,0,none⟩ (.int .i64 n)).setCell ⟨b3,1,none⟩ (.slice A9 n9 c9) = X:=⟨_,rfl⟩;have HX3:=Lib.hid (And.intro s1' (And.intro s2'' (And.intro s3' (And.intro o1 (And.intro o3 (And.intro o9 ha))))));clear h1 h3 h4 k5 k6 k7 s1' s2 s2' s2'' s3 s3a s3' o1 o3 o9 ha hwa n12 n13 n23;go_upto_region 4 with fail
 obtain ⟨X3,hX⟩:=hX;rw [hX] at HX3 ⊢;clear hX c0 c1' c2 c3 c4 d0 d1 d2 d3 d4;obtain ⟨s1,s2,s3,o1,o3,o9,ha⟩:=HX3.out;obtain ⟨A1',c1',hv1,hq1⟩:=OwQ.quads o1 (by omega);cases hv1;obtain ⟨AL',cL',hvL,hgL⟩:=gs_of o3 (by omega);cases hvL;obtain ⟨A9',c9',hv9,hq9⟩:=OwQ.quads o9 (by omega);cases hv9;have HQ1:=Lib.hid hq1;have HGL:=Lib.hid hgL;have HQ9:=Lib.hid hq9;have hge:=HF0.out.aft.size;have F1:=((((HF0.out.later ha).add s1 (Nat.le_trans hge g5)).add s2 (Nat.le_trans hge g6)).add s3 (Nat.le_trans hge g7));simp only [List.nil_append,List.cons_append] at F1;have HF1:=Lib.hid F1
 replace HQA:=Lib.hid (HQA.out.aft ha)
 replace HGA:=Lib.hid (HGA.out.aft ha)
 clear s1 s2 s3 o1 o3 o9 ha HX3 HF0 F1 hq1 hgL hq9 hge g5 g6 g7;have ldc0:X3.cell? ⟨b1,0,none⟩ = some (.int .i64 n):=(HF1.out.nth 3 rfl).cell 0;have ldc1:X3.cell? ⟨b1,1,none⟩ = some (.slice A1 J.length c1):=(HF1.out.nth 3 rfl).cell 1;have ldcl:=(HF1.out.nth 3 rfl).lt;have ldd0:X3.cell? ⟨b2,0,none⟩ = some (.bool north):=(HF1.out.nth 4 rfl).cell 0;have ldd1:X3.cell? ⟨b2,1,none⟩ = some (.slice AL L.length cL):=(HF1.out.nth 4 rfl).cell 1;have lddl:=(HF1.out.nth 4 rfl).lt;obtain ⟨⟨p,q⟩,hpq⟩:∃ p,provesP ⟨n,J⟩ north L = p:=⟨_,rfl⟩;obtain ⟨pe,hpe⟩:∃ e,provesE ⟨n,J⟩ L = e:=⟨_,rfl⟩
 have HPR:Hid (∀ W,Quads W A1 J -> Gs W AL L -> Calls Tryz.prog 9 #[.agg #[.int .i64 n,.slice A1 J.length c1],.agg #[.bool north,.slice AL L.length cL]] W fun e w'=>e = .returned (.tuple #[.agg #[.int .i64 p,.int .i64 q],.int .i64 pe]) /\ Aft W w'):=Lib.hid fun W h1 h2=>by
  have:=proves_any ⟨n,J⟩ A1 c1 north L AL cL W h1 h2;rw [hpq,hpe] at this;exact this
 have HRP:Hid (∀ W,Quads W A9 J -> ∀ Ax cx,Gs W Ax L -> Calls Tryz.prog 10 #[.agg #[.int .i64 n,.slice A9 J.length c9],.bool north,.slice Ax L.length cx] W fun e w'=>e = .returned (.tuple #[.agg #[.int .i64 p,.int .i64 q],.int .i64 pe]) /\ Aft W w'):=Lib.hid fun W h1 Ax cx h2=>by
  have:=refProves_any ⟨n,J⟩ A9 c9 north L Ax cx W h1 h2;rw [hpq,hpe] at this;exact this
 clear hpq hpe;go_upto_region 5 with (go_at_call 9;refine (HPR.out _ HQ1.out HGL.out).mono ?_;rintro e w4 ⟨rfl,hw4⟩)
 clear ldc0 ldc1 ldcl ldd0 ldd1 lddl HPR;have HF2:=Lib.hid (HF1.out.later (hw4))
 replace HQ1:=Lib.hid (HQ1.out.aft (hw4))
 replace HQ9:=Lib.hid (HQ9.out.aft (hw4))
 replace HGL:=Lib.hid (HGL.out.aft (hw4))
 replace HQA:=Lib.hid (HQA.out.aft (hw4))
 replace HGA:=Lib.hid (HGA.out.aft (hw4))
 clear HF1;obtain ⟨p14,hp14⟩:∃ z,z = w4.heap.size:=⟨_,rfl⟩;have F3:=((HF2.out.up (HF2.out.size) (Nat.le_refl _)).alloc rfl 29 #[.int .i64 p,.int .i64 q]);simp only [List.nil_append,List.cons_append,List.append_assoc,World.size_alloc] at F3;rw [<- hp14] at F3
 replace HQ1:=Lib.hid (HQ1.out.aft (Aft.alloc w4 (.cells #[.int .i64 p,.int .i64 q] 29)))
 replace HQ9:=Lib.hid (HQ9.out.aft (Aft.alloc w4 (.cells #[.int .i64 p,.int .i64 q] 29)))
 replace HGL:=Lib.hid (HGL.out.aft (Aft.alloc w4 (.cells #[.int .i64 p,.int .i64 q] 29)))
 replace HQA:=Lib.hid (HQA.out.aft (Aft.alloc w4 (.cells #[.int .i64 p,.int .i64 q] 29)))
 replace HGA:=Lib.hid (HGA.out.aft (Aft.alloc w4 (.cells #[.int .i64 p,.int .i64 q] 29)))
 have HF3:=Lib.hid F3;clear HF2 F3
 try rw [<- hp14]
 try rw [<- hp14]
 clear hp14;generalize w4.alloc (.cells #[.int .i64 p,.int .i64 q] 29) = X4 at *;clear hw4;refine wp_region_valsU (by kernel_rfl) 12 169 rfl (by kernel_rfl) (by kernel_rfl) [some (.agg #[.int .i64 n,.slice A9 J.length c9]),some (.pointer (some ⟨s + 1,0,none⟩)),some (.bool north),some (.pointer (some ⟨s + 1,1,none⟩)),some (.slice Al L.length cl),none,some (.tuple #[.agg #[.int .i64 p,.int .i64 q],.int .i64 pe]),some (.tuple #[.agg #[.int .i64 p,.int .i64 q],.int .i64 pe]),some (.agg #[.int .i64 p,.int .i64 q]),some (.int .i64 pe),none,some undef] (by kernel_rfl) rfl (OpR X4 [(5,58)] [⟨10,16,29,11,8,60⟩] (P5 X4.heap.size L) (fun _=>#[.int .i64 0,.int .i64 0])) (OpR.start P5.mono) ?st2 ?fi2
 case st2 =>
  intro i o v ho hv
  match i,ho,hv with
  | 0,ho,hv =>
   cases ho;cases hv;refine .inl ⟨rfl,fun done a W hz hd hp hk hw K hK=>?_⟩;have e13:=hk.same 13 (by decide);exact op_val (v:=.agg #[.int .i64 n,.slice A9 J.length c9]) (by simp [go_sem,ev' e13,((HF3.out.nth 5 rfl).aft hw.aft).cell 0,((HF3.out.nth 5 rfl).aft hw.aft).cell 1]) (hK _ _ (fun u hu=>by cases hu;rfl) (hw.keep (Aft.refl _) hd (by decide)))
  | 1,ho,hv =>
   cases ho;cases hv;refine .inl ⟨rfl,fun done a W hz hd hp hk hw K hK=>?_⟩;have e6:=hk.same 6 (by decide);exact op_val (v:=.pointer (some ⟨s + 1,0,none⟩)) (by simp [go_sem,ev' e6]) (hK _ _ (fun u hu=>by cases hu;rfl) (hw.keep (Aft.refl _) hd (by decide)))
  | 2,ho,hv =>
   cases ho;cases hv;refine .inl ⟨rfl,fun done a W hz hd hp hk hw K hK=>?_⟩;have e54:=hk.at_ 1 _ 54 _ rfl (by decide) _ rfl rfl rfl;exact op_val (v:=.bool north) (by simp [go_sem,ev' e54,((HF3.out.nth 1 rfl).aft hw.aft).cell 0]) (hK _ _ (fun u hu=>by cases hu;rfl) (hw.keep (Aft.refl _) hd (by decide)))
  | 3,ho,hv =>
   cases ho;cases hv;refine .inl ⟨rfl,fun done a W hz hd hp hk hw K hK=>?_⟩;have e6:=hk.same 6 (by decide);exact op_val (v:=.pointer (some ⟨s + 1,1,none⟩)) (by simp [go_sem,ev' e6]) (hK _ _ (fun u hu=>by cases hu;rfl) (hw.keep (Aft.refl _) hd (by decide)))
  | 4,ho,hv =>
   cases ho;cases hv;refine .inl ⟨rfl,fun done a W hz hd hp hk hw K hK=>?_⟩;have e56:=hk.at_ 3 _ 56 _ rfl (by decide) _ rfl rfl rfl;exact op_val (v:=.slice Al L.length cl) (by simp [go_sem,ev' e56,((HF3.out.nth 1 rfl).aft hw.aft).cell 1]) (hK _ _ (fun u hu=>by cases hu;rfl) (hw.keep (Aft.refl _) hd (by decide)))
  | 5,ho,hv =>
   cases ho;cases hv;refine .inl ⟨rfl,fun done a W hz hd hp hk hw K hK=>?_⟩;have e57:=hk.at_ 4 _ 57 _ rfl (by decide) _ rfl rfl rfl;refine op_callN rfl rfl rfl _ rfl (vs:=#[.slice Al L.length cl]) (by simp [e57]) (legsL_any Al L cl W (HGA.out.aft hw.aft)) ?_;rintro e w7 ⟨u,rfl,h1,h2⟩;exact ⟨_,rfl,hK _ _ (fun u hu=>by cases hu) (hw.step h2 hd (World.ownsRow.mono h1 hw.aft.size) (by rw [hz];decide) (by decide))⟩
  | 6,ho,hv =>
   cases ho;cases hv;refine .inl ⟨rfl,fun done a W hz hd hp hk hw K hK=>?_⟩;have e53:=hk.at_ 0 _ 53 _ rfl (by decide) _ rfl rfl rfl;have e55:=hk.at_ 2 _ 55 _ rfl (by decide) _ rfl rfl rfl;have hq:W.ownsRow X4.heap.size 106 2 (a.eval (.tmp 58)) L.length (L.flatMap encG):=hw.fact (5,58) (by decide) (hp 5 (by decide));obtain ⟨Ax,cx,ex,hgx⟩:=gs_of hq (by omega);refine op_callN rfl rfl rfl _ rfl (vs:=#[.agg #[.int .i64 n,.slice A9 J.length c9],.bool north,.slice Ax L.length cx]) (by simp [e53,e55,ex]) (HRP.out W (HQ9.out.aft hw.aft) Ax cx hgx) ?_;rintro e w7 ⟨rfl,hw7⟩;exact ⟨_,rfl,hK _ _ (fun u hu=>by cases hu;rfl) (hw.keep hw7 hd (by decide))⟩
  | 7,ho,hv =>
   cases ho;cases hv;refine .inl ⟨rfl,fun done a W hz hd hp hk hw K hK=>?_⟩;have e59:=hk.at_ 6 _ 59 _ rfl (by decide) _ rfl rfl rfl;exact op_val (v:=.tuple #[.agg #[.int .i64 p,.int .i64 q],.int .i64 pe]) (by simp [go_sem,ev' e59]) (hK _ _ (fun u hu=>by cases hu;rfl) (hw.keep (Aft.refl _) hd (by decide)))
  | 8,ho,hv =>
   cases ho;cases hv;refine .inl ⟨rfl,fun done a W hz hd hp hk hw K hK=>?_⟩;have e52:=hk.at_ 7 _ 52 _ rfl (by decide) _ rfl rfl rfl;exact op_val (v:=.agg #[.int .i64 p,.int .i64 q]) (by simp [go_sem,ev' e52]) (hK _ _ (fun u hu=>by cases hu;rfl) (hw.keep (Aft.refl _) hd (by decide)))
  | 9,ho,hv =>
   cases ho;cases hv;refine .inl ⟨rfl,fun done a W hz hd hp hk hw K hK=>?_⟩;have e52:=hk.at_ 7 _ 52 _ rfl (by decide) _ rfl rfl rfl;exact op_val (v:=.int .i64 pe) (by simp [go_sem,ev' e52]) (hK _ _ (fun u hu=>by cases hu;rfl) (hw.keep (Aft.refl _) hd (by decide)))
  | 10,ho,hv =>
   cases ho;cases hv;refine .inl ⟨rfl,fun done a W hz hd hp hk hw K hK=>?_⟩;exact op_valW (w':=W.alloc (.cells #[.int .i64 0,.int .i64 0] 29)) (v:=.pointer (some ⟨W.heap.size,0,none⟩)) (by simp [go_sem]) (hK _ _ (fun u hu=>by cases hu) (hw.lay (i:=10) (t:=16) (ty:=29) hd (by rw [hz];decide) (by decide)))
  | 11,ho,hv =>
   cases ho;cases hv;refine .inl ⟨rfl,fun done a W hz hd hp hk hw K hK=>?_⟩;have e60:=hk.at_ 8 _ 60 _ rfl (by decide) _ rfl rfl rfl;obtain ⟨b,cs,eb,hbs,hbk,hzs,-⟩:=hw.box ⟨10,16,29,11,8,60⟩ (by simp) (hp 10 (by decide));dsimp only at eb hbk hzs;have hcs:=hzs hd;subst hcs;have c0:=hbk.cell 0;have c1:=hbk.cell 1;have c2:=hbk.frozen 0;have c3:=hbk.frozen 1;have c4:=hbk.lt;simp only [List.getElem?_toArray,List.getElem?_cons_zero,List.getElem?_cons_succ] at c0 c1;have hs0:=hbk.store 0 (.int .i64 p);exact op_skipW (w':=(W.setCell ⟨b,0,none⟩ (.int .i64 p)).setCell ⟨b,1,none⟩ (.int .i64 q)) (by simp [go_sem,ev' eb,ev' e60,c0,c1,c2,c3,c4]) (hK _ _ (fun u hu=>by cases hu;rfl) (hw.put (x:=⟨10,16,29,11,8,60⟩) (by simp) (hp 10 (by decide)) (hp 8 (by decide)) eb e60 ((hw.aft.then_setCell (p:=⟨b,0,none⟩) hbs _).then_setCell (p:=⟨b,1,none⟩) hbs _) (hs0.store 1 _) (fun b' t cs hb' hk'=>(hk'.far (p:=⟨b,0,none⟩) hb' _).far (p:=⟨b,1,none⟩) hb' _) (fun y hy hdy hP=>own_far2 (own_far2 hP hbk (by decide) 0 _) hs0 (by decide) 1 _) (by decide)))
  | _ + 12,_,hv=>cases hv
 intro done us W hus hd hw;obtain ⟨x1,x2,rfl⟩:=list2 hus;obtain ⟨p16,q1,e1,g1,k1,-,z1⟩:=hw.box ⟨10,16,29,11,8,60⟩ (by simp) (hd 10 (by decide));obtain ⟨Ax,nx,cx,e2⟩:=own_slice_form (hw.fact (5,58) (by decide) (hd 5 (by decide)));dsimp only at e1 k1 z1 e2
 replace z1:=z1 (hd 11 (by decide))
 have hwa:=hw.aft;clear hw hd hus;simp only [fill,List.drop_succ_cons,List.drop_zero,List.zip_cons_cons,List.zip_nil_right,putAll] at e1 e2 z1 ⊢;simp only [Act.put,List.setIfInBounds_toArray,List.set] at e1 e2 z1 ⊢;have z2:Value.agg #[.int .i64 p,.int .i64 q] = .agg q1:=z1;have z3:q1 = #[.int .i64 p,.int .i64 q]:=(Value.agg.inj z2).symm;subst z3;have e1':x2 = .pointer (some ⟨p16,0,none⟩):=e1;have e2':x1 = .slice Ax nx cx:=e2;clear e1 e2 z1 z2;subst e1' e2';obtain ⟨X5,hX⟩:∃ X,W = X:=⟨_,rfl⟩;rw [hX] at hwa k1 ⊢;have F4:=(HF3.out.later hwa).add k1 (Nat.le_trans HF3.out.aft.size g1);simp only [List.nil_append,List.cons_append] at F4;have HF4:=Lib.hid F4
 replace HQ1:=Lib.hid (HQ1.out.aft hwa)
 replace HQ9:=Lib.hid (HQ9.out.aft hwa)
 replace HGL:=Lib.hid (HGL.out.aft hwa)
 replace HQA:=Lib.hid (HQA.out.aft hwa)
 replace HGA:=Lib.hid (HGA.out.aft hwa)
 clear hX hwa k1 g1 HF3 F4;have ldc0:X5.cell? ⟨p14,0,none⟩ = some (.int .i64 p):=(HF4.out.nth 6 rfl).cell 0;have ldc1:X5.cell? ⟨p14,1,none⟩ = some (.int .i64 q):=(HF4.out.nth 6 rfl).cell 1;have ldcl:=(HF4.out.nth 6 rfl).lt;have ldd0:X5.cell? ⟨p16,0,none⟩ = some (.int .i64 p):=(HF4.out.nth 7 rfl).cell 0;have ldd1:X5.cell? ⟨p16,1,none⟩ = some (.int .i64 q):=(HF4.out.nth 7 rfl).cell 1;have lddl:=(HF4.out.nth 7 rfl).lt;go_upto_region 8 with fail
 clear ldc0 ldc1 ldcl ldd0 ldd1 lddl HRP;have ldc0:X5.cell? ⟨b1,0,none⟩ = some (.int .i64 n):=(HF4.out.nth 3 rfl).cell 0;have ldc1:X5.cell? ⟨b1,1,none⟩ = some (.slice A1 J.length c1):=(HF4.out.nth 3 rfl).cell 1;have ldcl:=(HF4.out.nth 3 rfl).lt;have ldd0:X5.cell? ⟨s + 1 + 1,0,none⟩ = some (.int .i64 N):=(HF4.out.nth 2 rfl).cell 0;have ldd1:X5.cell? ⟨s + 1 + 1,1,none⟩ = some (.int .i64 D):=(HF4.out.nth 2 rfl).cell 1;have lddl:=(HF4.out.nth 2 rfl).lt;go_upto_region 9 with (go_at_call 12;refine (progBt_any ⟨n,J⟩ A1 c1 a b N D _ HQ1.out).mono ?_;rintro e w8 ⟨⟨⟨⟨o1,o2,o3,o4⟩,⟨o5,o6,o7,o8⟩,oe⟩,ho,rfl⟩,hw8⟩;dsimp only [encS])
 have HO:=Lib.hid ho;clear ldc0 ldc1 ldcl ldd0 ldd1 lddl ho;have HF5:=Lib.hid (HF4.out.later (hw8))
 replace HQ1:=Lib.hid (HQ1.out.aft (hw8))
 replace HQ9:=Lib.hid (HQ9.out.aft (hw8))
 replace HGL:=Lib.hid (HGL.out.aft (hw8))
 replace HQA:=Lib.hid (HQA.out.aft (hw8))
 replace HGA:=Lib.hid (HGA.out.aft (hw8))
 clear HF4;obtain ⟨p18,hp18⟩:∃ z,z = w8.heap.size:=⟨_,rfl⟩;obtain ⟨p19,hp19⟩:∃ z,z = w8.heap.size + 1:=⟨_,rfl⟩;have F6:=(((HF5.out.up (HF5.out.size) (Nat.le_refl _)).alloc rfl 46 #[.int .i64 o1,.int .i64 o2,.int .i64 o3,.int .i64 o4]).alloc (by simp) 46 #[.int .i64 o5,.int .i64 o6,.int .i64 o7,.int .i64 o8]);simp only [List.nil_append,List.cons_append,List.append_assoc,World.size_alloc] at F6;rw [<- hp19,<- hp18] at F6
 replace HQ1:=Lib.hid (HQ1.out.aft ((Aft.alloc w8 (.cells #[.int .i64 o1,.int .i64 o2,.int .i64 o3,.int .i64 o4] 46)).then_alloc (.cells #[.int .i64 o5,.int .i64 o6,.int .i64 o7,.int .i64 o8] 46)))
 replace HQ9:=Lib.hid (HQ9.out.aft ((Aft.alloc w8 (.cells #[.int .i64 o1,.int .i64 o2,.int .i64 o3,.int .i64 o4] 46)).then_alloc (.cells #[.int .i64 o5,.int .i64 o6,.int .i64 o7,.int .i64 o8] 46)))
 replace HGL:=Lib.hid (HGL.out.aft ((Aft.alloc w8 (.cells #[.int .i64 o1,.int .i64 o2,.int .i64 o3,.int .i64 o4] 46)).then_alloc (.cells #[.int .i64 o5,.int .i64 o6,.int .i64 o7,.int .i64 o8] 46)))
 replace HQA:=Lib.hid (HQA.out.aft ((Aft.alloc w8 (.cells #[.int .i64 o1,.int .i64 o2,.int .i64 o3,.int .i64 o4] 46)).then_alloc (.cells #[.int .i64 o5,.int .i64 o6,.int .i64 o7,.int .i64 o8] 46)))
 replace HGA:=Lib.hid (HGA.out.aft ((Aft.alloc w8 (.cells #[.int .i64 o1,.int .i64 o2,.int .i64 o3,.int .i64 o4] 46)).then_alloc (.cells #[.int .i64 o5,.int .i64 o6,.int .i64 o7,.int .i64 o8] 46)))
 have HF6:=Lib.hid F6;clear HF5 F6
 try rw [<- hp19,<- hp18]
 try rw [<- hp18]
 try rw [<- hp19]
 clear hp18 hp19;generalize (w8.alloc (.cells #[.int .i64 o1,.int .i64 o2,.int .i64 o3,.int .i64 o4] 46)).alloc (.cells #[.int .i64 o5,.int .i64 o6,.int .i64 o7,.int .i64 o8] 46) = X8 at *;clear hw8;have ldc0:X8.cell? ⟨b3,0,none⟩ = some (.int .i64 n):=(HF6.out.nth 5 rfl).cell 0;have ldc1:X8.cell? ⟨b3,1,none⟩ = some (.slice A9 J.length c9):=(HF6.out.nth 5 rfl).cell 1;have ldcl:=(HF6.out.nth 5 rfl).lt;have ldd0:X8.cell? ⟨s + 1 + 1,0,none⟩ = some (.int .i64 N):=(HF6.out.nth 2 rfl).cell 0;have ldd1:X8.cell? ⟨s + 1 + 1,1,none⟩ = some (.int .i64 D):=(HF6.out.nth 2 rfl).cell 1;have lddl:=(HF6.out.nth 2 rfl).lt;go_upto_region 10 with (go_at_call 13;refine (refBt_any ⟨n,J⟩ A9 c9 a b N D _ HQ9.out).mono ?_;rintro e w9 ⟨⟨o',ho',rfl⟩,hw9⟩;obtain rfl:=HO.out.same ho';dsimp only [enc8r])
 clear ldc0 ldc1 ldcl ldd0 ldd1 lddl ho';have HF7:=Lib.hid (HF6.out.later (hw9))
 replace HQ1:=Lib.hid (HQ1.out.aft (hw9))
 replace HQ9:=Lib.hid (HQ9.out.aft (hw9))
 replace HGL:=Lib.hid (HGL.out.aft (hw9))
 replace HQA:=Lib.hid (HQA.out.aft (hw9))
 replace HGA:=Lib.hid (HGA.out.aft (hw9))
 clear HF6;obtain ⟨p20,hp20⟩:∃ z,z = w9.heap.size:=⟨_,rfl⟩;have F8:=((HF7.out.up (HF7.out.size) (Nat.le_refl _)).alloc rfl 49 #[.int .i64 o1,.int .i64 o2,.int .i64 o3,.int .i64 o4,.int .i64 o5,.int .i64 o6,.int .i64 o7,.int .i64 o8]);simp only [List.nil_append,List.cons_append,List.append_assoc,World.size_alloc] at F8;rw [<- hp20] at F8
 replace HQ1:=Lib.hid (HQ1.out.aft (Aft.alloc w9 (.cells #[.int .i64 o1,.int .i64 o2,.int .i64 o3,.int .i64 o4,.int .i64 o5,.int .i64 o6,.int .i64 o7,.int .i64 o8] 49)))
 replace HQ9:=Lib.hid (HQ9.out.aft (Aft.alloc w9 (.cells #[.int .i64 o1,.int .i64 o2,.int .i64 o3,.int .i64 o4,.int .i64 o5,.int .i64 o6,.int .i64 o7,.int .i64 o8] 49)))
 replace HGL:=Lib.hid (HGL.out.aft (Aft.alloc w9 (.cells #[.int .i64 o1,.int .i64 o2,.int .i64 o3,.int .i64 o4,.int .i64 o5,.int .i64 o6,.int .i64 o7,.int .i64 o8] 49)))
 replace HQA:=Lib.hid (HQA.out.aft (Aft.alloc w9 (.cells #[.int .i64 o1,.int .i64 o2,.int .i64 o3,.int .i64 o4,.int .i64 o5,.int .i64 o6,.int .i64 o7,.int .i64 o8] 49)))
 replace HGA:=Lib.hid (HGA.out.aft (Aft.alloc w9 (.cells #[.int .i64 o1,.int .i64 o2,.int .i64 o3,.int .i64 o4,.int .i64 o5,.int .i64 o6,.int .i64 o7,.int .i64 o8] 49)))
 have HF8:=Lib.hid F8;clear HF7 F8
 try rw [<- hp20]
 try rw [<- hp20]
 clear hp20;generalize w9.alloc (.cells #[.int .i64 o1,.int .i64 o2,.int .i64 o3,.int .i64 o4,.int .i64 o5,.int .i64 o6,.int .i64 o7,.int .i64 o8] 49) = X9 at *;clear hw9 HO;have ldc0:X9.cell? ⟨p18,0,none⟩ = some (.int .i64 o1):=(HF8.out.nth 8 rfl).cell 0;have ldc1:X9.cell? ⟨p18,1,none⟩ = some (.int .i64 o2):=(HF8.out.nth 8 rfl).cell 1;have ldc2:X9.cell? ⟨p18,2,none⟩ = some (.int .i64 o3):=(HF8.out.nth 8 rfl).cell 2;have ldc3:X9.cell? ⟨p18,3,none⟩ = some (.int .i64 o4):=(HF8.out.nth 8 rfl).cell 3;have ldcl:=(HF8.out.nth 8 rfl).lt;have ldd0:X9.cell? ⟨p19,0,none⟩ = some (.int .i64 o5):=(HF8.out.nth 9 rfl).cell 0;have ldd1:X9.cell? ⟨p19,1,none⟩ = some (.int .i64 o6):=(HF8.out.nth 9 rfl).cell 1;have ldd2:X9.cell? ⟨p19,2,none⟩ = some (.int .i64 o7):=(HF8.out.nth 9 rfl).cell 2;have ldd3:X9.cell? ⟨p19,3,none⟩ = some (.int .i64 o8):=(HF8.out.nth 9 rfl).cell 3;have lddl:=(HF8.out.nth 9 rfl).lt;have ldg0:X9.cell? ⟨p20,0,none⟩ = some (.int .i64 o1):=(HF8.out.nth 10 rfl).cell 0;have ldg1:X9.cell? ⟨p20,1,none⟩ = some (.int .i64 o2):=(HF8.out.nth 10 rfl).cell 1;have ldg2:X9.cell? ⟨p20,2,none⟩ = some (.int .i64 o3):=(HF8.out.nth 10 rfl).cell 2;have ldg3:X9.cell? ⟨p20,3,none⟩ = some (.int .i64 o4):=(HF8.out.nth 10 rfl).cell 3;have ldg4:X9.cell? ⟨p20,4,none⟩ = some (.int .i64 o5):=(HF8.out.nth 10 rfl).cell 4;have ldg5:X9.cell? ⟨p20,5,none⟩ = some (.int .i64 o6):=(HF8.out.nth 10 rfl).cell 5;have ldg6:X9.cell? ⟨p20,6,none⟩ = some (.int .i64 o7):=(HF8.out.nth 10 rfl).cell 6;have ldg7:X9.cell? ⟨p20,7,none⟩ = some (.int .i64 o8):=(HF8.out.nth 10 rfl).cell 7;have ldgl:=(HF8.out.nth 10 rfl).lt;have qN:=ne49 o1 o2 o3 o4 o5 o6 o7 o8;go_upto_region 12 with fail
 clear qN ldc0 ldc1 ldc2 ldc3 ldcl ldd0 ldd1 ldd2 ldd3 lddl ldg0 ldg1 ldg2 ldg3 ldg4 ldg5 ldg6 ldg7 ldgl;by_cases he:setE ⟨n,J⟩ ≠ 0
 ·skip
  have ldc0:X9.cell? ⟨b1,0,none⟩ = some (.int .i64 n):=(HF8.out.nth 3 rfl).cell 0;have ldc1:X9.cell? ⟨b1,1,none⟩ = some (.slice A1 J.length c1):=(HF8.out.nth 3 rfl).cell 1;have ldcl:=(HF8.out.nth 3 rfl).lt;have HWB:=Lib.hid (worst_bad ⟨n,J⟩ A1 c1 _ HQ1.out he);have HPB:Hid (∀ W,Quads W A9 J -> Calls Tryz.prog 15 #[.agg #[.int .i64 n,.slice A9 J.length c9]] W fun e w'=>e = .returned (.tuple #[.agg #[.int .i64 0,.int .i64 0],.int .i64 (setE ⟨n,J⟩)]) /\ Aft W w'):=Lib.hid fun W h=>refPlay_bad ⟨n,J⟩ A9 c9 W h he
  have t1:(setE ⟨n,J⟩ == 0) = false:=by simpa using he
  have t2:(setE ⟨n,J⟩ != 0) = true:=by simpa using he
  obtain ⟨E,hE⟩:∃ E,setE ⟨n,J⟩ = E:=⟨_,rfl⟩;rw [hE] at HWB HPB t1 t2;clear hE he;go_upto_region 13 with (go_at_call 14;refine HWB.out.mono ?_;rintro e w12 ⟨rfl,hw12⟩)
  clear ldc0 ldc1 ldcl HWB;have HF9:=Lib.hid (HF8.out.later (hw12))
  replace HQ1:=Lib.hid (HQ1.out.aft (hw12))
  replace HQ9:=Lib.hid (HQ9.out.aft (hw12))
  replace HGL:=Lib.hid (HGL.out.aft (hw12))
  replace HQA:=Lib.hid (HQA.out.aft (hw12))
  replace HGA:=Lib.hid (HGA.out.aft (hw12))
  clear HF8;obtain ⟨p21,hp21⟩:∃ z,z = w12.heap.size:=⟨_,rfl⟩;have F10:=((HF9.out.up (HF9.out.size) (Nat.le_refl _)).alloc rfl 27 #[.bool false,.slice none 0 0]);simp only [List.nil_append,List.cons_append,List.append_assoc,World.size_alloc] at F10;rw [<- hp21] at F10
  replace HQ1:=Lib.hid (HQ1.out.aft (Aft.alloc w12 (.cells #[.bool false,.slice none 0 0] 27)))
  replace HQ9:=Lib.hid (HQ9.out.aft (Aft.alloc w12 (.cells #[.bool false,.slice none 0 0] 27)))
  replace HGL:=Lib.hid (HGL.out.aft (Aft.alloc w12 (.cells #[.bool false,.slice none 0 0] 27)))
  replace HQA:=Lib.hid (HQA.out.aft (Aft.alloc w12 (.cells #[.bool false,.slice none 0 0] 27)))
  replace HGA:=Lib.hid (HGA.out.aft (Aft.alloc w12 (.cells #[.bool false,.slice none 0 0] 27)))
  have HF10:=Lib.hid F10;clear HF9 F10
  try rw [<- hp21]
  try rw [<- hp21]
  clear hp21;generalize w12.alloc (.cells #[.bool false,.slice none 0 0] 27) = X12 at *;have ldc0:X12.cell? ⟨b3,0,none⟩ = some (.int .i64 n):=(HF10.out.nth 5 rfl).cell 0;have ldc1:X12.cell? ⟨b3,1,none⟩ = some (.slice A9 J.length c9):=(HF10.out.nth 5 rfl).cell 1;have ldcl:=(HF10.out.nth 5 rfl).lt;go_upto_region 14 with (go_at_call 15;refine (HPB.out _ HQ9.out).mono ?_;rintro e w13 ⟨rfl,hw13⟩)
  clear ldc0 ldc1 ldcl hw12 HPB;have HF11:=Lib.hid (HF10.out.later (hw13))
  replace HQ1:=Lib.hid (HQ1.out.aft (hw13))
  replace HQ9:=Lib.hid (HQ9.out.aft (hw13))
  replace HGL:=Lib.hid (HGL.out.aft (hw13))
  replace HQA:=Lib.hid (HQA.out.aft (hw13))
  replace HGA:=Lib.hid (HGA.out.aft (hw13))
  clear HF10;obtain ⟨p22,hp22⟩:∃ z,z = w13.heap.size:=⟨_,rfl⟩;have F12:=((HF11.out.up (HF11.out.size) (Nat.le_refl _)).alloc rfl 29 #[.int .i64 0,.int .i64 0]);simp only [List.nil_append,List.cons_append,List.append_assoc,World.size_alloc] at F12;rw [<- hp22] at F12
  replace HQ1:=Lib.hid (HQ1.out.aft (Aft.alloc w13 (.cells #[.int .i64 0,.int .i64 0] 29)))
  replace HQ9:=Lib.hid (HQ9.out.aft (Aft.alloc w13 (.cells #[.int .i64 0,.int .i64 0] 29)))
  replace HGL:=Lib.hid (HGL.out.aft (Aft.alloc w13 (.cells #[.int .i64 0,.int .i64 0] 29)))
  replace HQA:=Lib.hid (HQA.out.aft (Aft.alloc w13 (.cells #[.int .i64 0,.int .i64 0] 29)))
  replace HGA:=Lib.hid (HGA.out.aft (Aft.alloc w13 (.cells #[.int .i64 0,.int .i64 0] 29)))
  have HF12:=Lib.hid F12;clear HF11 F12
  try rw [<- hp22]
  try rw [<- hp22]
  clear hp22;generalize w13.alloc (.cells #[.int .i64 0,.int .i64 0] 29) = X13 at *;have ldc0:X13.cell? ⟨p21,0,none⟩ = some (.bool false):=(HF12.out.nth 11 rfl).cell 0;have ldc1:X13.cell? ⟨p21,1,none⟩ = some (.slice none 0 0):=(HF12.out.nth 11 rfl).cell 1;have ldcl:=(HF12.out.nth 11 rfl).lt;have ldd0:X13.cell? ⟨p22,0,none⟩ = some (.int .i64 0):=(HF12.out.nth 12 rfl).cell 0;have ldd1:X13.cell? ⟨p22,1,none⟩ = some (.int .i64 0):=(HF12.out.nth 12 rfl).cell 1;have lddl:=(HF12.out.nth 12 rfl).lt;clear hw13;go_upto_region 22 with fail
  clear ldc0 ldc1 ldcl ldd0 ldd1 lddl t1 t2;have ldc0:X13.cell? ⟨b1,0,none⟩ = some (.int .i64 n):=(HF12.out.nth 3 rfl).cell 0;have ldc1:X13.cell? ⟨b1,1,none⟩ = some (.slice A1 J.length c1):=(HF12.out.nth 3 rfl).cell 1;have ldcl:=(HF12.out.nth 3 rfl).lt;have ldd0:X13.cell? ⟨s,0,none⟩ = some (.int .i64 n):=(HF12.out.nth 0 rfl).cell 0;have ldd1:X13.cell? ⟨s,1,none⟩ = some (.slice A J.length c):=(HF12.out.nth 0 rfl).cell 1;have lddl:=(HF12.out.nth 0 rfl).lt;have ldg0:X13.cell? ⟨b2,0,none⟩ = some (.bool north):=(HF12.out.nth 4 rfl).cell 0;have ldg1:X13.cell? ⟨b2,1,none⟩ = some (.slice AL L.length cL):=(HF12.out.nth 4 rfl).cell 1;have ldgl:=(HF12.out.nth 4 rfl).lt;have ldk0:X13.cell? ⟨s + 1,0,none⟩ = some (.bool north):=(HF12.out.nth 1 rfl).cell 0;have ldk1:X13.cell? ⟨s + 1,1,none⟩ = some (.slice Al L.length cl):=(HF12.out.nth 1 rfl).cell 1;have ldkl:=(HF12.out.nth 1 rfl).lt
  have HSA:Hid (∀ W,Quads W A1 J -> Quads W A J -> Calls Tryz.prog 16 #[.agg #[.int .i64 n,.slice A1 J.length c1],.agg #[.int .i64 n,.slice A J.length c]] W fun e w'=>e = .returned (.bool true) /\ Aft W w'):=Lib.hid fun W h1 h2=>by
   have:=sameS_any n n A1 A J J c1 c W h1 h2;simpa [eqB] using this
  have HEL:Hid (∀ W,Gs W AL L -> Gs W Al L -> Calls Tryz.prog 17 #[.slice AL L.length cL,.slice Al L.length cl] W fun e w'=>e = .returned (.bool true) /\ Aft W w'):=Lib.hid fun W h1 h2=>by
   have:=kitEqual_leg AL Al L L cL cl W h1 h2;simpa [eqB] using this
  (repeat (first | go_big_skip | go_big_want | go_big_move | go_big_op | go_step | go_upon | go_back));go_at_call 16;refine (HSA.out _ HQ1.out HQA.out).mono ?_;rintro e y1 ⟨rfl,hy1⟩;dsimp only;clear ldc0 ldc1 ldcl ldd0 ldd1 lddl ldg0 ldg1 ldgl ldk0 ldk1 ldkl;have HF13:=Lib.hid (HF12.out.later (hy1))
  replace HQ1:=Lib.hid (HQ1.out.aft (hy1))
  replace HQ9:=Lib.hid (HQ9.out.aft (hy1))
  replace HGL:=Lib.hid (HGL.out.aft (hy1))
  replace HQA:=Lib.hid (HQA.out.aft (hy1))
  replace HGA:=Lib.hid (HGA.out.aft (hy1))
  clear HF12;have ldg0:y1.cell? ⟨b2,0,none⟩ = some (.bool north):=(HF13.out.nth 4 rfl).cell 0;have ldg1:y1.cell? ⟨b2,1,none⟩ = some (.slice AL L.length cL):=(HF13.out.nth 4 rfl).cell 1;have ldgl:=(HF13.out.nth 4 rfl).lt;have ldk0:y1.cell? ⟨s + 1,0,none⟩ = some (.bool north):=(HF13.out.nth 1 rfl).cell 0;have ldk1:y1.cell? ⟨s + 1,1,none⟩ = some (.slice Al L.length cl):=(HF13.out.nth 1 rfl).cell 1;have ldkl:=(HF13.out.nth 1 rfl).lt;(repeat (first | go_big_skip | go_big_want | go_big_move | go_big_op | go_step | go_upon | go_back));go_at_call 17;refine (HEL.out _ HGL.out HGA.out).mono ?_;rintro e y2 ⟨rfl,hy2⟩;dsimp only;(repeat (first | go_big_skip | go_big_want | go_big_move | go_big_op | go_step | go_upon | go_back));go_at_call 5;refine (awake_any _).mono ?_;rintro e y3 ⟨rfl,hy3⟩;dsimp only;have HYF:=Lib.hid ((HF13.out.aft.trans hy2).trans hy3);clear ldg0 ldg1 ldgl ldk0 ldk1 ldkl hy1 hy2 hy3;(repeat (first | go_big_skip | go_big_want | go_big_move | go_big_op | go_step | go_upon | go_back));exact bodyPost_ret (v:=.bool true) (by simp [results,Tryz.results3,go_sem]) rfl ⟨rfl,HYF.out⟩
 ·have he:setE ⟨n,J⟩ = 0:=Classical.byContradiction he;have ldc0:X9.cell? ⟨b1,0,none⟩ = some (.int .i64 n):=(HF8.out.nth 3 rfl).cell 0;have ldc1:X9.cell? ⟨b1,1,none⟩ = some (.slice A1 J.length c1):=(HF8.out.nth 3 rfl).cell 1;have ldcl:=(HF8.out.nth 3 rfl).lt;have hPL:=setE_ok he;have HSO:=Lib.hid hPL;have HPB:Hid (∀ W,Quads W A9 J -> Calls Tryz.prog 15 #[.agg #[.int .i64 n,.slice A9 J.length c9]] W fun e w'=>∃ p:Int × Int,e = .returned (.tuple #[.agg #[.int .i64 p.1,.int .i64 p.2],.int .i64 0]) /\ PlayOf ⟨n,J⟩ p /\ Aft W w'):=Lib.hid fun W h=>refPlay_good ⟨n,J⟩ A9 c9 W h he
  have HWB:=Lib.hid (worst_good ⟨n,J⟩ A1 c1 _ HQ1.out he);clear he hPL;go_upto_region 12 with fail
  apply wp_region_lit;(repeat (first | go_big_skip | go_big_want | go_big_move | go_big_op | go_step | go_upon | go_back));go_at_call 14;refine HWB.out.mono ?_;rintro e w12 ⟨⟨⟨z1,z2⟩,hpl,hor⟩,hw12⟩;rcases hor with ⟨hz0,rfl⟩ | ⟨hz0,nb,lz,Az,cz,rfl,hgz,hrp⟩
  ·dsimp only;clear ldc0 ldc1 ldcl HWB;go_upto_region 13 with fail
   have HF9:=Lib.hid (HF8.out.later (hw12))
   replace HQ1:=Lib.hid (HQ1.out.aft (hw12))
   replace HQ9:=Lib.hid (HQ9.out.aft (hw12))
   replace HGL:=Lib.hid (HGL.out.aft (hw12))
   replace HQA:=Lib.hid (HQA.out.aft (hw12))
   replace HGA:=Lib.hid (HGA.out.aft (hw12))
   clear HF8;obtain ⟨p21,hp21⟩:∃ z,z = w12.heap.size:=⟨_,rfl⟩;have F10:=((HF9.out.up (HF9.out.size) (Nat.le_refl _)).alloc rfl 27 #[.bool false,.slice none 0 0]);simp only [List.nil_append,List.cons_append,List.append_assoc,World.size_alloc] at F10;rw [<- hp21] at F10
   replace HQ1:=Lib.hid (HQ1.out.aft (Aft.alloc w12 (.cells #[.bool false,.slice none 0 0] 27)))
   replace HQ9:=Lib.hid (HQ9.out.aft (Aft.alloc w12 (.cells #[.bool false,.slice none 0 0] 27)))
   replace HGL:=Lib.hid (HGL.out.aft (Aft.alloc w12 (.cells #[.bool false,.slice none 0 0] 27)))
   replace HQA:=Lib.hid (HQA.out.aft (Aft.alloc w12 (.cells #[.bool false,.slice none 0 0] 27)))
   replace HGA:=Lib.hid (HGA.out.aft (Aft.alloc w12 (.cells #[.bool false,.slice none 0 0] 27)))
   have HF10:=Lib.hid F10;clear HF9 F10
   try rw [<- hp21]
   try rw [<- hp21]
   clear hp21;generalize w12.alloc (.cells #[.bool false,.slice none 0 0] 27) = X12 at *;have ldc0:X12.cell? ⟨b3,0,none⟩ = some (.int .i64 n):=(HF10.out.nth 5 rfl).cell 0;have ldc1:X12.cell? ⟨b3,1,none⟩ = some (.slice A9 J.length c9):=(HF10.out.nth 5 rfl).cell 1;have ldcl:=(HF10.out.nth 5 rfl).lt;obtain rfl:z1 = 0:=hz0;have HPL:=Lib.hid hpl;clear hpl hw12;go_upto_region 14 with (go_at_call 15;refine (HPB.out _ HQ9.out).mono ?_;rintro e w13 ⟨⟨y1,y2⟩,rfl,hp2,hw13⟩;obtain ⟨rfl,rfl⟩:y1 = 0 /\ y2 = z2:=(by have:=hp2.same HPL.out;exact ⟨congrArg Prod.fst this,congrArg Prod.snd this⟩);clear hp2;dsimp only)
   clear ldc0 ldc1 ldcl HPB;have HF11:=Lib.hid (HF10.out.later (hw13))
   replace HQ1:=Lib.hid (HQ1.out.aft (hw13))
   replace HQ9:=Lib.hid (HQ9.out.aft (hw13))
   replace HGL:=Lib.hid (HGL.out.aft (hw13))
   replace HQA:=Lib.hid (HQA.out.aft (hw13))
   replace HGA:=Lib.hid (HGA.out.aft (hw13))
   clear HF10;obtain ⟨p22,hp22⟩:∃ z,z = w13.heap.size:=⟨_,rfl⟩;have F12:=((HF11.out.up (HF11.out.size) (Nat.le_refl _)).alloc rfl 29 #[.int .i64 0,.int .i64 y2]);simp only [List.nil_append,List.cons_append,List.append_assoc,World.size_alloc] at F12;rw [<- hp22] at F12
   replace HQ1:=Lib.hid (HQ1.out.aft (Aft.alloc w13 (.cells #[.int .i64 0,.int .i64 y2] 29)))
   replace HQ9:=Lib.hid (HQ9.out.aft (Aft.alloc w13 (.cells #[.int .i64 0,.int .i64 y2] 29)))
   replace HGL:=Lib.hid (HGL.out.aft (Aft.alloc w13 (.cells #[.int .i64 0,.int .i64 y2] 29)))
   replace HQA:=Lib.hid (HQA.out.aft (Aft.alloc w13 (.cells #[.int .i64 0,.int .i64 y2] 29)))
   replace HGA:=Lib.hid (HGA.out.aft (Aft.alloc w13 (.cells #[.int .i64 0,.int .i64 y2] 29)))
   have HF12:=Lib.hid F12;clear HF11 F12
   try rw [<- hp22]
   try rw [<- hp22]
   clear hp22;generalize w13.alloc (.cells #[.int .i64 0,.int .i64 y2] 29) = X13 at *;have ldc0:X13.cell? ⟨p21,0,none⟩ = some (.bool false):=(HF12.out.nth 11 rfl).cell 0;have ldc1:X13.cell? ⟨p21,1,none⟩ = some (.slice none 0 0):=(HF12.out.nth 11 rfl).cell 1;have ldcl:=(HF12.out.nth 11 rfl).lt;have ldd0:X13.cell? ⟨p22,0,none⟩ = some (.int .i64 0):=(HF12.out.nth 12 rfl).cell 0;have ldd1:X13.cell? ⟨p22,1,none⟩ = some (.int .i64 y2):=(HF12.out.nth 12 rfl).cell 1;have lddl:=(HF12.out.nth 12 rfl).lt;clear hw13;go_upto_region 22 with fail
   clear ldc0 ldc1 ldcl ldd0 ldd1 lddl;have ldc0:X13.cell? ⟨b1,0,none⟩ = some (.int .i64 n):=(HF12.out.nth 3 rfl).cell 0;have ldc1:X13.cell? ⟨b1,1,none⟩ = some (.slice A1 J.length c1):=(HF12.out.nth 3 rfl).cell 1;have ldcl:=(HF12.out.nth 3 rfl).lt;have ldd0:X13.cell? ⟨s,0,none⟩ = some (.int .i64 n):=(HF12.out.nth 0 rfl).cell 0;have ldd1:X13.cell? ⟨s,1,none⟩ = some (.slice A J.length c):=(HF12.out.nth 0 rfl).cell 1;have lddl:=(HF12.out.nth 0 rfl).lt;have ldg0:X13.cell? ⟨b2,0,none⟩ = some (.bool north):=(HF12.out.nth 4 rfl).cell 0;have ldg1:X13.cell? ⟨b2,1,none⟩ = some (.slice AL L.length cL):=(HF12.out.nth 4 rfl).cell 1;have ldgl:=(HF12.out.nth 4 rfl).lt;have ldk0:X13.cell? ⟨s + 1,0,none⟩ = some (.bool north):=(HF12.out.nth 1 rfl).cell 0;have ldk1:X13.cell? ⟨s + 1,1,none⟩ = some (.slice Al L.length cl):=(HF12.out.nth 1 rfl).cell 1;have ldkl:=(HF12.out.nth 1 rfl).lt
   have HSA:Hid (∀ W,Quads W A1 J -> Quads W A J -> Calls Tryz.prog 16 #[.agg #[.int .i64 n,.slice A1 J.length c1],.agg #[.int .i64 n,.slice A J.length c]] W fun e w'=>e = .returned (.bool true) /\ Aft W w'):=Lib.hid fun W h1 h2=>by
    have:=sameS_any n n A1 A J J c1 c W h1 h2;simpa [eqB] using this
   have HEL:Hid (∀ W,Gs W AL L -> Gs W Al L -> Calls Tryz.prog 17 #[.slice AL L.length cL,.slice Al L.length cl] W fun e w'=>e = .returned (.bool true) /\ Aft W w'):=Lib.hid fun W h1 h2=>by
    have:=kitEqual_leg AL Al L L cL cl W h1 h2;simpa [eqB] using this
   (repeat (first | go_big_skip | go_big_want | go_big_move | go_big_op | go_step | go_upon | go_back));go_at_call 16;refine (HSA.out _ HQ1.out HQA.out).mono ?_;rintro e y1 ⟨rfl,hy1⟩;dsimp only;clear ldc0 ldc1 ldcl ldd0 ldd1 lddl ldg0 ldg1 ldgl ldk0 ldk1 ldkl;have HF13:=Lib.hid (HF12.out.later (hy1))
   replace HQ1:=Lib.hid (HQ1.out.aft (hy1))
   replace HQ9:=Lib.hid (HQ9.out.aft (hy1))
   replace HGL:=Lib.hid (HGL.out.aft (hy1))
   replace HQA:=Lib.hid (HQA.out.aft (hy1))
   replace HGA:=Lib.hid (HGA.out.aft (hy1))
   clear HF12;have ldg0:y1.cell? ⟨b2,0,none⟩ = some (.bool north):=(HF13.out.nth 4 rfl).cell 0;have ldg1:y1.cell? ⟨b2,1,none⟩ = some (.slice AL L.length cL):=(HF13.out.nth 4 rfl).cell 1;have ldgl:=(HF13.out.nth 4 rfl).lt;have ldk0:y1.cell? ⟨s + 1,0,none⟩ = some (.bool north):=(HF13.out.nth 1 rfl).cell 0;have ldk1:y1.cell? ⟨s + 1,1,none⟩ = some (.slice Al L.length cl):=(HF13.out.nth 1 rfl).cell 1;have ldkl:=(HF13.out.nth 1 rfl).lt;(repeat (first | go_big_skip | go_big_want | go_big_move | go_big_op | go_step | go_upon | go_back));go_at_call 17;refine (HEL.out _ HGL.out HGA.out).mono ?_;rintro e y2 ⟨rfl,hy2⟩;dsimp only;(repeat (first | go_big_skip | go_big_want | go_big_move | go_big_op | go_step | go_upon | go_back));go_at_call 5;refine (awake_any _).mono ?_;rintro e y3 ⟨rfl,hy3⟩;dsimp only;have HYF:=Lib.hid ((HF13.out.aft.trans hy2).trans hy3);clear ldg0 ldg1 ldgl ldk0 ldk1 ldkl hy1 hy2 hy3;(repeat (first | go_big_skip | go_big_want | go_big_move | go_big_op | go_step | go_upon | go_back));exact bodyPost_ret (v:=.bool true) (by simp [results,Tryz.results3,go_sem]) rfl ⟨rfl,HYF.out⟩
  ·dsimp only;clear ldc0 ldc1 ldcl HWB;obtain ⟨m,hm⟩:∃ m,lz.map legI = m:=⟨_,rfl⟩;have hml:m.length <= 12:=by rw [<- hm,List.length_map];exact hrp.2.1
   obtain ⟨hE0,hP0⟩:=round_proves HSO.out hrp;rw [hm] at hgz hE0 hP0;rw [hm];have HGZ:=Lib.hid hgz
   have HRP:Hid (∀ W,Quads W A9 J -> ∀ Ax cx,Gs W Ax m -> Calls Tryz.prog 10 #[.agg #[.int .i64 n,.slice A9 J.length c9],.bool nb,.slice Ax m.length cx] W fun e w'=>e = .returned (.tuple #[.agg #[.int .i64 z1,.int .i64 z2],.int .i64 0]) /\ Aft W w'):=Lib.hid fun W h1 Ax cx h2=>by
    have:=refProves_any ⟨n,J⟩ A9 c9 nb m Ax cx W h1 h2;rw [hP0,hE0] at this;exact this
   have HPL:=Lib.hid hpl;have tz:(z1 == 0) = false:=by simpa using hz0
   clear hm hgz hE0 hP0 hrp hpl hz0;go_upto_region 13 with fail
   have HF9:=Lib.hid (HF8.out.later (hw12))
   replace HQ1:=Lib.hid (HQ1.out.aft (hw12))
   replace HQ9:=Lib.hid (HQ9.out.aft (hw12))
   replace HGL:=Lib.hid (HGL.out.aft (hw12))
   replace HQA:=Lib.hid (HQA.out.aft (hw12))
   replace HGA:=Lib.hid (HGA.out.aft (hw12))
   clear HF8;obtain ⟨p21,hp21⟩:∃ z,z = w12.heap.size:=⟨_,rfl⟩;have F10:=((HF9.out.up (HF9.out.size) (Nat.le_refl _)).alloc rfl 27 #[.bool nb,.slice Az m.length cz]);simp only [List.nil_append,List.cons_append,List.append_assoc,World.size_alloc] at F10;rw [<- hp21] at F10
   replace HQ1:=Lib.hid (HQ1.out.aft (Aft.alloc w12 (.cells #[.bool nb,.slice Az m.length cz] 27)))
   replace HQ9:=Lib.hid (HQ9.out.aft (Aft.alloc w12 (.cells #[.bool nb,.slice Az m.length cz] 27)))
   replace HGL:=Lib.hid (HGL.out.aft (Aft.alloc w12 (.cells #[.bool nb,.slice Az m.length cz] 27)))
   replace HQA:=Lib.hid (HQA.out.aft (Aft.alloc w12 (.cells #[.bool nb,.slice Az m.length cz] 27)))
   replace HGA:=Lib.hid (HGA.out.aft (Aft.alloc w12 (.cells #[.bool nb,.slice Az m.length cz] 27)))
   replace HGZ:=Lib.hid (HGZ.out.aft (Aft.alloc w12 (.cells #[.bool nb,.slice Az m.length cz] 27)))
   have HF10:=Lib.hid F10;clear HF9 F10
   try rw [<- hp21]
   try rw [<- hp21]
   clear hp21;generalize w12.alloc (.cells #[.bool nb,.slice Az m.length cz] 27) = X12 at *
   skip
   have ldc0:X12.cell? ⟨b3,0,none⟩ = some (.int .i64 n):=(HF10.out.nth 5 rfl).cell 0;have ldc1:X12.cell? ⟨b3,1,none⟩ = some (.slice A9 J.length c9):=(HF10.out.nth 5 rfl).cell 1;have ldcl:=(HF10.out.nth 5 rfl).lt;clear hw12;go_upto_region 14 with (go_at_call 15;refine (HPB.out _ HQ9.out).mono ?_;rintro e w13 ⟨⟨y1,y2⟩,rfl,hp2,hw13⟩;obtain ⟨rfl,rfl⟩:y1 = z1 /\ y2 = z2:=(by have:=hp2.same HPL.out;exact ⟨congrArg Prod.fst this,congrArg Prod.snd this⟩);clear hp2;dsimp only)
   clear ldc0 ldc1 ldcl HPB;have HF11:=Lib.hid (HF10.out.later (hw13))
   replace HQ1:=Lib.hid (HQ1.out.aft (hw13))
   replace HQ9:=Lib.hid (HQ9.out.aft (hw13))
   replace HGL:=Lib.hid (HGL.out.aft (hw13))
   replace HQA:=Lib.hid (HQA.out.aft (hw13))
   replace HGA:=Lib.hid (HGA.out.aft (hw13))
   replace HGZ:=Lib.hid (HGZ.out.aft (hw13))
   clear HF10;obtain ⟨p22,hp22⟩:∃ z,z = w13.heap.size:=⟨_,rfl⟩;have F12:=((HF11.out.up (HF11.out.size) (Nat.le_refl _)).alloc rfl 29 #[.int .i64 y1,.int .i64 y2]);simp only [List.nil_append,List.cons_append,List.append_assoc,World.size_alloc] at F12;rw [<- hp22] at F12
   replace HQ1:=Lib.hid (HQ1.out.aft (Aft.alloc w13 (.cells #[.int .i64 y1,.int .i64 y2] 29)))
   replace HQ9:=Lib.hid (HQ9.out.aft (Aft.alloc w13 (.cells #[.int .i64 y1,.int .i64 y2] 29)))
   replace HGL:=Lib.hid (HGL.out.aft (Aft.alloc w13 (.cells #[.int .i64 y1,.int .i64 y2] 29)))
   replace HQA:=Lib.hid (HQA.out.aft (Aft.alloc w13 (.cells #[.int .i64 y1,.int .i64 y2] 29)))
   replace HGA:=Lib.hid (HGA.out.aft (Aft.alloc w13 (.cells #[.int .i64 y1,.int .i64 y2] 29)))
   replace HGZ:=Lib.hid (HGZ.out.aft (Aft.alloc w13 (.cells #[.int .i64 y1,.int .i64 y2] 29)))
   have HF12:=Lib.hid F12;clear HF11 F12
   try rw [<- hp22]
   try rw [<- hp22]
   clear hp22;generalize w13.alloc (.cells #[.int .i64 y1,.int .i64 y2] 29) = X13 at *;have ldc0:X13.cell? ⟨p21,0,none⟩ = some (.bool nb):=(HF12.out.nth 11 rfl).cell 0;have ldc1:X13.cell? ⟨p21,1,none⟩ = some (.slice Az m.length cz):=(HF12.out.nth 11 rfl).cell 1;have ldcl:=(HF12.out.nth 11 rfl).lt;have ldd0:X13.cell? ⟨p22,0,none⟩ = some (.int .i64 y1):=(HF12.out.nth 12 rfl).cell 0;have ldd1:X13.cell? ⟨p22,1,none⟩ = some (.int .i64 y2):=(HF12.out.nth 12 rfl).cell 1;have lddl:=(HF12.out.nth 12 rfl).lt;clear hw13;go_upto_region 19 with fail
   clear ldc0 ldc1 ldcl ldd0 ldd1 lddl;refine wp_region_valsU (by kernel_rfl) 12 169 rfl (by kernel_rfl) (by kernel_rfl) [some (.agg #[.int .i64 n,.slice A9 J.length c9]),some (.pointer (some ⟨p21,0,none⟩)),some (.bool nb),some (.pointer (some ⟨p21,1,none⟩)),some (.slice Az m.length cz),none,some (.tuple #[.agg #[.int .i64 y1,.int .i64 y2],.int .i64 0]),some (.tuple #[.agg #[.int .i64 y1,.int .i64 y2],.int .i64 0]),some (.agg #[.int .i64 y1,.int .i64 y2]),some (.int .i64 0),none,some undef] (by kernel_rfl) rfl (OpR X13 [(5,145)] [⟨10,23,29,11,8,147⟩] (P5 X13.heap.size m) (fun _=>#[.int .i64 0,.int .i64 0])) (OpR.start P5.mono) ?st3 ?fi3
   case st3 =>
    intro i o v ho hv
    match i,ho,hv with
    | 0,ho,hv =>
     cases ho;cases hv;refine .inl ⟨rfl,fun done a W hz hd hp hk hw K hK=>?_⟩;have e13:=hk.same 13 (by decide);exact op_val (v:=.agg #[.int .i64 n,.slice A9 J.length c9]) (by simp [go_sem,ev' e13,((HF12.out.nth 5 rfl).aft hw.aft).cell 0,((HF12.out.nth 5 rfl).aft hw.aft).cell 1]) (hK _ _ (fun u hu=>by cases hu;rfl) (hw.keep (Aft.refl _) hd (by decide)))
    | 1,ho,hv =>
     cases ho;cases hv;refine .inl ⟨rfl,fun done a W hz hd hp hk hw K hK=>?_⟩;have e21:=hk.same 21 (by decide);exact op_val (v:=.pointer (some ⟨p21,0,none⟩)) (by simp [go_sem,ev' e21]) (hK _ _ (fun u hu=>by cases hu;rfl) (hw.keep (Aft.refl _) hd (by decide)))
    | 2,ho,hv =>
     cases ho;cases hv;refine .inl ⟨rfl,fun done a W hz hd hp hk hw K hK=>?_⟩;have e141:=hk.at_ 1 _ 141 _ rfl (by decide) _ rfl rfl rfl;exact op_val (v:=.bool nb) (by simp [go_sem,ev' e141,((HF12.out.nth 11 rfl).aft hw.aft).cell 0]) (hK _ _ (fun u hu=>by cases hu;rfl) (hw.keep (Aft.refl _) hd (by decide)))
    | 3,ho,hv =>
     cases ho;cases hv;refine .inl ⟨rfl,fun done a W hz hd hp hk hw K hK=>?_⟩;have e21:=hk.same 21 (by decide);exact op_val (v:=.pointer (some ⟨p21,1,none⟩)) (by simp [go_sem,ev' e21]) (hK _ _ (fun u hu=>by cases hu;rfl) (hw.keep (Aft.refl _) hd (by decide)))
    | 4,ho,hv =>
     cases ho;cases hv;refine .inl ⟨rfl,fun done a W hz hd hp hk hw K hK=>?_⟩;have e143:=hk.at_ 3 _ 143 _ rfl (by decide) _ rfl rfl rfl;exact op_val (v:=.slice Az m.length cz) (by simp [go_sem,ev' e143,((HF12.out.nth 11 rfl).aft hw.aft).cell 1]) (hK _ _ (fun u hu=>by cases hu;rfl) (hw.keep (Aft.refl _) hd (by decide)))
    | 5,ho,hv =>
     cases ho;cases hv;refine .inl ⟨rfl,fun done a W hz hd hp hk hw K hK=>?_⟩;have e144:=hk.at_ 4 _ 144 _ rfl (by decide) _ rfl rfl rfl;refine op_callN rfl rfl rfl _ rfl (vs:=#[.slice Az m.length cz]) (by simp [e144]) (legsL_any Az m cz W (HGZ.out.aft hw.aft)) ?_;rintro e w7 ⟨u,rfl,h1,h2⟩;exact ⟨_,rfl,hK _ _ (fun u hu=>by cases hu) (hw.step h2 hd (World.ownsRow.mono h1 hw.aft.size) (by rw [hz];decide) (by decide))⟩
    | 6,ho,hv =>
     cases ho;cases hv;refine .inl ⟨rfl,fun done a W hz hd hp hk hw K hK=>?_⟩;have e140:=hk.at_ 0 _ 140 _ rfl (by decide) _ rfl rfl rfl;have e142:=hk.at_ 2 _ 142 _ rfl (by decide) _ rfl rfl rfl;have hq:W.ownsRow X13.heap.size 106 2 (a.eval (.tmp 145)) m.length (m.flatMap encG):=hw.fact (5,145) (by decide) (hp 5 (by decide));obtain ⟨Ax,cx,ex,hgx⟩:=gs_of hq (by omega);refine op_callN rfl rfl rfl _ rfl (vs:=#[.agg #[.int .i64 n,.slice A9 J.length c9],.bool nb,.slice Ax m.length cx]) (by simp [e140,e142,ex]) (HRP.out W (HQ9.out.aft hw.aft) Ax cx hgx) ?_;rintro e w7 ⟨rfl,hw7⟩;exact ⟨_,rfl,hK _ _ (fun u hu=>by cases hu;rfl) (hw.keep hw7 hd (by decide))⟩
    | 7,ho,hv =>
     cases ho;cases hv;refine .inl ⟨rfl,fun done a W hz hd hp hk hw K hK=>?_⟩;have e146:=hk.at_ 6 _ 146 _ rfl (by decide) _ rfl rfl rfl;exact op_val (v:=.tuple #[.agg #[.int .i64 y1,.int .i64 y2],.int .i64 0]) (by simp [go_sem,ev' e146]) (hK _ _ (fun u hu=>by cases hu;rfl) (hw.keep (Aft.refl _) hd (by decide)))
    | 8,ho,hv =>
     cases ho;cases hv;refine .inl ⟨rfl,fun done a W hz hd hp hk hw K hK=>?_⟩;have e139:=hk.at_ 7 _ 139 _ rfl (by decide) _ rfl rfl rfl;exact op_val (v:=.agg #[.int .i64 y1,.int .i64 y2]) (by simp [go_sem,ev' e139]) (hK _ _ (fun u hu=>by cases hu;rfl) (hw.keep (Aft.refl _) hd (by decide)))
    | 9,ho,hv =>
     cases ho;cases hv;refine .inl ⟨rfl,fun done a W hz hd hp hk hw K hK=>?_⟩;have e139:=hk.at_ 7 _ 139 _ rfl (by decide) _ rfl rfl rfl;exact op_val (v:=.int .i64 0) (by simp [go_sem,ev' e139]) (hK _ _ (fun u hu=>by cases hu;rfl) (hw.keep (Aft.refl _) hd (by decide)))
    | 10,ho,hv =>
     cases ho;cases hv;refine .inl ⟨rfl,fun done a W hz hd hp hk hw K hK=>?_⟩;exact op_valW (w':=W.alloc (.cells #[.int .i64 0,.int .i64 0] 29)) (v:=.pointer (some ⟨W.heap.size,0,none⟩)) (by simp [go_sem]) (hK _ _ (fun u hu=>by cases hu) (hw.lay (i:=10) (t:=23) (ty:=29) hd (by rw [hz];decide) (by decide)))
    | 11,ho,hv =>
     cases ho;cases hv;refine .inl ⟨rfl,fun done a W hz hd hp hk hw K hK=>?_⟩;have e147:=hk.at_ 8 _ 147 _ rfl (by decide) _ rfl rfl rfl;obtain ⟨b,cs,eb,hbs,hbk,hzs,-⟩:=hw.box ⟨10,23,29,11,8,147⟩ (by simp) (hp 10 (by decide));dsimp only at eb hbk hzs;have hcs:=hzs hd;subst hcs;have c0:=hbk.cell 0;have c1:=hbk.cell 1;have c2:=hbk.frozen 0;have c3:=hbk.frozen 1;have c4:=hbk.lt;simp only [List.getElem?_toArray,List.getElem?_cons_zero,List.getElem?_cons_succ] at c0 c1;have hs0:=hbk.store 0 (.int .i64 y1);exact op_skipW (w':=(W.setCell ⟨b,0,none⟩ (.int .i64 y1)).setCell ⟨b,1,none⟩ (.int .i64 y2)) (by simp [go_sem,ev' eb,ev' e147,c0,c1,c2,c3,c4]) (hK _ _ (fun u hu=>by cases hu;rfl) (hw.put (x:=⟨10,23,29,11,8,147⟩) (by simp) (hp 10 (by decide)) (hp 8 (by decide)) eb e147 ((hw.aft.then_setCell (p:=⟨b,0,none⟩) hbs _).then_setCell (p:=⟨b,1,none⟩) hbs _) (hs0.store 1 _) (fun b' t cs hb' hk'=>(hk'.far (p:=⟨b,0,none⟩) hb' _).far (p:=⟨b,1,none⟩) hb' _) (fun y hy hdy hP=>own_far2 (own_far2 hP hbk (by decide) 0 _) hs0 (by decide) 1 _) (by decide)))
    | _ + 12,_,hv=>cases hv
   intro done us W hus hd hw;obtain ⟨x1,x2,rfl⟩:=list2 hus;obtain ⟨p23,q1,e1,g1,k1,-,z1⟩:=hw.box ⟨10,23,29,11,8,147⟩ (by simp) (hd 10 (by decide));obtain ⟨Ax,nx,cx,e2⟩:=own_slice_form (hw.fact (5,145) (by decide) (hd 5 (by decide)));dsimp only at e1 k1 z1 e2
   replace z1:=z1 (hd 11 (by decide))
   have hwa:=hw.aft;clear hw hd hus;simp only [fill,List.drop_succ_cons,List.drop_zero,List.zip_cons_cons,List.zip_nil_right,putAll] at e1 e2 z1 ⊢;simp only [Act.put,List.setIfInBounds_toArray,List.set] at e1 e2 z1 ⊢;have z2:Value.agg #[.int .i64 y1,.int .i64 y2] = .agg q1:=z1;have z3:q1 = #[.int .i64 y1,.int .i64 y2]:=(Value.agg.inj z2).symm;subst z3;have e1':x2 = .pointer (some ⟨p23,0,none⟩):=e1;have e2':x1 = .slice Ax nx cx:=e2;clear e1 e2 z1 z2;subst e1' e2';obtain ⟨X19,hX⟩:∃ X,W = X:=⟨_,rfl⟩;rw [hX] at hwa k1 ⊢;have F13:=(HF12.out.later hwa).add k1 (Nat.le_trans HF12.out.aft.size g1);simp only [List.nil_append,List.cons_append] at F13;have HF13:=Lib.hid F13
   replace HQ1:=Lib.hid (HQ1.out.aft hwa)
   replace HQ9:=Lib.hid (HQ9.out.aft hwa)
   replace HGL:=Lib.hid (HGL.out.aft hwa)
   replace HQA:=Lib.hid (HQA.out.aft hwa)
   replace HGA:=Lib.hid (HGA.out.aft hwa)
   replace HGZ:=Lib.hid (HGZ.out.aft hwa)
   clear hX hwa k1 g1 HF12 F13;have ldc0:X19.cell? ⟨p23,0,none⟩ = some (.int .i64 y1):=(HF13.out.nth 13 rfl).cell 0;have ldc1:X19.cell? ⟨p23,1,none⟩ = some (.int .i64 y2):=(HF13.out.nth 13 rfl).cell 1;have ldcl:=(HF13.out.nth 13 rfl).lt;have ldd0:X19.cell? ⟨p22,0,none⟩ = some (.int .i64 y1):=(HF13.out.nth 12 rfl).cell 0;have ldd1:X19.cell? ⟨p22,1,none⟩ = some (.int .i64 y2):=(HF13.out.nth 12 rfl).cell 1;have lddl:=(HF13.out.nth 12 rfl).lt;go_upto_region 22 with fail
   clear ldc0 ldc1 ldcl ldd0 ldd1 lddl;have ldc0:X19.cell? ⟨b1,0,none⟩ = some (.int .i64 n):=(HF13.out.nth 3 rfl).cell 0;have ldc1:X19.cell? ⟨b1,1,none⟩ = some (.slice A1 J.length c1):=(HF13.out.nth 3 rfl).cell 1;have ldcl:=(HF13.out.nth 3 rfl).lt;have ldd0:X19.cell? ⟨s,0,none⟩ = some (.int .i64 n):=(HF13.out.nth 0 rfl).cell 0;have ldd1:X19.cell? ⟨s,1,none⟩ = some (.slice A J.length c):=(HF13.out.nth 0 rfl).cell 1;have lddl:=(HF13.out.nth 0 rfl).lt;have ldg0:X19.cell? ⟨b2,0,none⟩ = some (.bool north):=(HF13.out.nth 4 rfl).cell 0;have ldg1:X19.cell? ⟨b2,1,none⟩ = some (.slice AL L.length cL):=(HF13.out.nth 4 rfl).cell 1;have ldgl:=(HF13.out.nth 4 rfl).lt;have ldk0:X19.cell? ⟨s + 1,0,none⟩ = some (.bool north):=(HF13.out.nth 1 rfl).cell 0;have ldk1:X19.cell? ⟨s + 1,1,none⟩ = some (.slice Al L.length cl):=(HF13.out.nth 1 rfl).cell 1;have ldkl:=(HF13.out.nth 1 rfl).lt
   have HSA:Hid (∀ W,Quads W A1 J -> Quads W A J -> Calls Tryz.prog 16 #[.agg #[.int .i64 n,.slice A1 J.length c1],.agg #[.int .i64 n,.slice A J.length c]] W fun e w'=>e = .returned (.bool true) /\ Aft W w'):=Lib.hid fun W h1 h2=>by
    have:=sameS_any n n A1 A J J c1 c W h1 h2;simpa [eqB] using this
   have HEL:Hid (∀ W,Gs W AL L -> Gs W Al L -> Calls Tryz.prog 17 #[.slice AL L.length cL,.slice Al L.length cl] W fun e w'=>e = .returned (.bool true) /\ Aft W w'):=Lib.hid fun W h1 h2=>by
    have:=kitEqual_leg AL Al L L cL cl W h1 h2;simpa [eqB] using this
   (repeat (first | go_big_skip | go_big_want | go_big_move | go_big_op | go_step | go_upon | go_back));go_at_call 16;refine (HSA.out _ HQ1.out HQA.out).mono ?_;rintro e y1 ⟨rfl,hy1⟩;dsimp only;clear ldc0 ldc1 ldcl ldd0 ldd1 lddl ldg0 ldg1 ldgl ldk0 ldk1 ldkl;have HF14:=Lib.hid (HF13.out.later (hy1))
   replace HQ1:=Lib.hid (HQ1.out.aft (hy1))
   replace HQ9:=Lib.hid (HQ9.out.aft (hy1))
   replace HGL:=Lib.hid (HGL.out.aft (hy1))
   replace HQA:=Lib.hid (HQA.out.aft (hy1))
   replace HGA:=Lib.hid (HGA.out.aft (hy1))
   replace HGZ:=Lib.hid (HGZ.out.aft (hy1))
   clear HF13;have ldg0:y1.cell? ⟨b2,0,none⟩ = some (.bool north):=(HF14.out.nth 4 rfl).cell 0;have ldg1:y1.cell? ⟨b2,1,none⟩ = some (.slice AL L.length cL):=(HF14.out.nth 4 rfl).cell 1;have ldgl:=(HF14.out.nth 4 rfl).lt;have ldk0:y1.cell? ⟨s + 1,0,none⟩ = some (.bool north):=(HF14.out.nth 1 rfl).cell 0;have ldk1:y1.cell? ⟨s + 1,1,none⟩ = some (.slice Al L.length cl):=(HF14.out.nth 1 rfl).cell 1;have ldkl:=(HF14.out.nth 1 rfl).lt;(repeat (first | go_big_skip | go_big_want | go_big_move | go_big_op | go_step | go_upon | go_back));go_at_call 17;refine (HEL.out _ HGL.out HGA.out).mono ?_;rintro e y2 ⟨rfl,hy2⟩;dsimp only;(repeat (first | go_big_skip | go_big_want | go_big_move | go_big_op | go_step | go_upon | go_back));go_at_call 5;refine (awake_any _).mono ?_;rintro e y3 ⟨rfl,hy3⟩;dsimp only;have HYF:=Lib.hid ((HF14.out.aft.trans hy2).trans hy3);clear ldg0 ldg1 ldgl ldk0 ldk1 ldkl hy1 hy2 hy3;(repeat (first | go_big_skip | go_big_want | go_big_move | go_big_op | go_step | go_upon | go_back));exact bodyPost_ret (v:=.bool true) (by simp [results,Tryz.results3,go_sem]) rfl ⟨rfl,HYF.out⟩
theorem roundsLaw_any (n a b N D:Int) (J:List Q4) (A:Option Addr) (c:Nat) (north:Bool) (L:List (Int × Bool)) (Al:Option Addr) (cl:Nat) (w:World) (hA:QuadsQ w A J) (hL:GsQ w Al L) :
  Calls Tryz.prog 3 #[.agg #[.int .i64 n,.slice A J.length c],.agg #[.bool north,.slice Al L.length cl],.int .i64 a,.int .i64 b,.agg #[.int .i64 N,.int .i64 D]] w fun e w'=>e = .returned (.bool true) /\ Aft w w':=by
 by_cases h:45 < J.length \/ 70 < L.length
 ·exact rounds_long n a b N D A Al J.length L.length c cl north w h hA.1 hL.1
 ·exact rounds_small n a b N D J A c north L Al cl w (hA.small (by omega)) (hL.small (by omega)) (by omega) (by omega)
end Go.Proofs
end
