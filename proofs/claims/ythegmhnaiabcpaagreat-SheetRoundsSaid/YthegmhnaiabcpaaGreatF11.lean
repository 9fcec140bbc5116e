/- Own texts, merged: Sz Ta Tb0. -/
import Derived.Test.YthegmhnaiabcpaaGreatF10
set_option linter.unusedSimpArgs false
set_option linter.unusedVariables false
set_option linter.unnecessarySimpa false
section
/- Walks: Needs. -/
namespace Go.Proofs
open Go.RowKit
attribute [local go_sem] Oper.semAt_some
set_option maxRecDepth 100000 in
set_option maxHeartbeats 4000000 in
theorem needs_good (S:SetL) (A:Option Addr) (c:Nat) (L:List Q4) (Al:Option Addr) (cl:Nat) (w:World) (hA:Quads w A S.J) (hL:Quads w Al L) (he:needsE S L = 0) :
  Calls Tryz.prog 26 #[.agg #[.int .i64 S.n,.slice A S.J.length c],.slice Al L.length cl] w fun e w'=>e = .returned (.tuple #[.agg #[.int .i64 (needsP S L).1,.int .i64 (needsP S L).2],.int .i64 0]) /\ Aft w w':=by
 obtain ⟨s,hs⟩:∃ s,w.heap.size = s:=⟨_,rfl⟩;have F0:=((Fr.start w).alloc rfl 24 #[.int .i64 S.n,.slice A S.J.length c]).alloc (by simp) 29 #[.int .i64 0,.int .i64 0];simp only [List.nil_append,List.cons_append] at F0;rw [hs] at F0;have HC:=Lib.hid (check_any S A c _ (hA.aft F0.aft));have HV:=Lib.hid fun W (h:Aft w W)=>every_need L Al cl W (hL.aft h)
 have hll:=hL.len;have HF0:=Lib.hid F0;clear F0;have HA:=Lib.hid hA;have HL:=Lib.hid hL;have hjl:=hA.len;clear hA hL;obtain ⟨h1,h2,h3⟩:=needsE_ok he;rw [h1] at HC;rw [h3] at HV;have hS:=setE_ok h1;have HS:=Lib.hid hS;have hn1:=hS.n1;have hn2:=hS.n2;have HSH:Hid (∀ i:Int,0 <= i -> i < S.n -> ShS (shX (q4D L i)) /\ ShS (shY (q4D L i))):=Lib.hid fun i h4 h5=>okS_sh (by
  have hi:i.toNat < L.length:=by omega
  unfold q4D;rw [List.getD_eq_getElem?_getD,List.getElem?_eq_getElem hi];exact List.all_eq_true.1 h3 _ (List.getElem_mem hi))
 have t2:((L.length:Int) != S.n) = false:=by simpa using h2
 have HLN:=Lib.hid h2;obtain ⟨R,hR⟩:∃ R,needsP S L = R:=⟨_,rfl⟩;rw [hR];have HRR:=Lib.hid hR;clear h1 h2 h3 hS he hR;go_enter Tryz.func26,Tryz.ntmps26;go_upto_block 0 with (go_at_call 24;refine HC.out.mono ?_;rintro e w2 ⟨rfl,u,rfl⟩)
 have HF2:=Lib.hid (HF0.out.later (Aft.lat _ u))
 try rw [hs]
 generalize ((w.alloc (.cells #[.int .i64 S.n,.slice A S.J.length c] 24)).alloc (.cells #[.int .i64 0,.int .i64 0] 29)).lat u = W9 at *;clear HF0 HC;have y1:W9.cell? ⟨s,0,none⟩ = some (.int .i64 S.n):=(HF2.out.nth 0 rfl).cell 0;have y2:=(HF2.out.nth 0 rfl).lt;go_upto_region 8 with (go_at_call 76;refine (HV.out _ HF2.out.aft).mono ?_;rintro e w2 ⟨rfl,u,rfl⟩)
 clear y1 y2;have HF3:=Lib.hid (HF2.out.later (Aft.lat _ u));generalize W9.lat u = W3 at *;clear HF2 HV;obtain ⟨z,hz⟩:∃ z,W3.heap.size = z:=⟨_,rfl⟩;have F4:=((HF3.out.up (B':=z) (by have:=HF3.out.size;omega) (by omega)).alloc hz 29 #[.int .i64 0,.int .i64 1]);simp only [List.nil_append,List.cons_append] at F4;have hsz:s + 1 + 1 <= z:=by have:=HF3.out.size;omega
 have HF4:=Lib.hid F4;have HZ:=Lib.hid hz;clear F4 hz;have y1:W3.cell? ⟨s,1,none⟩ = some (.slice A S.J.length c):=(HF3.out.nth 0 rfl).cell 1;have y2:=(HF3.out.nth 0 rfl).lt;go_upto_block 1 with fail
 clear y1 y2 HF3
 try rw [HZ.out]
 clear HZ;generalize W3.alloc (.cells #[.int .i64 0,.int .i64 1] 29) = W4 at *;refine wp_block ?_;go_loopw [36] (fun i wr=>∃ k:Nat,i = .int .i64 (k:Nat) /\ k <= S.J.length /\ ∃ p,Hid (p = (S.J.take k).foldl (stepN L) (0,1)) /\ RatS p /\ Fr w (z + 1) [(s,24,#[.int .i64 S.n,.slice A S.J.length c]),(s + 1,29,#[.int .i64 0,.int .i64 0]),(z,29,#[.int .i64 p.1,.int .i64 p.2])] wr) (fun i _=>S.J.length - (intOf i).toNat)
 case atStart=>exact ⟨0,rfl,by omega,(0,1),Lib.hid rfl,⟨by decide,by decide,by decide,by decide⟩,HF4.out⟩
 case round =>
  obtain ⟨k,rfl,hk,p,HPK,hpr,hI⟩:=hrel;have HI:=Lib.hid hI;have HPR:=Lib.hid hpr;clear HF4 hI hpr;by_cases hkl:k < S.J.length
  ·have t1:decide (k < S.J.length) = true:=by simpa using hkl
   obtain ⟨b,o,hbo,hb,hc⟩:=(HA.out.aft HI.out.aft).at hkl;subst hbo;obtain ⟨x0,x1,x2,x3⟩:=hc k hkl;have hends:=HS.out.ends _ (List.getElem_mem hkl);have hnums:=HS.out.nums _ (List.getElem_mem hkl);have HT:Hid ((S.J.take (k + 1)).foldl (stepN L) (0,1) = stepN L p S.J[k]):=Lib.hid (by rw [List.take_succ_eq_append_getElem hkl,List.foldl_append,<- HPK.out];rfl);obtain ⟨⟨ja,jb,jx,jy⟩,hj⟩:∃ j,S.J[k] = j:=⟨_,rfl⟩;rw [hj] at x0 x1 x2 x3 hends hnums HT;dsimp only at x0 x1 x2 x3 hends hnums;clear hc hj;obtain ⟨an,rfl⟩:∃ an:Nat,ja = an:=⟨ja.toNat,by omega⟩;obtain ⟨bn,rfl⟩:∃ bn:Nat,jb = bn:=⟨jb.toNat,by omega⟩;have hlq:=HLN.out;have han:an < L.length:=by omega
   have hbn:bn < L.length:=by omega
   have HSA:=Lib.hid (HSH.out an (by omega) (by omega));have HSB:=Lib.hid (HSH.out bn (by omega) (by omega));have hqa:q4D L (an:Int) = L[an]:=by unfold q4D;rw [Int.toNat_natCast,List.getD_eq_getElem?_getD,List.getElem?_eq_getElem han];rfl
   have hqb:q4D L (bn:Int) = L[bn]:=by unfold q4D;rw [Int.toNat_natCast,List.getD_eq_getElem?_getD,List.getElem?_eq_getElem hbn];rfl
   obtain ⟨zj,hzj⟩:∃ zj,wr.heap.size = zj:=⟨_,rfl⟩;obtain ⟨W5,hW5⟩:∃ W5,wr.alloc (.cells #[.int .i64 (an:Nat),.int .i64 (bn:Nat),.int .i64 jx,.int .i64 jy] 72) = W5:=⟨_,rfl⟩;have ha5:=hW5 ▸ Aft.alloc wr (.cells #[.int .i64 (an:Nat),.int .i64 (bn:Nat),.int .i64 jx,.int .i64 jy] 72);have HB5:Hid (Blk W5 zj 72 #[.int .i64 (an:Nat),.int .i64 (bn:Nat),.int .i64 jx,.int .i64 jy]):=Lib.hid (by rw [<- hW5,<- hzj];exact Blk.new wr 72 _);have HF5:=Lib.hid (HI.out.later ha5);obtain ⟨bl,ol,hbol,hbl,hcl⟩:=(HL.out.aft HF5.out.aft).at han;subst hbol;have hla:=hcl an han;have hlb:=hcl bn hbn;rw [<- hqa] at hla;rw [<- hqb] at hlb;obtain ⟨qa,hqa2⟩:∃ q,q4D L (an:Int) = q:=⟨_,rfl⟩;obtain ⟨qb,hqb2⟩:∃ q,q4D L (bn:Int) = q:=⟨_,rfl⟩;rw [hqa2] at hla HSA;rw [hqb2] at hlb HSB;have HT2:Hid ((S.J.take (k + 1)).foldl (stepN L) (0,1) = grL p [offP (shX qa) (shX qb) jx,offP (shY qa) (shY qb) jy]):=Lib.hid (by rw [HT.out];unfold stepN;dsimp only;rw [hqa2,hqb2]);have HLA:Hid (∀ W,Aft W5 W -> W.cell? ⟨bl,ol + an * 4,none⟩ = some (.int .i64 qa.a) /\ W.cell? ⟨bl,ol + an * 4 + 1,none⟩ = some (.int .i64 qa.b) /\ W.cell? ⟨bl,ol + an * 4 + 2,none⟩ = some (.int .i64 qa.x) /\ W.cell? ⟨bl,ol + an * 4 + 3,none⟩ = some (.int .i64 qa.y)):=Lib.hid fun W h=>⟨cellA hla.1 hbl h,cellA hla.2.1 hbl h,cellA hla.2.2.1 hbl h,cellA hla.2.2.2 hbl h⟩
   have HLB:Hid (∀ W,Aft W5 W -> W.cell? ⟨bl,ol + bn * 4,none⟩ = some (.int .i64 qb.a) /\ W.cell? ⟨bl,ol + bn * 4 + 1,none⟩ = some (.int .i64 qb.b) /\ W.cell? ⟨bl,ol + bn * 4 + 2,none⟩ = some (.int .i64 qb.x) /\ W.cell? ⟨bl,ol + bn * 4 + 3,none⟩ = some (.int .i64 qb.y)):=Lib.hid fun W h=>⟨cellA hlb.1 hbl h,cellA hlb.2.1 hbl h,cellA hlb.2.2.1 hbl h,cellA hlb.2.2.2 hbl h⟩
   have ian:(0:Int) <= (an:Int) /\ (an:Int) < (L.length:Int):=by omega
   have ibn:(0:Int) <= (bn:Int) /\ (bn:Int) < (L.length:Int):=by omega
   clear hqa hqb hla hlb hcl hqa2 hqb2 HT;go_upto_region 13 with fail
   try rw [hW5]
   try rw [hzj]
   clear hW5 hzj x0 x1 x2 x3 ha5;refine wp_region_valsU (by kernel_rfl) 13 71 rfl (by kernel_rfl) (by kernel_rfl) [some (.slice (some ⟨bl,ol,none⟩) L.length cl),some (.pointer (some ⟨zj,0,none⟩)),some (.int .i64 (an:Nat)),some (.pointer (some ⟨bl,ol + an * 4,none⟩)),some (.agg #[.int .i64 qa.a,.int .i64 qa.b,.int .i64 qa.x,.int .i64 qa.y]),some (.slice (some ⟨bl,ol,none⟩) L.length cl),some (.pointer (some ⟨zj,1,none⟩)),some (.int .i64 (bn:Nat)),some (.pointer (some ⟨bl,ol + bn * 4,none⟩)),some (.agg #[.int .i64 qb.a,.int .i64 qb.b,.int .i64 qb.x,.int .i64 qb.y]),none,none,some undef] (by kernel_rfl) rfl (Al2 W5 qa) (Al2.start) ?st1 ?fi1
   case st1 =>
    intro i o v ho hv
    match i,ho,hv with
    | 0,ho,hv =>
     cases ho;cases hv;refine .inl ⟨rfl,fun done a W hz hd hp hk hw K hK=>?_⟩;have e1:=hk.same 1 (by decide);exact op_val (v:=.slice (some ⟨bl,ol,none⟩) L.length cl) (by simp [go_sem,ev' e1]) (hK _ _ (fun u hu=>by cases hu;rfl) (hw.keep (by decide) (by decide)))
    | 1,ho,hv =>
     cases ho;cases hv;refine .inl ⟨rfl,fun done a W hz hd hp hk hw K hK=>?_⟩;have e10:=hk.same 10 (by decide);exact op_val (v:=.pointer (some ⟨zj,0,none⟩)) (by simp [go_sem,ev' e10]) (hK _ _ (fun u hu=>by cases hu;rfl) (hw.keep (by decide) (by decide)))
    | 2,ho,hv =>
     cases ho;cases hv;refine .inl ⟨rfl,fun done a W hz hd hp hk hw K hK=>?_⟩;have e41:=hk.at_ 1 _ 41 _ rfl (by decide) _ rfl rfl rfl;exact op_val (v:=.int .i64 (an:Nat)) (by simp [go_sem,ev' e41,(HB5.out.aft hw.aft).cell 0]) (hK _ _ (fun u hu=>by cases hu;rfl) (hw.keep (by decide) (by decide)))
    | 3,ho,hv =>
     cases ho;cases hv;refine .inl ⟨rfl,fun done a W hz hd hp hk hw K hK=>?_⟩;have e40:=hk.at_ 0 _ 40 _ rfl (by decide) _ rfl rfl rfl;have e42:=hk.at_ 2 _ 42 _ rfl (by decide) _ rfl rfl rfl;exact op_val (v:=.pointer (some ⟨bl,ol + an * 4,none⟩)) (by simp [go_sem,ev' e40,ev' e42,ian]) (hK _ _ (fun u hu=>by cases hu;rfl) (hw.keep (by decide) (by decide)))
    | 4,ho,hv =>
     cases ho;cases hv;refine .inl ⟨rfl,fun done a W hz hd hp hk hw K hK=>?_⟩;have e43:=hk.at_ 3 _ 43 _ rfl (by decide) _ rfl rfl rfl;exact op_val (v:=.agg #[.int .i64 qa.a,.int .i64 qa.b,.int .i64 qa.x,.int .i64 qa.y]) (by simp [go_sem,ev' e43,(HLA.out W hw.aft).1,(HLA.out W hw.aft).2.1,(HLA.out W hw.aft).2.2.1,(HLA.out W hw.aft).2.2.2]) (hK _ _ (fun u hu=>by cases hu;rfl) (hw.keep (by decide) (by decide)))
    | 5,ho,hv =>
     cases ho;cases hv;refine .inl ⟨rfl,fun done a W hz hd hp hk hw K hK=>?_⟩;have e1:=hk.same 1 (by decide);exact op_val (v:=.slice (some ⟨bl,ol,none⟩) L.length cl) (by simp [go_sem,ev' e1]) (hK _ _ (fun u hu=>by cases hu;rfl) (hw.keep (by decide) (by decide)))
    | 6,ho,hv =>
     cases ho;cases hv;refine .inl ⟨rfl,fun done a W hz hd hp hk hw K hK=>?_⟩;have e10:=hk.same 10 (by decide);exact op_val (v:=.pointer (some ⟨zj,1,none⟩)) (by simp [go_sem,ev' e10]) (hK _ _ (fun u hu=>by cases hu;rfl) (hw.keep (by decide) (by decide)))
    | 7,ho,hv =>
     cases ho;cases hv;refine .inl ⟨rfl,fun done a W hz hd hp hk hw K hK=>?_⟩;have e46:=hk.at_ 6 _ 46 _ rfl (by decide) _ rfl rfl rfl;exact op_val (v:=.int .i64 (bn:Nat)) (by simp [go_sem,ev' e46,(HB5.out.aft hw.aft).cell 1]) (hK _ _ (fun u hu=>by cases hu;rfl) (hw.keep (by decide) (by decide)))
    | 8,ho,hv =>
     cases ho;cases hv;refine .inl ⟨rfl,fun done a W hz hd hp hk hw K hK=>?_⟩;have e45:=hk.at_ 5 _ 45 _ rfl (by decide) _ rfl rfl rfl;have e47:=hk.at_ 7 _ 47 _ rfl (by decide) _ rfl rfl rfl;exact op_val (v:=.pointer (some ⟨bl,ol + bn * 4,none⟩)) (by simp [go_sem,ev' e45,ev' e47,ibn]) (hK _ _ (fun u hu=>by cases hu;rfl) (hw.keep (by decide) (by decide)))
    | 9,ho,hv =>
     cases ho;cases hv;refine .inl ⟨rfl,fun done a W hz hd hp hk hw K hK=>?_⟩;have e48:=hk.at_ 8 _ 48 _ rfl (by decide) _ rfl rfl rfl;exact op_val (v:=.agg #[.int .i64 qb.a,.int .i64 qb.b,.int .i64 qb.x,.int .i64 qb.y]) (by simp [go_sem,ev' e48,(HLB.out W hw.aft).1,(HLB.out W hw.aft).2.1,(HLB.out W hw.aft).2.2.1,(HLB.out W hw.aft).2.2.2]) (hK _ _ (fun u hu=>by cases hu;rfl) (hw.keep (by decide) (by decide)))
    | 10,ho,hv =>
     cases ho;cases hv;refine .inl ⟨rfl,fun done a W hz hd hp hk hw K hK=>?_⟩;exact op_valW (w':=W.alloc (.cells zerS 74)) (v:=.pointer (some ⟨W.heap.size,0,none⟩)) (by simp [go_sem,zerS]) (hK _ _ (fun u hu=>by cases hu) (hw.step10 (by rw [hz];decide) hd))
    | 11,ho,hv =>
     cases ho;cases hv;refine .inl ⟨rfl,fun done a W hz hd hp hk hw K hK=>?_⟩;exact op_valW (w':=W.alloc (.cells zerS 74)) (v:=.pointer (some ⟨W.heap.size,0,none⟩)) (by simp [go_sem,zerS]) (hK _ _ (fun u hu=>by cases hu) (hw.step11 (by rw [hz];decide)))
    | 12,ho,hv =>
     cases ho;cases hv;refine .inl ⟨rfl,fun done a W hz hd hp hk hw K hK=>?_⟩;have e44:=hk.at_ 4 _ 44 _ rfl (by decide) _ rfl rfl rfl;obtain ⟨b,e11,hbs,hbk⟩:=hw.x (hp 10 (by decide));have h12:done 12 = false:=hd;rw [h12,if_neg (by decide)] at hbk;have c0:=hbk.cell 0;have c1:=hbk.cell 1;have c2:=hbk.cell 2;have c3:=hbk.cell 3;have c4:=hbk.frozen 0;have c5:=hbk.frozen 1;have c6:=hbk.frozen 2;have c7:=hbk.frozen 3;have c8:=hbk.lt;simp only [zerS,List.getElem?_toArray,List.getElem?_cons_zero,List.getElem?_cons_succ] at c0 c1 c2 c3;exact op_skipW (w':=(((W.setCell ⟨b,0,none⟩ (.int .i64 qa.a)).setCell ⟨b,1,none⟩ (.int .i64 qa.b)).setCell ⟨b,2,none⟩ (.int .i64 qa.x)).setCell ⟨b,3,none⟩ (.int .i64 qa.y)) (by simp [go_sem,ev' e11,ev' e44,c0,c1,c2,c3,c4,c5,c6,c7,c8]) (hK _ _ (fun u hu=>by cases hu;rfl) (hw.step12 e11 (hp 10 (by decide)) h12 rfl))
    | _ + 13,_,hv=>cases hv
   intro done us W hus hd hw;obtain ⟨x1,x2,rfl⟩:=list2 hus;obtain ⟨b1,e11,hs1,hb1⟩:=hw.x (hd 10 (by decide));obtain ⟨b2,e12,hs2,hb2,hne0⟩:=hw.y (hd 11 (by decide));have hne1:=hne0 (hd 10 (by decide));rw [if_pos (hd 12 (by decide))] at hb1;rw [e11] at hne1;clear hne0;have hne:b2 ≠ b1:=fun e=>hne1 (by rw [e])
   clear hne1;have hwa:=hw.aft;clear hw;simp only [fill,List.drop_succ_cons,List.drop_zero,List.zip_cons_cons,List.zip_nil_right,putAll] at e11 e12 ⊢;simp only [Act.put,List.setIfInBounds_toArray,List.set] at e11 e12 ⊢;have e11:x1 = .pointer (some ⟨b1,0,none⟩):=e11;have e12:x2 = .pointer (some ⟨b2,0,none⟩):=e12;subst e11;subst e12;have hne:b2 ≠ b1:=fun e=>hne (by rw [e])
   have c0:=hb2.cell 0;have c1:=hb2.cell 1;have c2:=hb2.cell 2;have c3:=hb2.cell 3;have c4:=hb2.frozen 0;have c5:=hb2.frozen 1;have c6:=hb2.frozen 2;have c7:=hb2.frozen 3;have c8:=hb2.lt;simp only [zerS,List.getElem?_toArray,List.getElem?_cons_zero,List.getElem?_cons_succ] at c0 c1 c2 c3;have A6:=(((hwa.then_setCell (p:=⟨b2,0,none⟩) hs2 (.int .i64 qb.a)).then_setCell (p:=⟨b2,1,none⟩) hs2 (.int .i64 qb.b)).then_setCell (p:=⟨b2,2,none⟩) hs2 (.int .i64 qb.x)).then_setCell (p:=⟨b2,3,none⟩) hs2 (.int .i64 qb.y);have B1:=(((hb1.far (p:=⟨b2,0,none⟩) hne.symm (.int .i64 qb.a)).far (p:=⟨b2,1,none⟩) hne.symm (.int .i64 qb.b)).far (p:=⟨b2,2,none⟩) hne.symm (.int .i64 qb.x)).far (p:=⟨b2,3,none⟩) hne.symm (.int .i64 qb.y);have B2:=(((hb2.store 0 (.int .i64 qb.a)).store 1 (.int .i64 qb.b)).store 2 (.int .i64 qb.x)).store 3 (.int .i64 qb.y);have hX:∃ X,(((W.setCell ⟨b2,0,none⟩ (.int .i64 qb.a)).setCell ⟨b2,1,none⟩ (.int .i64 qb.b)).setCell ⟨b2,2,none⟩ (.int .i64 qb.x)).setCell ⟨b2,3,none⟩ (.int .i64 qb.y) = X:=⟨_,rfl⟩;have HF6:=Lib.hid (HF5.out.later A6);have HB6:=Lib.hid (HB5.out.aft A6);have HB1:=Lib.hid B1;have HB2:=Lib.hid B2;clear A6 B1 B2 hb1 hb2 hwa hd hs1 hs2 HF5 HB5 HLA HLB hus hbl ian ibn;go_upto_region 14 with fail
   obtain ⟨X,hX⟩:=hX;rw [hX] at HF6 HB6 HB1 HB2 ⊢;clear hX c0 c1 c2 c3 c4 c5 c6 c7 c8;have HO1:Hid (∀ W,Calls Tryz.prog 78 #[.agg #[.int .i64 qa.a,.int .i64 qa.b],.agg #[.int .i64 qb.a,.int .i64 qb.b],.int .i64 jx] W fun e w'=>e = .returned (.agg #[.int .i64 (offP (shX qa) (shX qb) jx).1,.int .i64 (offP (shX qa) (shX qb) jx).2]) /\ Aft W w'):=Lib.hid fun W=>off_any (shX qa) (shX qb) jx W HSA.out.1 HSB.out.1 (by omega)
   have HO2:Hid (∀ W,Calls Tryz.prog 78 #[.agg #[.int .i64 qa.x,.int .i64 qa.y],.agg #[.int .i64 qb.x,.int .i64 qb.y],.int .i64 jy] W fun e w'=>e = .returned (.agg #[.int .i64 (offP (shY qa) (shY qb) jy).1,.int .i64 (offP (shY qa) (shY qb) jy).2]) /\ Aft W w'):=Lib.hid fun W=>off_any (shY qa) (shY qb) jy W HSA.out.2 HSB.out.2 (by omega)
   have hr1:RatS (offP (shX qa) (shX qb) jx):=offP_rat HSA.out.1 HSB.out.1 (by omega);have hr2:RatS (offP (shY qa) (shY qb) jy):=offP_rat HSA.out.2 HSB.out.2 (by omega);obtain ⟨o1,ho1⟩:∃ o1,offP (shX qa) (shX qb) jx = o1:=⟨_,rfl⟩;obtain ⟨o2,ho2⟩:∃ o2,offP (shY qa) (shY qb) jy = o2:=⟨_,rfl⟩;rw [ho1] at HO1 hr1 HT2;rw [ho2] at HO2 hr2 HT2;have hrg:RatS (grL p [o1,o2]):=HPR.out.grL (by intro r hr;simp only [List.mem_cons,List.not_mem_nil,or_false] at hr;rcases hr with rfl | rfl;exact hr1;exact hr2);have HGR:Hid (∀ W b,Blk W b 29 #[.int .i64 o1.1,.int .i64 o1.2,.int .i64 o2.1,.int .i64 o2.2] -> Calls Tryz.prog 79 #[.agg #[.int .i64 p.1,.int .i64 p.2],.slice (some ⟨b,0,none⟩) 2 2] W fun e w'=>e = .returned (.agg #[.int .i64 (grL p [o1,o2]).1,.int .i64 (grL p [o1,o2]).2]) /\ Aft W w'):=Lib.hid fun W b h=>greatest_any p (some ⟨b,0,none⟩) [o1,o2] 2 W (prs_two h) HPR.out (by intro r hr;simp only [List.mem_cons,List.not_mem_nil,or_false] at hr;rcases hr with rfl | rfl;exact hr1;exact hr2)
   obtain ⟨R2,hR2⟩:∃ R2,grL p [o1,o2] = R2:=⟨_,rfl⟩;rw [hR2] at HGR hrg HT2;have HRG:=Lib.hid hrg;clear ho1 ho2 hr1 hr2 hrg hR2 HSA HSB;refine wp_region_valsU (by kernel_rfl) 19 71 rfl (by kernel_rfl) (by kernel_rfl) [some (.agg #[.int .i64 p.1,.int .i64 p.2]),some (.func (.func 78) #[] #[]),some (.pointer (some ⟨b1,0,none⟩)),some (.agg #[.int .i64 qa.a,.int .i64 qa.b]),some (.pointer (some ⟨b2,0,none⟩)),some (.agg #[.int .i64 qb.a,.int .i64 qb.b]),some (.pointer (some ⟨zj,2,none⟩)),some (.int .i64 jx),some (.agg #[.int .i64 o1.1,.int .i64 o1.2]),some (.func (.func 78) #[] #[]),some (.pointer (some ⟨b1,2,none⟩)),some (.agg #[.int .i64 qa.x,.int .i64 qa.y]),some (.pointer (some ⟨b2,2,none⟩)),some (.agg #[.int .i64 qb.x,.int .i64 qb.y]),some (.pointer (some ⟨zj,3,none⟩)),some (.int .i64 jy),some (.agg #[.int .i64 o2.1,.int .i64 o2.2]),none,some (.agg #[.int .i64 R2.1,.int .i64 R2.2])] (by kernel_rfl) rfl (Sl2 X 17 67 o1 o2) (Sl2.start) ?st2 ?fi2
   case st2 =>
    intro i o v ho hv
    match i,ho,hv with
    | 0,ho,hv =>
     cases ho;cases hv;refine .inl ⟨rfl,fun done a W hz hd hp hk hw K hK=>?_⟩;have e8:=hk.same 8 (by decide);exact op_val (v:=.agg #[.int .i64 p.1,.int .i64 p.2]) (by simp [go_sem,ev' e8,((HF6.out.later hw.aft).nth 2 rfl).cell 0,((HF6.out.later hw.aft).nth 2 rfl).cell 1]) (hK _ _ (fun u hu=>by cases hu;rfl) (hw.keep (Aft.refl _) (by decide) (by decide)))
    | 1,ho,hv =>
     cases ho;cases hv;refine .inl ⟨rfl,fun done a W hz hd hp hk hw K hK=>?_⟩;have e7:=hk.same 7 (by decide);exact op_val (v:=.func (.func 78) #[] #[]) (by simp [go_sem,ev' e7]) (hK _ _ (fun u hu=>by cases hu;rfl) (hw.keep (Aft.refl _) (by decide) (by decide)))
    | 2,ho,hv =>
     cases ho;cases hv;refine .inl ⟨rfl,fun done a W hz hd hp hk hw K hK=>?_⟩;have e11:=hk.same 11 (by decide);exact op_val (v:=.pointer (some ⟨b1,0,none⟩)) (by simp [go_sem,ev' e11]) (hK _ _ (fun u hu=>by cases hu;rfl) (hw.keep (Aft.refl _) (by decide) (by decide)))
    | 3,ho,hv =>
     cases ho;cases hv;refine .inl ⟨rfl,fun done a W hz hd hp hk hw K hK=>?_⟩;have e52:=hk.at_ 2 _ 52 _ rfl (by decide) _ rfl rfl rfl;have c1:=(HB1.out.aft hw.aft).cell 0;have c2:=(HB1.out.aft hw.aft).cell 1;simp only [encS,List.getElem?_toArray,List.getElem?_cons_zero,List.getElem?_cons_succ] at c1 c2;exact op_val (v:=.agg #[.int .i64 qa.a,.int .i64 qa.b]) (by simp [go_sem,ev' e52,c1,c2]) (hK _ _ (fun u hu=>by cases hu;rfl) (hw.keep (Aft.refl _) (by decide) (by decide)))
    | 4,ho,hv =>
     cases ho;cases hv;refine .inl ⟨rfl,fun done a W hz hd hp hk hw K hK=>?_⟩;have e12:=hk.same 12 (by decide);exact op_val (v:=.pointer (some ⟨b2,0,none⟩)) (by simp [go_sem,ev' e12]) (hK _ _ (fun u hu=>by cases hu;rfl) (hw.keep (Aft.refl _) (by decide) (by decide)))
    | 5,ho,hv =>
     cases ho;cases hv;refine .inl ⟨rfl,fun done a W hz hd hp hk hw K hK=>?_⟩;have e54:=hk.at_ 4 _ 54 _ rfl (by decide) _ rfl rfl rfl;have c1:=(HB2.out.aft hw.aft).cell 0;have c2:=(HB2.out.aft hw.aft).cell 1;simp only [zerS,List.setIfInBounds_toArray,List.set,List.getElem?_toArray,List.getElem?_cons_zero,List.getElem?_cons_succ] at c1 c2;exact op_val (v:=.agg #[.int .i64 qb.a,.int .i64 qb.b]) (by simp [go_sem,ev' e54,c1,c2]) (hK _ _ (fun u hu=>by cases hu;rfl) (hw.keep (Aft.refl _) (by decide) (by decide)))
    | 6,ho,hv =>
     cases ho;cases hv;refine .inl ⟨rfl,fun done a W hz hd hp hk hw K hK=>?_⟩;have e10:=hk.same 10 (by decide);exact op_val (v:=.pointer (some ⟨zj,2,none⟩)) (by simp [go_sem,ev' e10]) (hK _ _ (fun u hu=>by cases hu;rfl) (hw.keep (Aft.refl _) (by decide) (by decide)))
    | 7,ho,hv =>
     cases ho;cases hv;refine .inl ⟨rfl,fun done a W hz hd hp hk hw K hK=>?_⟩;have e56:=hk.at_ 6 _ 56 _ rfl (by decide) _ rfl rfl rfl;exact op_val (v:=.int .i64 jx) (by simp [go_sem,ev' e56,(HB6.out.aft hw.aft).cell 2]) (hK _ _ (fun u hu=>by cases hu;rfl) (hw.keep (Aft.refl _) (by decide) (by decide)))
    | 8,ho,hv =>
     cases ho;cases hv;refine .inl ⟨rfl,fun done a W hz hd hp hk hw K hK=>?_⟩;have e51:=hk.at_ 1 _ 51 _ rfl (by decide) _ rfl rfl rfl;have e53:=hk.at_ 3 _ 53 _ rfl (by decide) _ rfl rfl rfl;have e55:=hk.at_ 5 _ 55 _ rfl (by decide) _ rfl rfl rfl;have e57:=hk.at_ 7 _ 57 _ rfl (by decide) _ rfl rfl rfl;refine op_callV rfl rfl rfl _ rfl (by exact e51) (vs:=#[.agg #[.int .i64 qa.a,.int .i64 qa.b],.agg #[.int .i64 qb.a,.int .i64 qb.b],.int .i64 jx]) (by simp [e53,e55,e57]) (HO1.out W) ?_;rintro e w7 ⟨rfl,hw7⟩;exact ⟨_,rfl,hK _ _ (fun u hu=>by cases hu;rfl) (hw.keep hw7 (by decide) (by decide))⟩
    | 9,ho,hv =>
     cases ho;cases hv;refine .inl ⟨rfl,fun done a W hz hd hp hk hw K hK=>?_⟩;have e7:=hk.same 7 (by decide);exact op_val (v:=.func (.func 78) #[] #[]) (by simp [go_sem,ev' e7]) (hK _ _ (fun u hu=>by cases hu;rfl) (hw.keep (Aft.refl _) (by decide) (by decide)))
    | 10,ho,hv =>
     cases ho;cases hv;refine .inl ⟨rfl,fun done a W hz hd hp hk hw K hK=>?_⟩;have e11:=hk.same 11 (by decide);exact op_val (v:=.pointer (some ⟨b1,2,none⟩)) (by simp [go_sem,ev' e11]) (hK _ _ (fun u hu=>by cases hu;rfl) (hw.keep (Aft.refl _) (by decide) (by decide)))
    | 11,ho,hv =>
     cases ho;cases hv;refine .inl ⟨rfl,fun done a W hz hd hp hk hw K hK=>?_⟩;have e60:=hk.at_ 10 _ 60 _ rfl (by decide) _ rfl rfl rfl;have c1:=(HB1.out.aft hw.aft).cell 2;have c2:=(HB1.out.aft hw.aft).cell 3;simp only [encS,List.getElem?_toArray,List.getElem?_cons_zero,List.getElem?_cons_succ] at c1 c2;exact op_val (v:=.agg #[.int .i64 qa.x,.int .i64 qa.y]) (by simp [go_sem,ev' e60,c1,c2]) (hK _ _ (fun u hu=>by cases hu;rfl) (hw.keep (Aft.refl _) (by decide) (by decide)))
    | 12,ho,hv =>
     cases ho;cases hv;refine .inl ⟨rfl,fun done a W hz hd hp hk hw K hK=>?_⟩;have e12:=hk.same 12 (by decide);exact op_val (v:=.pointer (some ⟨b2,2,none⟩)) (by simp [go_sem,ev' e12]) (hK _ _ (fun u hu=>by cases hu;rfl) (hw.keep (Aft.refl _) (by decide) (by decide)))
    | 13,ho,hv =>
     cases ho;cases hv;refine .inl ⟨rfl,fun done a W hz hd hp hk hw K hK=>?_⟩;have e62:=hk.at_ 12 _ 62 _ rfl (by decide) _ rfl rfl rfl;have c1:=(HB2.out.aft hw.aft).cell 2;have c2:=(HB2.out.aft hw.aft).cell 3;simp only [zerS,List.setIfInBounds_toArray,List.set,List.getElem?_toArray,List.getElem?_cons_zero,List.getElem?_cons_succ] at c1 c2;exact op_val (v:=.agg #[.int .i64 qb.x,.int .i64 qb.y]) (by simp [go_sem,ev' e62,c1,c2]) (hK _ _ (fun u hu=>by cases hu;rfl) (hw.keep (Aft.refl _) (by decide) (by decide)))
    | 14,ho,hv =>
     cases ho;cases hv;refine .inl ⟨rfl,fun done a W hz hd hp hk hw K hK=>?_⟩;have e10:=hk.same 10 (by decide);exact op_val (v:=.pointer (some ⟨zj,3,none⟩)) (by simp [go_sem,ev' e10]) (hK _ _ (fun u hu=>by cases hu;rfl) (hw.keep (Aft.refl _) (by decide) (by decide)))
    | 15,ho,hv =>
     cases ho;cases hv;refine .inl ⟨rfl,fun done a W hz hd hp hk hw K hK=>?_⟩;have e64:=hk.at_ 14 _ 64 _ rfl (by decide) _ rfl rfl rfl;exact op_val (v:=.int .i64 jy) (by simp [go_sem,ev' e64,(HB6.out.aft hw.aft).cell 3]) (hK _ _ (fun u hu=>by cases hu;rfl) (hw.keep (Aft.refl _) (by decide) (by decide)))
    | 16,ho,hv =>
     cases ho;cases hv;refine .inl ⟨rfl,fun done a W hz hd hp hk hw K hK=>?_⟩;have e59:=hk.at_ 9 _ 59 _ rfl (by decide) _ rfl rfl rfl;have e61:=hk.at_ 11 _ 61 _ rfl (by decide) _ rfl rfl rfl;have e63:=hk.at_ 13 _ 63 _ rfl (by decide) _ rfl rfl rfl;have e65:=hk.at_ 15 _ 65 _ rfl (by decide) _ rfl rfl rfl;refine op_callV rfl rfl rfl _ rfl (by exact e59) (vs:=#[.agg #[.int .i64 qa.x,.int .i64 qa.y],.agg #[.int .i64 qb.x,.int .i64 qb.y],.int .i64 jy]) (by simp [e61,e63,e65]) (HO2.out W) ?_;rintro e w7 ⟨rfl,hw7⟩;exact ⟨_,rfl,hK _ _ (fun u hu=>by cases hu;rfl) (hw.keep hw7 (by decide) (by decide))⟩
    | 17,ho,hv =>
     cases ho;cases hv;refine .inl ⟨rfl,fun done a W hz hd hp hk hw K hK=>?_⟩;have e58:=hk.at_ 8 _ 58 _ rfl (by decide) _ rfl rfl rfl;have e66:=hk.at_ 16 _ 66 _ rfl (by decide) _ rfl rfl rfl;exact op_valW (w':=W.alloc (.cells #[.int .i64 o1.1,.int .i64 o1.2,.int .i64 o2.1,.int .i64 o2.2] 29)) (v:=.slice (some ⟨W.heap.size,0,none⟩) 2 2) (by simp [go_sem,ev' e58,ev' e66]) (hK _ _ (fun u hu=>by cases hu) (hw.step (by rw [hz];decide)))
    | 18,ho,hv =>
     cases ho;cases hv;refine .inl ⟨rfl,fun done a W hz hd hp hk hw K hK=>?_⟩;have e50:=hk.at_ 0 _ 50 _ rfl (by decide) _ rfl rfl rfl;obtain ⟨bs,e67,hbs,hbk⟩:=hw.s (hp 17 (by decide));refine op_callN rfl rfl rfl _ rfl (vs:=#[.agg #[.int .i64 p.1,.int .i64 p.2],.slice (some ⟨bs,0,none⟩) 2 2]) (by simp [e50,e67]) (HGR.out W bs hbk) ?_;rintro e w7 ⟨rfl,hw7⟩;exact ⟨_,rfl,hK _ _ (fun u hu=>by cases hu;rfl) (hw.keep hw7 (by decide) (by decide))⟩
    | _ + 19,_,hv=>cases hv
   intro done us W hus hd hw;have HF7:=Lib.hid (HF6.out.later hw.aft);obtain ⟨x1,rfl⟩:∃ x,us = [x]:=List.length_eq_one_iff.1 hus;clear hus hd hw HF6 HB6 HB1 HB2 HO1 HO2 HGR;simp only [fill,List.drop_succ_cons,List.drop_zero,List.zip_cons_cons,List.zip_nil_right,putAll];simp only [Act.put,List.setIfInBounds_toArray,List.set];have c0:=(HF7.out.nth 2 rfl).cell 0;have c1:=(HF7.out.nth 2 rfl).cell 1;have c2:=(HF7.out.nth 2 rfl).frozen 0;have c3:=(HF7.out.nth 2 rfl).frozen 1;have c4:=(HF7.out.nth 2 rfl).lt;simp only [List.getElem?_toArray,List.getElem?_cons_zero,List.getElem?_cons_succ] at c0 c1;go_wp2_with fail
   have hks:k < S.J.length:=hkl;refine ⟨⟨k + 1,rfl,hks,R2,Lib.hid HT2.out.symm,HRG.out,?_⟩,?_⟩
   ·exact (HF7.out.store (g:=z) (t:=29) (cs:=#[.int .i64 p.1,.int .i64 p.2]) (by simp) 0 (.int .i64 R2.1) (bs':=[(s,24,#[.int .i64 S.n,.slice (some ⟨b,o,none⟩) S.J.length c]),(s + 1,29,#[.int .i64 0,.int .i64 0]),(z,29,#[.int .i64 R2.1,.int .i64 p.2])]) (by simp;omega)).store (g:=z) (t:=29) (cs:=#[.int .i64 R2.1,.int .i64 p.2]) (by simp) 1 (.int .i64 R2.2) (by simp;omega)
   ·show S.J.length - (((k:Int) + 1).toNat) < S.J.length - ((k:Int).toNat);omega
  ·have t1:decide (k < S.J.length) = false:=by simpa using hkl
   have ek:S.J.take k = S.J:=List.take_of_length_le (by omega);have epR:p = R:=by rw [HPK.out,ek];exact HRR.out
   rw [epR] at HI;have y0:=(HI.out.nth 2 rfl).cell 0;have y1:=(HI.out.nth 2 rfl).cell 1;have y2:=(HI.out.nth 2 rfl).lt;have HF9:=HI;obtain ⟨W9,hW9⟩:∃ W9,W9 = wr:=⟨_,rfl⟩;rw [<- hW9] at HF9 y0 y1 y2 ⊢;simp only [List.getElem?_toArray,List.getElem?_cons_zero,List.getElem?_cons_succ] at y0 y1;clear ek epR HPK HPR HI hW9;have z0:=(HF9.out.nth 1 rfl).cell 0;have z1:=(HF9.out.nth 1 rfl).cell 1;have z2:=(HF9.out.nth 1 rfl).lt;have z3:=(HF9.out.nth 1 rfl).frozen 0;have z4:=(HF9.out.nth 1 rfl).frozen 1;simp only [List.getElem?_toArray,List.getElem?_cons_zero,List.getElem?_cons_succ] at z0 z1;go_wp2_with fail
   have B2:=((HF9.out.nth 1 rfl).store 0 (.int .i64 R.1)).store 1 (.int .i64 R.2);have A2:=(HF9.out.aft.then_setCell (p:=⟨s + 1,0,none⟩) (by show w.heap.size <= s + 1;omega) (.int .i64 R.1)).then_setCell (p:=⟨s + 1,1,none⟩) (by show w.heap.size <= s + 1;omega) (.int .i64 R.2);generalize (W9.setCell ⟨s + 1,0,none⟩ (.int .i64 R.1)).setCell ⟨s + 1,1,none⟩ (.int .i64 R.2) = X at *;have z0:X.cell? ⟨s + 1,0,none⟩ = some (.int .i64 R.1):=B2.cell 0;have z1:X.cell? ⟨s + 1,1,none⟩ = some (.int .i64 R.2):=B2.cell 1;exact bodyPost_ret (v:=.tuple #[.agg #[.int .i64 R.1,.int .i64 R.2],.int .i64 0]) (by simp [results,Tryz.results26,go_sem,z0,z1]) rfl ⟨rfl,A2⟩
end Go.Proofs
end
section
/- Walks: Proves. -/
namespace Go.Proofs
open Go.RowKit
attribute [local go_sem] Oper.semAt_some
def intoQ (J:List Q4) (g:Nat × Bool):Int:=match J[g.1]? with | some j=>intoI j g.2 | none=>-1
def natG (g:Int × Bool):Nat × Bool:=(g.1.toNat,g.2)
def inL (n:Nat) (g:Int × Bool):Bool:=fromB g.1 0 ((n:Int) - 1)
def chainB (J:List Q4):Int -> List (Nat × Bool) -> Bool
 | _,[]=>true
 | x,g :: r=>decide (fromQ J g = x) && chainB J (intoQ J g) r
def provesE (S:SetL) (l:List (Int × Bool)):Int:=if setE S ≠ 0 then setE S else if fromB l.length 1 60 = false then 3 else if l.all (inL S.J.length) = false then 2 else if chainB S.J (intoQ S.J (natG (l.getLastD (0,false)))) (l.map natG) then 0 else 9
def provesV (S:SetL) (north:Bool) (l:List (Int × Bool)):Int × Int:=Sheet.low (Sheet.sumN (joOf north S.J) (l.map natG)).natAbs l.length
theorem fromQ_get {J:List Q4} {g:Nat} {bk:Bool} (h:g < J.length):fromQ J (g,bk) = fromI J[g] bk:=by unfold fromQ;dsimp only;rw [List.getElem?_eq_getElem h]
theorem intoQ_get {J:List Q4} {g:Nat} {bk:Bool} (h:g < J.length):intoQ J (g,bk) = intoI J[g] bk:=by unfold intoQ;dsimp only;rw [List.getElem?_eq_getElem h]
theorem inl_any (n:Nat) (s:Nat) (x0:Value) (A:Option Addr) (c:Nat) (g:Int × Bool) (w:World) (h:Blk w s 24 #[x0,.slice A n c]) (hn:n <= 17592186043904) :
  Calls Tryz.prog 35 #[.agg #[.int .i64 g.1,.bool g.2],.pointer (some ⟨s,0,none⟩)] w fun e w'=>e = .returned (.bool (inL n g)) /\ Aft w w':=by
 unfold inL;have ha:=Aft.alloc w (.cells #[.int .i64 g.1,.bool g.2] 34);have HA:=Lib.hid ha;have y1:(w.alloc (.cells #[.int .i64 g.1,.bool g.2] 34)).cell? ⟨s,1,none⟩ = some (.slice A n c):=(h.aft ha).cell 1;have y2:=h.lt;clear ha h;go_enter Tryz.func35,Tryz.ntmps35;go_wp2_with (go_at_call 33;refine (in_any _ _ _ _).mono ?_;rintro e w' ⟨rfl,rfl⟩)
 go_ret;exact ⟨rfl,HA.out⟩
theorem runs_86 (args:Array Value) (w:World):(callFunc 35 args).run Tryz.prog w = .ok (.enter 35 args) w:=by simp [go_sem]
theorem every_inl (n s:Nat) (x0:Value) (A:Option Addr) (c:Nat) (l:List (Int × Bool)) (Al:Option Addr) (cl:Nat) (w:World) (h:Blk w s 24 #[x0,.slice A n c]) (hn:n <= 17592186043904) (hL:Gs w Al l) :
  Calls Tryz.prog 34 #[.slice Al l.length cl,.func (.func 35) #[] #[.pointer (some ⟨s,0,none⟩)]] w fun e w'=>e = .returned (.bool (l.all (inL n))) /\ Aft w w' :=
 everyLeg (FlatR encG) FlatR.mono 35 [.pointer (some ⟨s,0,none⟩)] (inL n) Al l cl w hL runs_86 fun x _ W ha v0 v1 hv u=>by
  unfold FlatR encG at hv;cases hv;exact inl_any n s x0 A c x _ ((h.aft ha).lat u) hn
set_option maxRecDepth 100000 in
set_option maxHeartbeats 4000000 in
theorem proves_bad (S:SetL) (A:Option Addr) (c:Nat) (north:Bool) (l:List (Int × Bool)) (Al:Option Addr) (cl:Nat) (w:World) (hA:Quads w A S.J) (hL:Gs w Al l) (he:setE S ≠ 0) :
  Calls Tryz.prog 9 #[.agg #[.int .i64 S.n,.slice A S.J.length c],.agg #[.bool north,.slice Al l.length cl]] w fun e w'=>e = .returned (.tuple #[.agg #[.int .i64 0,.int .i64 0],.int .i64 (setE S)]) /\ Aft w w':=by
 obtain ⟨s,hs⟩:∃ s,w.heap.size = s:=⟨_,rfl⟩;have F0:=(((Fr.start w).alloc rfl 24 #[.int .i64 S.n,.slice A S.J.length c]).alloc (by simp) 27 #[.bool north,.slice Al l.length cl]).alloc (by simp) 29 #[.int .i64 0,.int .i64 0];simp only [List.nil_append,List.cons_append] at F0;rw [hs] at F0;have hll:=hL.len;have HF0:=Lib.hid F0;have HO:=Lib.hid (opened_bad S A c _ (hA.aft F0.aft) he);have t1:(setE S != 0) = true:=by simpa using he
 clear hA hL he F0;generalize setE S = E at *;go_enter Tryz.func9,Tryz.ntmps9;go_upto_block 0 with (go_at_call 32;refine HO.out.mono ?_;rintro e w2 ⟨rfl,u,rfl⟩)
 have HF9:=Lib.hid (HF0.out.later (Aft.lat _ u))
 try rw [hs]
 generalize ((((w.alloc (.cells #[.int .i64 S.n,.slice A S.J.length c] 24)).alloc (.cells #[.bool north,.slice Al l.length cl] 27)).alloc (.cells #[.int .i64 0,.int .i64 0] 29)).lat u) = W9 at *;clear HF0 HO;have z0:=(HF9.out.nth 2 rfl).cell 0;have z1:=(HF9.out.nth 2 rfl).cell 1;have z2:=(HF9.out.nth 2 rfl).lt;have z3:=(HF9.out.nth 2 rfl).frozen 0;have z4:=(HF9.out.nth 2 rfl).frozen 1;simp only [List.getElem?_toArray,List.getElem?_cons_zero,List.getElem?_cons_succ] at z0 z1;go_wp2_with fail
 have B2:=((HF9.out.nth 2 rfl).store 0 (.int .i64 0)).store 1 (.int .i64 0);have A2:=(HF9.out.aft.then_setCell (p:=⟨s + 1 + 1,0,none⟩) (by show w.heap.size <= s + 1 + 1;omega) (.int .i64 0)).then_setCell (p:=⟨s + 1 + 1,1,none⟩) (by show w.heap.size <= s + 1 + 1;omega) (.int .i64 0);generalize (W9.setCell ⟨s + 1 + 1,0,none⟩ (.int .i64 0)).setCell ⟨s + 1 + 1,1,none⟩ (.int .i64 0) = X at *;have z0:X.cell? ⟨s + 1 + 1,0,none⟩ = some (.int .i64 0):=B2.cell 0;have z1:X.cell? ⟨s + 1 + 1,1,none⟩ = some (.int .i64 0):=B2.cell 1;exact bodyPost_ret (v:=.tuple #[.agg #[.int .i64 0,.int .i64 0],.int .i64 E]) (by simp [results,Tryz.results9,go_sem,z0,z1]) rfl ⟨rfl,A2⟩
set_option maxRecDepth 100000 in
set_option maxHeartbeats 4000000 in
theorem proves_short (S:SetL) (A:Option Addr) (c:Nat) (north:Bool) (l:List (Int × Bool)) (Al:Option Addr) (cl:Nat) (w:World) (hA:Quads w A S.J) (hL:Gs w Al l) (he:setE S = 0) (hb:fromB l.length 1 60 = false \/ l.all (inL S.J.length) = false) :
  Calls Tryz.prog 9 #[.agg #[.int .i64 S.n,.slice A S.J.length c],.agg #[.bool north,.slice Al l.length cl]] w fun e w'=>e = .returned (.tuple #[.agg #[.int .i64 0,.int .i64 0],.int .i64 (if fromB l.length 1 60 = false then 3 else 2)]) /\ Aft w w':=by
 obtain ⟨s,hs⟩:∃ s,w.heap.size = s:=⟨_,rfl⟩;have F0:=(((Fr.start w).alloc rfl 24 #[.int .i64 S.n,.slice A S.J.length c]).alloc (by simp) 27 #[.bool north,.slice Al l.length cl]).alloc (by simp) 29 #[.int .i64 0,.int .i64 0];simp only [List.nil_append,List.cons_append] at F0;rw [hs] at F0;have hll:=hL.len;have HF0:=Lib.hid F0;have HO:=Lib.hid (opened_good S A c _ (hA.aft F0.aft) he);have hjl:=hA.len;have HV:=Lib.hid fun W s x0 (h:Aft w W) (hb:Blk W s 24 #[x0,.slice A S.J.length c])=>every_inl S.J.length s x0 A c l Al cl W hb hjl (hL.aft h)
 clear hA hL he F0;cases h1:fromB l.length 1 60
 ·have H1:=Lib.hid h1;rw [if_pos rfl];clear h1 hb HV;go_enter Tryz.func9,Tryz.ntmps9;go_upto_block 0 with (go_at_call 32;refine HO.out.mono ?_;rintro e w2 ⟨d,rfl,hw2⟩)
  have HF2:=Lib.hid (HF0.out.later hw2.aft);have HW2:=Lib.hid hw2;have hdb:=hw2.base;clear hw2;simp only [World.size_alloc] at hdb
  try rw [hs]
  generalize (((w.alloc (.cells #[.int .i64 S.n,.slice A S.J.length c] 24)).alloc (.cells #[.bool north,.slice Al l.length cl] 27)).alloc (.cells #[.int .i64 0,.int .i64 0] 29)) = W1 at *;clear HO HF0;have y1:w2.cell? ⟨s + 1,1,none⟩ = some (.slice Al l.length cl):=(HF2.out.nth 1 rfl).cell 1;have y2:=(HF2.out.nth 1 rfl).lt;have HF9:=HF2;have hw9:∃ W9,W9 = w2:=⟨_,rfl⟩;obtain ⟨W9,hW9⟩:=hw9;rw [<- hW9] at HF9 y1 y2 ⊢;clear HF2 HW2 hW9;have z0:=(HF9.out.nth 2 rfl).cell 0;have z1:=(HF9.out.nth 2 rfl).cell 1;have z2:=(HF9.out.nth 2 rfl).lt;have z3:=(HF9.out.nth 2 rfl).frozen 0;have z4:=(HF9.out.nth 2 rfl).frozen 1;simp only [List.getElem?_toArray,List.getElem?_cons_zero,List.getElem?_cons_succ] at z0 z1;go_wp2_with (go_at_call 33;refine (in_any _ _ _ _).mono ?_;rintro e w' ⟨rfl,rfl⟩;rw [H1.out])
  have B2:=((HF9.out.nth 2 rfl).store 0 (.int .i64 0)).store 1 (.int .i64 0);have A2:=(HF9.out.aft.then_setCell (p:=⟨s + 1 + 1,0,none⟩) (by show w.heap.size <= s + 1 + 1;omega) (.int .i64 0)).then_setCell (p:=⟨s + 1 + 1,1,none⟩) (by show w.heap.size <= s + 1 + 1;omega) (.int .i64 0);generalize (W9.setCell ⟨s + 1 + 1,0,none⟩ (.int .i64 0)).setCell ⟨s + 1 + 1,1,none⟩ (.int .i64 0) = X at *;have z0:X.cell? ⟨s + 1 + 1,0,none⟩ = some (.int .i64 0):=B2.cell 0;have z1:X.cell? ⟨s + 1 + 1,1,none⟩ = some (.int .i64 0):=B2.cell 1;exact bodyPost_ret (v:=.tuple #[.agg #[.int .i64 0,.int .i64 0],.int .i64 3]) (by simp [results,Tryz.results9,go_sem,z0,z1]) rfl ⟨rfl,A2⟩
 ·have H1:=Lib.hid h1;rw [h1] at hb;have h2:l.all (inL S.J.length) = false:=hb.resolve_left (by decide);rw [if_neg (by decide)];rw [h2] at HV;clear h1 hb h2;go_enter Tryz.func9,Tryz.ntmps9;go_upto_block 0 with (go_at_call 32;refine HO.out.mono ?_;rintro e w2 ⟨d,rfl,hw2⟩)
  have HF2:=Lib.hid (HF0.out.later hw2.aft);have HW2:=Lib.hid hw2;have hdb:=hw2.base;clear hw2;simp only [World.size_alloc] at hdb
  try rw [hs]
  generalize (((w.alloc (.cells #[.int .i64 S.n,.slice A S.J.length c] 24)).alloc (.cells #[.bool north,.slice Al l.length cl] 27)).alloc (.cells #[.int .i64 0,.int .i64 0] 29)) = W1 at *;clear HO HF0;have y1:w2.cell? ⟨s + 1,1,none⟩ = some (.slice Al l.length cl):=(HF2.out.nth 1 rfl).cell 1;have y2:=(HF2.out.nth 1 rfl).lt;go_upto_region 7 with (first | (go_at_call 33;refine (in_any _ _ _ _).mono ?_;rintro e w' ⟨rfl,rfl⟩;rw [H1.out]) | (go_at_call 34;refine (HV.out _ _ _ HF2.out.aft (HF2.out.nth 0 rfl)).mono ?_;rintro e w3 ⟨rfl,u,rfl⟩))
  clear y1 y2;have HF9:=Lib.hid (HF2.out.later (Aft.lat _ u));generalize w2.lat u = W9 at *;have z0:=(HF9.out.nth 2 rfl).cell 0;have z1:=(HF9.out.nth 2 rfl).cell 1;have z2:=(HF9.out.nth 2 rfl).lt;have z3:=(HF9.out.nth 2 rfl).frozen 0;have z4:=(HF9.out.nth 2 rfl).frozen 1;simp only [List.getElem?_toArray,List.getElem?_cons_zero,List.getElem?_cons_succ] at z0 z1;go_wp2_with fail
  have B2:=((HF9.out.nth 2 rfl).store 0 (.int .i64 0)).store 1 (.int .i64 0);have A2:=(HF9.out.aft.then_setCell (p:=⟨s + 1 + 1,0,none⟩) (by show w.heap.size <= s + 1 + 1;omega) (.int .i64 0)).then_setCell (p:=⟨s + 1 + 1,1,none⟩) (by show w.heap.size <= s + 1 + 1;omega) (.int .i64 0);generalize (W9.setCell ⟨s + 1 + 1,0,none⟩ (.int .i64 0)).setCell ⟨s + 1 + 1,1,none⟩ (.int .i64 0) = X at *;have z0:X.cell? ⟨s + 1 + 1,0,none⟩ = some (.int .i64 0):=B2.cell 0;have z1:X.cell? ⟨s + 1 + 1,1,none⟩ = some (.int .i64 0):=B2.cell 1;exact bodyPost_ret (v:=.tuple #[.agg #[.int .i64 0,.int .i64 0],.int .i64 2]) (by simp [results,Tryz.results9,go_sem,z0,z1]) rfl ⟨rfl,A2⟩
theorem all_inl {n:Nat} {m:List (Nat × Bool)} (h:∀ g ∈ m,g.1 < n):(m.map legI).all (inL n) = true:=by
 rw [List.all_eq_true];intro x hx;obtain ⟨g,hg,rfl⟩:=List.mem_map.1 hx;have:=h g hg;unfold inL legI;rw [fromB_iff];dsimp only;omega
set_option maxRecDepth 100000 in
set_option maxHeartbeats 4000000 in
theorem proves_loop (S:SetL) (A:Option Addr) (c:Nat) (north:Bool) (m:List (Nat × Bool)) (Al:Option Addr) (cl:Nat) (w:World) (hA:Quads w A S.J) (hL:Gs w Al (m.map legI)) (he:setE S = 0) (hm:∀ g ∈ m,g.1 < S.J.length) (q:Nat) (hq:m.length = q + 1) (hq2:q + 1 <= 60) (b:Bool) (hb:chainB S.J (intoQ S.J (m.getD q (0,false))) m = b) (V:Int × Int) (hV:Sheet.low (Sheet.sumN (joOf north S.J) m).natAbs m.length = V) :
  Calls Tryz.prog 9 #[.agg #[.int .i64 S.n,.slice A S.J.length c],.agg #[.bool north,.slice Al (q + 1) cl]] w fun e w'=>e = .returned (.tuple #[.agg #[.int .i64 (if b then V.1 else 0),.int .i64 (if b then V.2 else 0)],.int .i64 (if b then 0 else 9)]) /\ Aft w w':=by
 have hS:=setE_ok he;obtain ⟨s,hs⟩:∃ s,w.heap.size = s:=⟨_,rfl⟩;have F0:=(((Fr.start w).alloc rfl 24 #[.int .i64 S.n,.slice A S.J.length c]).alloc (by simp) 27 #[.bool north,.slice Al (q + 1) cl]).alloc (by simp) 29 #[.int .i64 0,.int .i64 0];simp only [List.nil_append,List.cons_append] at F0;rw [hs] at F0;have HF0:=Lib.hid F0;have HO:=Lib.hid (opened_good S A c _ (hA.aft F0.aft) he);have hjl:=hA.len;have hll:(m.map legI).length = q + 1:=by simp [hq]
 have HV:=Lib.hid fun W s x0 (h:Aft w W) (hb:Blk W s 24 #[x0,.slice A S.J.length c])=>every_inl S.J.length s x0 A c (m.map legI) Al cl W hb hjl (hL.aft h)
 rw [all_inl hm,hll] at HV;have H1:Hid (fromB ((q:Int) + 1) 1 60 = true):=Lib.hid (by rw [fromB_iff];omega);have HL:=Lib.hid hL;have HM:=Lib.hid hm;have HB:=Lib.hid hb;have HV2:=Lib.hid hV;have HQ:=Lib.hid hq;have HS:=Lib.hid hS;have HJL:=Lib.hid hll;obtain ⟨r1,hr1⟩:∃ r,(if b then V.1 else 0) = r:=⟨_,rfl⟩;obtain ⟨r2,hr2⟩:∃ r,(if b then V.2 else 0) = r:=⟨_,rfl⟩;obtain ⟨ee,hee⟩:∃ r:Int,(if b then 0 else 9) = r:=⟨_,rfl⟩;rw [hr1,hr2,hee];have HR:=Lib.hid (show _ /\ _ /\ _ from ⟨hr1,hr2,hee⟩);clear hA hL he F0 hm hb hV hS hll hr1 hr2 hee;go_enter Tryz.func9,Tryz.ntmps9;go_upto_block 0 with (go_at_call 32;refine HO.out.mono ?_;rintro e w2 ⟨d,rfl,hw2⟩)
 have HF2:=Lib.hid (HF0.out.later hw2.aft);have HW2:=Lib.hid hw2;have hdb:=hw2.base;clear hw2;simp only [World.size_alloc] at hdb
 try rw [hs]
 generalize (((w.alloc (.cells #[.int .i64 S.n,.slice A S.J.length c] 24)).alloc (.cells #[.bool north,.slice Al (q + 1) cl] 27)).alloc (.cells #[.int .i64 0,.int .i64 0] 29)) = W1 at *;clear HO HF0;have y1:w2.cell? ⟨s + 1,1,none⟩ = some (.slice Al (q + 1) cl):=(HF2.out.nth 1 rfl).cell 1;have y2:=(HF2.out.nth 1 rfl).lt;go_upto_region 8 with (first | (go_at_call 33;refine (in_any _ _ _ _).mono ?_;rintro e w' ⟨rfl,rfl⟩;rw [H1.out]) | (go_at_call 34;refine (HV.out _ _ _ HF2.out.aft (HF2.out.nth 0 rfl)).mono ?_;rintro e w3 ⟨rfl,u,rfl⟩))
 clear y1 y2 HV;have HF3:=Lib.hid (HF2.out.later (Aft.lat _ u));have HW3:=Lib.hid (HW2.out.later (Aft.lat _ u));generalize w2.lat u = W3 at *;clear HF2 HW2;have hqm:q < m.length:=by rw [HQ.out];omega
 have hqm':q < (m.map legI).length:=by rw [HJL.out];omega
 obtain ⟨bl,ol,rfl,hbl,hcl⟩:=(HL.out.aft HF3.out.aft).at hqm';obtain ⟨x1,x2⟩:=hcl q hqm';have hg:=HM.out _ (List.getElem_mem hqm);have ele:(m.map legI)[q] = legI m[q]:=by simp
 rw [ele] at x1 x2;have hgd:m.getD q (0,false) = m[q]:=by rw [List.getD_eq_getElem?_getD,List.getElem?_eq_getElem hqm];rfl
 rw [hgd] at HB;obtain ⟨⟨g,bk⟩,hgb⟩:∃ y,m[q] = y:=⟨_,rfl⟩;rw [hgb] at x1 x2 hg HB;unfold legI at x1 x2;dsimp only at x1 x2 hg;have HEN:=Lib.hid (fun W (ha:Aft W3 W)=>ends_any S A c d _ _ _ W g bk (HW3.out.later ha) hg);rw [<- fromQ_get hg,<- intoQ_get hg] at HEN;have HSQ:Hid ((m.map legI).length = q + 1):=HJL;clear hcl ele hgd hgb hqm hqm' hg;have y1:W3.cell? ⟨s + 1,1,none⟩ = some (.slice (some ⟨bl,ol,none⟩) (q + 1) cl):=(HF3.out.nth 1 rfl).cell 1;have y2:=(HF3.out.nth 1 rfl).lt;have hq3:(q:Int) + 1 - 1 = (q:Int):=by omega
 go_upto_block 1 with (go_at_call 36;refine (HEN.out _ (Aft.refl _)).mono ?_;rintro e w4 ⟨rfl,u,rfl⟩)
 have HF4:=Lib.hid (HF3.out.later (Aft.lat _ u));have HW4:=Lib.hid (HW3.out.later (Aft.lat _ u));have HL4:=Lib.hid ((HL.out.aft HF3.out.aft).aft (Aft.lat W3 u));generalize W3.lat u = W4 at *;clear HF3 HW3 HL x1 x2 y1 y2 HEN hq3 hbl;have hb4:=HW4.out;refine wp_block ?_;go_loopw [9,55] (fun at_ i wr=>∃ k:Nat,i = .int .i64 (k:Nat) /\ k <= q + 1 /\ ∃ x,at_ = .int .i64 x /\ Hid (chainB S.J x (m.drop k) = b) /\ Aft W4 wr) (fun _ i _=>q + 1 - (intOf i).toNat)
 case atStart=>exact ⟨0,rfl,by omega,_,rfl,HB,Aft.refl _⟩
 case round =>
  obtain ⟨k,rfl,hk,x,rfl,HX,hI⟩:=hrel;have HI:=Lib.hid hI;have HF5:=Lib.hid (HF4.out.later hI);have HW5:=Lib.hid (HW4.out.later hI);clear hI hb4;by_cases hkl:k < q + 1
  ·have t1:decide (k < q + 1) = true:=by simpa using hkl
   have t2:decide ((k:Int) < (q:Int) + 1) = true:=by rw [decide_eq_true_eq];omega
   have hkm:k < m.length:=by rw [HQ.out];exact hkl
   have hkm':k < (m.map legI).length:=by rw [HJL.out];exact hkl
   obtain ⟨b2,o2,hbo,hb2,hc⟩:=(HL4.out.aft HI.out).at hkm';cases hbo;obtain ⟨x1,x2⟩:=hc k hkm';have hg:=HM.out _ (List.getElem_mem hkm);have ele:(m.map legI)[k] = legI m[k]:=by simp
   rw [ele] at x1 x2;have hdr:=List.drop_eq_getElem_cons hkm;rw [hdr] at HX;obtain ⟨⟨g3,bk3⟩,hgb⟩:∃ y,m[k] = y:=⟨_,rfl⟩;rw [hgb] at x1 x2 hg HX;unfold legI at x1 x2;dsimp only at x1 x2 hg;have HEN:=Lib.hid (fun W (ha:Aft wr W)=>ends_any S A c d _ _ _ W g3 bk3 (HW5.out.later ha) hg);rw [<- fromQ_get hg,<- intoQ_get hg] at HEN;clear hc ele hdr hgb hkm hkm' hg;have ha6:=Lib.hid (Aft.alloc wr (.cells #[.int .i64 (g3:Nat),.bool bk3] 34));by_cases hfx:fromQ S.J (g3,bk3) = x
   ·have t3:(fromQ S.J (g3,bk3) != x) = false:=by simpa using hfx
    have HX2:Hid (chainB S.J (intoQ S.J (g3,bk3)) (m.drop (k + 1)) = b):=Lib.hid (by rw [<- HX.out];unfold chainB;rw [decide_eq_true hfx,Bool.true_and];cases m.drop (k + 1) <;> rfl);clear hfx HX;go_wp2_with (go_at_call 36;refine (HEN.out _ ha6.out).mono ?_;rintro e w4 ⟨rfl,u,rfl⟩)
    refine ⟨⟨k + 1,rfl,hkl,_,rfl,HX2,(HI.out.trans ha6.out).trans (Aft.lat _ u)⟩,?_⟩;show q + 1 - (((k:Int) + 1).toNat) < q + 1 - ((k:Int).toNat);omega
   ·have t3:(fromQ S.J (g3,bk3) != x) = true:=by simpa using hfx
    have hbf:b = false:=by rw [<- HX.out];unfold chainB;rw [decide_eq_false hfx,Bool.false_and]
    subst hbf;clear hfx HX;go_upto_region 14 with (go_at_call 36;refine (HEN.out _ ha6.out).mono ?_;rintro e w4 ⟨rfl,u,rfl⟩)
    have HF9:=Lib.hid ((HF5.out.later ha6.out).later (Aft.lat _ u));generalize (wr.alloc (.cells #[.int .i64 (g3:Nat),.bool bk3] 34)).lat u = W9 at *;obtain ⟨hr1,hr2,hee⟩:=HR.out;simp only [Bool.false_eq_true,if_false] at hr1 hr2 hee;subst hr1;subst hr2;subst hee;have z0:=(HF9.out.nth 2 rfl).cell 0;have z1:=(HF9.out.nth 2 rfl).cell 1;have z2:=(HF9.out.nth 2 rfl).lt;have z3:=(HF9.out.nth 2 rfl).frozen 0;have z4:=(HF9.out.nth 2 rfl).frozen 1;simp only [List.getElem?_toArray,List.getElem?_cons_zero,List.getElem?_cons_succ] at z0 z1;go_wp2_with fail
    have B2:=((HF9.out.nth 2 rfl).store 0 (.int .i64 0)).store 1 (.int .i64 0);have A2:=(HF9.out.aft.then_setCell (p:=⟨s + 1 + 1,0,none⟩) (by show w.heap.size <= s + 1 + 1;omega) (.int .i64 0)).then_setCell (p:=⟨s + 1 + 1,1,none⟩) (by show w.heap.size <= s + 1 + 1;omega) (.int .i64 0);generalize (W9.setCell ⟨s + 1 + 1,0,none⟩ (.int .i64 0)).setCell ⟨s + 1 + 1,1,none⟩ (.int .i64 0) = X at *;have z0:X.cell? ⟨s + 1 + 1,0,none⟩ = some (.int .i64 0):=B2.cell 0;have z1:X.cell? ⟨s + 1 + 1,1,none⟩ = some (.int .i64 0):=B2.cell 1;exact bodyPost_ret (v:=.tuple #[.agg #[.int .i64 0,.int .i64 0],.int .i64 9]) (by simp [results,Tryz.results9,go_sem,z0,z1]) rfl ⟨rfl,A2⟩
  ·have t1:decide (k < q + 1) = false:=by simpa using hkl
   have t2:decide ((k:Int) < (q:Int) + 1) = false:=by rw [decide_eq_false_iff_not];omega
   have hbt:b = true:=by rw [<- HX.out,List.drop_eq_nil_of_le (by rw [HQ.out];omega)];rfl
   subst hbt;obtain ⟨hr1,hr2,hee⟩:=HR.out;simp only [if_true] at hr1 hr2 hee;subst hee
   have HME:Hid (∀ kw,WayOk kw north -> ∀ W,Aft wr W -> Calls Tryz.prog 38 #[.pointer (some ⟨d,0,none⟩),.slice (some ⟨bl,ol,none⟩) (q + 1) cl,.agg #[.func (.func kw) #[] #[]]] W fun e w'=>e = .returned (.agg #[.int .i64 r1,.int .i64 r2]) /\ Aft W w'):=Lib.hid fun kw hkw W ha=>by
    have:=mean_any hkw S A c d _ _ _ W (HW5.out.later ha) HS.out m (some ⟨bl,ol,none⟩) cl ((HL4.out.aft HI.out).aft ha) HM.out (by rw [HQ.out];omega) (by rw [HQ.out];exact hq2);rw [HV2.out,hr1,hr2,HQ.out] at this;exact this
   clear HL4 HW4 HF4 HW5 HX HM HS HV2 HQ HJL hr1 hr2 HR hq;cases north
   ·have y0:wr.cell? ⟨s + 1,0,none⟩ = some (.bool false):=(HF5.out.nth 1 rfl).cell 0;have y1:wr.cell? ⟨s + 1,1,none⟩ = some (.slice (some ⟨bl,ol,none⟩) (q + 1) cl):=(HF5.out.nth 1 rfl).cell 1;have y2:=(HF5.out.nth 1 rfl).lt;have i1:=idx114a;go_upto_region 20 with (go_at_call 37;refine (both_any _).mono ?_;rintro e w6 ⟨rfl,u,rfl⟩)
    obtain ⟨zb,hzb⟩:∃ zb,(wr.lat u).heap.size = zb:=⟨_,rfl⟩;have HB9:Hid (Blk ((wr.lat u).alloc (.cells #[.func (.func 95) #[] #[]] 101)) zb 101 #[.func (.func 95) #[] #[]]):=Lib.hid (by rw [<- hzb];exact Blk.new _ 101 _);have HA9:=Lib.hid ((Aft.lat wr u).then_alloc (.cells #[.func (.func 95) #[] #[]] 101));have HF9:=Lib.hid (HF5.out.later HA9.out)
    try rw [hzb]
    clear hzb y0 y1 y2 HF5;generalize (wr.lat u).alloc (.cells #[.func (.func 95) #[] #[]] 101) = W9 at *;have z0:=(HF9.out.nth 2 rfl).cell 0;have z1:=(HF9.out.nth 2 rfl).cell 1;have z2:=(HF9.out.nth 2 rfl).lt;have z3:=(HF9.out.nth 2 rfl).frozen 0;have z4:=(HF9.out.nth 2 rfl).frozen 1;simp only [List.getElem?_toArray,List.getElem?_cons_zero,List.getElem?_cons_succ] at z0 z1;have y1:W9.cell? ⟨s + 1,1,none⟩ = some (.slice (some ⟨bl,ol,none⟩) (q + 1) cl):=(HF9.out.nth 1 rfl).cell 1;have y2:=(HF9.out.nth 1 rfl).lt;have y3:W9.cell? ⟨zb,0,none⟩ = some (.func (.func 95) #[] #[]):=HB9.out.cell 0;have y4:=HB9.out.lt;go_wp2_with (go_at_call 38;refine (HME.out 95 way81 _ HA9.out).mono ?_;rintro e w7 ⟨rfl,u2,rfl⟩)
    have B2:=(((HF9.out.nth 2 rfl).lat u2).store 0 (.int .i64 r1)).store 1 (.int .i64 r2);have A2:=((HF9.out.aft.then_lat u2).then_setCell (p:=⟨s + 1 + 1,0,none⟩) (by show w.heap.size <= s + 1 + 1;omega) (.int .i64 r1)).then_setCell (p:=⟨s + 1 + 1,1,none⟩) (by show w.heap.size <= s + 1 + 1;omega) (.int .i64 r2);generalize ((W9.lat u2).setCell ⟨s + 1 + 1,0,none⟩ (.int .i64 r1)).setCell ⟨s + 1 + 1,1,none⟩ (.int .i64 r2) = X at *;have z0:X.cell? ⟨s + 1 + 1,0,none⟩ = some (.int .i64 r1):=B2.cell 0;have z1:X.cell? ⟨s + 1 + 1,1,none⟩ = some (.int .i64 r2):=B2.cell 1;exact bodyPost_ret (v:=.tuple #[.agg #[.int .i64 r1,.int .i64 r2],.int .i64 0]) (by simp [results,Tryz.results9,go_sem,z0,z1]) rfl ⟨rfl,A2⟩
   ·have y0:wr.cell? ⟨s + 1,0,none⟩ = some (.bool true):=(HF5.out.nth 1 rfl).cell 0;have y2:=(HF5.out.nth 1 rfl).lt;have i1:=idx114a;go_upto_region 18 with (go_at_call 37;refine (both_any _).mono ?_;rintro e w6 ⟨rfl,u,rfl⟩)
    obtain ⟨zb,hzb⟩:∃ zb,(wr.lat u).heap.size = zb:=⟨_,rfl⟩;have HB8:Hid (Blk ((wr.lat u).alloc (.cells #[.func (.func 95) #[] #[]] 101)) zb 101 #[.func (.func 95) #[] #[]]):=Lib.hid (by rw [<- hzb];exact Blk.new _ 101 _);have HA8:=Lib.hid ((Aft.lat wr u).then_alloc (.cells #[.func (.func 95) #[] #[]] 101));have HF8:=Lib.hid (HF5.out.later HA8.out)
    try rw [hzb]
    have hzw:wr.heap.size <= zb:=hzb ▸ (Aft.lat wr u).size;clear hzb y0 y2 i1;generalize (wr.lat u).alloc (.cells #[.func (.func 95) #[] #[]] 101) = W8 at *;have y0:W8.cell? ⟨s + 1,0,none⟩ = some (.bool true):=(HF8.out.nth 1 rfl).cell 0;have y2:=(HF8.out.nth 1 rfl).lt;have y3:W8.cell? ⟨zb,0,none⟩ = some (.func (.func 95) #[] #[]):=HB8.out.cell 0;have y4:=HB8.out.lt;have y5:=HB8.out.frozen 0;have i1:=idx114b;go_upto_region 20 with (go_at_call 37;refine (both_any _).mono ?_;rintro e w6 ⟨rfl,u1,rfl⟩)
    have HB9:Hid (Blk ((W8.lat u1).setCell ⟨zb,0,none⟩ (.func (.func 96) #[] #[])) zb 101 #[.func (.func 96) #[] #[]]):=Lib.hid ((HB8.out.lat u1).store 0 _);have HA9:Hid (Aft wr ((W8.lat u1).setCell ⟨zb,0,none⟩ (.func (.func 96) #[] #[]))):=Lib.hid ((HA8.out.then_lat u1).then_setCell (p:=⟨zb,0,none⟩) hzw _);have HF9:Hid (Fr w (s + 1 + 1 + 1) [(s,24,#[.int .i64 S.n,.slice A S.J.length c]),(s + 1,27,#[.bool true,.slice (some ⟨bl,ol,none⟩) (q + 1) cl]),(s + 1 + 1,29,#[.int .i64 0,.int .i64 0])] ((W8.lat u1).setCell ⟨zb,0,none⟩ (.func (.func 96) #[] #[]))):=Lib.hid (HF5.out.later HA9.out);clear y0 y2 y3 y4 y5 HF8 HB8 HA8 HF5 i1 hzw;generalize (W8.lat u1).setCell ⟨zb,0,none⟩ (.func (.func 96) #[] #[]) = W9 at *;have z0:=(HF9.out.nth 2 rfl).cell 0;have z1:=(HF9.out.nth 2 rfl).cell 1;have z2:=(HF9.out.nth 2 rfl).lt;have z3:=(HF9.out.nth 2 rfl).frozen 0;have z4:=(HF9.out.nth 2 rfl).frozen 1;simp only [List.getElem?_toArray,List.getElem?_cons_zero,List.getElem?_cons_succ] at z0 z1;have y1:W9.cell? ⟨s + 1,1,none⟩ = some (.slice (some ⟨bl,ol,none⟩) (q + 1) cl):=(HF9.out.nth 1 rfl).cell 1;have y2:=(HF9.out.nth 1 rfl).lt;have y3:W9.cell? ⟨zb,0,none⟩ = some (.func (.func 96) #[] #[]):=HB9.out.cell 0;have y4:=HB9.out.lt;go_wp2_with (go_at_call 38;refine (HME.out 96 way82 _ HA9.out).mono ?_;rintro e w7 ⟨rfl,u2,rfl⟩)
    have B2:=(((HF9.out.nth 2 rfl).lat u2).store 0 (.int .i64 r1)).store 1 (.int .i64 r2);have A2:=((HF9.out.aft.then_lat u2).then_setCell (p:=⟨s + 1 + 1,0,none⟩) (by show w.heap.size <= s + 1 + 1;omega) (.int .i64 r1)).then_setCell (p:=⟨s + 1 + 1,1,none⟩) (by show w.heap.size <= s + 1 + 1;omega) (.int .i64 r2);generalize ((W9.lat u2).setCell ⟨s + 1 + 1,0,none⟩ (.int .i64 r1)).setCell ⟨s + 1 + 1,1,none⟩ (.int .i64 r2) = X at *;have z0:X.cell? ⟨s + 1 + 1,0,none⟩ = some (.int .i64 r1):=B2.cell 0;have z1:X.cell? ⟨s + 1 + 1,1,none⟩ = some (.int .i64 r2):=B2.cell 1;exact bodyPost_ret (v:=.tuple #[.agg #[.int .i64 r1,.int .i64 r2],.int .i64 0]) (by simp [results,Tryz.results9,go_sem,z0,z1]) rfl ⟨rfl,A2⟩
theorem legI_natG {n:Nat} {l:List (Int × Bool)} (h:l.all (inL n) = true):(l.map natG).map legI = l /\ ∀ g ∈ l.map natG,g.1 < n:=by
 rw [List.all_eq_true] at h;refine ⟨?_,fun g hg=>?_⟩
 ·rw [List.map_map]
  conv=>rhs;rw [<- List.map_id l]
  refine List.map_congr_left fun x hx=>?_
  have:=h x hx;unfold inL at this;rw [fromB_iff] at this;obtain ⟨a,b⟩:=x;show ((a.toNat:Int),b) = (a,b);dsimp only at this;rw [Int.toNat_of_nonneg this.1]
 ·obtain ⟨x,hx,rfl⟩:=List.mem_map.1 hg;have:=h x hx;unfold inL at this;rw [fromB_iff] at this;unfold natG;dsimp only;omega
def provesP (S:SetL) (north:Bool) (l:List (Int × Bool)):Int × Int:=if provesE S l = 0 then provesV S north l else (0,0)
theorem proves_any (S:SetL) (A:Option Addr) (c:Nat) (north:Bool) (l:List (Int × Bool)) (Al:Option Addr) (cl:Nat) (w:World) (hA:Quads w A S.J) (hL:Gs w Al l) :
  Calls Tryz.prog 9 #[.agg #[.int .i64 S.n,.slice A S.J.length c],.agg #[.bool north,.slice Al l.length cl]] w fun e w'=>e = .returned (.tuple #[.agg #[.int .i64 (provesP S north l).1,.int .i64 (provesP S north l).2],.int .i64 (provesE S l)]) /\ Aft w w':=by
 by_cases h1:setE S = 0
 ·by_cases h2:fromB l.length 1 60 = false \/ l.all (inL S.J.length) = false
  ·have he:provesE S l = if fromB l.length 1 60 = false then 3 else 2:=by
    unfold provesE;rw [if_neg (by simp [h1])];split
    ·rfl
    ·rename_i h3
     rw [if_pos (h2.resolve_left h3)]
   have hn:provesE S l ≠ 0:=by rw [he];split <;> decide
   unfold provesP;rw [if_neg hn,he];exact proves_short S A c north l Al cl w hA hL h1 h2
  ·have h3:fromB l.length 1 60 = true:=by
    cases e:fromB (l.length:Int) 1 60
    ·exact absurd (.inl e) h2
    ·rfl
   have h4:l.all (inL S.J.length) = true:=by
    cases e:l.all (inL S.J.length)
    ·exact absurd (.inr e) h2
    ·rfl
   obtain ⟨h5,h6⟩:=legI_natG h4;have h7:=h3;rw [fromB_iff] at h7;obtain ⟨q,hq⟩:∃ q,l.length = q + 1:=⟨l.length - 1,by omega⟩;have:=proves_loop S A c north (l.map natG) Al cl w hA (by rw [h5];exact hL) h1 h6 q (by simp [hq]) (by omega) _ rfl _ rfl
   have hgl:(l.map natG).getD q (0,false) = natG (l.getLastD (0,false)):=by
    rw [List.getLastD_eq_getLast?,List.getLast?_eq_getElem?,hq,List.getD_eq_getElem?_getD,List.getElem?_map];show _ = natG (l[q]?.getD (0,false));cases l[q]? <;> rfl
   rw [hgl,<- hq] at this
   have he:provesE S l = if chainB S.J (intoQ S.J (natG (l.getLastD (0,false)))) (l.map natG) then 0 else 9:=by
    unfold provesE;rw [if_neg (by simp [h1]),if_neg (by simp [h3]),if_neg (by simp [h4])]
   unfold provesP provesV;rw [he];cases hc:chainB S.J (intoQ S.J (natG (l.getLastD (0,false)))) (l.map natG)
   ·rw [hc] at this;exact this
   ·rw [hc] at this;simpa using this
 ·have he:provesE S l = setE S:=by unfold provesE;rw [if_pos h1]
  unfold provesP;rw [he,if_neg h1];exact proves_bad S A c north l Al cl w hA hL h1
end Go.Proofs
end
section
/- Between: what is plain of it. -/
namespace Sheet
theorem wk_map {E E':List Edge} (f:∀ a b w,(a,b,w) ∈ E -> ∃ w',(a,b,w') ∈ E') {a b k:Nat} {s:Int} (h:Wk E a b k s):∃ s',Wk E' a b k s':=by
 induction h with
 | nil=>exact ⟨0,.nil _⟩
 | snoc h e ih =>
  obtain ⟨s1,h1⟩:=ih;obtain ⟨w1,e1⟩:=f _ _ _ e;exact ⟨_,h1.snoc e1⟩
theorem wk_back {E:List Edge} (f:∀ a b w,(a,b,w) ∈ E -> ∃ w',(b,a,w') ∈ E) {a b k:Nat} {s:Int} (h:Wk E a b k s):∃ k' s',Wk E b a k' s':=by
 induction h with
 | nil=>exact ⟨0,0,.nil _⟩
 | snoc h e ih =>
  obtain ⟨k1,s1,h1⟩:=ih;obtain ⟨w1,e1⟩:=f _ _ _ e;exact ⟨_,_,(Wk.one e1).append h1⟩
theorem dist_small {E:List Edge} {n:Nat} {M:Int} (hE:In E n) (hn:0 < n) (hneg:NoNeg E) (hM:∀ a b w,(a,b,w) ∈ E -> -M <= w /\ w <= M) (hM0:0 <= M) {a b:Nat} {m:Int} (h:Dist E a b (some m)):-(M * n) <= m /\ m <= M * n:=by
 obtain ⟨k,hk⟩:=h.1 m rfl;have hm:AtMost E 0 (-1):=fun a k s hw _=>by have:=hneg a k s hw;omega
 obtain ⟨k',s',h1,-,h3,h4⟩:=hk.short hE hn hm k (Nat.le_refl _);obtain ⟨m',he,h5⟩:=h.2 k' s' h3;cases he;have h6:=h3.bound (p:=0) (q:=1) (M:=M) fun a b w e=>by have:=hM a b w e;omega
 have h7:=h3.bound (p:=0) (q:=-1) (M:=M) fun a b w e=>by have:=hM a b w e;omega
 have h8:M * (k':Int) <= M * (n:Int):=Int.mul_le_mul_of_nonneg_left (by omega) hM0;omega
theorem far_back {n:Nat} {J:List Jo} {D N:Int} {t:Nat -> Nat -> Int} (h:Calms n J D N t) {a b:Nat} (ha:a < n) (hb:b < n) (hf:t a b ≠ far):t b a ≠ far:=by
 intro e;have h1:=h.dist ha b;have h2:=h.dist hb a;have h3:opt (t a b) = some (t a b):=opt_some.2 ⟨rfl,hf⟩;obtain ⟨k,hk⟩:=h1.1 _ h3
 obtain ⟨k',s',h4⟩:=wk_back (fun a b w he=>by
  obtain ⟨w',h1,-⟩:=mem_sc he;exact ⟨_,sc_mem (legs_sym J _ _ _ h1)⟩) hk
 obtain ⟨m,h5,_⟩:=h2.2 _ _ h4;rw [opt_none.2 e] at h5;cases h5
theorem far_ways {n:Nat} {J J':List Jo} {D N:Int} {t t':Nat -> Nat -> Int} (h:Calms n J D N t) (h':Calms n J' D N t') (hJ:∀ a b w,(a,b,w) ∈ legs J -> ∃ w',(a,b,w') ∈ legs J') {a b:Nat} (ha:a < n) (hf:t a b ≠ far):t' a b ≠ far:=by
 intro e;have h1:=h.dist ha b;have h2:=h'.dist ha b;have h3:opt (t a b) = some (t a b):=opt_some.2 ⟨rfl,hf⟩;obtain ⟨k,hk⟩:=h1.1 _ h3
 obtain ⟨s',h4⟩:=wk_map (E':=sc D N (legs J')) (fun a b w he=>by
  obtain ⟨w',h1,-⟩:=mem_sc he;obtain ⟨w2,h2⟩:=hJ _ _ _ h1;exact ⟨_,sc_mem h2⟩) hk
 obtain ⟨m,h5,_⟩:=h2.2 _ _ h4;rw [opt_none.2 e] at h5;cases h5
end Sheet
namespace Go.Proofs
theorem legs_ways (J:List Q4) (n1 n2:Bool):∀ a b w,(a,b,w) ∈ Sheet.legs (joOf n1 J) -> ∃ w',(a,b,w') ∈ Sheet.legs (joOf n2 J):=by
 intro a b w he;obtain ⟨j,hj,he⟩:=List.mem_flatMap.1 he;obtain ⟨q,hq,rfl⟩:=List.mem_map.1 hj;simp only [List.mem_cons,Prod.mk.injEq,List.not_mem_nil,or_false] at he;rcases he with ⟨rfl,rfl,rfl⟩ | ⟨rfl,rfl,rfl⟩
 ·exact ⟨way1 n2 q,List.mem_flatMap.2 ⟨_,List.mem_map.2 ⟨q,hq,rfl⟩,by simp⟩⟩
 ·exact ⟨-(way1 n2 q),List.mem_flatMap.2 ⟨_,List.mem_map.2 ⟨q,hq,rfl⟩,by simp⟩⟩
def tabOf (S:SetL) (ap:Nat -> Int) (a:Nat):Nat -> Int:=rowOf S.n.toNat ap a
theorem calms_tab {S:SetL} {north:Bool} {D N:Int} {ap:Nat -> Int} (h:∀ a,a < S.n.toNat -> RowDone S north D N ap a):Sheet.Calms S.n.toNat (joOf north S.J) D N (tabOf S ap):=h
theorem tab_small {S:SetL} {north:Bool} {D N:Int} {t:Nat -> Nat -> Int} (hS:SetOk S) (hp:PlayOk N D) (h:Sheet.Calms S.n.toNat (joOf north S.J) D N t) {a b:Nat} (ha:a < S.n.toNat) (hf:t a b ≠ Sheet.far):-24000000000 <= t a b /\ t a b <= 24000000000:=by
 have h1:=h.dist ha b;rw [Sheet.opt_some.2 ⟨rfl,hf⟩] at h1
 have h2:=Sheet.dist_small (M:=2000000000) (hS.ok north).in_sc (by omega) (h.noNeg (hS.ok north)) (fun a b w he=>by
  obtain ⟨w',h1,rfl⟩:=Sheet.mem_sc he;obtain ⟨g,g1,g2,g3,g4⟩:=Sheet.mem_leg h1;have:=wt_le (north:=north) hS hp (g:=g) (by simpa [joOf] using g1);unfold Sheet.wt at this;rw [g4] at this;exact this) (by decide) h1
 have:=hS.n2;omega
def bt4 (D:Int) (t:Nat -> Nat -> Int) (a b:Nat):Q4:=⟨(Sheet.low (-(t b a)) D).1,(Sheet.low (-(t b a)) D).2,(Sheet.low (t a b) D).1,(Sheet.low (t a b) D).2⟩
def BtR (S:SetL) (N D:Int) (a b:Nat) (w:World) (e:Ending) (w':World):Prop:=Aft w w' /\
 ((e = .returned (.tuple #[.agg #[.int .i64 0,.int .i64 0,.int .i64 0,.int .i64 0],.agg #[.int .i64 0,.int .i64 0,.int .i64 0,.int .i64 0],.int .i64 8]) /\ ∃ north l,Sheet.Clash S.n.toNat (joOf north S.J) D N l) \/
  ∃ t0 t1,Sheet.Calms S.n.toNat (joOf false S.J) D N t0 /\ Sheet.Calms S.n.toNat (joOf true S.J) D N t1 /\
  ((t0 a b = Sheet.far /\ e = .returned (.tuple #[.agg #[.int .i64 0,.int .i64 0,.int .i64 0,.int .i64 0],.agg #[.int .i64 0,.int .i64 0,.int .i64 0,.int .i64 0],.int .i64 7])) \/
   (t0 a b ≠ Sheet.far /\ e = .returned (.tuple #[.agg (encS (bt4 D t0 a b)),.agg (encS (bt4 D t1 a b)),.int .i64 0]))))
end Go.Proofs
end
