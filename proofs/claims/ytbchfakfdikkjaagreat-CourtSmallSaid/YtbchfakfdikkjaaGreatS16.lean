/- Own texts, merged: CtRi CtRj0. -/
import Derived.Test.YtbchfakfdikkjaaGreatS15
import Derived.Laws.CopyOwn
set_option linter.unusedSimpArgs false
set_option linter.unusedVariables false
set_option linter.unnecessarySimpa false
section
/- Walks: the reference's before 109,stands 73,Stands 26. -/
namespace Go.Proofs
open Go.RowKit
open Court (refL begF noS struckB strikeL standB)
attribute [local go_sem] Oper.semAt_some
set_option maxRecDepth 100000 in
set_option maxHeartbeats 4000000 in
theorem beforeR_any (x y:List Int) (A B:Option Addr) (c d:Nat) (w:World) (hA:Ints w A x) (hB:Ints w B y) :
  Calls Tryz.prog 109 #[.slice A x.length c,.slice B y.length d] w fun e w'=>e = .returned (.bool (decide (cmpZ x y < 0))) /\ Aft w w':=by
 have hl:=hA.len;have hl':=hB.len;have HA:=Lib.hid hA;have HB:=Lib.hid hB;clear hA hB;obtain ⟨bv,hbv⟩:∃ bv,decide (cmpZ x y < 0) = bv:=⟨_,rfl⟩;have HBV:Hid (decide (cmpZ (x.drop 0) (y.drop 0) < 0) = bv):=Lib.hid hbv;rw [hbv];clear hbv;go_enter Tryz.func109,Tryz.ntmps109;go_upto_block 0 with fail
 refine wp_block ?_;go_loopw [5] (fun i wr=>∃ k:Nat,i = .int .i64 k /\ k <= x.length /\ k <= y.length /\ Aft w wr /\ Hid (decide (cmpZ (x.drop k) (y.drop k) < 0) = bv)) (fun i _=>x.length - (intOf i).toNat)
 case atStart=>exact ⟨0,rfl,by omega,by omega,Aft.refl _,HBV⟩
 case round =>
  obtain ⟨k,rfl,hk,hk',hw,HV⟩:=hrel;have HW:=Lib.hid hw;clear hw HBV;by_cases hkx:k < x.length
  ·have t1:decide (k < x.length) = true:=by simpa using hkx
   by_cases hky:k < y.length
   ·have t2:decide (k < y.length) = true:=by simpa using hky
    have ix:(0:Int) <= (k:Int) /\ (k:Int) < (x.length:Int):=by omega
    have iy:(0:Int) <= (k:Int) /\ (k:Int) < (y.length:Int):=by omega
    obtain ⟨ba,oa,rfl,hlta,hca⟩:=(HA.out.aft HW.out).at hkx;obtain ⟨bb,ob,rfl,hltb,hcb⟩:=(HB.out.aft HW.out).at hky;have x0:=hca k hkx;have y0:=hcb k hky;have HST:=Lib.hid (cmpZ_step x y hkx hky);obtain ⟨p,hp⟩:∃ p,x[k] = p:=⟨_,rfl⟩;obtain ⟨q,hq⟩:∃ q,y[k] = q:=⟨_,rfl⟩;rw [hp] at x0 HST;rw [hq] at y0 HST;have HX:Hid (∀ W,Aft wr W -> W.cell? ⟨ba,oa + k,none⟩ = some (.int .i64 p)):=Lib.hid fun W h=>cellA x0 hlta h
    have HY:Hid (∀ W,Aft wr W -> W.cell? ⟨bb,ob + k,none⟩ = some (.int .i64 q)):=Lib.hid fun W h=>cellA y0 hltb h
    clear hca hcb hp hq x0 y0;go_upto_region 4 with fail
    obtain ⟨bn,hbn⟩:∃ bn,(p != q) = bn:=⟨_,rfl⟩;refine wp_region_valsG (by kernel_rfl) 41 rfl (by kernel_rfl) (by kernel_rfl) [.slice (some ⟨ba,oa,none⟩) x.length c,.int .i64 k,.pointer (some ⟨ba,oa + k,none⟩),.int .i64 p,.slice (some ⟨bb,ob,none⟩) y.length d,.int .i64 k,.pointer (some ⟨bb,ob + k,none⟩),.int .i64 q,.bool bn] rfl (fun W=>Aft wr W) (Aft.drew _) ?st1 ?fi1
    case st1 =>
     intro i o v ho hv
     match i,ho,hv with
     | 0,ho,hv =>
      cases ho;cases hv;refine .inl ⟨rfl,fun a W hk hw K hK=>?_⟩;have e0:=hk.s 0;exact op_val (by simp [go_sem,ev' e0]) (hK _ hw)
     | 1,ho,hv =>
      cases ho;cases hv;refine .inl ⟨rfl,fun a W hk hw K hK=>?_⟩;have e5:=hk.s 5;exact op_val (by simp [go_sem,ev' e5]) (hK _ hw)
     | 2,ho,hv =>
      cases ho;cases hv;refine .inl ⟨rfl,fun a W hk hw K hK=>?_⟩;have e18:=hk.t 0;have e19:=hk.t 1;exact op_val (by simp [go_sem,ev' e18,ev' e19,ix]) (hK _ hw)
     | 3,ho,hv =>
      cases ho;cases hv;refine .inl ⟨rfl,fun a W hk hw K hK=>?_⟩;have e20:=hk.t 2;exact op_val (by simp [go_sem,ev' e20,HX.out W hw]) (hK _ hw)
     | 4,ho,hv =>
      cases ho;cases hv;refine .inl ⟨rfl,fun a W hk hw K hK=>?_⟩;have e1:=hk.s 1;exact op_val (by simp [go_sem,ev' e1]) (hK _ hw)
     | 5,ho,hv =>
      cases ho;cases hv;refine .inl ⟨rfl,fun a W hk hw K hK=>?_⟩;have e5:=hk.s 5;exact op_val (by simp [go_sem,ev' e5]) (hK _ hw)
     | 6,ho,hv =>
      cases ho;cases hv;refine .inl ⟨rfl,fun a W hk hw K hK=>?_⟩;have e22:=hk.t 4;have e23:=hk.t 5;exact op_val (by simp [go_sem,ev' e22,ev' e23,iy]) (hK _ hw)
     | 7,ho,hv =>
      cases ho;cases hv;refine .inl ⟨rfl,fun a W hk hw K hK=>?_⟩;have e24:=hk.t 6;exact op_val (by simp [go_sem,ev' e24,HY.out W hw]) (hK _ hw)
     | 8,ho,hv =>
      cases ho;cases hv;refine .inl ⟨rfl,fun a W hk hw K hK=>?_⟩;have e21:=hk.t 3;have e25:=hk.t 7;exact op_val (by simp [go_sem,ev' e21,ev' e25,hbn]) (hK _ hw)
     | _ + 9,_,hv=>cases hv
    intro W hw;simp only [List.drop_succ_cons,List.drop_zero,List.zip_cons_cons,List.zip_nil_right,putAll];simp only [Act.put,List.setIfInBounds_toArray,List.set];have HW2:=Lib.hid hw;clear hw;cases bn
    ·have hpq:p = q:=by simpa using hbn
     have HV2:Hid (decide (cmpZ (x.drop (k + 1)) (y.drop (k + 1)) < 0) = bv):=Lib.hid (by
      have:=HV.out
      rwa [HST.out,if_pos hpq] at this)
     clear hpq hbn;go_wp2_with fail
     exact ⟨⟨k + 1,by go_num,by omega,by omega,HW.out.trans HW2.out,HV2⟩,by simp [intOf];omega⟩
    ·have hpq:¬ p = q:=by simpa using hbn
     obtain ⟨bl,hbl⟩:∃ bl,decide (p < q) = bl:=⟨_,rfl⟩;have HV2:Hid (bl = bv):=Lib.hid (by
      have:=HV.out;rw [HST.out,if_neg hpq] at this;rw [<- this,<- hbl];exact decide_eq_decide.2 compareInt_neg.symm)
     clear hpq hbn;go_upto_region 5 with fail
     obtain ⟨W5,rfl⟩:∃ W5,W5 = W:=⟨_,rfl⟩;refine wp_region_valsT (by kernel_rfl) 9 41 rfl (by kernel_rfl) (by kernel_rfl) (by kernel_rfl) [.slice (some ⟨ba,oa,none⟩) x.length c,.int .i64 k,.pointer (some ⟨ba,oa + k,none⟩),.int .i64 p,.slice (some ⟨bb,ob,none⟩) y.length d,.int .i64 k,.pointer (some ⟨bb,ob + k,none⟩),.int .i64 q,.bool bl] rfl (fun done W=>Aft W5 W) (Aft.drew _) ?st2 ?fi2
     case st2 =>
      intro i o v ho hv
      match i,ho,hv with
      | 0,ho,hv =>
       cases ho;cases hv;refine .inl ⟨rfl,fun done a W hd hp hk hw K hK=>?_⟩;have e0:=hk.s 0;exact op_val (by simp [go_sem,ev' e0]) (hK _ hw)
      | 1,ho,hv =>
       cases ho;cases hv;refine .inl ⟨rfl,fun done a W hd hp hk hw K hK=>?_⟩;have e5:=hk.s 5;exact op_val (by simp [go_sem,ev' e5]) (hK _ hw)
      | 2,ho,hv =>
       cases ho;cases hv;refine .inl ⟨rfl,fun done a W hd hp hk hw K hK=>?_⟩;have e27:=hk.t 0;have e28:=hk.t 1;exact op_val (by simp [go_sem,ev' e27,ev' e28,ix]) (hK _ hw)
      | 3,ho,hv =>
       cases ho;cases hv;refine .inl ⟨rfl,fun done a W hd hp hk hw K hK=>?_⟩;have e29:=hk.t 2;exact op_val (by simp [go_sem,ev' e29,HX.out W (HW2.out.trans hw)]) (hK _ hw)
      | 4,ho,hv =>
       cases ho;cases hv;refine .inl ⟨rfl,fun done a W hd hp hk hw K hK=>?_⟩;have e1:=hk.s 1;exact op_val (by simp [go_sem,ev' e1]) (hK _ hw)
      | 5,ho,hv =>
       cases ho;cases hv;refine .inl ⟨rfl,fun done a W hd hp hk hw K hK=>?_⟩;have e5:=hk.s 5;exact op_val (by simp [go_sem,ev' e5]) (hK _ hw)
      | 6,ho,hv =>
       cases ho;cases hv;refine .inl ⟨rfl,fun done a W hd hp hk hw K hK=>?_⟩;have e31:=hk.t 4;have e32:=hk.t 5;exact op_val (by simp [go_sem,ev' e31,ev' e32,iy]) (hK _ hw)
      | 7,ho,hv =>
       cases ho;cases hv;refine .inl ⟨rfl,fun done a W hd hp hk hw K hK=>?_⟩;have e33:=hk.t 6;exact op_val (by simp [go_sem,ev' e33,HY.out W (HW2.out.trans hw)]) (hK _ hw)
      | 8,ho,hv =>
       cases ho;cases hv;refine .inl ⟨rfl,fun done a W hd hp hk hw K hK=>?_⟩;have e30:=hk.t 3;have e34:=hk.t 7;exact op_val (by simp [go_sem,ev' e30,ev' e34,hbl]) (hK _ hw)
      | _ + 9,_,hv=>cases hv
     intro done W hd hw;simp only [List.drop_succ_cons,List.drop_zero,List.zip_cons_cons,List.zip_nil_right,putAll];simp only [Act.put,List.setIfInBounds_toArray,List.set];go_wp2_with fail
     go_ret;exact ⟨ret_bool HV2.out,HW.out.trans (HW2.out.trans hw)⟩
   ·have t2:decide (k < y.length) = false:=by simpa using hky
    have HV2:Hid (decide ((x.length:Int) < (y.length:Int)) = bv):=Lib.hid (by
     rw [<- HV.out,cmpZ_long x y hkx (by omega)];exact decide_eq_decide.2 (by omega))
    go_wp2_with fail
    go_ret;exact ⟨ret_bool (by first | exact HV2.out | (rw [<- HV2.out];simp)),HW.out⟩
  ·have t1:decide (k < x.length) = false:=by simpa using hkx
   have HV2:Hid (decide ((x.length:Int) < (y.length:Int)) = bv):=Lib.hid (by
    have:=HV.out;obtain rfl:k = x.length:=by omega
    rw [cmpZ_end] at this;rw [<- this];split
    ·exact decide_eq_decide.2 (by omega)
    ·exact decide_eq_decide.2 (by omega))
   go_wp2_with fail
   go_ret;exact ⟨ret_bool (by first | exact HV2.out | (rw [<- HV2.out];simp)),HW.out⟩
set_option maxRecDepth 100000 in
set_option maxHeartbeats 16000000 in
theorem standsR_any (C:CaseL) (a1 a2:Option Addr) (c1 c2:Nat) (R l:List Int) (AR A:Option Addr) (cR c:Nat) (w:World) (hC:CRep w C a1 a2) (hR:Ints w AR R) (hA:Ints w A l) :
  Calls Tryz.prog 73 #[(.agg #[.int .i64 C.claims,.slice a1 C.strikes.length c1,.slice a2 C.surveys.length c2]),.slice AR R.length cR,.slice A l.length c] w fun e w'=>e = .returned (.bool (standB C.strikes (refL R) l)) /\ Aft w w':=by
 have hll:=hA.len;have hl:=hC.strikes.len;have H0:=Lib.hid (Aft.alloc w (.cells #[.int .i64 C.claims,.slice a1 C.strikes.length c1,.slice a2 C.surveys.length c2] 31));have HB:=Lib.hid (Blk.new w 31 #[.int .i64 C.claims,.slice a1 C.strikes.length c1,.slice a2 C.surveys.length c2]);have HC:=Lib.hid (hC.aft H0.out);have HR:=Lib.hid (hR.aft H0.out);have HA:=Lib.hid (hA.aft H0.out);clear hC hR hA;obtain ⟨bC,hbC⟩:∃ bC,w.heap.size = bC:=⟨_,rfl⟩;rw [hbC] at HB;have HBC:=Lib.hid hbC;clear hbC;obtain ⟨QS,hQS⟩:∃ QS:Int -> Int × Int -> Bool,QS = fun n s=>!decide (s.2 = n) || refL R s.1 || strikeL C.strikes (refL l) s.1:=⟨_,rfl⟩
 have HQS:Hid (∀ n s,QS n s = (!decide (s.2 = n) || refL R s.1 || strikeL C.strikes (refL l) s.1)):=Lib.hid fun n s=>by rw [hQS]
 obtain ⟨PS,hPS⟩:∃ PS:Int -> Bool,PS = fun n=>!refL R n && !strikeL C.strikes (refL l) n && C.strikes.all (QS n):=⟨_,rfl⟩
 have HPS:Hid (∀ n,PS n = (!refL R n && !strikeL C.strikes (refL l) n && C.strikes.all (QS n))):=Lib.hid fun n=>by rw [hPS]
 rw [show standB C.strikes (refL R) l = l.all PS by rw [hPS,hQS];rfl];clear hPS hQS;go_enter Tryz.func73,Tryz.ntmps73;go_upto_block 0 with fail
 rw [HBC.out];generalize w.alloc (.cells #[.int .i64 C.claims,.slice a1 C.strikes.length c1,.slice a2 C.surveys.length c2] 31) = W0 at *;refine wp_block ?_;go_loopw [7] (fun i wr=>∃ k:Nat,i = .int .i64 k /\ k <= l.length /\ Aft W0 wr /\ Hid (∀ j,(h:j < l.length) -> j < k -> PS l[j] = true)) (fun i _=>l.length - (intOf i).toNat)
 case atStart=>exact ⟨0,rfl,by omega,Aft.refl _,Lib.hid fun j _ h=>by omega⟩
 case round =>
  obtain ⟨k,rfl,hk,hy,HOK⟩:=hrel;have HY:=Lib.hid hy;clear hy;by_cases hkl:k < l.length
  ·have t1:decide (k < l.length) = true:=by simpa using hkl
   have ik:(0:Int) <= (k:Int) /\ (k:Int) < (l.length:Int):=by omega
   obtain ⟨bl,ol,hbl,hltl,hcl⟩:=(HA.out.aft HY.out).at hkl;subst hbl;have x0:=hcl k hkl;have HNO:Hid (PS l[k] = false -> l.all PS = false):=Lib.hid fun h=>all_not hkl h
   obtain ⟨n,hn⟩:∃ n,l[k] = n:=⟨_,rfl⟩;have HLK:=Lib.hid hn;rw [hn] at x0 HNO;have HXN:Hid (∀ W,Aft wr W -> W.cell? ⟨bl,ol + k,none⟩ = some (.int .i64 n)):=Lib.hid fun W h=>cellA x0 hltl h
   have HC0:Hid (∀ W,Aft wr W -> W.cell? ⟨bC,0,none⟩ = some (.int .i64 C.claims) /\ W.cell? ⟨bC,1,none⟩ = some (.slice a1 C.strikes.length c1) /\ W.cell? ⟨bC,2,none⟩ = some (.slice a2 C.surveys.length c2)):=Lib.hid fun W h=>box31 (HB.out.aft (HY.out.trans h))
   have HPN:=Lib.hid (HPS.out n);obtain ⟨bh,hbh⟩:∃ bh,refL R n = bh:=⟨_,rfl⟩;have hbh':hasB R n = bh:=hbh;obtain ⟨bs,hbs⟩:∃ bs,strikeL C.strikes (refL l) n = bs:=⟨_,rfl⟩;have H64:Hid (∀ W,Aft wr W -> Calls Tryz.prog 64 #[.slice AR R.length cR,.int .i64 n] W fun e w'=>e = .returned (.bool bh) /\ W = w'):=Lib.hid fun W h=>by rw [<- hbh'];exact hasR_any AR R cR n W (HR.out.aft (HY.out.trans h))
   have H104:Hid (∀ W,Aft wr W -> Calls Tryz.prog 104 #[(.agg #[.int .i64 C.claims,.slice a1 C.strikes.length c1,.slice a2 C.surveys.length c2]),.slice (some ⟨bl,ol,none⟩) l.length c,.int .i64 n] W fun e w'=>e = .returned (.bool bs) /\ Aft W w'):=Lib.hid fun W h=>by rw [<- hbs];exact strikesR_any C a1 a2 c1 c2 l (some ⟨bl,ol,none⟩) c n W (HC.out.aft (HY.out.trans h)) (HA.out.aft (HY.out.trans h))
   rw [hbh,hbs] at HPN;clear hcl hn x0 hbh hbh' hbs;go_upto_region 4 with fail
   cases bh
   ·skip
    refine wp_region_valsG (by kernel_rfl) 71 rfl (by kernel_rfl) (by kernel_rfl) [.slice AR R.length cR,.slice (some ⟨bl,ol,none⟩) l.length c,.int .i64 k,.pointer (some ⟨bl,ol + k,none⟩),.int .i64 n,.bool false,.bool false,(.agg #[.int .i64 C.claims,.slice a1 C.strikes.length c1,.slice a2 C.surveys.length c2]),.slice (some ⟨bl,ol,none⟩) l.length c,.slice (some ⟨bl,ol,none⟩) l.length c,.int .i64 k,.pointer (some ⟨bl,ol + k,none⟩),.int .i64 n,.bool bs,.bool bs] rfl (fun W=>Aft wr W) (Aft.drew _) ?st3 ?fi3
    case st3 =>
     intro i o v ho hv
     match i,ho,hv with
     | 0,ho,hv =>
      cases ho;cases hv;refine .inl ⟨rfl,fun a W hk hw K hK=>?_⟩;have e1:=hk.s 1;exact op_val (by simp [go_sem,ev' e1]) (hK _ hw)
     | 1,ho,hv =>
      cases ho;cases hv;refine .inl ⟨rfl,fun a W hk hw K hK=>?_⟩;have e2:=hk.s 2;exact op_val (by simp [go_sem,ev' e2]) (hK _ hw)
     | 2,ho,hv =>
      cases ho;cases hv;refine .inl ⟨rfl,fun a W hk hw K hK=>?_⟩;have e7:=hk.s 7;exact op_val (by simp [go_sem,ev' e7]) (hK _ hw)
     | 3,ho,hv =>
      cases ho;cases hv;refine .inl ⟨rfl,fun a W hk hw K hK=>?_⟩;have e16:=hk.t 1;have e17:=hk.t 2;exact op_val (by simp [go_sem,ev' e16,ev' e17,ik]) (hK _ hw)
     | 4,ho,hv =>
      cases ho;cases hv;refine .inl ⟨rfl,fun a W hk hw K hK=>?_⟩;have e18:=hk.t 3;exact op_val (by simp [go_sem,ev' e18,HXN.out W hw]) (hK _ hw)
     | 5,ho,hv =>
      cases ho;cases hv;refine .inl ⟨rfl,fun a W hk hw K hK=>?_⟩;have e15:=hk.t 0;have e19:=hk.t 4;refine op_callN rfl rfl rfl _ rfl (vs:=#[.slice AR R.length cR,.int .i64 n]) (by simp [e15,e19]) (H64.out W hw) fun e w' h=>?_
      obtain ⟨rfl,rfl⟩:=h;exact ⟨_,rfl,hK _ hw⟩
     | 6,ho,hv =>
      cases ho;cases hv;refine .inl ⟨rfl,fun a W hk hw K hK=>?_⟩;have e20:=hk.t 5;exact op_val (by simp [go_sem,ev' e20]) (hK _ hw)
     | 7,ho,hv =>
      cases ho;cases hv;refine .inl ⟨rfl,fun a W hk hw K hK=>?_⟩;have e3:=hk.s 3;obtain ⟨j0,j1,j2⟩:=HC0.out W hw;exact op_val (v:=(.agg #[.int .i64 C.claims,.slice a1 C.strikes.length c1,.slice a2 C.surveys.length c2])) (by simp [go_sem,ev' e3,j0,j1,j2]) (hK _ hw)
     | 8,ho,hv =>
      cases ho;cases hv;refine .inl ⟨rfl,fun a W hk hw K hK=>?_⟩;have e2:=hk.s 2;exact op_val (by simp [go_sem,ev' e2]) (hK _ hw)
     | 9,ho,hv =>
      cases ho;cases hv;refine .inl ⟨rfl,fun a W hk hw K hK=>?_⟩;have e2:=hk.s 2;exact op_val (by simp [go_sem,ev' e2]) (hK _ hw)
     | 10,ho,hv =>
      cases ho;cases hv;refine .inl ⟨rfl,fun a W hk hw K hK=>?_⟩;have e7:=hk.s 7;exact op_val (by simp [go_sem,ev' e7]) (hK _ hw)
     | 11,ho,hv =>
      cases ho;cases hv;refine .inl ⟨rfl,fun a W hk hw K hK=>?_⟩;have e24:=hk.t 9;have e25:=hk.t 10;exact op_val (by simp [go_sem,ev' e24,ev' e25,ik]) (hK _ hw)
     | 12,ho,hv =>
      cases ho;cases hv;refine .inl ⟨rfl,fun a W hk hw K hK=>?_⟩;have e26:=hk.t 11;exact op_val (by simp [go_sem,ev' e26,HXN.out W hw]) (hK _ hw)
     | 13,ho,hv =>
      cases ho;cases hv;refine .inl ⟨rfl,fun a W hk hw K hK=>?_⟩;have e22:=hk.t 7;have e23:=hk.t 8;have e27:=hk.t 12;refine op_callN rfl rfl rfl _ rfl (vs:=#[(.agg #[.int .i64 C.claims,.slice a1 C.strikes.length c1,.slice a2 C.surveys.length c2]),.slice (some ⟨bl,ol,none⟩) l.length c,.int .i64 n]) (by simp [e22,e23,e27]) (H104.out W hw) fun e w' h=>?_
      obtain ⟨rfl,ha⟩:=h;exact ⟨_,rfl,hK _ (hw.trans ha)⟩
     | 14,ho,hv =>
      cases ho;cases hv;refine .inl ⟨rfl,fun a W hk hw K hK=>?_⟩;have e21:=hk.t 6;have e28:=hk.t 13;exact op_val (by simp [go_sem,ev' e21,ev' e28]) (hK _ hw)
     | _ + 15,_,hv=>cases hv
    intro W hw;simp only [List.drop_succ_cons,List.drop_zero,List.zip_cons_cons,List.zip_nil_right,putAll];simp only [Act.put,List.setIfInBounds_toArray,List.set];have HW:=Lib.hid hw;clear hw H64 H104;cases bs
    ·have HAQ:Hid (PS n = C.strikes.all (QS n)):=Lib.hid (by rw [HPN.out];rfl);clear HPN;obtain ⟨W2,rfl⟩:∃ W2,W2 = W:=⟨_,rfl⟩;go_upto_block 2 with fail
     refine wp_block ?_;go_loopw [8] (fun i wr=>∃ j:Nat,i = .int .i64 j /\ j <= C.strikes.length /\ Aft W2 wr /\ Hid (∀ i,(h:i < C.strikes.length) -> i < j -> QS n C.strikes[i] = true)) (fun i _=>C.strikes.length - (intOf i).toNat)
     case atStart=>exact ⟨0,rfl,by omega,Aft.refl _,Lib.hid fun i _ h=>by omega⟩
     case round =>
      obtain ⟨j,rfl,hj,hz,HQO⟩:=hrel;have HZ:=Lib.hid (HY.out.trans (HW.out.trans hz));have HZ2:=Lib.hid hz;clear hz;obtain ⟨k0,k1,k2⟩:=box31 (HB.out.aft HZ.out);have k3:=(HB.out.aft HZ.out).lt;by_cases hjl:j < C.strikes.length
      ·have t2:decide (j < C.strikes.length) = true:=by simpa using hjl
       have ij:(0:Int) <= (j:Int) /\ (j:Int) < (C.strikes.length:Int):=by omega
       obtain ⟨bs,os,hbs,hlts,hcs⟩:=(HC.out.aft HZ.out).strikes.at hjl;subst hbs;obtain ⟨x1,x2⟩:=hcs j hjl
       have HQN:Hid (QS n C.strikes[j] = false -> C.strikes.all (QS n) = false):=Lib.hid fun h=>by
        rw [Bool.eq_false_iff];intro h';have:=List.all_eq_true.1 h' _ (List.getElem_mem hjl);rw [h] at this;cases this
       obtain ⟨⟨y0,y1⟩,hyz⟩:∃ s,C.strikes[j] = s:=⟨_,rfl⟩;have HYZ:=Lib.hid hyz;rw [hyz] at x1 x2 HQN;dsimp only at x1 x2;have HQJ:=Lib.hid (HQS.out n (y0,y1));dsimp only at HQJ;have HX1:Hid (∀ W,Aft wr W -> W.cell? ⟨bs,os + j * 2,none⟩ = some (.int .i64 y0)):=Lib.hid fun W h=>cellA x1 hlts h
       have HX2:Hid (∀ W,Aft wr W -> W.cell? ⟨bs,os + j * 2 + 1,none⟩ = some (.int .i64 y1)):=Lib.hid fun W h=>cellA x2 hlts h
       have HC0:Hid (∀ W,Aft wr W -> W.cell? ⟨bC,0,none⟩ = some (.int .i64 C.claims) /\ W.cell? ⟨bC,1,none⟩ = some (.slice (some ⟨bs,os,none⟩) C.strikes.length c1) /\ W.cell? ⟨bC,2,none⟩ = some (.slice a2 C.surveys.length c2)):=Lib.hid fun W h=>box31 (HB.out.aft (HZ.out.trans h))
       have HXN:Hid (∀ W,Aft wr W -> W.cell? ⟨bl,ol + k,none⟩ = some (.int .i64 n)):=Lib.hid fun W h=>HXN.out W (HW.out.trans (HZ2.out.trans h))
       clear hcs hyz x1 x2;go_upto_region 9 with fail
       clear k0 k1 k2 k3;cases hb1:(y1 == n)
       ·have HQT:Hid (QS n (y0,y1) = true):=Lib.hid (by
         rw [HQJ.out,decide_eq_false (show ¬ y1 = n by simpa using hb1)];rfl)
        refine wp_region_valsG (by kernel_rfl) 71 rfl (by kernel_rfl) (by kernel_rfl) [.pointer (some ⟨bC,1,none⟩),.slice (some ⟨bs,os,none⟩) C.strikes.length c1,.int .i64 j,.pointer (some ⟨bs,os + j * 2,none⟩),.pointer (some ⟨bs,os + j * 2 + 1,none⟩),.int .i64 y1,.slice (some ⟨bl,ol,none⟩) l.length c,.int .i64 k,.pointer (some ⟨bl,ol + k,none⟩),.int .i64 n,.bool false,.bool false,undef,undef,undef,undef,undef,undef,undef,undef,undef,.bool false,.bool false,undef,undef,undef,undef,undef,undef,undef,undef,undef,undef,.bool false] rfl (fun W=>Aft wr W) (Aft.drew _) ?st4 ?fi4
        case st4 =>
         intro i o v ho hv
         match i,ho,hv with
         | 0,ho,hv =>
          cases ho;cases hv;refine .inl ⟨rfl,fun a W hk hw K hK=>?_⟩;have e3:=hk.s 3;exact op_val (by simp [go_sem,ev' e3]) (hK _ hw)
         | 1,ho,hv =>
          cases ho;cases hv;refine .inl ⟨rfl,fun a W hk hw K hK=>?_⟩;have e37:=hk.t 0;exact op_val (by simp [go_sem,ev' e37,(HC0.out W hw).2.1]) (hK _ hw)
         | 2,ho,hv =>
          cases ho;cases hv;refine .inl ⟨rfl,fun a W hk hw K hK=>?_⟩;have e8:=hk.s 8;exact op_val (by simp [go_sem,ev' e8]) (hK _ hw)
         | 3,ho,hv =>
          cases ho;cases hv;refine .inl ⟨rfl,fun a W hk hw K hK=>?_⟩;have e38:=hk.t 1;have e39:=hk.t 2;exact op_val (by simp [go_sem,ev' e38,ev' e39,ij]) (hK _ hw)
         | 4,ho,hv =>
          cases ho;cases hv;refine .inl ⟨rfl,fun a W hk hw K hK=>?_⟩;have e40:=hk.t 3;exact op_val (by simp [go_sem,ev' e40]) (hK _ hw)
         | 5,ho,hv =>
          cases ho;cases hv;refine .inl ⟨rfl,fun a W hk hw K hK=>?_⟩;have e41:=hk.t 4;exact op_val (by simp [go_sem,ev' e41,HX2.out W hw]) (hK _ hw)
         | 6,ho,hv =>
          cases ho;cases hv;refine .inl ⟨rfl,fun a W hk hw K hK=>?_⟩;have e2:=hk.s 2;exact op_val (by simp [go_sem,ev' e2]) (hK _ hw)
         | 7,ho,hv =>
          cases ho;cases hv;refine .inl ⟨rfl,fun a W hk hw K hK=>?_⟩;have e7:=hk.s 7;exact op_val (by simp [go_sem,ev' e7]) (hK _ hw)
         | 8,ho,hv =>
          cases ho;cases hv;refine .inl ⟨rfl,fun a W hk hw K hK=>?_⟩;have e43:=hk.t 6;have e44:=hk.t 7;exact op_val (by simp [go_sem,ev' e43,ev' e44,ik]) (hK _ hw)
         | 9,ho,hv =>
          cases ho;cases hv;refine .inl ⟨rfl,fun a W hk hw K hK=>?_⟩;have e45:=hk.t 8;exact op_val (by simp [go_sem,ev' e45,HXN.out W hw]) (hK _ hw)
         | 10,ho,hv =>
          cases ho;cases hv;refine .inl ⟨rfl,fun a W hk hw K hK=>?_⟩;have e42:=hk.t 5;have e46:=hk.t 9;exact op_val (by simp [go_sem,ev' e42,ev' e46,hb1]) (hK _ hw)
         | 11,ho,hv =>
          cases ho;cases hv;refine .inl ⟨rfl,fun a W hk hw K hK=>?_⟩;have e47:=hk.t 10;exact op_val (by simp [go_sem,ev' e47]) (hK _ hw)
         | 12,ho,hv=>cases ho;cases hv;exact .inr ⟨rfl,rfl⟩
         | 13,ho,hv=>cases ho;cases hv;exact .inr ⟨rfl,rfl⟩
         | 14,ho,hv=>cases ho;cases hv;exact .inr ⟨rfl,rfl⟩
         | 15,ho,hv=>cases ho;cases hv;exact .inr ⟨rfl,rfl⟩
         | 16,ho,hv=>cases ho;cases hv;exact .inr ⟨rfl,rfl⟩
         | 17,ho,hv=>cases ho;cases hv;exact .inr ⟨rfl,rfl⟩
         | 18,ho,hv=>cases ho;cases hv;exact .inr ⟨rfl,rfl⟩
         | 19,ho,hv=>cases ho;cases hv;exact .inr ⟨rfl,rfl⟩
         | 20,ho,hv=>cases ho;cases hv;exact .inr ⟨rfl,rfl⟩
         | 21,ho,hv =>
          cases ho;cases hv;refine .inl ⟨rfl,fun a W hk hw K hK=>?_⟩;have e48:=hk.t 11;have e57:=hk.t 20;exact op_val (by simp [go_sem,ev' e48,ev' e57]) (hK _ hw)
         | 22,ho,hv =>
          cases ho;cases hv;refine .inl ⟨rfl,fun a W hk hw K hK=>?_⟩;have e58:=hk.t 21;exact op_val (by simp [go_sem,ev' e58]) (hK _ hw)
         | 23,ho,hv=>cases ho;cases hv;exact .inr ⟨rfl,rfl⟩
         | 24,ho,hv=>cases ho;cases hv;exact .inr ⟨rfl,rfl⟩
         | 25,ho,hv=>cases ho;cases hv;exact .inr ⟨rfl,rfl⟩
         | 26,ho,hv=>cases ho;cases hv;exact .inr ⟨rfl,rfl⟩
         | 27,ho,hv=>cases ho;cases hv;exact .inr ⟨rfl,rfl⟩
         | 28,ho,hv=>cases ho;cases hv;exact .inr ⟨rfl,rfl⟩
         | 29,ho,hv=>cases ho;cases hv;exact .inr ⟨rfl,rfl⟩
         | 30,ho,hv=>cases ho;cases hv;exact .inr ⟨rfl,rfl⟩
         | 31,ho,hv=>cases ho;cases hv;exact .inr ⟨rfl,rfl⟩
         | 32,ho,hv=>cases ho;cases hv;exact .inr ⟨rfl,rfl⟩
         | 33,ho,hv =>
          cases ho;cases hv;refine .inl ⟨rfl,fun a W hk hw K hK=>?_⟩;have e59:=hk.t 22;have e69:=hk.t 32;exact op_val (by simp [go_sem,ev' e59,ev' e69]) (hK _ hw)
         | _ + 34,_,hv=>cases hv
        intro W hw;simp only [List.drop_succ_cons,List.drop_zero,List.zip_cons_cons,List.zip_nil_right,putAll];simp only [Act.put,List.setIfInBounds_toArray,List.set]
        have HQO2:Hid (∀ i,(h:i < C.strikes.length) -> i < j + 1 -> QS n C.strikes[i] = true):=Lib.hid fun i h h'=>by
         by_cases e:i = j
         ·subst e;rw [HYZ.out];exact HQT.out
         ·exact HQO.out i h (by omega)
        go_wp2_with fail
        exact ⟨⟨j + 1,by go_num,by omega,HZ2.out.trans hw,HQO2⟩,by simp [intOf];omega⟩
       ·obtain ⟨br,hbr⟩:∃ br,refL R y0 = br:=⟨_,rfl⟩;have hbr':hasB R y0 = br:=hbr;have H64:Hid (∀ W,Aft wr W -> Calls Tryz.prog 64 #[.slice AR R.length cR,.int .i64 y0] W fun e w'=>e = .returned (.bool br) /\ W = w'):=Lib.hid fun W h=>by rw [<- hbr'];exact hasR_any AR R cR y0 W (HR.out.aft (HZ.out.trans h))
        rw [decide_eq_true (show y1 = n by simpa using hb1),hbr] at HQJ;clear hbr hbr';cases br
        ·obtain ⟨bq,hbq⟩:∃ bq,strikeL C.strikes (refL l) y0 = bq:=⟨_,rfl⟩;have H104:Hid (∀ W,Aft wr W -> Calls Tryz.prog 104 #[.agg #[.int .i64 C.claims,.slice (some ⟨bs,os,none⟩) C.strikes.length c1,.slice a2 C.surveys.length c2],.slice (some ⟨bl,ol,none⟩) l.length c,.int .i64 y0] W fun e w'=>e = .returned (.bool bq) /\ Aft W w'):=Lib.hid fun W h=>by rw [<- hbq];exact strikesR_any C (some ⟨bs,os,none⟩) a2 c1 c2 l (some ⟨bl,ol,none⟩) c y0 W (HC.out.aft (HZ.out.trans h)) (HA.out.aft (HZ.out.trans h))
         rw [hbq] at HQJ;clear hbq;refine wp_region_valsG (by kernel_rfl) 71 rfl (by kernel_rfl) (by kernel_rfl) [.pointer (some ⟨bC,1,none⟩),.slice (some ⟨bs,os,none⟩) C.strikes.length c1,.int .i64 j,.pointer (some ⟨bs,os + j * 2,none⟩),.pointer (some ⟨bs,os + j * 2 + 1,none⟩),.int .i64 y1,.slice (some ⟨bl,ol,none⟩) l.length c,.int .i64 k,.pointer (some ⟨bl,ol + k,none⟩),.int .i64 n,.bool true,.bool true,.slice AR R.length cR,.pointer (some ⟨bC,1,none⟩),.slice (some ⟨bs,os,none⟩) C.strikes.length c1,.int .i64 j,.pointer (some ⟨bs,os + j * 2,none⟩),.pointer (some ⟨bs,os + j * 2,none⟩),.int .i64 y0,.bool false,.bool true,.bool true,.bool true,(.agg #[.int .i64 C.claims,.slice (some ⟨bs,os,none⟩) C.strikes.length c1,.slice a2 C.surveys.length c2]),.slice (some ⟨bl,ol,none⟩) l.length c,.pointer (some ⟨bC,1,none⟩),.slice (some ⟨bs,os,none⟩) C.strikes.length c1,.int .i64 j,.pointer (some ⟨bs,os + j * 2,none⟩),.pointer (some ⟨bs,os + j * 2,none⟩),.int .i64 y0,.bool bq,.bool (!bq),.bool (!bq)] rfl (fun W=>Aft wr W) (Aft.drew _) ?st5 ?fi5
         case st5 =>
          intro i o v ho hv
          match i,ho,hv with
          | 0,ho,hv =>
           cases ho;cases hv;refine .inl ⟨rfl,fun a W hk hw K hK=>?_⟩;have e3:=hk.s 3;exact op_val (by simp [go_sem,ev' e3]) (hK _ hw)
          | 1,ho,hv =>
           cases ho;cases hv;refine .inl ⟨rfl,fun a W hk hw K hK=>?_⟩;have e37:=hk.t 0;exact op_val (by simp [go_sem,ev' e37,(HC0.out W hw).2.1]) (hK _ hw)
          | 2,ho,hv =>
           cases ho;cases hv;refine .inl ⟨rfl,fun a W hk hw K hK=>?_⟩;have e8:=hk.s 8;exact op_val (by simp [go_sem,ev' e8]) (hK _ hw)
          | 3,ho,hv =>
           cases ho;cases hv;refine .inl ⟨rfl,fun a W hk hw K hK=>?_⟩;have e38:=hk.t 1;have e39:=hk.t 2;exact op_val (by simp [go_sem,ev' e38,ev' e39,ij]) (hK _ hw)
          | 4,ho,hv =>
           cases ho;cases hv;refine .inl ⟨rfl,fun a W hk hw K hK=>?_⟩;have e40:=hk.t 3;exact op_val (by simp [go_sem,ev' e40]) (hK _ hw)
          | 5,ho,hv =>
           cases ho;cases hv;refine .inl ⟨rfl,fun a W hk hw K hK=>?_⟩;have e41:=hk.t 4;exact op_val (by simp [go_sem,ev' e41,HX2.out W hw]) (hK _ hw)
          | 6,ho,hv =>
           cases ho;cases hv;refine .inl ⟨rfl,fun a W hk hw K hK=>?_⟩;have e2:=hk.s 2;exact op_val (by simp [go_sem,ev' e2]) (hK _ hw)
          | 7,ho,hv =>
           cases ho;cases hv;refine .inl ⟨rfl,fun a W hk hw K hK=>?_⟩;have e7:=hk.s 7;exact op_val (by simp [go_sem,ev' e7]) (hK _ hw)
          | 8,ho,hv =>
           cases ho;cases hv;refine .inl ⟨rfl,fun a W hk hw K hK=>?_⟩;have e43:=hk.t 6;have e44:=hk.t 7;exact op_val (by simp [go_sem,ev' e43,ev' e44,ik]) (hK _ hw)
          | 9,ho,hv =>
           cases ho;cases hv;refine .inl ⟨rfl,fun a W hk hw K hK=>?_⟩;have e45:=hk.t 8;exact op_val (by simp [go_sem,ev' e45,HXN.out W hw]) (hK _ hw)
          | 10,ho,hv =>
           cases ho;cases hv;refine .inl ⟨rfl,fun a W hk hw K hK=>?_⟩;have e42:=hk.t 5;have e46:=hk.t 9;exact op_val (by simp [go_sem,ev' e42,ev' e46,hb1]) (hK _ hw)
          | 11,ho,hv =>
           cases ho;cases hv;refine .inl ⟨rfl,fun a W hk hw K hK=>?_⟩;have e47:=hk.t 10;exact op_val (by simp [go_sem,ev' e47]) (hK _ hw)
          | 12,ho,hv =>
           cases ho;cases hv;refine .inl ⟨rfl,fun a W hk hw K hK=>?_⟩;have e1:=hk.s 1;exact op_val (by simp [go_sem,ev' e1]) (hK _ hw)
          | 13,ho,hv =>
           cases ho;cases hv;refine .inl ⟨rfl,fun a W hk hw K hK=>?_⟩;have e3:=hk.s 3;exact op_val (by simp [go_sem,ev' e3]) (hK _ hw)
          | 14,ho,hv =>
           cases ho;cases hv;refine .inl ⟨rfl,fun a W hk hw K hK=>?_⟩;have e50:=hk.t 13;exact op_val (by simp [go_sem,ev' e50,(HC0.out W hw).2.1]) (hK _ hw)
          | 15,ho,hv =>
           cases ho;cases hv;refine .inl ⟨rfl,fun a W hk hw K hK=>?_⟩;have e8:=hk.s 8;exact op_val (by simp [go_sem,ev' e8]) (hK _ hw)
          | 16,ho,hv =>
           cases ho;cases hv;refine .inl ⟨rfl,fun a W hk hw K hK=>?_⟩;have e51:=hk.t 14;have e52:=hk.t 15;exact op_val (by simp [go_sem,ev' e51,ev' e52,ij]) (hK _ hw)
          | 17,ho,hv =>
           cases ho;cases hv;refine .inl ⟨rfl,fun a W hk hw K hK=>?_⟩;have e53:=hk.t 16;exact op_val (by simp [go_sem,ev' e53]) (hK _ hw)
          | 18,ho,hv =>
           cases ho;cases hv;refine .inl ⟨rfl,fun a W hk hw K hK=>?_⟩;have e54:=hk.t 17;exact op_val (by simp [go_sem,ev' e54,HX1.out W hw]) (hK _ hw)
          | 19,ho,hv =>
           cases ho;cases hv;refine .inl ⟨rfl,fun a W hk hw K hK=>?_⟩;have e49:=hk.t 12;have e55:=hk.t 18;refine op_callN rfl rfl rfl _ rfl (vs:=#[.slice AR R.length cR,.int .i64 y0]) (by simp [e49,e55]) (H64.out W hw) fun e w' h=>?_
           obtain ⟨rfl,rfl⟩:=h;exact ⟨_,rfl,hK _ hw⟩
          | 20,ho,hv =>
           cases ho;cases hv;refine .inl ⟨rfl,fun a W hk hw K hK=>?_⟩;have e56:=hk.t 19;exact op_val (by simp [go_sem,ev' e56]) (hK _ hw)
          | 21,ho,hv =>
           cases ho;cases hv;refine .inl ⟨rfl,fun a W hk hw K hK=>?_⟩;have e48:=hk.t 11;have e57:=hk.t 20;exact op_val (by simp [go_sem,ev' e48,ev' e57]) (hK _ hw)
          | 22,ho,hv =>
           cases ho;cases hv;refine .inl ⟨rfl,fun a W hk hw K hK=>?_⟩;have e58:=hk.t 21;exact op_val (by simp [go_sem,ev' e58]) (hK _ hw)
          | 23,ho,hv =>
           cases ho;cases hv;refine .inl ⟨rfl,fun a W hk hw K hK=>?_⟩;have e3:=hk.s 3;obtain ⟨j0,j1,j2⟩:=HC0.out W hw;exact op_val (v:=(.agg #[.int .i64 C.claims,.slice (some ⟨bs,os,none⟩) C.strikes.length c1,.slice a2 C.surveys.length c2])) (by simp [go_sem,ev' e3,j0,j1,j2]) (hK _ hw)
          | 24,ho,hv =>
           cases ho;cases hv;refine .inl ⟨rfl,fun a W hk hw K hK=>?_⟩;have e2:=hk.s 2;exact op_val (by simp [go_sem,ev' e2]) (hK _ hw)
          | 25,ho,hv =>
           cases ho;cases hv;refine .inl ⟨rfl,fun a W hk hw K hK=>?_⟩;have e3:=hk.s 3;exact op_val (by simp [go_sem,ev' e3]) (hK _ hw)
          | 26,ho,hv =>
           cases ho;cases hv;refine .inl ⟨rfl,fun a W hk hw K hK=>?_⟩;have e62:=hk.t 25;exact op_val (by simp [go_sem,ev' e62,(HC0.out W hw).2.1]) (hK _ hw)
          | 27,ho,hv =>
           cases ho;cases hv;refine .inl ⟨rfl,fun a W hk hw K hK=>?_⟩;have e8:=hk.s 8;exact op_val (by simp [go_sem,ev' e8]) (hK _ hw)
          | 28,ho,hv =>
           cases ho;cases hv;refine .inl ⟨rfl,fun a W hk hw K hK=>?_⟩;have e63:=hk.t 26;have e64:=hk.t 27;exact op_val (by simp [go_sem,ev' e63,ev' e64,ij]) (hK _ hw)
          | 29,ho,hv =>
           cases ho;cases hv;refine .inl ⟨rfl,fun a W hk hw K hK=>?_⟩;have e65:=hk.t 28;exact op_val (by simp [go_sem,ev' e65]) (hK _ hw)
          | 30,ho,hv =>
           cases ho;cases hv;refine .inl ⟨rfl,fun a W hk hw K hK=>?_⟩;have e66:=hk.t 29;exact op_val (by simp [go_sem,ev' e66,HX1.out W hw]) (hK _ hw)
          | 31,ho,hv =>
           cases ho;cases hv;refine .inl ⟨rfl,fun a W hk hw K hK=>?_⟩;have e60:=hk.t 23;have e61:=hk.t 24;have e67:=hk.t 30;refine op_callN rfl rfl rfl _ rfl (vs:=#[(.agg #[.int .i64 C.claims,.slice (some ⟨bs,os,none⟩) C.strikes.length c1,.slice a2 C.surveys.length c2]),.slice (some ⟨bl,ol,none⟩) l.length c,.int .i64 y0]) (by simp [e60,e61,e67]) (H104.out W hw) fun e w' h=>?_
           obtain ⟨rfl,ha⟩:=h;exact ⟨_,rfl,hK _ (hw.trans ha)⟩
          | 32,ho,hv =>
           cases ho;cases hv;refine .inl ⟨rfl,fun a W hk hw K hK=>?_⟩;have e68:=hk.t 31;exact op_val (by simp [go_sem,ev' e68]) (hK _ hw)
          | 33,ho,hv =>
           cases ho;cases hv;refine .inl ⟨rfl,fun a W hk hw K hK=>?_⟩;have e59:=hk.t 22;have e69:=hk.t 32;exact op_val (by simp [go_sem,ev' e59,ev' e69]) (hK _ hw)
          | _ + 34,_,hv=>cases hv
         intro W hw;simp only [List.drop_succ_cons,List.drop_zero,List.zip_cons_cons,List.zip_nil_right,putAll];simp only [Act.put,List.setIfInBounds_toArray,List.set];cases bq
         ·have HF:Hid (l.all PS = false):=Lib.hid (HNO.out (by rw [HAQ.out];exact HQN.out (by rw [HQJ.out];rfl)));go_wp2_with fail
          go_ret;exact ⟨ret_bool HF.out.symm,H0.out.trans (HZ.out.trans hw)⟩
         ·have HQO2:Hid (∀ i,(h:i < C.strikes.length) -> i < j + 1 -> QS n C.strikes[i] = true):=Lib.hid fun i h h'=>by
           by_cases e:i = j
           ·subst e;rw [HYZ.out,HQJ.out];rfl
           ·exact HQO.out i h (by omega)
          go_wp2_with fail
          exact ⟨⟨j + 1,by go_num,by omega,HZ2.out.trans hw,HQO2⟩,by simp [intOf];omega⟩
        ·skip
         refine wp_region_valsG (by kernel_rfl) 71 rfl (by kernel_rfl) (by kernel_rfl) [.pointer (some ⟨bC,1,none⟩),.slice (some ⟨bs,os,none⟩) C.strikes.length c1,.int .i64 j,.pointer (some ⟨bs,os + j * 2,none⟩),.pointer (some ⟨bs,os + j * 2 + 1,none⟩),.int .i64 y1,.slice (some ⟨bl,ol,none⟩) l.length c,.int .i64 k,.pointer (some ⟨bl,ol + k,none⟩),.int .i64 n,.bool true,.bool true,.slice AR R.length cR,.pointer (some ⟨bC,1,none⟩),.slice (some ⟨bs,os,none⟩) C.strikes.length c1,.int .i64 j,.pointer (some ⟨bs,os + j * 2,none⟩),.pointer (some ⟨bs,os + j * 2,none⟩),.int .i64 y0,.bool true,.bool false,.bool false,.bool false,undef,undef,undef,undef,undef,undef,undef,undef,undef,undef,.bool false] rfl (fun W=>Aft wr W) (Aft.drew _) ?st6 ?fi6
         case st6 =>
          intro i o v ho hv
          match i,ho,hv with
          | 0,ho,hv =>
           cases ho;cases hv;refine .inl ⟨rfl,fun a W hk hw K hK=>?_⟩;have e3:=hk.s 3;exact op_val (by simp [go_sem,ev' e3]) (hK _ hw)
          | 1,ho,hv =>
           cases ho;cases hv;refine .inl ⟨rfl,fun a W hk hw K hK=>?_⟩;have e37:=hk.t 0;exact op_val (by simp [go_sem,ev' e37,(HC0.out W hw).2.1]) (hK _ hw)
          | 2,ho,hv =>
           cases ho;cases hv;refine .inl ⟨rfl,fun a W hk hw K hK=>?_⟩;have e8:=hk.s 8;exact op_val (by simp [go_sem,ev' e8]) (hK _ hw)
          | 3,ho,hv =>
           cases ho;cases hv;refine .inl ⟨rfl,fun a W hk hw K hK=>?_⟩;have e38:=hk.t 1;have e39:=hk.t 2;exact op_val (by simp [go_sem,ev' e38,ev' e39,ij]) (hK _ hw)
          | 4,ho,hv =>
           cases ho;cases hv;refine .inl ⟨rfl,fun a W hk hw K hK=>?_⟩;have e40:=hk.t 3;exact op_val (by simp [go_sem,ev' e40]) (hK _ hw)
          | 5,ho,hv =>
           cases ho;cases hv;refine .inl ⟨rfl,fun a W hk hw K hK=>?_⟩;have e41:=hk.t 4;exact op_val (by simp [go_sem,ev' e41,HX2.out W hw]) (hK _ hw)
          | 6,ho,hv =>
           cases ho;cases hv;refine .inl ⟨rfl,fun a W hk hw K hK=>?_⟩;have e2:=hk.s 2;exact op_val (by simp [go_sem,ev' e2]) (hK _ hw)
          | 7,ho,hv =>
           cases ho;cases hv;refine .inl ⟨rfl,fun a W hk hw K hK=>?_⟩;have e7:=hk.s 7;exact op_val (by simp [go_sem,ev' e7]) (hK _ hw)
          | 8,ho,hv =>
           cases ho;cases hv;refine .inl ⟨rfl,fun a W hk hw K hK=>?_⟩;have e43:=hk.t 6;have e44:=hk.t 7;exact op_val (by simp [go_sem,ev' e43,ev' e44,ik]) (hK _ hw)
          | 9,ho,hv =>
           cases ho;cases hv;refine .inl ⟨rfl,fun a W hk hw K hK=>?_⟩;have e45:=hk.t 8;exact op_val (by simp [go_sem,ev' e45,HXN.out W hw]) (hK _ hw)
          | 10,ho,hv =>
           cases ho;cases hv;refine .inl ⟨rfl,fun a W hk hw K hK=>?_⟩;have e42:=hk.t 5;have e46:=hk.t 9;exact op_val (by simp [go_sem,ev' e42,ev' e46,hb1]) (hK _ hw)
          | 11,ho,hv =>
           cases ho;cases hv;refine .inl ⟨rfl,fun a W hk hw K hK=>?_⟩;have e47:=hk.t 10;exact op_val (by simp [go_sem,ev' e47]) (hK _ hw)
          | 12,ho,hv =>
           cases ho;cases hv;refine .inl ⟨rfl,fun a W hk hw K hK=>?_⟩;have e1:=hk.s 1;exact op_val (by simp [go_sem,ev' e1]) (hK _ hw)
          | 13,ho,hv =>
           cases ho;cases hv;refine .inl ⟨rfl,fun a W hk hw K hK=>?_⟩;have e3:=hk.s 3;exact op_val (by simp [go_sem,ev' e3]) (hK _ hw)
          | 14,ho,hv =>
           cases ho;cases hv;refine .inl ⟨rfl,fun a W hk hw K hK=>?_⟩;have e50:=hk.t 13;exact op_val (by simp [go_sem,ev' e50,(HC0.out W hw).2.1]) (hK _ hw)
          | 15,ho,hv =>
           cases ho;cases hv;refine .inl ⟨rfl,fun a W hk hw K hK=>?_⟩;have e8:=hk.s 8;exact op_val (by simp [go_sem,ev' e8]) (hK _ hw)
          | 16,ho,hv =>
           cases ho;cases hv;refine .inl ⟨rfl,fun a W hk hw K hK=>?_⟩;have e51:=hk.t 14;have e52:=hk.t 15;exact op_val (by simp [go_sem,ev' e51,ev' e52,ij]) (hK _ hw)
          | 17,ho,hv =>
           cases ho;cases hv;refine .inl ⟨rfl,fun a W hk hw K hK=>?_⟩;have e53:=hk.t 16;exact op_val (by simp [go_sem,ev' e53]) (hK _ hw)
          | 18,ho,hv =>
           cases ho;cases hv;refine .inl ⟨rfl,fun a W hk hw K hK=>?_⟩;have e54:=hk.t 17;exact op_val (by simp [go_sem,ev' e54,HX1.out W hw]) (hK _ hw)
          | 19,ho,hv =>
           cases ho;cases hv;refine .inl ⟨rfl,fun a W hk hw K hK=>?_⟩;have e49:=hk.t 12;have e55:=hk.t 18;refine op_callN rfl rfl rfl _ rfl (vs:=#[.slice AR R.length cR,.int .i64 y0]) (by simp [e49,e55]) (H64.out W hw) fun e w' h=>?_
           obtain ⟨rfl,rfl⟩:=h;exact ⟨_,rfl,hK _ hw⟩
          | 20,ho,hv =>
           cases ho;cases hv;refine .inl ⟨rfl,fun a W hk hw K hK=>?_⟩;have e56:=hk.t 19;exact op_val (by simp [go_sem,ev' e56]) (hK _ hw)
          | 21,ho,hv =>
           cases ho;cases hv;refine .inl ⟨rfl,fun a W hk hw K hK=>?_⟩;have e48:=hk.t 11;have e57:=hk.t 20;exact op_val (by simp [go_sem,ev' e48,ev' e57]) (hK _ hw)
          | 22,ho,hv =>
           cases ho;cases hv;refine .inl ⟨rfl,fun a W hk hw K hK=>?_⟩;have e58:=hk.t 21;exact op_val (by simp [go_sem,ev' e58]) (hK _ hw)
          | 23,ho,hv=>cases ho;cases hv;exact .inr ⟨rfl,rfl⟩
          | 24,ho,hv=>cases ho;cases hv;exact .inr ⟨rfl,rfl⟩
          | 25,ho,hv=>cases ho;cases hv;exact .inr ⟨rfl,rfl⟩
          | 26,ho,hv=>cases ho;cases hv;exact .inr ⟨rfl,rfl⟩
          | 27,ho,hv=>cases ho;cases hv;exact .inr ⟨rfl,rfl⟩
          | 28,ho,hv=>cases ho;cases hv;exact .inr ⟨rfl,rfl⟩
          | 29,ho,hv=>cases ho;cases hv;exact .inr ⟨rfl,rfl⟩
          | 30,ho,hv=>cases ho;cases hv;exact .inr ⟨rfl,rfl⟩
          | 31,ho,hv=>cases ho;cases hv;exact .inr ⟨rfl,rfl⟩
          | 32,ho,hv=>cases ho;cases hv;exact .inr ⟨rfl,rfl⟩
          | 33,ho,hv =>
           cases ho;cases hv;refine .inl ⟨rfl,fun a W hk hw K hK=>?_⟩;have e59:=hk.t 22;have e69:=hk.t 32;exact op_val (by simp [go_sem,ev' e59,ev' e69]) (hK _ hw)
          | _ + 34,_,hv=>cases hv
         intro W hw;simp only [List.drop_succ_cons,List.drop_zero,List.zip_cons_cons,List.zip_nil_right,putAll];simp only [Act.put,List.setIfInBounds_toArray,List.set]
         have HQO2:Hid (∀ i,(h:i < C.strikes.length) -> i < j + 1 -> QS n C.strikes[i] = true):=Lib.hid fun i h h'=>by
          by_cases e:i = j
          ·subst e;rw [HYZ.out,HQJ.out]
           simp
          ·exact HQO.out i h (by omega)
         go_wp2_with fail
         exact ⟨⟨j + 1,by go_num,by omega,HZ2.out.trans hw,HQO2⟩,by simp [intOf];omega⟩
      ·have t2:decide (j < C.strikes.length) = false:=by simpa using hjl
       have HOK2:Hid (∀ i,(h:i < l.length) -> i < k + 1 -> PS l[i] = true):=Lib.hid fun i h h'=>by
        by_cases e:i = k
        ·subst e;rw [HLK.out,HAQ.out,List.all_eq_true];intro s hs;obtain ⟨i',hi',rfl⟩:=List.mem_iff_getElem.1 hs;exact HQO.out i' hi' (by omega)
        ·exact HOK.out i h (by omega)
       clear HQO;go_wp2_with fail
       exact ⟨⟨k + 1,by go_num,by omega,HZ.out,HOK2⟩,by simp [intOf];omega⟩
    ·have HF:Hid (l.all PS = false):=Lib.hid (HNO.out (by rw [HPN.out];rfl));go_wp2_with fail
     go_ret;exact ⟨ret_bool HF.out.symm,H0.out.trans (HY.out.trans HW.out)⟩
   ·have HF:Hid (l.all PS = false):=Lib.hid (HNO.out (by rw [HPN.out];rfl));refine wp_region_valsG (by kernel_rfl) 71 rfl (by kernel_rfl) (by kernel_rfl) [.slice AR R.length cR,.slice (some ⟨bl,ol,none⟩) l.length c,.int .i64 k,.pointer (some ⟨bl,ol + k,none⟩),.int .i64 n,.bool true,.bool true,undef,undef,undef,undef,undef,undef,undef,.bool true] rfl (fun W=>Aft wr W) (Aft.drew _) ?st7 ?fi7
    case st7 =>
     intro i o v ho hv
     match i,ho,hv with
     | 0,ho,hv =>
      cases ho;cases hv;refine .inl ⟨rfl,fun a W hk hw K hK=>?_⟩;have e1:=hk.s 1;exact op_val (by simp [go_sem,ev' e1]) (hK _ hw)
     | 1,ho,hv =>
      cases ho;cases hv;refine .inl ⟨rfl,fun a W hk hw K hK=>?_⟩;have e2:=hk.s 2;exact op_val (by simp [go_sem,ev' e2]) (hK _ hw)
     | 2,ho,hv =>
      cases ho;cases hv;refine .inl ⟨rfl,fun a W hk hw K hK=>?_⟩;have e7:=hk.s 7;exact op_val (by simp [go_sem,ev' e7]) (hK _ hw)
     | 3,ho,hv =>
      cases ho;cases hv;refine .inl ⟨rfl,fun a W hk hw K hK=>?_⟩;have e16:=hk.t 1;have e17:=hk.t 2;exact op_val (by simp [go_sem,ev' e16,ev' e17,ik]) (hK _ hw)
     | 4,ho,hv =>
      cases ho;cases hv;refine .inl ⟨rfl,fun a W hk hw K hK=>?_⟩;have e18:=hk.t 3;exact op_val (by simp [go_sem,ev' e18,HXN.out W hw]) (hK _ hw)
     | 5,ho,hv =>
      cases ho;cases hv;refine .inl ⟨rfl,fun a W hk hw K hK=>?_⟩;have e15:=hk.t 0;have e19:=hk.t 4;refine op_callN rfl rfl rfl _ rfl (vs:=#[.slice AR R.length cR,.int .i64 n]) (by simp [e15,e19]) (H64.out W hw) fun e w' h=>?_
      obtain ⟨rfl,rfl⟩:=h;exact ⟨_,rfl,hK _ hw⟩
     | 6,ho,hv =>
      cases ho;cases hv;refine .inl ⟨rfl,fun a W hk hw K hK=>?_⟩;have e20:=hk.t 5;exact op_val (by simp [go_sem,ev' e20]) (hK _ hw)
     | 7,ho,hv=>cases ho;cases hv;exact .inr ⟨rfl,rfl⟩
     | 8,ho,hv=>cases ho;cases hv;exact .inr ⟨rfl,rfl⟩
     | 9,ho,hv=>cases ho;cases hv;exact .inr ⟨rfl,rfl⟩
     | 10,ho,hv=>cases ho;cases hv;exact .inr ⟨rfl,rfl⟩
     | 11,ho,hv=>cases ho;cases hv;exact .inr ⟨rfl,rfl⟩
     | 12,ho,hv=>cases ho;cases hv;exact .inr ⟨rfl,rfl⟩
     | 13,ho,hv=>cases ho;cases hv;exact .inr ⟨rfl,rfl⟩
     | 14,ho,hv =>
      cases ho;cases hv;refine .inl ⟨rfl,fun a W hk hw K hK=>?_⟩;have e21:=hk.t 6;have e28:=hk.t 13;exact op_val (by simp [go_sem,ev' e21,ev' e28]) (hK _ hw)
     | _ + 15,_,hv=>cases hv
    intro W hw;simp only [List.drop_succ_cons,List.drop_zero,List.zip_cons_cons,List.zip_nil_right,putAll];simp only [Act.put,List.setIfInBounds_toArray,List.set];go_wp2_with fail
    go_ret;exact ⟨ret_bool HF.out.symm,H0.out.trans (HY.out.trans hw)⟩
  ·have t1:decide (k < l.length) = false:=by simpa using hkl
   have HF:Hid (l.all PS = true):=Lib.hid (all_upto fun j h h'=>HOK.out j h (by omega));clear HOK;go_wp2_with fail
   go_ret;exact ⟨ret_bool HF.out.symm,H0.out.trans HY.out⟩
set_option maxRecDepth 100000 in
set_option maxHeartbeats 4000000 in
theorem standsTop_any (C:CaseL) (a1 a2:Option Addr) (c1 c2:Nat) (R l:List Int) (AR A:Option Addr) (cR c:Nat) (w:World) (hC:CRep w C a1 a2) (hR:Ints w AR R) (hA:Ints w A l) :
  Calls Tryz.prog 26 #[(.agg #[.int .i64 C.claims,.slice a1 C.strikes.length c1,.slice a2 C.surveys.length c2]),.slice AR R.length cR,.slice A l.length c] w (StandsR C R l w):=by
 have H0:=Lib.hid (Aft.alloc w (.cells #[.int .i64 C.claims,.slice a1 C.strikes.length c1,.slice a2 C.surveys.length c2] 31));have HB:=Lib.hid (Blk.new w 31 #[.int .i64 C.claims,.slice a1 C.strikes.length c1,.slice a2 C.surveys.length c2]);unfold StandsR standsE;by_cases h1:openE C R = 0
 ·rw [if_pos h1];have hok:=(openE_facts h1).1;have H1:Hid (∀ W,Aft w W -> Calls Tryz.prog 66 #[(.agg #[.int .i64 C.claims,.slice a1 C.strikes.length c1,.slice a2 C.surveys.length c2]),.slice AR R.length cR] W fun e w'=>e = .returned (.int .i64 0) /\ Aft W w'):=Lib.hid fun W h=>by rw [<- h1];exact refutedR_any C a1 a2 c1 c2 R AR cR W (hC.aft h) (hR.aft h)
  have H2:Hid (∀ W,Aft w W -> Calls Tryz.prog 72 #[(.agg #[.int .i64 C.claims,.slice a1 C.strikes.length c1,.slice a2 C.surveys.length c2]),.slice A l.length c] W fun e w'=>e = .returned (.int .i64 (listedE C.claims l)) /\ Aft W w'):=Lib.hid fun W h=>listedR_any C.claims a1 a2 _ _ c1 c2 A l c W ⟨hok.n1,hok.n2⟩ (hA.aft h)
  have H3:Hid (∀ W,Aft w W -> Calls Tryz.prog 73 #[(.agg #[.int .i64 C.claims,.slice a1 C.strikes.length c1,.slice a2 C.surveys.length c2]),.slice AR R.length cR,.slice A l.length c] W fun e w'=>e = .returned (.bool (standB C.strikes (refL R) l)) /\ Aft W w'):=Lib.hid fun W h=>standsR_any C a1 a2 c1 c2 R l AR A cR c W (hC.aft h) (hR.aft h) (hA.aft h)
  obtain ⟨k0,k1,k2⟩:=box31 HB.out;have hlt:=HB.out.lt;by_cases h2:listedE C.claims l = 0
  ·have hr:=(listedE_ok h2).1;obtain ⟨N,hN⟩:∃ N:Nat,C.claims = N:=⟨C.claims.toNat,by have:=hok.n1;omega⟩;have hNt:C.claims.toNat = N:=by omega
   have hst:standsB C.strikes noS (refL R) (refL l) N = standB C.strikes (refL R) l:=standsB_eq fun x hx=>by have:=hr x hx;omega
   rw [hNt,h2,hst];rw [h2] at H2;simp only [decide_true,Bool.true_and];clear hC hR hA hok hr hN hNt h1 h2 hst;generalize standB C.strikes (refL R) l = X at *;go_enter Tryz.func26,Tryz.ntmps26;go_wp2_with (first | (go_at_call 66;refine (H1.out _ H0.out).mono ?_;rintro e w1 ⟨rfl,ha1⟩;have HA1:=Lib.hid (H0.out.trans ha1);obtain ⟨j0,j1,j2⟩:=box31 (HB.out.aft ha1);have hlt1:=(HB.out.aft ha1).lt;have HB1:=Lib.hid (HB.out.aft ha1);clear ha1) | (go_at_call 72;refine (H2.out _ HA1.out).mono ?_;rintro e w2 ⟨rfl,ha2⟩;have HA2:=Lib.hid (HA1.out.trans ha2);obtain ⟨q0,q1,q2⟩:=box31 (HB1.out.aft ha2);have hlt2:=(HB1.out.aft ha2).lt;clear ha2) | (go_at_call 73;refine (H3.out _ HA2.out).mono ?_;rintro e w3 ⟨rfl,ha3⟩;have HA3:=Lib.hid (HA2.out.trans ha3);clear ha3))
   go_ret2;exact ⟨rfl,HA3.out⟩
  ·rw [decide_eq_false h2,Bool.false_and];have t1:(listedE C.claims l != 0) = true:=by simpa using h2
   clear hC hR hA hok h1 h2;generalize listedE C.claims l = E at *;go_enter Tryz.func26,Tryz.ntmps26;go_wp2_with (first | (go_at_call 66;refine (H1.out _ H0.out).mono ?_;rintro e w1 ⟨rfl,ha1⟩;have HA1:=Lib.hid (H0.out.trans ha1);obtain ⟨j0,j1,j2⟩:=box31 (HB.out.aft ha1);have hlt1:=(HB.out.aft ha1).lt;clear ha1) | (go_at_call 72;refine (H2.out _ HA1.out).mono ?_;rintro e w2 ⟨rfl,ha2⟩;have HA2:=Lib.hid (HA1.out.trans ha2);clear ha2))
   go_ret2;exact ⟨rfl,HA2.out⟩
 ·rw [if_neg h1,decide_eq_false h1,Bool.false_and];have H1:=Lib.hid (refutedR_any C a1 a2 c1 c2 R AR cR _ (hC.aft H0.out) (hR.aft H0.out));have t1:(openE C R != 0) = true:=by simpa using h1
  obtain ⟨k0,k1,k2⟩:=box31 HB.out;have hlt:=HB.out.lt;clear hC hR hA h1;generalize openE C R = E at *;go_enter Tryz.func26,Tryz.ntmps26;go_wp2_with (go_at_call 66;refine H1.out.mono ?_;rintro e w1 ⟨rfl,ha1⟩;have HA1:=Lib.hid ha1;clear ha1)
  go_ret2;exact ⟨rfl,H0.out.trans HA1.out⟩
end Go.Proofs
end
section
/- Words: a list of lists of the call's own,into which lists are put at their places. -/
namespace Go.Proofs
open Go.RowKit
structure OutR (W:World) (base:Nat) (v:Value) (vs:List Value) (ls:List (List Int)):Prop where
 own:W.ownsRow base 33 1 v ls.length vs
 rows:∀ i,(h:i < ls.length) -> (h':i < vs.length) -> W.ownsRow base 3 1 vs[i] ls[i].length (ls[i].map (Value.int .i64))
section
variable {W W':World} {base:Nat} {v:Value} {vs:List Value} {ls:List (List Int)}
theorem OutR.len (h:OutR W base v vs ls):vs.length = ls.length:=by simpa using h.own.1
theorem OutR.nil:OutR W base (.slice none 0 0) [] []:=⟨World.ownsRow_nil _ _ 33 1,fun i h=>by simp at h⟩
theorem OutR.aft (h:OutR W base v vs ls) (ha:Aft W W'):OutR W' base v vs ls:=⟨own_aft h.own ha,fun i hi hi'=>own_aft (h.rows i hi hi') ha⟩
theorem OutR.lists (h:OutR W base v vs ls) (hl:ls.length <= 17592186043904) (hr:∀ l ∈ ls,l.length <= 17592186043904):∃ A c,v = .slice A ls.length c /\ ls.length <= c /\ Lists W A ls:=by
 rcases h.own.2 with ⟨rfl,h0⟩ | ⟨g,cap,cur,rfl,hg,hh,hc,hm,hs,ht⟩
 ·have:ls = []:=List.eq_nil_of_length_eq_zero h0;subst this;exact ⟨none,0,rfl,Nat.le_refl _,by simp,.inl rfl⟩
 ·refine ⟨_,cap,rfl,hc,by omega,.inr ⟨g,0,rfl,(Array.getElem?_eq_some_iff.1 hh).1,fun i hi=>?_⟩⟩;have hiv:i < vs.length:=by rw [h.len];exact hi
  obtain ⟨A,c,e,_,hi2⟩:=own_ints (h.rows i hi hiv) (hr _ (List.getElem_mem hi));refine ⟨[vs[i]],rfl,⟨A,c,by rw [e],hi2⟩,fun j hj=>?_⟩;have:=h.own.cells (g:=g) rfl i vs[i] (by simp [hiv]);rw [Addr.add_lit] at this;simp at hj;subst hj;simpa using this
end
theorem wpList_push_nil {w:World} {ops:Array Oper} {rest:List Oper} {o:Oper} {a:Act} {Q:Exit -> Act -> World -> Prop}
  (hgd:o.guard = none) (s x:Operand) (ho:o.op = .call { callee:=.builtin .append,args:=#[s,x],argTypes:=#[23,23] })
  {base n:Nat} {v:Value} {vs:List Value} (hown:w.ownsRow base 33 1 v n vs) (hbase:base <= w.heap.size) (hs:a.eval s = v)
  {c:Nat} {b:Nat} (hx:a.eval x = .slice (some ⟨b,0,none⟩) 1 c) (hb:w.cell? ⟨b,0,none⟩ = some (.slice none 0 0)) (hl:n <= 1000000)
  (hn:∀ v' w',w'.ownsRow base 33 1 v' (n + 1) (vs ++ [.slice none 0 0]) -> w.grownBy w' v.ownBlock -> wpList Tryz.prog ops Q rest (a.put o.dst v') w'):wpList Tryz.prog ops Q (o :: rest) a w:=by
 refine wpList_app_at ty41 hgd s x ho hbase hs hown hx (news:=[.slice none 0 0]) rfl (by intro h;cases h) (fun ad e j u h=>?_) (by intro u hu;rw [List.mem_singleton] at hu;subst hu;rfl) (by omega) (by decide) fun v' w' h1 h2=>hn v' w' h1 h2
 cases e
 match j,h with
 | 0,h=>simp at h;subst h;rw [Addr.add_lit];simpa using hb
theorem ins_list {α:Type} {K vs:List α} {z x:α} {n p:Nat} (hK:K.take (n + 1) = vs ++ [z]) (hn:vs.length = n) (hp:p < n) (hKl:n + 1 <= K.length) :
  ((K.take (p + 1) ++ (vs.drop p ++ K.drop (p + 1 + (vs.drop p).length))).set p x).take (n + 1) = vs.take p ++ x :: vs.drop p:=by
 have e1:K.take (p + 1) = vs.take p ++ [vs[p]'(by omega)]:=by
  have:(K.take (n + 1)).take (p + 1) = K.take (p + 1):=by rw [List.take_take,Nat.min_eq_left (by omega)]
  rw [<- this,hK,List.take_append_of_le_length (by omega),List.take_succ_eq_append_getElem (by omega)]
 have hl:(vs.take p).length = p:=by rw [List.length_take];omega
 rw [e1,List.append_assoc,List.set_append_right _ _ (by omega),hl,Nat.sub_self];show (vs.take p ++ (x :: (vs.drop p ++ K.drop (p + 1 + (vs.drop p).length)))).take (n + 1) = _;rw [show vs.take p ++ (x :: (vs.drop p ++ K.drop (p + 1 + (vs.drop p).length))) = (vs.take p ++ x :: vs.drop p) ++ K.drop (p + 1 + (vs.drop p).length) by simp];exact List.take_left' (by rw [List.length_append,List.length_cons,hl,List.length_drop];omega)
theorem own_ins {w:World} {base g cap p n:Nat} {vs:List Value} {x:Value} {cur:Array Value} (hb:base <= g) (hh:w.heap[g]? = some (.cells cur 33 (0,0))) (hc:n + 1 <= cap) (hm:cap <= maxLen) (hs:cur.size = cap * 1) (ht:cur.toList.take ((n + 1) * 1) = vs ++ [.slice none 0 0]) (hn:vs.length = n) (hp:p < n) :
  ((w.setRow g (cur.toList.take (p + 1) ++ (vs.drop p ++ cur.toList.drop (p + 1 + (vs.drop p).length))).toArray).setCell ⟨g,p,none⟩ x).ownsRow base 33 1 (.slice (some ⟨g,0,none⟩) (n + 1) cap) (n + 1) (vs.take p ++ x :: vs.drop p):=by
 rw [Nat.mul_one] at hs ht;have hKl:n + 1 <= cur.toList.length:=by rw [Array.length_toList];omega
 have h1:Blk (w.setRow g (cur.toList.take (p + 1) ++ (vs.drop p ++ cur.toList.drop (p + 1 + (vs.drop p).length))).toArray) g 33 (cur.toList.take (p + 1) ++ (vs.drop p ++ cur.toList.drop (p + 1 + (vs.drop p).length))).toArray:=setRow_heap w g cur _ 33 (0,0) hh;have h2:=h1.store p x;rw [List.setIfInBounds_toArray] at h2;refine ⟨?_,.inr ⟨g,cap,_,rfl,hb,h2,hc,hm,?_,?_⟩⟩
 ·rw [List.length_append,List.length_cons,List.length_take,List.length_drop];omega
 ·rw [List.size_toArray,List.length_set,List.length_append,List.length_append,List.length_take,List.length_drop,List.length_drop,Array.length_toList];omega
 ·rw [Nat.mul_one];exact ins_list ht hn hp hKl
theorem own_ins_end {w:World} {base g cap n:Nat} {vs:List Value} {x:Value} {cur:Array Value} (hb:base <= g) (hh:w.heap[g]? = some (.cells cur 33 (0,0))) (hc:n + 1 <= cap) (hm:cap <= maxLen) (hs:cur.size = cap * 1) (ht:cur.toList.take ((n + 1) * 1) = vs ++ [.slice none 0 0]) (hn:vs.length = n) :
  (w.setCell ⟨g,n,none⟩ x).ownsRow base 33 1 (.slice (some ⟨g,0,none⟩) (n + 1) cap) (n + 1) (vs.take n ++ x :: vs.drop n):=by
 rw [Nat.mul_one] at hs ht;have h1:Blk w g 33 cur:=hh;have h2:=h1.store n x;refine ⟨?_,.inr ⟨g,cap,_,rfl,hb,h2,hc,hm,by simpa using hs,?_⟩⟩
 ·rw [List.length_append,List.length_cons,List.length_take,List.length_drop];omega
 ·rw [Nat.mul_one,Array.toList_setIfInBounds,List.take_set,ht,List.set_append_right _ _ (by omega),hn,Nat.sub_self,List.take_of_length_le (by omega),List.drop_of_length_le (by omega)];rfl
theorem insZ_at {l:List Int}:∀ {ls:List (List Int)} {p:Nat},p <= ls.length -> (∀ i,(h:i < ls.length) -> i < p -> cmpZ ls[i] l < 0) -> (∀ h:p < ls.length,¬ cmpZ ls[p] l < 0) -> insZ l ls = ls.take p ++ l :: ls.drop p
 | [],p,h,_,_=>by
  obtain rfl:p = 0:=by simpa using h
  rfl
 | x :: xs,0,_,_,h2=>by
  have h3:=h2 (by simp);unfold insZ;rw [List.takeWhile_cons,List.dropWhile_cons,if_neg (by simpa using h3),if_neg (by simpa using h3)];rfl
 | x :: xs,p + 1,h,h1,h2=>by
  have h3:=h1 0 (by simp) (by omega);have ih:=insZ_at (l:=l) (ls:=xs) (p:=p) (by simpa using h) (fun i hi hip=>h1 (i + 1) (by simpa using hi) (by omega)) (fun hp=>h2 (by simpa using hp));unfold insZ at ih ⊢;rw [List.takeWhile_cons,List.dropWhile_cons,if_pos (by simpa using h3),if_pos (by simpa using h3)];rw [List.cons_append,ih];rfl
theorem getElem_ins {α:Type} {l:List α} {x:α} {p i:Nat} (hp:p <= l.length) (h:i < (l.take p ++ x :: l.drop p).length):(l.take p ++ x :: l.drop p)[i] = if h1:i < p then l[i]'(by omega) else if h2:i = p then x else l[i - 1]'(by rw [List.length_append,List.length_cons,List.length_take,List.length_drop] at h;omega):=by
 have hl:(l.take p).length = p:=by rw [List.length_take];omega
 by_cases h1:i < p
 ·rw [dif_pos h1,List.getElem_append_left (by omega),List.getElem_take]
 ·rw [dif_neg h1];rw [List.getElem_append_right (by omega)];by_cases h2:i = p
  ·rw [dif_pos h2];subst h2;simp [hl]
  ·rw [dif_neg h2];obtain ⟨j,hj⟩:∃ j,i - (l.take p).length = j + 1:=⟨i - p - 1,by omega⟩;simp only [hj,List.getElem_cons_succ,List.getElem_drop]
   congr 1
   omega
theorem OutR.ins {W':World} {base p:Nat} {v' x:Value} {vs:List Value} {ls:List (List Int)} {l:List Int} (hlen:vs.length = ls.length) (hp:p <= ls.length) (hown:W'.ownsRow base 33 1 v' (ls.length + 1) (vs.take p ++ x :: vs.drop p))
  (hk:∀ i,(h:i < ls.length) -> (h':i < vs.length) -> W'.ownsRow base 3 1 vs[i] ls[i].length (ls[i].map (Value.int .i64))) (hx:W'.ownsRow base 3 1 x l.length (l.map (Value.int .i64))):OutR W' base v' (vs.take p ++ x :: vs.drop p) (ls.take p ++ l :: ls.drop p):=by
 have e:(ls.take p ++ l :: ls.drop p).length = ls.length + 1:=by rw [List.length_append,List.length_cons,List.length_take,List.length_drop];omega
 refine ⟨by rw [e];exact hown,fun i hi hi'=>?_⟩;rw [getElem_ins hp hi,getElem_ins (by omega) hi'];rw [e] at hi;by_cases h1:i < p
 ·rw [dif_pos h1,dif_pos h1];exact hk i (by omega) (by omega)
 ·rw [dif_neg h1,dif_neg h1];by_cases h2:i = p
  ·rw [dif_pos h2,dif_pos h2];exact hx
  ·rw [dif_neg h2,dif_neg h2];exact hk (i - 1) (by omega) (by omega)
end Go.Proofs
end
