/- Own texts, merged: CtRc Srt0 CtV CtN. -/
import Derived.Test.YtbchfakfdikkjaaGreatS07
import Derived.Shelf.SlLaysF
import Derived.Lib.Small
set_option linter.unusedSimpArgs false
set_option linter.unusedVariables false
set_option linter.unnecessarySimpa false
section
/- Walks: the reference's Check 56,Refuted 66. -/
namespace Go.Proofs
open Go.RowKit
open Court (refL begF noS struckB)
attribute [local go_sem] Oper.semAt_some
set_option maxRecDepth 100000 in
set_option maxHeartbeats 16000000 in
theorem checkR_any (C:CaseL) (a1 a2:Option Addr) (c1 c2:Nat) (w:World) (hC:CRep w C a1 a2) :
  Calls Tryz.prog 56 #[(.agg #[.int .i64 C.claims,.slice a1 C.strikes.length c1,.slice a2 C.surveys.length c2])] w fun e w'=>e = .returned (.int .i64 (caseE C)) /\ Aft w w':=by
 have hl:=hC.strikes.len;have hl2:=hC.surveys.len;have H0:=Lib.hid (Aft.alloc w (.cells #[.int .i64 C.claims,.slice a1 C.strikes.length c1,.slice a2 C.surveys.length c2] 31));have HB:=Lib.hid (Blk.new w 31 #[.int .i64 C.claims,.slice a1 C.strikes.length c1,.slice a2 C.surveys.length c2]);have HS:=Lib.hid (hC.strikes.aft H0.out);have HT:=Lib.hid (hC.surveys.aft H0.out);clear hC;obtain ⟨bC,hbC⟩:∃ bC,w.heap.size = bC:=⟨_,rfl⟩;rw [hbC] at HB;have HBC:=Lib.hid hbC;obtain ⟨E,hE⟩:∃ E,caseE C = E:=⟨_,rfl⟩;have HE:=Lib.hid hE;rw [hE];unfold caseE at hE;clear hbC;obtain ⟨k0,k1,k2⟩:=box31 HB.out;have k3:=HB.out.lt;go_enter Tryz.func56,Tryz.ntmps56;go_upto_region 1 with fail
 rw [HBC.out];generalize w.alloc (.cells #[.int .i64 C.claims,.slice a1 C.strikes.length c1,.slice a2 C.surveys.length c2] 31) = W0 at *;go_cut [22] from 8 to 22 (fun s wx=>s = .bool (!fromB C.claims 1 14 || decide (60 < C.strikes.length) || decide (6 < C.surveys.length)) /\ wx = W0)
 case first =>
  cases h1:fromB C.claims 1 14
  ·(repeat (first | go_big_skip | go_big_want | go_big_move | go_big_op | go_step | go_upon | go_back));go_at_call 57;refine (beside_any C.claims 1 14 W0).mono ?_;rintro e w' ⟨rfl,rfl⟩;dsimp only;rw [h1];simp only [Bool.not_false];(repeat (first | go_big_skip | go_big_want | go_big_move | go_big_op | go_step | go_upon | go_back));go_meet;exact ⟨congrArg Value.bool (by rw [h1];rfl),rfl⟩
  ·cases h2:decide (60 < C.strikes.length)
   ·have t2:decide ((60:Int) < (C.strikes.length:Int)) = false:=by have:=of_decide_eq_false h2;simp;omega
    have t3:decide ((6:Int) < (C.surveys.length:Int)) = decide (6 < C.surveys.length):=decide_eq_decide.2 (by omega);(repeat (first | go_big_skip | go_big_want | go_big_move | go_big_op | go_step | go_upon | go_back));go_at_call 57;refine (beside_any C.claims 1 14 W0).mono ?_;rintro e w' ⟨rfl,rfl⟩;dsimp only;rw [h1];simp only [Bool.not_true];(repeat (first | go_big_skip | go_big_want | go_big_move | go_big_op | go_step | go_upon | go_back));go_meet;exact ⟨congrArg Value.bool (by rw [h1,h2];rfl),rfl⟩
   ·have t2:decide ((60:Int) < (C.strikes.length:Int)) = true:=by have:=of_decide_eq_true h2;simp;omega
    (repeat (first | go_big_skip | go_big_want | go_big_move | go_big_op | go_step | go_upon | go_back));go_at_call 57;refine (beside_any C.claims 1 14 W0).mono ?_;rintro e w' ⟨rfl,rfl⟩;dsimp only;rw [h1];simp only [Bool.not_true];(repeat (first | go_big_skip | go_big_want | go_big_move | go_big_op | go_step | go_upon | go_back));go_meet;exact ⟨congrArg Value.bool (by rw [h1,h2];rfl),rfl⟩
 obtain ⟨rfl,rfl⟩:=hcut;obtain ⟨W0,rfl⟩:∃ W0,W0 = wc:=⟨_,rfl⟩;clear k0 k1 k2 k3;cases hcb:(!fromB C.claims 1 14 || decide (60 < C.strikes.length) || decide (6 < C.surveys.length))
 ·rw [hcb,if_neg (by decide)] at hE;have hcb':=hcb;simp only [Bool.or_eq_false_iff,Bool.not_eq_false',decide_eq_false_iff_not] at hcb';obtain ⟨⟨hn,hn60⟩,hn6⟩:=hcb';have hn:=fromB_iff.1 hn;have e1:IntKind.i64.wrap (C.claims - 1) = C.claims - 1:=by rw [IntWalk.i64_in _ (by omega)]
  have HEE:=Lib.hid hE;clear hE hcb;go_upto_block 0 with fail
  refine wp_block ?_;go_loopw [3] (fun i wr=>∃ k:Nat,i = .int .i64 k /\ k <= C.strikes.length /\ Aft W0 wr /\ Hid (∀ j,(h:j < C.strikes.length) -> j < k -> inB C.claims C.strikes[j] = true)) (fun i _=>C.strikes.length - (intOf i).toNat)
  case atStart=>exact ⟨0,rfl,by omega,Aft.refl _,Lib.hid fun j _ h=>by omega⟩
  case round =>
   obtain ⟨k,rfl,hk,hy,HIN⟩:=hrel;have HY:=Lib.hid hy;clear hy;obtain ⟨k0,k1,k2⟩:=box31 (HB.out.aft HY.out);have k3:=(HB.out.aft HY.out).lt;by_cases hkl:k < C.strikes.length
   ·have t1:decide (k < C.strikes.length) = true:=by simpa using hkl
    have ik:(0:Int) <= (k:Int) /\ (k:Int) < (C.strikes.length:Int):=by omega
    obtain ⟨bs,os,hbs,hlts,hcs⟩:=(HS.out.aft HY.out).at hkl;subst hbs;obtain ⟨x1,x2⟩:=hcs k hkl;have HIK:Hid (inB C.claims C.strikes[k] = (Cl C.strikes[k].1 C.claims && Cl C.strikes[k].2 C.claims)):=Lib.hid rfl;obtain ⟨⟨y,z⟩,hyz⟩:∃ s,C.strikes[k] = s:=⟨_,rfl⟩;have HYZ:=Lib.hid hyz;rw [hyz] at x1 x2 HIK;dsimp only at x1 x2 HIK;have HC0:Hid (∀ W,Aft wr W -> W.cell? ⟨bC,0,none⟩ = some (.int .i64 C.claims)):=Lib.hid fun W h=>(box31 (HB.out.aft (HY.out.trans h))).1
    have HC1:Hid (∀ W,Aft wr W -> W.cell? ⟨bC,1,none⟩ = some (.slice (some ⟨bs,os,none⟩) C.strikes.length c1)):=Lib.hid fun W h=>(box31 (HB.out.aft (HY.out.trans h))).2.1
    have HX1:Hid (∀ W,Aft wr W -> W.cell? ⟨bs,os + k * 2,none⟩ = some (.int .i64 y)):=Lib.hid fun W h=>cellA x1 hlts h
    have HX2:Hid (∀ W,Aft wr W -> W.cell? ⟨bs,os + k * 2 + 1,none⟩ = some (.int .i64 z)):=Lib.hid fun W h=>cellA x2 hlts h
    obtain ⟨b1,hb1⟩:∃ b1,(!fromB y 0 (C.claims - 1)) = b1:=⟨_,rfl⟩;obtain ⟨b2,hb2⟩:∃ b2,(!fromB z 0 (C.claims - 1)) = b2:=⟨_,rfl⟩;have H57:Hid (∀ W,Calls Tryz.prog 57 #[.int .i64 y,.int .i64 0,.int .i64 (C.claims - 1)] W fun e w'=>e = .returned (.bool b1) /\ W = w'):=Lib.hid fun W=>by rw [<- hb1];exact beside_any y 0 (C.claims - 1) W
    have H58:Hid (∀ W,Calls Tryz.prog 57 #[.int .i64 z,.int .i64 0,.int .i64 (C.claims - 1)] W fun e w'=>e = .returned (.bool b2) /\ W = w'):=Lib.hid fun W=>by rw [<- hb2];exact beside_any z 0 (C.claims - 1) W
    have HIB:Hid (inB C.claims (y,z) = (!b1 && !b2)):=Lib.hid (by rw [<- hb1,<- hb2,Bool.not_not,Bool.not_not];rfl);clear hcs hyz x1 x2 hb1 hb2 HIK;go_upto_region 6 with fail
    clear k0 k1 k2 k3;cases b1
    ·skip
     refine wp_region_valsG (by kernel_rfl) 99 rfl (by kernel_rfl) (by kernel_rfl) [.pointer (some ⟨bC,1,none⟩),.slice (some ⟨bs,os,none⟩) C.strikes.length c1,.int .i64 k,.pointer (some ⟨bs,os + k * 2,none⟩),.pointer (some ⟨bs,os + k * 2,none⟩),.int .i64 y,.pointer (some ⟨bC,0,none⟩),.int .i64 C.claims,.int .i64 (C.claims - 1),.bool false,.bool false,.pointer (some ⟨bC,1,none⟩),.slice (some ⟨bs,os,none⟩) C.strikes.length c1,.int .i64 k,.pointer (some ⟨bs,os + k * 2,none⟩),.pointer (some ⟨bs,os + k * 2 + 1,none⟩),.int .i64 z,.pointer (some ⟨bC,0,none⟩),.int .i64 C.claims,.int .i64 (C.claims - 1),.bool b2,.bool b2] rfl (fun W=>Aft wr W) (Aft.drew _) ?st1 ?fi1
     case st1 =>
      intro i o v ho hv
      match i,ho,hv with
      | 0,ho,hv =>
       cases ho;cases hv;refine .inl ⟨rfl,fun a W hk hw K hK=>?_⟩;have e1:=hk.s 1;exact op_val (by simp [go_sem,ev' e1]) (hK _ hw)
      | 1,ho,hv =>
       cases ho;cases hv;refine .inl ⟨rfl,fun a W hk hw K hK=>?_⟩;have e30:=hk.t 0;exact op_val (by simp [go_sem,ev' e30,HC1.out W hw]) (hK _ hw)
      | 2,ho,hv =>
       cases ho;cases hv;refine .inl ⟨rfl,fun a W hk hw K hK=>?_⟩;have e3:=hk.s 3;exact op_val (by simp [go_sem,ev' e3]) (hK _ hw)
      | 3,ho,hv =>
       cases ho;cases hv;refine .inl ⟨rfl,fun a W hk hw K hK=>?_⟩;have e31:=hk.t 1;have e32:=hk.t 2;exact op_val (by simp [go_sem,ev' e31,ev' e32,ik]) (hK _ hw)
      | 4,ho,hv =>
       cases ho;cases hv;refine .inl ⟨rfl,fun a W hk hw K hK=>?_⟩;have e33:=hk.t 3;exact op_val (by simp [go_sem,ev' e33]) (hK _ hw)
      | 5,ho,hv =>
       cases ho;cases hv;refine .inl ⟨rfl,fun a W hk hw K hK=>?_⟩;have e34:=hk.t 4;exact op_val (by simp [go_sem,ev' e34,HX1.out W hw]) (hK _ hw)
      | 6,ho,hv =>
       cases ho;cases hv;refine .inl ⟨rfl,fun a W hk hw K hK=>?_⟩;have e1:=hk.s 1;exact op_val (by simp [go_sem,ev' e1]) (hK _ hw)
      | 7,ho,hv =>
       cases ho;cases hv;refine .inl ⟨rfl,fun a W hk hw K hK=>?_⟩;have e36:=hk.t 6;exact op_val (by simp [go_sem,ev' e36,HC0.out W hw]) (hK _ hw)
      | 8,ho,hv =>
       cases ho;cases hv;refine .inl ⟨rfl,fun a W hk hw K hK=>?_⟩;have e37:=hk.t 7;exact op_val (by simp [go_sem,ev' e37,e1]) (hK _ hw)
      | 9,ho,hv =>
       cases ho;cases hv;refine .inl ⟨rfl,fun a W hk hw K hK=>?_⟩;have e35:=hk.t 5;have e38:=hk.t 8;refine op_callN rfl rfl rfl _ rfl (vs:=#[.int .i64 y,.int .i64 0,.int .i64 (C.claims - 1)]) (by simp [e35,e38,show ∀ v,a.eval (.const v) = v from fun _=>rfl]) (H57.out W) fun e w' h=>?_
       obtain ⟨rfl,rfl⟩:=h;exact ⟨_,rfl,hK _ hw⟩
      | 10,ho,hv =>
       cases ho;cases hv;refine .inl ⟨rfl,fun a W hk hw K hK=>?_⟩;have e39:=hk.t 9;exact op_val (by simp [go_sem,ev' e39]) (hK _ hw)
      | 11,ho,hv =>
       cases ho;cases hv;refine .inl ⟨rfl,fun a W hk hw K hK=>?_⟩;have e1:=hk.s 1;exact op_val (by simp [go_sem,ev' e1]) (hK _ hw)
      | 12,ho,hv =>
       cases ho;cases hv;refine .inl ⟨rfl,fun a W hk hw K hK=>?_⟩;have e41:=hk.t 11;exact op_val (by simp [go_sem,ev' e41,HC1.out W hw]) (hK _ hw)
      | 13,ho,hv =>
       cases ho;cases hv;refine .inl ⟨rfl,fun a W hk hw K hK=>?_⟩;have e3:=hk.s 3;exact op_val (by simp [go_sem,ev' e3]) (hK _ hw)
      | 14,ho,hv =>
       cases ho;cases hv;refine .inl ⟨rfl,fun a W hk hw K hK=>?_⟩;have e42:=hk.t 12;have e43:=hk.t 13;exact op_val (by simp [go_sem,ev' e42,ev' e43,ik]) (hK _ hw)
      | 15,ho,hv =>
       cases ho;cases hv;refine .inl ⟨rfl,fun a W hk hw K hK=>?_⟩;have e44:=hk.t 14;exact op_val (by simp [go_sem,ev' e44]) (hK _ hw)
      | 16,ho,hv =>
       cases ho;cases hv;refine .inl ⟨rfl,fun a W hk hw K hK=>?_⟩;have e45:=hk.t 15;exact op_val (by simp [go_sem,ev' e45,HX2.out W hw]) (hK _ hw)
      | 17,ho,hv =>
       cases ho;cases hv;refine .inl ⟨rfl,fun a W hk hw K hK=>?_⟩;have e1:=hk.s 1;exact op_val (by simp [go_sem,ev' e1]) (hK _ hw)
      | 18,ho,hv =>
       cases ho;cases hv;refine .inl ⟨rfl,fun a W hk hw K hK=>?_⟩;have e47:=hk.t 17;exact op_val (by simp [go_sem,ev' e47,HC0.out W hw]) (hK _ hw)
      | 19,ho,hv =>
       cases ho;cases hv;refine .inl ⟨rfl,fun a W hk hw K hK=>?_⟩;have e48:=hk.t 18;exact op_val (by simp [go_sem,ev' e48,e1]) (hK _ hw)
      | 20,ho,hv =>
       cases ho;cases hv;refine .inl ⟨rfl,fun a W hk hw K hK=>?_⟩;have e46:=hk.t 16;have e49:=hk.t 19;refine op_callN rfl rfl rfl _ rfl (vs:=#[.int .i64 z,.int .i64 0,.int .i64 (C.claims - 1)]) (by simp [e46,e49,show ∀ v,a.eval (.const v) = v from fun _=>rfl]) (H58.out W) fun e w' h=>?_
       obtain ⟨rfl,rfl⟩:=h;exact ⟨_,rfl,hK _ hw⟩
      | 21,ho,hv =>
       cases ho;cases hv;refine .inl ⟨rfl,fun a W hk hw K hK=>?_⟩;have e40:=hk.t 10;have e50:=hk.t 20;exact op_val (by simp [go_sem,ev' e40,ev' e50]) (hK _ hw)
      | _ + 22,_,hv=>cases hv
     intro W hw;simp only [List.drop_succ_cons,List.drop_zero,List.zip_cons_cons,List.zip_nil_right,putAll];simp only [Act.put,List.setIfInBounds_toArray,List.set];cases b2
     ·have HIN2:Hid (∀ j,(h:j < C.strikes.length) -> j < k + 1 -> inB C.claims C.strikes[j] = true):=Lib.hid fun j h h'=>by
       by_cases e:j = k
       ·subst e;rw [HYZ.out,HIB.out];rfl
       ·exact HIN.out j h (by omega)
      go_wp2_with fail
      exact ⟨⟨k + 1,by go_num,by omega,HY.out.trans hw,HIN2⟩,by simp [intOf];omega⟩
     ·have HF:Hid (E = 2):=Lib.hid (by
       have h:C.strikes.all (inB C.claims) = false:=by
        rw [Bool.eq_false_iff];intro h;have:=List.all_eq_true.1 h _ (List.getElem_mem hkl);rw [HYZ.out,HIB.out] at this;cases this
       have h2:=HEE.out;rw [h,if_pos (by decide)] at h2;exact h2.symm)
      go_wp2_with fail
      go_ret;exact ⟨ret_int HF.out.symm,H0.out.trans (HY.out.trans hw)⟩
    ·have HF:Hid (E = 2):=Lib.hid (by
      have h:C.strikes.all (inB C.claims) = false:=by
       rw [Bool.eq_false_iff];intro h;have:=List.all_eq_true.1 h _ (List.getElem_mem hkl);rw [HYZ.out,HIB.out] at this;cases this
      have h2:=HEE.out;rw [h,if_pos (by decide)] at h2;exact h2.symm)
     refine wp_region_valsG (by kernel_rfl) 99 rfl (by kernel_rfl) (by kernel_rfl) [.pointer (some ⟨bC,1,none⟩),.slice (some ⟨bs,os,none⟩) C.strikes.length c1,.int .i64 k,.pointer (some ⟨bs,os + k * 2,none⟩),.pointer (some ⟨bs,os + k * 2,none⟩),.int .i64 y,.pointer (some ⟨bC,0,none⟩),.int .i64 C.claims,.int .i64 (C.claims - 1),.bool true,.bool true,undef,undef,undef,undef,undef,undef,undef,undef,undef,undef,.bool true] rfl (fun W=>Aft wr W) (Aft.drew _) ?st2 ?fi2
     case st2 =>
      intro i o v ho hv
      match i,ho,hv with
      | 0,ho,hv =>
       cases ho;cases hv;refine .inl ⟨rfl,fun a W hk hw K hK=>?_⟩;have e1:=hk.s 1;exact op_val (by simp [go_sem,ev' e1]) (hK _ hw)
      | 1,ho,hv =>
       cases ho;cases hv;refine .inl ⟨rfl,fun a W hk hw K hK=>?_⟩;have e30:=hk.t 0;exact op_val (by simp [go_sem,ev' e30,HC1.out W hw]) (hK _ hw)
      | 2,ho,hv =>
       cases ho;cases hv;refine .inl ⟨rfl,fun a W hk hw K hK=>?_⟩;have e3:=hk.s 3;exact op_val (by simp [go_sem,ev' e3]) (hK _ hw)
      | 3,ho,hv =>
       cases ho;cases hv;refine .inl ⟨rfl,fun a W hk hw K hK=>?_⟩;have e31:=hk.t 1;have e32:=hk.t 2;exact op_val (by simp [go_sem,ev' e31,ev' e32,ik]) (hK _ hw)
      | 4,ho,hv =>
       cases ho;cases hv;refine .inl ⟨rfl,fun a W hk hw K hK=>?_⟩;have e33:=hk.t 3;exact op_val (by simp [go_sem,ev' e33]) (hK _ hw)
      | 5,ho,hv =>
       cases ho;cases hv;refine .inl ⟨rfl,fun a W hk hw K hK=>?_⟩;have e34:=hk.t 4;exact op_val (by simp [go_sem,ev' e34,HX1.out W hw]) (hK _ hw)
      | 6,ho,hv =>
       cases ho;cases hv;refine .inl ⟨rfl,fun a W hk hw K hK=>?_⟩;have e1:=hk.s 1;exact op_val (by simp [go_sem,ev' e1]) (hK _ hw)
      | 7,ho,hv =>
       cases ho;cases hv;refine .inl ⟨rfl,fun a W hk hw K hK=>?_⟩;have e36:=hk.t 6;exact op_val (by simp [go_sem,ev' e36,HC0.out W hw]) (hK _ hw)
      | 8,ho,hv =>
       cases ho;cases hv;refine .inl ⟨rfl,fun a W hk hw K hK=>?_⟩;have e37:=hk.t 7;exact op_val (by simp [go_sem,ev' e37,e1]) (hK _ hw)
      | 9,ho,hv =>
       cases ho;cases hv;refine .inl ⟨rfl,fun a W hk hw K hK=>?_⟩;have e35:=hk.t 5;have e38:=hk.t 8;refine op_callN rfl rfl rfl _ rfl (vs:=#[.int .i64 y,.int .i64 0,.int .i64 (C.claims - 1)]) (by simp [e35,e38,show ∀ v,a.eval (.const v) = v from fun _=>rfl]) (H57.out W) fun e w' h=>?_
       obtain ⟨rfl,rfl⟩:=h;exact ⟨_,rfl,hK _ hw⟩
      | 10,ho,hv =>
       cases ho;cases hv;refine .inl ⟨rfl,fun a W hk hw K hK=>?_⟩;have e39:=hk.t 9;exact op_val (by simp [go_sem,ev' e39]) (hK _ hw)
      | 11,ho,hv=>cases ho;cases hv;exact .inr ⟨rfl,rfl⟩
      | 12,ho,hv=>cases ho;cases hv;exact .inr ⟨rfl,rfl⟩
      | 13,ho,hv=>cases ho;cases hv;exact .inr ⟨rfl,rfl⟩
      | 14,ho,hv=>cases ho;cases hv;exact .inr ⟨rfl,rfl⟩
      | 15,ho,hv=>cases ho;cases hv;exact .inr ⟨rfl,rfl⟩
      | 16,ho,hv=>cases ho;cases hv;exact .inr ⟨rfl,rfl⟩
      | 17,ho,hv=>cases ho;cases hv;exact .inr ⟨rfl,rfl⟩
      | 18,ho,hv=>cases ho;cases hv;exact .inr ⟨rfl,rfl⟩
      | 19,ho,hv=>cases ho;cases hv;exact .inr ⟨rfl,rfl⟩
      | 20,ho,hv=>cases ho;cases hv;exact .inr ⟨rfl,rfl⟩
      | 21,ho,hv =>
       cases ho;cases hv;refine .inl ⟨rfl,fun a W hk hw K hK=>?_⟩;have e40:=hk.t 10;have e50:=hk.t 20;exact op_val (by simp [go_sem,ev' e40,ev' e50]) (hK _ hw)
      | _ + 22,_,hv=>cases hv
     intro W hw;simp only [List.drop_succ_cons,List.drop_zero,List.zip_cons_cons,List.zip_nil_right,putAll];simp only [Act.put,List.setIfInBounds_toArray,List.set];go_wp2_with fail
     go_ret;exact ⟨ret_int HF.out.symm,H0.out.trans (HY.out.trans hw)⟩
   ·have t1:decide (k < C.strikes.length) = false:=by simpa using hkl
    have HAL:Hid (C.strikes.all (inB C.claims) = true):=Lib.hid (by
     rw [List.all_eq_true];intro x hx;obtain ⟨j,hj,rfl⟩:=List.mem_iff_getElem.1 hx;exact HIN.out j hj (by omega))
    have HE2:Hid ((if ¬ C.strikes.Nodup then 6 else surveysE C.claims C.surveys) = E):=Lib.hid (by
     have h2:=HEE.out
     rwa [HAL.out,if_neg (by decide)] at h2)
    obtain ⟨W1,rfl⟩:∃ W1,W1 = wr:=⟨_,rfl⟩
    replace HS:=Lib.hid (HS.out.aft HY.out)
    replace HT:=Lib.hid (HT.out.aft HY.out)
    replace HB:=Lib.hid (HB.out.aft HY.out)
    replace H0:=Lib.hid (H0.out.trans HY.out)
    clear HIN HAL HEE HY hkl;go_upto_block 2 with fail
    clear k0 k1 k2 k3 e1;refine wp_block ?_;go_loopw [4] (fun i wr=>∃ k:Nat,i = .int .i64 k /\ k <= C.strikes.length /\ Aft W1 wr /\ Hid ((C.strikes.take k).Nodup)) (fun i _=>C.strikes.length - (intOf i).toNat)
    case atStart=>exact ⟨0,rfl,by omega,Aft.refl _,Lib.hid (by simp)⟩
    case round =>
     obtain ⟨k,rfl,hk,hy,HNO⟩:=hrel;have HY:=Lib.hid hy;clear hy;obtain ⟨k0,k1,k2⟩:=box31 (HB.out.aft HY.out);have k3:=(HB.out.aft HY.out).lt;by_cases hkl:k < C.strikes.length
     ·have t2:decide (k < C.strikes.length) = true:=by simpa using hkl
      have ik:(0:Int) <= (k:Int) /\ (k:Int) < (C.strikes.length:Int):=by omega
      obtain ⟨W2,rfl⟩:∃ W2,W2 = wr:=⟨_,rfl⟩;go_upto_block 4 with fail
      clear k0 k1 k2 k3;refine wp_block ?_;go_loopw [5] (fun i wr=>∃ j:Nat,i = .int .i64 j /\ j <= k /\ Aft W2 wr /\ Hid (∀ i,(h:i < C.strikes.length) -> i < j -> C.strikes[i] ≠ C.strikes[k])) (fun i _=>k - (intOf i).toNat)
      case atStart=>exact ⟨0,rfl,by omega,Aft.refl _,Lib.hid fun i _ h=>by omega⟩
      case round =>
       obtain ⟨j,rfl,hj,hz,HNE⟩:=hrel;have HZ:=Lib.hid (HY.out.trans hz);have HZ2:=Lib.hid hz;clear hz;by_cases hjk:j < k
       ·have t3:decide (j < k) = true:=by simpa using hjk
        have ij:(0:Int) <= (j:Int) /\ (j:Int) < (C.strikes.length:Int):=by omega
        obtain ⟨bs,os,hbs,hlts,hcs⟩:=(HS.out.aft HZ.out).at hkl;subst hbs;obtain ⟨x1,x2⟩:=hcs k hkl;obtain ⟨x3,x4⟩:=hcs j (by omega);obtain ⟨⟨y,z⟩,hyz⟩:∃ s,C.strikes[k] = s:=⟨_,rfl⟩;obtain ⟨⟨y',z'⟩,hyz'⟩:∃ s,C.strikes[j] = s:=⟨_,rfl⟩;have HYZ:=Lib.hid hyz;have HYZ':=Lib.hid hyz';rw [hyz] at x1 x2;rw [hyz'] at x3 x4;dsimp only at x1 x2 x3 x4;have HC1:Hid (∀ W,Aft wr W -> W.cell? ⟨bC,1,none⟩ = some (.slice (some ⟨bs,os,none⟩) C.strikes.length c1)):=Lib.hid fun W h=>(box31 (HB.out.aft (HZ.out.trans h))).2.1
        have HX1:Hid (∀ W,Aft wr W -> W.cell? ⟨bs,os + k * 2,none⟩ = some (.int .i64 y)):=Lib.hid fun W h=>cellA x1 hlts h
        have HX2:Hid (∀ W,Aft wr W -> W.cell? ⟨bs,os + k * 2 + 1,none⟩ = some (.int .i64 z)):=Lib.hid fun W h=>cellA x2 hlts h
        have HX3:Hid (∀ W,Aft wr W -> W.cell? ⟨bs,os + j * 2,none⟩ = some (.int .i64 y')):=Lib.hid fun W h=>cellA x3 hlts h
        have HX4:Hid (∀ W,Aft wr W -> W.cell? ⟨bs,os + j * 2 + 1,none⟩ = some (.int .i64 z')):=Lib.hid fun W h=>cellA x4 hlts h
        obtain ⟨bb,hbb⟩:∃ bb,(y == y' && z == z') = bb:=⟨_,rfl⟩;have HBB:Hid (bb = true ↔ (y = y' /\ z = z')):=Lib.hid (by rw [<- hbb];simp);clear hcs hyz hyz' x1 x2 x3 x4;go_upto_region 14 with fail
        refine wp_region_valsG (by kernel_rfl) 99 rfl (by kernel_rfl) (by kernel_rfl) [.pointer (some ⟨bC,1,none⟩),.slice (some ⟨bs,os,none⟩) C.strikes.length c1,.int .i64 k,.pointer (some ⟨bs,os + k * 2,none⟩),.agg #[.int .i64 y,.int .i64 z],.pointer (some ⟨bC,1,none⟩),.slice (some ⟨bs,os,none⟩) C.strikes.length c1,.int .i64 j,.pointer (some ⟨bs,os + j * 2,none⟩),.agg #[.int .i64 y',.int .i64 z'],.bool bb] rfl (fun W=>Aft wr W) (Aft.drew _) ?st3 ?fi3
        case st3 =>
         intro i o v ho hv
         match i,ho,hv with
         | 0,ho,hv =>
          cases ho;cases hv;refine .inl ⟨rfl,fun a W hk hw K hK=>?_⟩;have e1:=hk.s 1;exact op_val (by simp [go_sem,ev' e1]) (hK _ hw)
         | 1,ho,hv =>
          cases ho;cases hv;refine .inl ⟨rfl,fun a W hk hw K hK=>?_⟩;have e64:=hk.t 0;exact op_val (by simp [go_sem,ev' e64,HC1.out W hw]) (hK _ hw)
         | 2,ho,hv =>
          cases ho;cases hv;refine .inl ⟨rfl,fun a W hk hw K hK=>?_⟩;have e4:=hk.s 4;exact op_val (by simp [go_sem,ev' e4]) (hK _ hw)
         | 3,ho,hv =>
          cases ho;cases hv;refine .inl ⟨rfl,fun a W hk hw K hK=>?_⟩;have e65:=hk.t 1;have e66:=hk.t 2;exact op_val (by simp [go_sem,ev' e65,ev' e66,ik]) (hK _ hw)
         | 4,ho,hv =>
          cases ho;cases hv;refine .inl ⟨rfl,fun a W hk hw K hK=>?_⟩;have e67:=hk.t 3;exact op_val (by simp [go_sem,ev' e67,HX1.out W hw,HX2.out W hw]) (hK _ hw)
         | 5,ho,hv =>
          cases ho;cases hv;refine .inl ⟨rfl,fun a W hk hw K hK=>?_⟩;have e1:=hk.s 1;exact op_val (by simp [go_sem,ev' e1]) (hK _ hw)
         | 6,ho,hv =>
          cases ho;cases hv;refine .inl ⟨rfl,fun a W hk hw K hK=>?_⟩;have e69:=hk.t 5;exact op_val (by simp [go_sem,ev' e69,HC1.out W hw]) (hK _ hw)
         | 7,ho,hv =>
          cases ho;cases hv;refine .inl ⟨rfl,fun a W hk hw K hK=>?_⟩;have e5:=hk.s 5;exact op_val (by simp [go_sem,ev' e5]) (hK _ hw)
         | 8,ho,hv =>
          cases ho;cases hv;refine .inl ⟨rfl,fun a W hk hw K hK=>?_⟩;have e70:=hk.t 6;have e71:=hk.t 7;exact op_val (by simp [go_sem,ev' e70,ev' e71,ij]) (hK _ hw)
         | 9,ho,hv =>
          cases ho;cases hv;refine .inl ⟨rfl,fun a W hk hw K hK=>?_⟩;have e72:=hk.t 8;exact op_val (by simp [go_sem,ev' e72,HX3.out W hw,HX4.out W hw]) (hK _ hw)
         | 10,ho,hv =>
          cases ho;cases hv;refine .inl ⟨rfl,fun a W hk hw K hK=>?_⟩;have e68:=hk.t 4;have e73:=hk.t 9;exact op_val (v:=.bool bb) (by by_cases g1:y = y' <;> by_cases g2:z = z' <;> simp [go_sem,ev' e68,ev' e73,g1,g2,<- hbb]) (hK _ hw)
         | _ + 11,_,hv=>cases hv
        intro W hw;simp only [List.drop_succ_cons,List.drop_zero,List.zip_cons_cons,List.zip_nil_right,putAll];simp only [Act.put,List.setIfInBounds_toArray,List.set];cases bb
        ·have HNE2:Hid (∀ i,(h:i < C.strikes.length) -> i < j + 1 -> C.strikes[i] ≠ C.strikes[k]):=Lib.hid fun i h h'=>by
          by_cases e:i = j
          ·subst e;rw [HYZ.out,HYZ'.out];intro e;cases e;have:=HBB.out.2 ⟨rfl,rfl⟩;cases this
          ·exact HNE.out i h (by omega)
         go_wp2_with fail
         exact ⟨⟨j + 1,by go_num,by omega,HZ2.out.trans hw,HNE2⟩,by simp [intOf];omega⟩
        ·have HF:Hid (E = 6):=Lib.hid (by
          have h2:=HE2.out;rw [if_pos] at h2
          ·exact h2.symm
          ·intro hnd;obtain ⟨e1,e2⟩:=HBB.out.1 rfl;have:=nodup_of_take hkl hnd;refine this ?_;rw [List.mem_take_iff_getElem];exact ⟨j,by omega,by rw [HYZ.out,HYZ'.out,e1,e2]⟩)
         go_wp2_with fail
         go_ret;exact ⟨ret_int HF.out.symm,H0.out.trans (HZ.out.trans hw)⟩
       ·have t3:decide (j < k) = false:=by simpa using hjk
        have HNO2:Hid ((C.strikes.take (k + 1)).Nodup):=Lib.hid (nodup_take_succ hkl HNO.out fun hm=>by
         rw [List.mem_take_iff_getElem] at hm;obtain ⟨i,hi,e⟩:=hm;exact HNE.out i (by omega) (by omega) e)
        clear HNE HNO hjk;go_wp2_with fail
        exact ⟨⟨k + 1,by go_num,by omega,HZ.out,HNO2⟩,by simp [intOf];omega⟩
     ·have t2:decide (k < C.strikes.length) = false:=by simpa using hkl
      have HE3:Hid (surveysE C.claims C.surveys = E):=Lib.hid (by
       have h:=HNO.out;rw [List.take_of_length_le (by omega)] at h;have h2:=HE2.out
       rwa [if_neg (fun hn=>hn h)] at h2)
      obtain ⟨W2,rfl⟩:∃ W2,W2 = wr:=⟨_,rfl⟩
      replace HT:=Lib.hid (HT.out.aft HY.out)
      replace HB:=Lib.hid (HB.out.aft HY.out)
      replace H0:=Lib.hid (H0.out.trans HY.out)
      clear HNO HE2 HY hkl HS;go_upto_block 6 with fail
      clear k0 k1 k2 k3;refine wp_block ?_;go_loopw [6] (fun i wr=>∃ k:Nat,i = .int .i64 k /\ k <= C.surveys.length /\ Aft W2 wr /\ Hid (SvL C.claims C.surveys k 0)) (fun i _=>C.surveys.length - (intOf i).toNat)
      case atStart=>exact ⟨0,rfl,by omega,Aft.refl _,Lib.hid (SvL.start _ _)⟩
      case round =>
       obtain ⟨k,rfl,hk,hy,HSV⟩:=hrel;have HY:=Lib.hid hy;clear hy;obtain ⟨k0,k1,k2⟩:=box31 (HB.out.aft HY.out);have k3:=(HB.out.aft HY.out).lt;by_cases hkl:k < C.surveys.length
       ·have t4:decide (k < C.surveys.length) = true:=by simpa using hkl
        have ik:(0:Int) <= (k:Int) /\ (k:Int) < (C.surveys.length:Int):=by omega
        obtain ⟨bt,ot,A',c',hbt,hltt,x1,hil⟩:=(HT.out.aft HY.out).row hkl;subst hbt;have HSC:=fun hf=>Lib.hid (HSV.out.count hkl hf)
        have HSL:=fun hf=>Lib.hid (HSV.out.listed hkl hf)
        obtain ⟨l,hl0⟩:∃ l,C.surveys[k] = l:=⟨_,rfl⟩;rw [hl0] at x1 hil HSC HSL;have HIL:=Lib.hid hil;have hll:=hil.len;have H72:Hid (∀ W,Aft wr W -> Calls Tryz.prog 72 #[.agg #[.int .i64 C.claims,.slice a1 C.strikes.length c1,.slice (some ⟨bt,ot,none⟩) C.surveys.length c2],.slice A' l.length c'] W fun e w'=>e = .returned (.int .i64 (listedE C.claims l)) /\ Aft W w'):=Lib.hid fun W h=>listedR_any C.claims a1 (some ⟨bt,ot,none⟩) C.strikes.length C.surveys.length c1 c2 A' l c' W hn (HIL.out.aft h)
        have HC0:Hid (∀ W,Aft wr W -> W.cell? ⟨bC,0,none⟩ = some (.int .i64 C.claims) /\ W.cell? ⟨bC,1,none⟩ = some (.slice a1 C.strikes.length c1) /\ W.cell? ⟨bC,2,none⟩ = some (.slice (some ⟨bt,ot,none⟩) C.surveys.length c2)):=Lib.hid fun W h=>box31 (HB.out.aft (HY.out.trans h))
        have HX1:Hid (∀ W,Aft wr W -> W.cell? ⟨bt,ot + k,none⟩ = some (.slice A' l.length c')):=Lib.hid fun W h=>cellA x1 hltt h
        clear hl0 hil;cases hf:fromB (l.length:Int) 1 6
        ·have HF:=Lib.hid ((HSC hf).out.done (.inr (by decide)));go_wp2_with (go_at_call 57;refine (beside_any (l.length:Int) 1 6 wr).mono ?_;rintro e w' ⟨rfl,rfl⟩;rw [hf])
         go_ret;exact ⟨ret_int (by rw [<- HE3.out];exact HF.out),H0.out.trans HY.out⟩
        ·have HSL2:=HSL hf;clear HSC HSL;obtain ⟨E2,hE2⟩:∃ E2,listedE C.claims l = E2:=⟨_,rfl⟩;rw [hE2] at H72 HSL2;clear hE2;go_upto_region 21 with (go_at_call 57;refine (beside_any (l.length:Int) 1 6 wr).mono ?_;rintro e w' ⟨rfl,rfl⟩;rw [hf])
         clear k0 k1 k2 k3 x1 hf;refine wp_region_valsT (by kernel_rfl) 7 99 rfl (by kernel_rfl) (by kernel_rfl) (by kernel_rfl) [(.agg #[.int .i64 C.claims,.slice a1 C.strikes.length c1,.slice (some ⟨bt,ot,none⟩) C.surveys.length c2]),.pointer (some ⟨bC,2,none⟩),.slice (some ⟨bt,ot,none⟩) C.surveys.length c2,.int .i64 k,.pointer (some ⟨bt,ot + k,none⟩),.slice A' l.length c',.int .i64 E2] rfl (fun done W=>Aft wr W) (Aft.drew _) ?st4 ?fi4
         case st4 =>
          intro i o v ho hv
          match i,ho,hv with
          | 0,ho,hv =>
           cases ho;cases hv;refine .inl ⟨rfl,fun done a W hd hp hk hw K hK=>?_⟩;have e1:=hk.s 1;obtain ⟨j0,j1,j2⟩:=HC0.out W hw;exact op_val (v:=(.agg #[.int .i64 C.claims,.slice a1 C.strikes.length c1,.slice (some ⟨bt,ot,none⟩) C.surveys.length c2])) (by simp [go_sem,ev' e1,j0,j1,j2]) (hK _ hw)
          | 1,ho,hv =>
           cases ho;cases hv;refine .inl ⟨rfl,fun done a W hd hp hk hw K hK=>?_⟩;have e1:=hk.s 1;exact op_val (by simp [go_sem,ev' e1]) (hK _ hw)
          | 2,ho,hv =>
           cases ho;cases hv;refine .inl ⟨rfl,fun done a W hd hp hk hw K hK=>?_⟩;have e90:=hk.t 1;exact op_val (by simp [go_sem,ev' e90,(HC0.out W hw).2.2]) (hK _ hw)
          | 3,ho,hv =>
           cases ho;cases hv;refine .inl ⟨rfl,fun done a W hd hp hk hw K hK=>?_⟩;have e6:=hk.s 6;exact op_val (by simp [go_sem,ev' e6]) (hK _ hw)
          | 4,ho,hv =>
           cases ho;cases hv;refine .inl ⟨rfl,fun done a W hd hp hk hw K hK=>?_⟩;have e91:=hk.t 2;have e92:=hk.t 3;exact op_val (by simp [go_sem,ev' e91,ev' e92,ik]) (hK _ hw)
          | 5,ho,hv =>
           cases ho;cases hv;refine .inl ⟨rfl,fun done a W hd hp hk hw K hK=>?_⟩;have e93:=hk.t 4;exact op_val (by simp [go_sem,ev' e93,HX1.out W hw]) (hK _ hw)
          | 6,ho,hv =>
           cases ho;cases hv;refine .inl ⟨rfl,fun done a W hd hp hk hw K hK=>?_⟩;have e89:=hk.t 0;have e94:=hk.t 5;refine op_callN rfl rfl rfl _ rfl (vs:=#[(.agg #[.int .i64 C.claims,.slice a1 C.strikes.length c1,.slice (some ⟨bt,ot,none⟩) C.surveys.length c2]),.slice A' l.length c']) (by simp [e89,e94]) (H72.out W hw) fun e w' h=>?_
           obtain ⟨rfl,ha⟩:=h;exact ⟨_,rfl,hK _ (hw.trans ha)⟩
          | _ + 7,_,hv=>cases hv
         intro done W hd hw;simp only [List.drop_succ_cons,List.drop_zero,List.zip_cons_cons,List.zip_nil_right,putAll];simp only [Act.put,List.setIfInBounds_toArray,List.set];by_cases hE2:E2 = 0
         ·subst hE2;go_wp2_with fail
          exact ⟨⟨k + 1,by go_num,by omega,HY.out.trans hw,HSL2⟩,by simp [intOf];omega⟩
         ·have t5:(E2 != 0) = true:=by simpa using hE2
          have HF:=Lib.hid (HSL2.out.done (.inr hE2));go_wp2_with fail
          go_ret;exact ⟨ret_int (by rw [<- HE3.out];exact HF.out),H0.out.trans (HY.out.trans hw)⟩
       ·have t4:decide (k < C.surveys.length) = false:=by simpa using hkl
        have HF:=Lib.hid (HSV.out.done (.inl (by omega)));go_wp2_with fail
        go_ret;exact ⟨ret_int (by rw [<- HE3.out];exact HF.out),H0.out.trans HY.out⟩
 ·rw [hcb,if_pos rfl] at hE;clear hcb;go_wp2_with fail
  go_ret;exact ⟨ret_int hE,H0.out⟩
set_option maxRecDepth 100000 in
set_option maxHeartbeats 2000000 in
theorem refutedR_any (C:CaseL) (a1 a2:Option Addr) (c1 c2:Nat) (R:List Int) (A:Option Addr) (c:Nat) (w:World) (hC:CRep w C a1 a2) (hA:Ints w A R) :
  Calls Tryz.prog 66 #[(.agg #[.int .i64 C.claims,.slice a1 C.strikes.length c1,.slice a2 C.surveys.length c2]),.slice A R.length c] w fun e w'=>e = .returned (.int .i64 (openE C R)) /\ Aft w w':=by
 have H0:=Lib.hid (Aft.alloc w (.cells #[.int .i64 C.claims,.slice a1 C.strikes.length c1,.slice a2 C.surveys.length c2] 31));have HB:=Lib.hid (Blk.new w 31 #[.int .i64 C.claims,.slice a1 C.strikes.length c1,.slice a2 C.surveys.length c2]);unfold openE;by_cases h1:caseE C = 0
 ·rw [if_pos h1];have hok:=caseE_ok h1;have H1:Hid (∀ W,Aft w W -> Calls Tryz.prog 56 #[(.agg #[.int .i64 C.claims,.slice a1 C.strikes.length c1,.slice a2 C.surveys.length c2])] W fun e w'=>e = .returned (.int .i64 0) /\ Aft W w'):=Lib.hid fun W h=>by rw [<- h1];exact checkR_any C a1 a2 c1 c2 W (hC.aft h)
  have H2:Hid (∀ W,Aft w W -> Calls Tryz.prog 72 #[(.agg #[.int .i64 C.claims,.slice a1 C.strikes.length c1,.slice a2 C.surveys.length c2]),.slice A R.length c] W fun e w'=>e = .returned (.int .i64 (listedE C.claims R)) /\ Aft W w'):=Lib.hid fun W h=>listedR_any C.claims a1 a2 _ _ c1 c2 A R c W ⟨hok.n1,hok.n2⟩ (hA.aft h)
  obtain ⟨k0,k1,k2⟩:=box31 HB.out;have hlt:=HB.out.lt;clear hC hA h1 hok;generalize listedE C.claims R = E at *;go_enter Tryz.func66,Tryz.ntmps66;go_wp2_with (first | (go_at_call 56;refine (H1.out _ H0.out).mono ?_;rintro e w1 ⟨rfl,ha1⟩;have HA1:=Lib.hid ha1;obtain ⟨j0,j1,j2⟩:=box31 (HB.out.aft ha1);have hlt1:=(HB.out.aft ha1).lt;clear ha1) | (go_at_call 72;refine (H2.out _ (H0.out.trans HA1.out)).mono ?_;rintro e w2 ⟨rfl,ha2⟩;have HA2:=Lib.hid ha2;clear ha2))
  go_ret;exact ⟨rfl,(H0.out.trans HA1.out).trans HA2.out⟩
 ·rw [if_neg h1];have H1:Hid (∀ W,Aft w W -> Calls Tryz.prog 56 #[(.agg #[.int .i64 C.claims,.slice a1 C.strikes.length c1,.slice a2 C.surveys.length c2])] W fun e w'=>e = .returned (.int .i64 (caseE C)) /\ Aft W w'):=Lib.hid fun W h=>checkR_any C a1 a2 c1 c2 W (hC.aft h)
  have t1:(caseE C != 0) = true:=by simpa using h1
  obtain ⟨k0,k1,k2⟩:=box31 HB.out;have hlt:=HB.out.lt;clear hC hA h1;generalize caseE C = E at *;go_enter Tryz.func66,Tryz.ntmps66;go_wp2_with (go_at_call 56;refine (H1.out _ H0.out).mono ?_;rintro e w1 ⟨rfl,ha1⟩;have HA1:=Lib.hid ha1;clear ha1)
  go_ret;exact ⟨rfl,H0.out.trans HA1.out⟩
end Go.Proofs
end
section
/- Where the library's slices.SortFunc lies. -/
namespace Go.Proofs
open Go.RowKit Go.Shelf
set_option maxRecDepth 100000
def renSort:Go.Shelf.Ren:=⟨fun | 6=>75 | 14=>107 | 15=>108 | 20=>119 | 21=>120 | 22=>121 | 23=>122 | 24=>123 | 25=>124 | 26=>125 | 27=>126 | 28=>127 | 29=>128 | 46=>140 | 47=>141 | 48=>142 | 49=>143 | 50=>144 | 57=>148 | n=>n,fun | 22=>23 | 24=>33 | 25=>79 | 3=>3 | 39=>135 | 0=>0 | 53=>120 | 55=>152 | 4=>4 | 46=>144 | 45=>143 | 50=>148 | 5=>5 | 9=>9 | 66=>159 | 70=>55 | 76=>166 | 77=>167 | n=>n,fun n=>n⟩
theorem laySort:SlLaysF.n6 Tryz.prog renSort:={
 mixed:=by kernel_rfl
 f6:=⟨Tryz.f75.name,by kernel_rfl,Tryz.func75.trans (congrArg some (by kernel_rfl))⟩
 f14:=⟨Tryz.f107.name,by kernel_rfl,Tryz.func107.trans (congrArg some (by kernel_rfl))⟩
 f15:=Tryz.func108.trans (congrArg some (by kernel_rfl))
 f20:=⟨Tryz.f119.name,by kernel_rfl,Tryz.func119.trans (congrArg some (by kernel_rfl))⟩
 f21:=⟨Tryz.f120.name,by kernel_rfl,Tryz.func120.trans (congrArg some (by kernel_rfl))⟩
 f22:=⟨Tryz.f121.name,by kernel_rfl,Tryz.func121.trans (congrArg some (by kernel_rfl))⟩
 f23:=⟨Tryz.f122.name,by kernel_rfl,Tryz.func122.trans (congrArg some (by kernel_rfl))⟩
 f24:=⟨Tryz.f123.name,by kernel_rfl,Tryz.func123.trans (congrArg some (by kernel_rfl))⟩
 f25:=⟨Tryz.f124.name,by kernel_rfl,Tryz.func124.trans (congrArg some (by kernel_rfl))⟩
 f26:=⟨Tryz.f125.name,by kernel_rfl,Tryz.func125.trans (congrArg some (by kernel_rfl))⟩
 f27:=⟨Tryz.f126.name,by kernel_rfl,Tryz.func126.trans (congrArg some (by kernel_rfl))⟩
 f28:=Tryz.func127.trans (congrArg some (by kernel_rfl))
 f29:=Tryz.func128.trans (congrArg some (by kernel_rfl))
 f46:=⟨Tryz.f140.name,by kernel_rfl,Tryz.func140.trans (congrArg some (by kernel_rfl))⟩
 f47:=Tryz.func141.trans (congrArg some (by kernel_rfl))
 f48:=Tryz.func142.trans (congrArg some (by kernel_rfl))
 f49:=⟨Tryz.f143.name,by kernel_rfl,Tryz.func143.trans (congrArg some (by kernel_rfl))⟩
 f50:=⟨Tryz.f144.name,by kernel_rfl,Tryz.func144.trans (congrArg some (by kernel_rfl))⟩
 f57:=⟨Tryz.f148.name,by kernel_rfl,Tryz.func148.trans (congrArg some (by kernel_rfl))⟩
 t0:=Tryz.underlying0
 a0:=Tryz.isAgg0
 z0:=Tryz.sizeOf0
 v0:=Tryz.zeroValue0
 t3:=Tryz.underlying3
 a3:=Tryz.isAgg3
 z3:=Tryz.sizeOf3
 v3:=Tryz.zeroValue3
 t4:=Tryz.underlying4
 a4:=Tryz.isAgg4
 z4:=Tryz.sizeOf4
 v4:=Tryz.zeroValue4
 t5:=Tryz.underlying5
 a5:=Tryz.isAgg5
 z5:=Tryz.sizeOf5
 v5:=Tryz.zeroValue5
 t9:=Tryz.underlying9
 a9:=Tryz.isAgg9
 z9:=Tryz.sizeOf9
 v9:=Tryz.zeroValue9
 t22:=Tryz.underlying23
 a22:=Tryz.isAgg23
 z22:=Tryz.sizeOf23
 v22:=Tryz.zeroValue23
 a24:=Tryz.isAgg33
 z24:=Tryz.sizeOf33
 t25:=Tryz.underlying79
 a25:=Tryz.isAgg79
 z25:=Tryz.sizeOf79
 v25:=Tryz.zeroValue79
 t39:=Tryz.underlying135
 a39:=Tryz.isAgg135
 z39:=Tryz.sizeOf135
 v39:=Tryz.zeroValue135
 t45:=Tryz.underlying143
 a45:=Tryz.isAgg143
 z45:=Tryz.sizeOf143
 v45:=Tryz.zeroValue143
 t46:=Tryz.underlying144
 a46:=Tryz.isAgg144
 z46:=Tryz.sizeOf144
 v46:=Tryz.zeroValue144
 t50:=Tryz.underlying148
 a50:=Tryz.isAgg148
 z50:=Tryz.sizeOf148
 v50:=Tryz.zeroValue148
 t53:=Tryz.underlying120
 a53:=Tryz.isAgg120
 z53:=Tryz.sizeOf120
 v53:=Tryz.zeroValue120
 t55:=Tryz.underlying152
 a55:=Tryz.isAgg152
 z55:=Tryz.sizeOf152
 v55:=Tryz.zeroValue152
 t66:=Tryz.underlying159
 a66:=Tryz.isAgg159
 z66:=Tryz.sizeOf159
 v66:=Tryz.zeroValue159
 t70:=Tryz.underlying55
 a70:=Tryz.isAgg55
 z70:=Tryz.sizeOf55
 v70:=Tryz.zeroValue55
 t76:=Tryz.underlying166
 a76:=Tryz.isAgg166
 z76:=Tryz.sizeOf166
 v76:=Tryz.zeroValue166
 t77:=Tryz.underlying167
 a77:=Tryz.isAgg167
 z77:=Tryz.sizeOf167
 v77:=Tryz.zeroValue167 }
end Go.Proofs
end
section
/- Walks: slices.Compare of two lists of numbers. -/
namespace Go.Proofs
open Go.RowKit
attribute [local go_sem] Oper.semAt_some
theorem cmp96_any (x y:Int) (w:World):Calls Tryz.prog 96 #[.int .i64 x,.int .i64 y] w fun e w'=>e = .returned (.int .i64 (Lib.compareInt x y)) /\ w' = w:=by
 go_enter Tryz.func96,Tryz.ntmps96;go_wp2
 all_goals (go_ret;refine ⟨?_,rfl⟩;unfold Lib.compareInt;(repeat' split) <;> first | rfl | (exfalso;omega))
theorem compareInt_zero {x y:Int}:Lib.compareInt x y = 0 ↔ x = y:=by
 unfold Lib.compareInt
 (repeat' split) <;> constructor <;> intro h <;> first | omega | contradiction | (exfalso;omega)
def cmpZ:List Int -> List Int -> Int
 | [],[]=>0
 | [],_ :: _=>-1
 | _ :: _,[]=>1
 | x :: xs,y :: ys=>if x = y then cmpZ xs ys else Lib.compareInt x y
theorem compareInt_neg {x y:Int}:Lib.compareInt x y < 0 ↔ x < y:=by
 unfold Lib.compareInt
 (repeat' split) <;> constructor <;> intro h <;> first | omega | contradiction | (exfalso;omega)
theorem cmpZ_same:∀ x:List Int,cmpZ x x = 0
 | []=>rfl
 | x :: xs=>by unfold cmpZ;rw [if_pos rfl];exact cmpZ_same xs
theorem cmpZ_trans:∀ {x y z:List Int},cmpZ x y < 0 -> cmpZ y z < 0 -> cmpZ x z < 0
 | [],[],z,h,_=>by simp [cmpZ] at h
 | [],_ :: _,[],_,h=>by simp [cmpZ] at h
 | [],_ :: _,_ :: _,_,_=>by simp [cmpZ]
 | _ :: _,[],_,h,_=>by simp [cmpZ] at h
 | _ :: _,_ :: _,[],_,h=>by simp [cmpZ] at h
 | x :: xs,y :: ys,z :: zs,h1,h2=>by
  unfold cmpZ at h1 h2 ⊢;by_cases e1:x = y
  ·subst e1;rw [if_pos rfl] at h1;by_cases e2:x = z
   ·rw [if_pos e2] at h2 ⊢;exact cmpZ_trans h1 h2
   ·rw [if_neg e2] at h2 ⊢;exact h2
  ·rw [if_neg e1] at h1;have h1':=compareInt_neg.1 h1;by_cases e2:y = z
   ·subst e2;rw [if_neg e1];exact h1
   ·rw [if_neg e2] at h2;have h2':=compareInt_neg.1 h2;rw [if_neg (by omega)];exact compareInt_neg.2 (by omega)
theorem cmpZ_ge:∀ {x y z:List Int},¬ cmpZ x y < 0 -> ¬ cmpZ y z < 0 -> ¬ cmpZ x z < 0
 | _,[],_ :: _,_,h=>by simp [cmpZ] at h
 | [],_ :: _,_,h,_=>by simp [cmpZ] at h
 | [],[],[],_,_=>by simp [cmpZ]
 | _ :: _,_,[],_,_=>by simp [cmpZ]
 | x :: xs,y :: ys,z :: zs,h1,h2=>by
  unfold cmpZ at h1 h2 ⊢;by_cases e1:x = y
  ·subst e1;rw [if_pos rfl] at h1;by_cases e2:x = z
   ·rw [if_pos e2] at h2 ⊢;exact cmpZ_ge h1 h2
   ·rw [if_neg e2] at h2 ⊢;exact h2
  ·rw [if_neg e1] at h1;have h1':¬ x < y:=fun h=>h1 (compareInt_neg.2 h)
   by_cases e2:y = z
   ·subst e2;rw [if_neg e1];exact h1
   ·rw [if_neg e2] at h2;have h2':¬ y < z:=fun h=>h2 (compareInt_neg.2 h)
    rw [if_neg (by omega)];exact fun h=>by have:=compareInt_neg.1 h;omega
theorem compareInt_anti {x y:Int}:¬ Lib.compareInt x y < 0 -> ¬ Lib.compareInt y x < 0 -> x = y:=fun h1 h2=>by
 have h1':¬ x < y:=fun h=>h1 (compareInt_neg.2 h)
 have h2':¬ y < x:=fun h=>h2 (compareInt_neg.2 h)
 omega
theorem cmpZ_eq:∀ {x y:List Int},¬ cmpZ x y < 0 -> ¬ cmpZ y x < 0 -> x = y
 | [],[],_,_=>rfl
 | [],_ :: _,h,_=>by simp [cmpZ] at h
 | _ :: _,[],_,h=>by simp [cmpZ] at h
 | x :: xs,y :: ys,h1,h2=>by
  unfold cmpZ at h1 h2;by_cases e:x = y
  ·subst e;rw [if_pos rfl] at h1 h2;rw [cmpZ_eq h1 h2]
  ·rw [if_neg e] at h1;rw [if_neg (Ne.symm e)] at h2;exact absurd (compareInt_anti h1 h2) e
theorem cmpZ_step (x y:List Int) {k:Nat} (hx:k < x.length) (hy:k < y.length):cmpZ (x.drop k) (y.drop k) = if x[k] = y[k] then cmpZ (x.drop (k + 1)) (y.drop (k + 1)) else Lib.compareInt x[k] y[k]:=by
 rw [List.drop_eq_getElem_cons hx,List.drop_eq_getElem_cons hy,cmpZ]
theorem cmpZ_long (x y:List Int) {k:Nat} (hx:k < x.length) (hy:y.length <= k):cmpZ (x.drop k) (y.drop k) = 1:=by
 rw [List.drop_eq_getElem_cons hx,List.drop_eq_nil_of_le hy,cmpZ]
theorem cmpZ_end (x y:List Int):cmpZ (x.drop x.length) (y.drop x.length) = if x.length < y.length then -1 else 0:=by
 rw [List.drop_eq_nil_of_le (Nat.le_refl _)];by_cases h:x.length < y.length
 ·rw [List.drop_eq_getElem_cons h,if_pos h,cmpZ]
 ·rw [List.drop_eq_nil_of_le (by omega),if_neg h,cmpZ]
set_option maxRecDepth 100000 in
set_option maxHeartbeats 4000000 in
theorem compare_any (w:World) (x y:List Int) (A B:Option Addr) (c d:Nat) (hA:Ints w A x) (hB:Ints w B y) :
  Calls Tryz.prog 49 #[.slice A x.length c,.slice B y.length d] w fun e w'=>e = .returned (.int .i64 (cmpZ x y)) /\ w' = w:=by
 have HA:=Lib.hid hA;have HB:=Lib.hid hB;have hal:=hA.len;have hbl:=hB.len;have HST:=Lib.hid (fun (k:Nat) (hx:k < x.length) (hy:k < y.length)=>cmpZ_step x y hx hy);have HLO:=Lib.hid (fun (k:Nat) (hx:k < x.length) (hy:y.length <= k)=>cmpZ_long x y hx hy);have HEN:=Lib.hid (cmpZ_end x y);have HC0:=Lib.hid (show cmpZ x y = cmpZ (x.drop 0) (y.drop 0) by rw [List.drop_zero,List.drop_zero]);clear hA hB;obtain ⟨r,hr⟩:∃ r,cmpZ x y = r:=⟨_,rfl⟩;rw [hr] at HC0 ⊢;clear hr;go_enter Tryz.func49,Tryz.ntmps49;go_wp2_with fail
 go_loopw [11] (fun i wr=>∃ k:Nat,i = .int .i64 k /\ k <= x.length /\ wr = w /\ Hid (r = cmpZ (x.drop k) (y.drop k))) (fun i _=>x.length - (intOf i).toNat)
 case atStart=>exact ⟨0,rfl,by omega,rfl,HC0⟩
 case round =>
  obtain ⟨k,rfl,hk,rfl,HK⟩:=hrel;by_cases hkn:k < x.length
  ·have hdec:decide (k < x.length) = true:=decide_eq_true hkn;by_cases hky:k < y.length
   ·have hge:decide (y.length <= k) = false:=decide_eq_false (by omega);obtain ⟨bx,ox,rfl,-,hx⟩:=HA.out.at hkn;obtain ⟨bY,oY,rfl,-,hy⟩:=HB.out.at hky;have x0:=hx k hkn;have y0:=hy k hky;have HR:Hid (r = if x[k] = y[k] then cmpZ (x.drop (k + 1)) (y.drop (k + 1)) else Lib.compareInt x[k] y[k]):=Lib.hid (HK.out.trans (HST.out k hkn hky));have i1:(0:Int) <= (k:Int) /\ (k:Int) < (x.length:Int):=by omega
    have i2:(0:Int) <= (k:Int) /\ (k:Int) < (y.length:Int):=by omega
    clear hx hy;generalize x[k] = u at *;generalize y[k] = v at *;have HC:=Lib.hid (cmp96_any u v wr);by_cases huv:u = v
    ·have hq:Lib.compareInt u v = 0:=compareInt_zero.2 huv;rw [hq] at HC;have HN2:=Lib.hid (show r = cmpZ (x.drop (k + 1)) (y.drop (k + 1)) by rw [HR.out,if_pos huv]);clear huv HR hq;go_wp2_with (go_at_call 96;refine HC.out.mono ?_;rintro e w5 ⟨rfl,rfl⟩)
     exact ⟨⟨k + 1,by go_num,by omega,by trivial,HN2⟩,by simp [intOf];omega⟩
    ·have HRR:=Lib.hid (show r = Lib.compareInt u v by rw [HR.out,if_neg huv])
     have hqn:(Lib.compareInt u v != 0) = true:=by
      simp only [bne_iff_ne,ne_eq];exact fun e=>huv (compareInt_zero.1 e)
     clear huv HR;generalize Lib.compareInt u v = q at *;go_wp2_with (go_at_call 96;refine HC.out.mono ?_;rintro e w5 ⟨rfl,rfl⟩)
     go_ret;exact ⟨by rw [HRR.out];rfl,rfl⟩
   ·have hge:decide (y.length <= k) = true:=decide_eq_true (by omega);obtain ⟨bx,ox,rfl,-,hx⟩:=HA.out.at hkn;have x0:=hx k hkn;have HR:=Lib.hid (HK.out.trans (HLO.out k hkn (by omega)));have i1:(0:Int) <= (k:Int) /\ (k:Int) < (x.length:Int):=by omega
    clear hx hky;go_wp2_with fail
    go_ret;exact ⟨by rw [HR.out];rfl,rfl⟩
  ·have hdec:decide (k < x.length) = false:=decide_eq_false hkn;obtain rfl:x.length = k:=by omega
   have HR:=Lib.hid (HK.out.trans HEN.out);clear hkn;by_cases hxy:x.length < y.length
   ·have t1:decide (x.length < y.length) = true:=decide_eq_true hxy;have HR2:=Lib.hid (show r = -1 by rw [HR.out,if_pos hxy]);clear hxy HR;go_wp2_with fail
    go_ret;exact ⟨by rw [HR2.out];rfl,rfl⟩
   ·have t1:decide (x.length < y.length) = false:=decide_eq_false hxy;have HR2:=Lib.hid (show r = 0 by rw [HR.out,if_neg hxy]);clear hxy HR;go_wp2_with fail
    go_ret;exact ⟨by rw [HR2.out];rfl,rfl⟩
end Go.Proofs
end
section
/- Walks: Heard. -/
namespace Go.Proofs
open Go.RowKit
open Court (refL begF noS struckB nextR hearR hearsR rule setF allN RankOk openN round award hears)
def heardE (C:CaseL) (R O:List Int):Int:=if openE C R = 0 then (if 400 < O.length then 3 else if O.all (fun n=>Cl n C.claims) then 0 else 2) else openE C R
def BadH (C:CaseL) (R O:List Int) (w:World) (e:Ending) (w':World):Prop:=e = .returned (.tuple #[.slice none 0 0,.int .i64 (heardE C R O)]) /\ Aft w w'
theorem hears_succ (S:List (Int × Int)) (x:(Int -> Nat) × (Int -> Nat)) (o:List Int) (k:Nat) (h:k < o.length):hearsR S noS x (o.take (k + 1)) = hearR S noS (hearsR S noS x (o.take k)) o[k]:=by
 unfold hearsR;rw [List.take_succ_eq_append_getElem h,List.foldl_append];rfl
set_option maxRecDepth 100000 in
set_option maxHeartbeats 2000000 in
theorem heard_bad (C:CaseL) (a1 a2:Option Addr) (c1 c2:Nat) (R O:List Int) (A A':Option Addr) (c c':Nat) (w:World) (hC:CRep w C a1 a2) (hA:Ints w A R) (hA':Ints w A' O) (he:heardE C R O ≠ 0) :
  Calls Tryz.prog 35 #[(.agg #[.int .i64 C.claims,.slice a1 C.strikes.length c1,.slice a2 C.surveys.length c2]),.slice A R.length c,.slice A' O.length c'] w (BadH C R O w):=by
 have h0:Aft w (w.alloc (.cells #[.int .i64 C.claims,.slice a1 C.strikes.length c1,.slice a2 C.surveys.length c2] 25)):=Aft.alloc _ _;have H0:=Lib.hid h0;have hlo:=hA'.len;unfold BadH;unfold heardE at he ⊢;by_cases h1:openE C R = 0
 ·rw [if_pos h1] at he ⊢;have hok:=(openE_facts h1).1;have H1:Hid (∀ W,Aft w W -> Calls Tryz.prog 68 #[(.agg #[.int .i64 C.claims,.slice a1 C.strikes.length c1,.slice a2 C.surveys.length c2]),.slice A R.length c] W (Opened C a1 a2 c1 c2 R W)):=Lib.hid fun W h=>opened_good C a1 a2 c1 c2 R A c W (hC.aft h) (hA.aft h) h1
  have H2:Hid (∀ W,Aft w W -> Calls Tryz.prog 85 #[.slice A' O.length c',.func (.func 59) #[(.agg #[.int .i64 C.claims,.slice a1 C.strikes.length c1,.slice a2 C.surveys.length c2])] #[]] W fun e w'=>e = .returned (.bool (O.all fun n=>Cl n C.claims)) /\ Aft W w'):=Lib.hid fun W h=>none_strange C.claims a1 a2 _ _ c1 c2 A' O c' W ⟨hok.n1,hok.n2⟩ (hA'.aft h)
  have HB:=Lib.hid (Blk.new w 25 #[.int .i64 C.claims,.slice a1 C.strikes.length c1,.slice a2 C.surveys.length c2]);clear hC hA hA' h0 hok;go_enter Tryz.func35,Tryz.ntmps35;by_cases h2:400 < O.length
  ·rw [if_pos h2];have t1:decide ((400:Int) < O.length) = true:=by simp;omega
   clear he h1 h2;go_wp2_with (go_at_call 68;refine (H1.out _ H0.out).mono ?_;rintro e w1 ⟨d,rfl,hd⟩;have HD:=Lib.hid hd;clear hd)
   go_ret2;exact ⟨rfl,H0.out.trans HD.out.aft⟩
  ·rw [if_neg h2] at he ⊢;have t1:decide ((400:Int) < O.length) = false:=by simp;omega
   have h3:(O.all fun n=>Cl n C.claims) = false:=by
    cases h:(O.all fun n=>Cl n C.claims)
    ·rfl
    ·rw [if_pos h] at he;exact absurd rfl he
   rw [h3] at H2 ⊢;clear he h1 h2 h3;go_wp2_with (first | (go_at_call 68;refine (H1.out _ H0.out).mono ?_;rintro e w1 ⟨d,rfl,hd⟩;have HD:=Lib.hid hd;obtain ⟨k0,k1,k2⟩:=box25 (HB.out.aft hd.aft);have hlt:=(HB.out.aft hd.aft).lt;clear hd) | (go_at_call 85;refine (H2.out _ (H0.out.trans HD.out.aft)).mono ?_;rintro e w' ⟨rfl,u,rfl⟩))
   go_ret2;exact ⟨rfl,(H0.out.trans HD.out.aft).then_lat _⟩
 ·rw [if_neg h1] at he ⊢;have H1:Hid (∀ W,Aft w W -> Calls Tryz.prog 68 #[(.agg #[.int .i64 C.claims,.slice a1 C.strikes.length c1,.slice a2 C.surveys.length c2]),.slice A R.length c] W fun e w'=>e = .returned (.tuple #[.pointer none,.int .i64 (openE C R)]) /\ Aft W w'):=Lib.hid fun W h=>opened_bad C a1 a2 c1 c2 R A c W (hC.aft h) (hA.aft h) he
  have t1:(openE C R != 0) = true:=by simpa using he
  clear hC hA h0 he h1 hA';generalize openE C R = E at *;go_enter Tryz.func35,Tryz.ntmps35;go_wp2_with (go_at_call 68;refine (H1.out _ H0.out).mono ?_;rintro e w' ⟨rfl,u,rfl⟩)
  go_ret2;exact ⟨rfl,H0.out.then_lat _⟩
structure HdI (W0 w1:World) (d:Nat) (C:CaseL) (a1 a2:Option Addr) (c1 c2:Nat) (R O:List Int) (N:Nat) (k:Nat) (W:World):Prop where
 le:k <= O.length
 grown:w1.grownBy W (some d)
 desk:DeskAt W0 W d C a1 a2 c1 c2 (refL R) noS (hearsR C.strikes noS (begF (refL R),fun _=>0) (O.take k)).1 (hearsR C.strikes noS (begF (refL R),fun _=>0) (O.take k)).2
 heard:HeardS C.strikes noS N (begF (refL R)) (hearsR C.strikes noS (begF (refL R),fun _=>0) (O.take k)).1 (hearsR C.strikes noS (begF (refL R),fun _=>0) (O.take k)).2
theorem HdI.step {W0 w1 W W':World} {d:Nat} {C:CaseL} {a1 a2:Option Addr} {c1 c2:Nat} {R O:List Int} {N:Nat} {k:Nat} (h:HdI W0 w1 d C a1 a2 c1 c2 R O N k W) (hk:k < O.length) (hr:0 <= O[k] /\ O[k] < N) {e:Ending}
  (hh:Hearing W0 W d C a1 a2 c1 c2 (refL R) noS (hearR C.strikes noS ((hearsR C.strikes noS (begF (refL R),fun _=>0) (O.take k)).1,(hearsR C.strikes noS (begF (refL R),fun _=>0) (O.take k)).2) O[k]).1 (hearR C.strikes noS ((hearsR C.strikes noS (begF (refL R),fun _=>0) (O.take k)).1,(hearsR C.strikes noS (begF (refL R),fun _=>0) (O.take k)).2) O[k]).2 e W'):HdI W0 w1 d C a1 a2 c1 c2 R O N (k + 1) W':=by
 obtain ⟨_,hg,hd'⟩:=hh;refine ⟨by omega,h.grown.trans hg,?_,?_⟩
 ·rw [hears_succ _ _ _ _ hk];exact hd'
 ·rw [hears_succ _ _ _ _ hk];exact h.heard.step hr
set_option maxRecDepth 100000 in
set_option maxHeartbeats 2000000 in
theorem heard_good (C:CaseL) (a1 a2:Option Addr) (c1 c2:Nat) (R O:List Int) (A A':Option Addr) (c c':Nat) (w:World) (hC:CRep w C a1 a2) (hA:Ints w A R) (hA':Ints w A' O) (he:heardE C R O = 0) (N:Nat) (hN:C.claims = N) :
  Calls Tryz.prog 35 #[(.agg #[.int .i64 C.claims,.slice a1 C.strikes.length c1,.slice a2 C.surveys.length c2]),.slice A R.length c,.slice A' O.length c'] w (GoodL (foundL (hears C.strikes noS (begF (refL R)) O) N) w):=by
 have h0:Aft w (w.alloc (.cells #[.int .i64 C.claims,.slice a1 C.strikes.length c1,.slice a2 C.surveys.length c2] 25)):=Aft.alloc _ _;have H0:=Lib.hid h0;have hlo:=hA'.len;unfold heardE at he
 have h1:openE C R = 0:=by
  by_cases h1:openE C R = 0
  ·exact h1
  ·rw [if_neg h1] at he;exact he
 rw [if_pos h1] at he;have h2:¬ 400 < O.length:=fun h=>by rw [if_pos h] at he;cases he
 rw [if_neg h2] at he
 have h3:(O.all fun n=>Cl n C.claims) = true:=by
  cases h:(O.all fun n=>Cl n C.claims)
  ·rw [h] at he;cases he
  ·rfl
 have HO:Hid (∀ k,(h:k < O.length) -> 0 <= O[k] /\ O[k] < N):=Lib.hid fun k h=>by
  have:=Cl_iff.1 (List.all_eq_true.1 h3 _ (List.getElem_mem h))
  rwa [hN] at this
 have hok:=(openE_facts h1).1;have hN14:N <= 14:=by have:=hok.n2;omega
 have HS:=Lib.hid (show ∀ s ∈ C.strikes,0 <= s.1 /\ s.1 < 14 from fun s hs=>by have:=(hok.ins s hs).1;have:=hok.n2;omega);have H1:Hid (∀ W,Aft w W -> Calls Tryz.prog 68 #[(.agg #[.int .i64 C.claims,.slice a1 C.strikes.length c1,.slice a2 C.surveys.length c2]),.slice A R.length c] W (Opened C a1 a2 c1 c2 R W)):=Lib.hid fun W h=>opened_good C a1 a2 c1 c2 R A c W (hC.aft h) (hA.aft h) h1
 have H2:Hid (∀ W,Aft w W -> Calls Tryz.prog 85 #[.slice A' O.length c',.func (.func 59) #[(.agg #[.int .i64 C.claims,.slice a1 C.strikes.length c1,.slice a2 C.surveys.length c2])] #[]] W fun e w'=>e = .returned (.bool (O.all fun n=>Cl n C.claims)) /\ Aft W w'):=Lib.hid fun W h=>none_strange C.claims a1 a2 _ _ c1 c2 A' O c' W ⟨hok.n1,hok.n2⟩ (hA'.aft h)
 rw [h3] at H2;have HB:=Lib.hid (Blk.new w 25 #[.int .i64 C.claims,.slice a1 C.strikes.length c1,.slice a2 C.surveys.length c2]);have HN:=Lib.hid hN;have HA':=Lib.hid hA';have t1:decide ((400:Int) < O.length) = false:=by simp;omega
 have hO400:O.length <= 400:=by omega
 clear hC hA hA' h0 hok he h1 h2 h3 hN hlo;go_enter Tryz.func35,Tryz.ntmps35;go_upto_block 1 with (first | (go_at_call 68;refine (H1.out _ H0.out).mono ?_;rintro e w1 ⟨d,rfl,hd⟩;have HD:=Lib.hid hd;obtain ⟨k0,k1,k2⟩:=box25 (HB.out.aft hd.aft);have hlt:=(HB.out.aft hd.aft).lt;clear hd) | (go_at_call 85;refine (H2.out _ (H0.out.trans HD.out.aft)).mono ?_;rintro e w2 ⟨rfl,ha2⟩;have HA2:=Lib.hid ha2;clear ha2))
 have HA1:Hid (Aft w w2):=Lib.hid ((H0.out.trans HD.out.aft).trans HA2.out);have hdw:w.heap.size < d:=by have:=HD.out.base;simp at this;omega
 have HB1:=Lib.hid ((HB.out.aft HD.out.aft).aft HA2.out);have HD2:=Lib.hid (HD.out.later HA2.out);generalize (w.alloc (.cells #[.int .i64 C.claims,.slice a1 C.strikes.length c1,.slice a2 C.surveys.length c2] 25)) = W0 at *;have HI0:Hid (HdI W0 w2 d C a1 a2 c1 c2 R O N 0 w2):=Lib.hid ⟨by omega,only_refl _ _,by rw [List.take_zero];exact HD2.out,by rw [List.take_zero];exact HeardS.start _ _ _ _⟩;clear k0 k1 k2 hlt;refine wp_block ?_;go_loopw [34] (fun i wr=>∃ k:Nat,i = .int .i64 k /\ HdI W0 w2 d C a1 a2 c1 c2 R O N k wr) (fun i _=>O.length - (intOf i).toNat)
 case atStart=>exact ⟨0,rfl,HI0.out⟩
 case round =>
  obtain ⟨k,rfl,hi⟩:=hrel;have hk:=hi.le;have HI:=Lib.hid hi;clear hi;by_cases hkO:k < O.length
  ·have t2:decide (k < O.length) = true:=by simpa using hkO
   obtain ⟨b,o,rfl,hb,hc⟩:=((HA'.out.aft HA1.out).aft (Aft.refl _)).at hkO;have hok:=HO.out k hkO
   have hkc:wr.cell? ⟨b,o + k,none⟩ = some (.int .i64 O[k]):=by
    obtain ⟨b',o',e1,hb',hc'⟩:=HA'.out.at hkO;cases e1;have:Ints wr (some ⟨b,o,none⟩) O:=(HA'.out.aft (HA1.out.grown HI.out.grown (fun k e=>by cases e;omega)));obtain ⟨b2,o2,e2,_,hc2⟩:=this.at hkO;cases e2;exact hc2 k hkO
   have hbr:b < wr.heap.size:=Nat.lt_of_lt_of_le hb HI.out.grown.size;obtain ⟨n,hn⟩:∃ n:Nat,O[k] = n:=⟨O[k].toNat,by omega⟩;have HE:=Lib.hid (fun (hr:∀ x,(hearsR C.strikes noS (begF (refL R),fun _=>0) (O.take k)).2 x <= 1000)=>hear_any W0 wr d C a1 a2 c1 c2 (refL R) noS _ _ HI.out.desk n (by omega) HS.out hr);have HE2:=Lib.hid (HE.out (fun x=>by have:=HI.out.heard.rank (Court.begF_three _) x;omega));rw [hn] at hkc;have HN2:=Lib.hid hn;clear hc hn hok HE;go_wp2_with (go_at_call 86;refine HE2.out.mono ?_;rintro e w' hh;have HH2:=Lib.hid (HI.out.step hkO (HO.out k hkO) (by rw [HN2.out];exact hh));obtain ⟨⟨v,rfl⟩,-,-⟩:=hh)
   exact ⟨⟨k + 1,by go_num,HH2.out⟩,by simp [intOf];omega⟩
  ·have t2:decide (k < O.length) = false:=by simpa using hkO
   obtain rfl:O.length = k:=by omega
   clear hkO;have hdk:=HI.out.desk;have hg:=HI.out.grown;rw [List.take_of_length_le (Nat.le_refl _)] at hdk;have HF:=Lib.hid (Court.hearsR_fst (S:=C.strikes) (sure:=noS) O (begF (refL R),fun _=>0));rw [HF.out] at hdk;have HDK:=Lib.hid (hdk.later (Aft.drew _));have HG:=Lib.hid hg;have hlt0:w.heap.size < wr.drew.heap.size:=Nat.lt_of_lt_of_le HB1.out.lt hg.size
   have z0:wr.drew.cell? ⟨w.heap.size,0,none⟩ = some (.int .i64 N):=by
    rw [<- HN.out];exact (HB1.out.grown hg (by simp;omega)).cell 0
   clear hdk hg;go_upto_region 13 with (fail)
   refine wp_region_valsT (by kernel_rfl) 5 49 rfl (by kernel_rfl) (by kernel_rfl) (by kernel_rfl) [.pointer (some ⟨d,0,none⟩),.pointer (some ⟨d,0,none⟩),.pointer (some ⟨d,31,none⟩),.pointer (some ⟨w.heap.size,0,none⟩),.int .i64 N] rfl (fun _ W=>W = wr.drew) (rfl) ?st1 ?fi1
   case st1 =>
    intro i o v ho hv
    match i,ho,hv with
    | 0,ho,hv =>
     cases ho;cases hv;refine .inl ⟨rfl,fun done a W hd hp hk hw K hK=>?_⟩;have e8:=hk.s 8;exact op_val (by simp [go_sem,ev' e8]) (hK _ hw)
    | 1,ho,hv =>
     cases ho;cases hv;refine .inl ⟨rfl,fun done a W hd hp hk hw K hK=>?_⟩;have e42:=hk.t 0;exact op_val (by simp [go_sem,ev' e42]) (hK _ hw)
    | 2,ho,hv =>
     cases ho;cases hv;refine .inl ⟨rfl,fun done a W hd hp hk hw K hK=>?_⟩;have e43:=hk.t 1;exact op_val (by simp [go_sem,ev' e43]) (hK _ hw)
    | 3,ho,hv =>
     cases ho;cases hv;refine .inl ⟨rfl,fun done a W hd hp hk hw K hK=>?_⟩;have e3:=hk.s 3;exact op_val (by simp [go_sem,ev' e3]) (hK _ hw)
    | 4,ho,hv =>
     cases ho;cases hv;refine .inl ⟨rfl,fun done a W hd hp hk hw K hK=>?_⟩;have e45:=hk.t 3;exact op_val (by simp [go_sem,ev' e45,hw,z0]) (hK _ hw)
    | _ + 5,_,hv=>cases hv
   intro done W hd hw;simp only [List.drop_succ_cons,List.drop_zero,List.zip_cons_cons,List.zip_nil_right,putAll];simp only [Act.put,List.setIfInBounds_toArray,List.set];clear hd;subst hw;have HCL:=Lib.hid (clone84 (some ⟨d,31,none⟩) (foundL (hears C.strikes noS (begF (refL R)) O) N) 14 wr.drew (HDK.out.foundInts hN14));rw [foundL_len] at HCL;have i1:(0:Int) <= (N:Int) /\ (N:Int) <= 14:=by omega
   go_wp2_with (go_at_call 63;refine HCL.out.mono ?_;rintro e w9 ⟨v,rfl,hown,ha9⟩;have HO9:=Lib.hid hown;have HA9:=Lib.hid ha9;clear hown ha9)
   go_ret2;have hbig:Aft w w9:=((HA1.out.grown HG.out (fun k e=>by cases e;omega)).trans (Aft.drew _)).trans HA9.out;have hsz:=HA1.out.size;have hsz2:=HG.out.size;refine ⟨v,rfl,?_,hbig⟩;rw [foundL_len];have:=HO9.out;rw [foundL_len] at this;exact own_base this (by show w.heap.size <= wr.heap.size;omega)
end Go.Proofs
end
