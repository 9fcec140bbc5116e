/- Own texts, merged: CtEq CtL3 CtSd0. -/
import Derived.Test.YtbchfakfdikkjaaGreatS14
set_option linter.unusedSimpArgs false
set_option linter.unusedVariables false
set_option linter.unnecessarySimpa false
section
/- Walks: Equal[Strike] 67,equal 23 (a case and its copy). -/
namespace Go.Proofs
open Go.RowKit
attribute [local go_sem] Oper.semAt_some
set_option maxRecDepth 100000 in
set_option maxHeartbeats 4000000 in
theorem kitEqual_str (A A':Option Addr) (L L':List (Int × Int)) (c c':Nat) (w:World) (hA:Strs w A L) (hA':Strs w A' L') :
  Calls Tryz.prog 67 #[.slice A L.length c,.slice A' L'.length c'] w fun e w'=>e = .returned (.bool (eqB L L')) /\ Aft w w':=by
 have hl:=hA.len;have hl':=hA'.len;have HA:=Lib.hid hA;have HA':=Lib.hid hA';clear hA hA';go_enter Tryz.func67,Tryz.ntmps67;go_upto_block 0 with fail
 refine wp_block ?_;go_loopw [8] (fun i wr=>∃ k:Nat,i = .int .i64 k /\ k <= L.length /\ k <= L'.length /\ Hid (∀ j,(h:j < L.length) -> (h':j < L'.length) -> j < k -> L[j] = L'[j]) /\ Aft w wr) (fun i _=>L.length - (intOf i).toNat)
 case atStart=>exact ⟨0,rfl,by omega,by omega,Lib.hid fun j _ _ h=>by omega,Aft.refl _⟩
 case round =>
  obtain ⟨k,rfl,hk,hk',HH,hw⟩:=hrel;have HW:=Lib.hid hw;clear hw;by_cases hkl:k < L.length
  ·have t1:decide (k < L.length) = true:=by simpa using hkl
   have ik:(0:Int) <= (k:Int) /\ (k:Int) < (L.length:Int):=by omega
   obtain ⟨bs,os,hbs,hlts,hcs⟩:=(HA.out.aft HW.out).at hkl;subst hbs;obtain ⟨x1,x2⟩:=hcs k hkl;obtain ⟨⟨y,z⟩,hyz⟩:∃ s,L[k] = s:=⟨_,rfl⟩;have HYZ:=Lib.hid hyz;rw [hyz] at x1 x2;dsimp only at x1 x2;have HX1:Hid (∀ W,Aft wr W -> W.cell? ⟨bs,os + k * 2,none⟩ = some (.int .i64 y)):=Lib.hid fun W h=>cellA x1 hlts h
   have HX2:Hid (∀ W,Aft wr W -> W.cell? ⟨bs,os + k * 2 + 1,none⟩ = some (.int .i64 z)):=Lib.hid fun W h=>cellA x2 hlts h
   clear hcs hyz x1 x2;by_cases hkl':k < L'.length
   ·have ik':(0:Int) <= (k:Int) /\ (k:Int) < (L'.length:Int):=by omega
    have hge:decide ((L'.length:Int) <= (k:Int)) = false:=by simp;omega
    have hgeN:decide (L'.length <= k) = false:=by simp;omega
    obtain ⟨bt,ot,hbt,hltt,hct⟩:=(HA'.out.aft HW.out).at hkl';subst hbt;obtain ⟨x3,x4⟩:=hct k hkl';obtain ⟨⟨y',z'⟩,hyz'⟩:∃ s,L'[k] = s:=⟨_,rfl⟩;have HYZ':=Lib.hid hyz';rw [hyz'] at x3 x4;dsimp only at x3 x4;have HX3:Hid (∀ W,Aft wr W -> W.cell? ⟨bt,ot + k * 2,none⟩ = some (.int .i64 y')):=Lib.hid fun W h=>cellA x3 hltt h
    have HX4:Hid (∀ W,Aft wr W -> W.cell? ⟨bt,ot + k * 2 + 1,none⟩ = some (.int .i64 z')):=Lib.hid fun W h=>cellA x4 hltt h
    obtain ⟨bb,hbb⟩:∃ bb,(!(y == y' && z == z')) = bb:=⟨_,rfl⟩;have HBB:Hid (bb = false ↔ (y = y' /\ z = z')):=Lib.hid (by rw [<- hbb];simp);clear hct hyz' x3 x4;go_upto_region 4 with fail
    refine wp_region_valsG (by kernel_rfl) 32 rfl (by kernel_rfl) (by kernel_rfl) [.int .i64 k,.slice (some ⟨bt,ot,none⟩) L'.length c',.int .i64 L'.length,.bool false,.bool false,.slice (some ⟨bs,os,none⟩) L.length c,.int .i64 k,.pointer (some ⟨bs,os + k * 2,none⟩),.agg #[.int .i64 y,.int .i64 z],.slice (some ⟨bt,ot,none⟩) L'.length c',.int .i64 k,.pointer (some ⟨bt,ot + k * 2,none⟩),.agg #[.int .i64 y',.int .i64 z'],.bool bb,.bool bb] rfl (fun W=>Aft wr W) (Aft.drew _) ?st1 ?fi1
    case st1 =>
     intro i o v ho hv
     match i,ho,hv with
     | 0,ho,hv =>
      cases ho;cases hv;refine .inl ⟨rfl,fun a W hk hw K hK=>?_⟩;have e5:=hk.s 5;exact op_val (by simp [go_sem,ev' e5]) (hK _ hw)
     | 1,ho,hv =>
      cases ho;cases hv;refine .inl ⟨rfl,fun a W hk hw K hK=>?_⟩;have e1:=hk.s 1;exact op_val (by simp [go_sem,ev' e1]) (hK _ hw)
     | 2,ho,hv =>
      cases ho;cases hv;refine .inl ⟨rfl,fun a W hk hw K hK=>?_⟩;have e12:=hk.t 1;exact op_val (by simp [go_sem,ev' e12]) (hK _ hw)
     | 3,ho,hv =>
      cases ho;cases hv;refine .inl ⟨rfl,fun a W hk hw K hK=>?_⟩;have e11:=hk.t 0;have e13:=hk.t 2;exact op_val (by simp [go_sem,ev' e11,ev' e13,hge,hgeN]) (hK _ hw)
     | 4,ho,hv =>
      cases ho;cases hv;refine .inl ⟨rfl,fun a W hk hw K hK=>?_⟩;have e14:=hk.t 3;exact op_val (by simp [go_sem,ev' e14]) (hK _ hw)
     | 5,ho,hv =>
      cases ho;cases hv;refine .inl ⟨rfl,fun a W hk hw K hK=>?_⟩;have e0:=hk.s 0;exact op_val (by simp [go_sem,ev' e0]) (hK _ hw)
     | 6,ho,hv =>
      cases ho;cases hv;refine .inl ⟨rfl,fun a W hk hw K hK=>?_⟩;have e5:=hk.s 5;exact op_val (by simp [go_sem,ev' e5]) (hK _ hw)
     | 7,ho,hv =>
      cases ho;cases hv;refine .inl ⟨rfl,fun a W hk hw K hK=>?_⟩;have e16:=hk.t 5;have e17:=hk.t 6;exact op_val (by simp [go_sem,ev' e16,ev' e17,ik]) (hK _ hw)
     | 8,ho,hv =>
      cases ho;cases hv;refine .inl ⟨rfl,fun a W hk hw K hK=>?_⟩;have e18:=hk.t 7;exact op_val (by simp [go_sem,ev' e18,HX1.out W hw,HX2.out W hw]) (hK _ hw)
     | 9,ho,hv =>
      cases ho;cases hv;refine .inl ⟨rfl,fun a W hk hw K hK=>?_⟩;have e1:=hk.s 1;exact op_val (by simp [go_sem,ev' e1]) (hK _ hw)
     | 10,ho,hv =>
      cases ho;cases hv;refine .inl ⟨rfl,fun a W hk hw K hK=>?_⟩;have e5:=hk.s 5;exact op_val (by simp [go_sem,ev' e5]) (hK _ hw)
     | 11,ho,hv =>
      cases ho;cases hv;refine .inl ⟨rfl,fun a W hk hw K hK=>?_⟩;have e20:=hk.t 9;have e21:=hk.t 10;exact op_val (by simp [go_sem,ev' e20,ev' e21,ik']) (hK _ hw)
     | 12,ho,hv =>
      cases ho;cases hv;refine .inl ⟨rfl,fun a W hk hw K hK=>?_⟩;have e22:=hk.t 11;exact op_val (by simp [go_sem,ev' e22,HX3.out W hw,HX4.out W hw]) (hK _ hw)
     | 13,ho,hv =>
      cases ho;cases hv;refine .inl ⟨rfl,fun a W hk hw K hK=>?_⟩;have e19:=hk.t 8;have e23:=hk.t 12;exact op_val (v:=.bool bb) (by by_cases g1:y = y' <;> by_cases g2:z = z' <;> simp [go_sem,ev' e19,ev' e23,g1,g2,<- hbb]) (hK _ hw)
     | 14,ho,hv =>
      cases ho;cases hv;refine .inl ⟨rfl,fun a W hk hw K hK=>?_⟩;have e15:=hk.t 4;have e24:=hk.t 13;exact op_val (by simp [go_sem,ev' e15,ev' e24]) (hK _ hw)
     | _ + 15,_,hv=>cases hv
    intro W hw;simp only [List.drop_succ_cons,List.drop_zero,List.zip_cons_cons,List.zip_nil_right,putAll];simp only [Act.put,List.setIfInBounds_toArray,List.set];cases bb
    ·have HH2:Hid (∀ j,(h:j < L.length) -> (h':j < L'.length) -> j < k + 1 -> L[j] = L'[j]):=Lib.hid fun j h h' hj=>by
      by_cases e:j = k
      ·subst e;rw [HYZ.out,HYZ'.out];obtain ⟨h1,h2⟩:=HBB.out.1 rfl;rw [h1,h2]
      ·exact HH.out j h h' (by omega)
     go_wp2_with fail
     exact ⟨⟨k + 1,by go_num,by omega,by omega,HH2,HW.out.trans hw⟩,by simp [intOf];omega⟩
    ·have HF:Hid (eqB L L' = false):=Lib.hid (decide_eq_false fun e=>by
      have h1:=HYZ.out;have h2:=HYZ'.out;subst e;rw [h1] at h2;cases h2;have:=HBB.out.2 ⟨rfl,rfl⟩;cases this)
     go_wp2_with fail
     go_ret;exact ⟨ret_bool HF.out.symm,HW.out.trans hw⟩
   ·have hge:decide ((L'.length:Int) <= (k:Int)) = true:=by simp;omega
    have hgeN:decide (L'.length <= k) = true:=by simp;omega
    have HF:Hid (eqB L L' = false):=Lib.hid (decide_eq_false fun e=>by rw [e] at hkl;exact hkl' hkl);go_upto_region 4 with fail
    refine wp_region_valsG (by kernel_rfl) 32 rfl (by kernel_rfl) (by kernel_rfl) [.int .i64 k,.slice A' L'.length c',.int .i64 L'.length,.bool true,.bool true,undef,undef,undef,undef,undef,undef,undef,undef,undef,.bool true] rfl (fun W=>Aft wr W) (Aft.drew _) ?st2 ?fi2
    case st2 =>
     intro i o v ho hv
     match i,ho,hv with
     | 0,ho,hv =>
      cases ho;cases hv;refine .inl ⟨rfl,fun a W hk hw K hK=>?_⟩;have e5:=hk.s 5;exact op_val (by simp [go_sem,ev' e5]) (hK _ hw)
     | 1,ho,hv =>
      cases ho;cases hv;refine .inl ⟨rfl,fun a W hk hw K hK=>?_⟩;have e1:=hk.s 1;exact op_val (by simp [go_sem,ev' e1]) (hK _ hw)
     | 2,ho,hv =>
      cases ho;cases hv;refine .inl ⟨rfl,fun a W hk hw K hK=>?_⟩;have e12:=hk.t 1;exact op_val (by simp [go_sem,ev' e12]) (hK _ hw)
     | 3,ho,hv =>
      cases ho;cases hv;refine .inl ⟨rfl,fun a W hk hw K hK=>?_⟩;have e11:=hk.t 0;have e13:=hk.t 2;exact op_val (by simp [go_sem,ev' e11,ev' e13,hge,hgeN]) (hK _ hw)
     | 4,ho,hv =>
      cases ho;cases hv;refine .inl ⟨rfl,fun a W hk hw K hK=>?_⟩;have e14:=hk.t 3;exact op_val (by simp [go_sem,ev' e14]) (hK _ hw)
     | 5,ho,hv=>cases ho;cases hv;exact .inr ⟨rfl,rfl⟩
     | 6,ho,hv=>cases ho;cases hv;exact .inr ⟨rfl,rfl⟩
     | 7,ho,hv=>cases ho;cases hv;exact .inr ⟨rfl,rfl⟩
     | 8,ho,hv=>cases ho;cases hv;exact .inr ⟨rfl,rfl⟩
     | 9,ho,hv=>cases ho;cases hv;exact .inr ⟨rfl,rfl⟩
     | 10,ho,hv=>cases ho;cases hv;exact .inr ⟨rfl,rfl⟩
     | 11,ho,hv=>cases ho;cases hv;exact .inr ⟨rfl,rfl⟩
     | 12,ho,hv=>cases ho;cases hv;exact .inr ⟨rfl,rfl⟩
     | 13,ho,hv=>cases ho;cases hv;exact .inr ⟨rfl,rfl⟩
     | 14,ho,hv =>
      cases ho;cases hv;refine .inl ⟨rfl,fun a W hk hw K hK=>?_⟩;have e15:=hk.t 4;have e24:=hk.t 13;exact op_val (by simp [go_sem,ev' e15,ev' e24]) (hK _ hw)
     | _ + 15,_,hv=>cases hv
    intro W hw;simp only [List.drop_succ_cons,List.drop_zero,List.zip_cons_cons,List.zip_nil_right,putAll];simp only [Act.put,List.setIfInBounds_toArray,List.set];go_wp2_with fail
    go_ret;exact ⟨ret_bool HF.out.symm,HW.out.trans hw⟩
  ·have t1:decide (k < L.length) = false:=by simpa using hkl
   have HE:Hid (((L.length:Int) == (L'.length:Int)) = eqB L L'):=Lib.hid (by
    by_cases hLL:L.length = L'.length
    ·have:L = L':=List.ext_getElem hLL fun i h1 h2=>HH.out i h1 h2 (by omega)
     rw [<- this];simp [eqB]
    ·have h1:eqB L L' = false:=decide_eq_false fun e=>hLL (by rw [e])
     rw [h1]
     simp;omega)
   go_wp2_with fail
   go_ret;exact ⟨ret_bool HE.out,HW.out⟩
theorem eqB_self {α:Type} [DecidableEq α] (l:List α):eqB l l = true:=by simp [eqB]
set_option maxRecDepth 100000 in
set_option maxHeartbeats 2000000 in
theorem equal_same (C:CaseL) (a1 a2:Option Addr) (c1 c2:Nat) (b1 b2:Option Addr) (d1 d2:Nat) (w:World) (hC:CRep w C a1 a2) (hC':CRep w C b1 b2) :
  Calls Tryz.prog 23 #[(.agg #[.int .i64 C.claims,.slice a1 C.strikes.length c1,.slice a2 C.surveys.length c2]),.agg #[.int .i64 C.claims,.slice b1 C.strikes.length d1,.slice b2 C.surveys.length d2]] w fun e w'=>e = .returned (.bool true) /\ Aft w w':=by
 have H0:=Lib.hid ((Aft.alloc w (.cells #[.int .i64 C.claims,.slice a1 C.strikes.length c1,.slice a2 C.surveys.length c2] 25)).then_alloc (.cells #[.int .i64 C.claims,.slice b1 C.strikes.length d1,.slice b2 C.surveys.length d2] 25));have HB:=Lib.hid ((Blk.new w 25 #[.int .i64 C.claims,.slice a1 C.strikes.length c1,.slice a2 C.surveys.length c2]).alloc (.cells #[.int .i64 C.claims,.slice b1 C.strikes.length d1,.slice b2 C.surveys.length d2] 25));have HB2:=Lib.hid (Blk.new (w.alloc (.cells #[.int .i64 C.claims,.slice a1 C.strikes.length c1,.slice a2 C.surveys.length c2] 25)) 25 #[.int .i64 C.claims,.slice b1 C.strikes.length d1,.slice b2 C.surveys.length d2]);rw [World.size_alloc] at HB2
 have H67:Hid (∀ W,Aft w W -> Calls Tryz.prog 67 #[.slice a1 C.strikes.length c1,.slice b1 C.strikes.length d1] W fun e w'=>e = .returned (.bool true) /\ Aft W w'):=Lib.hid fun W h=>by
  have:=kitEqual_str a1 b1 C.strikes C.strikes c1 d1 W (hC.aft h).strikes (hC'.aft h).strikes
  rwa [eqB_self] at this
 have H29:Hid (∀ W,Aft w W -> Calls Tryz.prog 29 #[.slice a2 C.surveys.length c2,.slice b2 C.surveys.length d2] W fun e w'=>e = .returned (.bool true) /\ Aft W w'):=Lib.hid fun W h=>by
  have:=equalAll_any W a2 b2 C.surveys C.surveys c2 d2 (hC.aft h).surveys (hC'.aft h).surveys
  rwa [eqB_self] at this
 clear hC hC';go_enter Tryz.func23,Tryz.ntmps23;go_upto_region 1 with fail
 try rw [World.size_alloc]
 obtain ⟨g1,hg1⟩:∃ g1,w.heap.size = g1:=⟨_,rfl⟩;rw [hg1] at HB HB2 ⊢;clear hg1;generalize (w.alloc (.cells #[.int .i64 C.claims,.slice a1 C.strikes.length c1,.slice a2 C.surveys.length c2] 25)).alloc (.cells #[.int .i64 C.claims,.slice b1 C.strikes.length d1,.slice b2 C.surveys.length d2] 25) = W0 at *;obtain ⟨k0,k1,k2⟩:=box25 HB.out;obtain ⟨j0,j1,j2⟩:=box25 HB2.out;have k3:=HB.out.lt;have j3:=HB2.out.lt;have t1:(C.claims == C.claims) = true:=by simp
 (repeat (first | go_big_skip | go_big_want | go_big_move | go_big_op | go_step | go_upon | go_back));go_at_call 67;refine (H67.out W0 H0.out).mono ?_;rintro e W1 ⟨rfl,ha⟩;dsimp only;obtain ⟨k0,k1,k2⟩:=box25 (HB.out.aft ha);obtain ⟨j0,j1,j2⟩:=box25 (HB2.out.aft ha);have k3:=(HB.out.aft ha).lt;have j3:=(HB2.out.aft ha).lt;have HA1:=Lib.hid (H0.out.trans ha);clear ha;(repeat (first | go_big_skip | go_big_want | go_big_move | go_big_op | go_step | go_upon | go_back));go_at_call 29;refine (H29.out W1 HA1.out).mono ?_;rintro e W2 ⟨rfl,ha⟩;dsimp only;have HA2:=Lib.hid (HA1.out.trans ha);clear ha;(repeat (first | go_big_skip | go_big_want | go_big_move | go_big_op | go_step | go_upon | go_back));go_ret;exact ⟨rfl,HA2.out⟩
end Go.Proofs
end
section
/- Walks: the law CourtSurveys (3). -/
namespace Go.Proofs
open Go.RowKit
open Court (refL begF noS award)
attribute [local go_sem] Oper.semAt_some
structure Cw (W0:World) (C:CaseL) (done:Nat -> Bool) (a:Act) (W:World):Prop where
 aft:Aft W0 W
 o1:done 1 = true -> ∃ v1 v2,a.eval (.tmp 20) = .agg #[.int .i64 C.claims,v1,v2] /\ W.ownsRow W0.heap.size 57 2 v1 C.strikes.length (strC C.strikes) /\ OwnLists W W0.heap.size v2 C.surveys
 o3:done 3 = true -> ∃ v1 v2,a.eval (.tmp 22) = .agg #[.int .i64 C.claims,v1,v2] /\ W.ownsRow W0.heap.size 84 2 v1 C.strikes.length (strC C.strikes) /\ OwnLists W W0.heap.size v2 C.surveys
 o4:done 4 = true -> ∃ g,a.eval (.tmp 7) = .pointer (some ⟨g,0,none⟩) /\ W0.heap.size <= g /\ Blk W g 25 #[.int .i64 0,.slice none 0 0,.slice none 0 0]
 o5:done 5 = true -> ∃ g,a.eval (.tmp 8) = .pointer (some ⟨g,0,none⟩) /\ W0.heap.size <= g /\ Blk W g 31 #[.int .i64 0,.slice none 0 0,.slice none 0 0]
section
variable {W0 W W':World} {C:CaseL} {done:Nat -> Bool} {a:Act}
theorem Cw.start:Cw W0 C (fun _=>false) a W0.drew:=⟨Aft.drew _,(fun h=>by cases h),(fun h=>by cases h),(fun h=>by cases h),(fun h=>by cases h)⟩
theorem Cw.keep (h:Cw W0 C done a W) {i:Nat} {dst:Option Tmp} {v:Value} (hi:i ≠ 1 /\ i ≠ 3 /\ i ≠ 4 /\ i ≠ 5) (hd:dst ≠ some 20 /\ dst ≠ some 22 /\ dst ≠ some 7 /\ dst ≠ some 8):Cw W0 C (Go.upd done i) (a.put dst v) W:=by
 refine ⟨h.aft,fun p=>?_,fun p=>?_,fun p=>?_,fun p=>?_⟩
 ·rw [upd_ne' (Ne.symm hi.1)] at p;obtain ⟨v1,v2,e,hs⟩:=h.o1 p;exact ⟨v1,v2,by rw [evne hd.1];exact e,hs⟩
 ·rw [upd_ne' (Ne.symm hi.2.1)] at p;obtain ⟨v1,v2,e,hs⟩:=h.o3 p;exact ⟨v1,v2,by rw [evne hd.2.1];exact e,hs⟩
 ·rw [upd_ne' (Ne.symm hi.2.2.1)] at p;obtain ⟨g,e,hs⟩:=h.o4 p;exact ⟨g,by rw [evne hd.2.2.1];exact e,hs⟩
 ·rw [upd_ne' (Ne.symm hi.2.2.2)] at p;obtain ⟨g,e,hs⟩:=h.o5 p;exact ⟨g,by rw [evne hd.2.2.2];exact e,hs⟩
theorem Cw.step1 (h:Cw W0 C done a W) (ha:Aft W W') {v1 v2:Value} (hs:W'.ownsRow W0.heap.size 57 2 v1 C.strikes.length (strC C.strikes) /\ OwnLists W' W0.heap.size v2 C.surveys) (hz:20 < a.tmps.size):Cw W0 C (Go.upd done 1) (a.put (some 20) (.agg #[.int .i64 C.claims,v1,v2])) W':=by
 refine ⟨h.aft.trans ha,fun _=>⟨v1,v2,Act.eval_put_same _ _ _ hz,hs⟩,fun p=>?_,fun p=>?_,fun p=>?_⟩
 ·rw [upd_ne' (by decide)] at p;obtain ⟨v1,v2,e,hs⟩:=h.o3 p;exact ⟨v1,v2,by rw [evne (by decide)];exact e,⟨own_aft hs.1 ha,hs.2.aft ha⟩⟩
 ·rw [upd_ne' (by decide)] at p;obtain ⟨g,e,hs⟩:=h.o4 p;exact ⟨g,by rw [evne (by decide)];exact e,⟨hs.1,hs.2.aft ha⟩⟩
 ·rw [upd_ne' (by decide)] at p;obtain ⟨g,e,hs⟩:=h.o5 p;exact ⟨g,by rw [evne (by decide)];exact e,⟨hs.1,hs.2.aft ha⟩⟩
theorem Cw.step3 (h:Cw W0 C done a W) (ha:Aft W W') {v1 v2:Value} (hs:W'.ownsRow W0.heap.size 84 2 v1 C.strikes.length (strC C.strikes) /\ OwnLists W' W0.heap.size v2 C.surveys) (hz:22 < a.tmps.size):Cw W0 C (Go.upd done 3) (a.put (some 22) (.agg #[.int .i64 C.claims,v1,v2])) W':=by
 refine ⟨h.aft.trans ha,fun p=>?_,fun _=>⟨v1,v2,Act.eval_put_same _ _ _ hz,hs⟩,fun p=>?_,fun p=>?_⟩
 ·rw [upd_ne' (by decide)] at p;obtain ⟨v1,v2,e,hs⟩:=h.o1 p;exact ⟨v1,v2,by rw [evne (by decide)];exact e,⟨own_aft hs.1 ha,hs.2.aft ha⟩⟩
 ·rw [upd_ne' (by decide)] at p;obtain ⟨g,e,hs⟩:=h.o4 p;exact ⟨g,by rw [evne (by decide)];exact e,⟨hs.1,hs.2.aft ha⟩⟩
 ·rw [upd_ne' (by decide)] at p;obtain ⟨g,e,hs⟩:=h.o5 p;exact ⟨g,by rw [evne (by decide)];exact e,⟨hs.1,hs.2.aft ha⟩⟩
theorem Cw.step4 (h:Cw W0 C done a W) (ha:Aft W W') {g:Nat} (hs:W0.heap.size <= g /\ Blk W' g 25 #[.int .i64 0,.slice none 0 0,.slice none 0 0]) (hz:7 < a.tmps.size):Cw W0 C (Go.upd done 4) (a.put (some 7) (.pointer (some ⟨g,0,none⟩))) W':=by
 refine ⟨h.aft.trans ha,fun p=>?_,fun p=>?_,fun _=>⟨g,Act.eval_put_same _ _ _ hz,hs⟩,fun p=>?_⟩
 ·rw [upd_ne' (by decide)] at p;obtain ⟨v1,v2,e,hs⟩:=h.o1 p;exact ⟨v1,v2,by rw [evne (by decide)];exact e,⟨own_aft hs.1 ha,hs.2.aft ha⟩⟩
 ·rw [upd_ne' (by decide)] at p;obtain ⟨v1,v2,e,hs⟩:=h.o3 p;exact ⟨v1,v2,by rw [evne (by decide)];exact e,⟨own_aft hs.1 ha,hs.2.aft ha⟩⟩
 ·rw [upd_ne' (by decide)] at p;obtain ⟨g,e,hs⟩:=h.o5 p;exact ⟨g,by rw [evne (by decide)];exact e,⟨hs.1,hs.2.aft ha⟩⟩
theorem Cw.step5 (h:Cw W0 C done a W) (ha:Aft W W') {g:Nat} (hs:W0.heap.size <= g /\ Blk W' g 31 #[.int .i64 0,.slice none 0 0,.slice none 0 0]) (hz:8 < a.tmps.size):Cw W0 C (Go.upd done 5) (a.put (some 8) (.pointer (some ⟨g,0,none⟩))) W':=by
 refine ⟨h.aft.trans ha,fun p=>?_,fun p=>?_,fun p=>?_,fun _=>⟨g,Act.eval_put_same _ _ _ hz,hs⟩⟩
 ·rw [upd_ne' (by decide)] at p;obtain ⟨v1,v2,e,hs⟩:=h.o1 p;exact ⟨v1,v2,by rw [evne (by decide)];exact e,⟨own_aft hs.1 ha,hs.2.aft ha⟩⟩
 ·rw [upd_ne' (by decide)] at p;obtain ⟨v1,v2,e,hs⟩:=h.o3 p;exact ⟨v1,v2,by rw [evne (by decide)];exact e,⟨own_aft hs.1 ha,hs.2.aft ha⟩⟩
 ·rw [upd_ne' (by decide)] at p;obtain ⟨g,e,hs⟩:=h.o4 p;exact ⟨g,by rw [evne (by decide)];exact e,⟨hs.1,hs.2.aft ha⟩⟩
end
structure Two2 (C:CaseL) (W:World) (g7 g8 b3:Nat) (a1 a2:Option Addr) (c1 c2:Nat) (A1 A2 A3 A4:Option Addr) (k1 k2 k3 k4:Nat):Prop where
 k7:Blk W g7 25 #[.int .i64 C.claims,.slice A1 C.strikes.length k1,.slice A2 C.surveys.length k2]
 k8:Blk W g8 31 #[.int .i64 C.claims,.slice A3 C.strikes.length k3,.slice A4 C.surveys.length k4]
 k3:Blk W b3 25 #[.int .i64 C.claims,.slice a1 C.strikes.length c1,.slice a2 C.surveys.length c2]
 r7:CRep W C A1 A2
 r8:CRep W C A3 A4
 r3:CRep W C a1 a2
theorem Two2.aft {C:CaseL} {W W':World} {g7 g8 b3:Nat} {a1 a2:Option Addr} {c1 c2:Nat} {A1 A2 A3 A4:Option Addr} {k1 k2 k3 k4:Nat} (h:Two2 C W g7 g8 b3 a1 a2 c1 c2 A1 A2 A3 A4 k1 k2 k3 k4) (ha:Aft W W'):Two2 C W' g7 g8 b3 a1 a2 c1 c2 A1 A2 A3 A4 k1 k2 k3 k4 :=
 ⟨h.k7.aft ha,h.k8.aft ha,h.k3.aft ha,h.r7.aft ha,h.r8.aft ha,h.r3.aft ha⟩
set_option maxRecDepth 100000 in
set_option maxHeartbeats 16000000 in
theorem surveysLaw_any (C:CaseL) (a1 a2:Option Addr) (c1 c2:Nat) (s q:Int) (w:World) (hC:CRepQ w C a1 a2):Calls Tryz.prog 3 #[(.agg #[.int .i64 C.claims,.slice a1 C.strikes.length c1,.slice a2 C.surveys.length c2]),.int .i64 s,.int .i64 q] w fun e w'=>e = .returned (.bool true) /\ Aft w w':=by
 have H0:=Lib.hid (Aft.alloc w (.cells #[.int .i64 C.claims,.slice a1 C.strikes.length c1,.slice a2 C.surveys.length c2] 25));have HB:=Lib.hid (Blk.new w 25 #[.int .i64 C.claims,.slice a1 C.strikes.length c1,.slice a2 C.surveys.length c2]);have HQ:=Lib.hid (hC.aft H0.out);clear hC;obtain ⟨b3,hb3⟩:∃ b3,w.heap.size = b3:=⟨_,rfl⟩;rw [hb3] at HB;have HBC:=Lib.hid hb3;clear hb3;go_enter Tryz.func3,Tryz.ntmps3;go_upto_region 1 with fail
 rw [HBC.out];generalize w.alloc (.cells #[.int .i64 C.claims,.slice a1 C.strikes.length c1,.slice a2 C.surveys.length c2] 25) = W0 at *;obtain ⟨k0,k1,k2⟩:=box25 HB.out;have k3:=HB.out.lt;have HGR:Hid (Calls Tryz.prog 11 #[(.agg #[.int .i64 C.claims,.slice a1 C.strikes.length c1,.slice a2 C.surveys.length c2]),.int .i64 8,.slice none 0 0] W0 (GreatR C [] W0)):=Lib.hid (great_any C a1 a2 c1 c2 8 [] none 0 W0 HQ.out ⟨by simp,.inl rfl⟩);(repeat (first | go_big_skip | go_big_want | go_big_move | go_big_op | go_step | go_upon | go_back));go_at_call 11;refine HGR.out.mono ?_;rintro e W1 ⟨b,rfl,hs,ha⟩;dsimp only;have HA1:=Lib.hid ha;have HSM:=Lib.hid hs;clear ha hs k0 k1 k2 k3 HGR;cases b
 ·have hsm:=HSM.out rfl;have HC:=Lib.hid ((HQ.out.aft HA1.out).small hsm)
  replace HB:=Lib.hid (HB.out.aft HA1.out)
  have hs1:=hsm.few;have hs2:=hsm.fews;have HS3:=Lib.hid hsm.surveys;clear hsm HSM HQ;go_upto_region 3 with fail
  have HC0:Hid (∀ W,Aft W1 W -> W.cell? ⟨b3,0,none⟩ = some (.int .i64 C.claims) /\ W.cell? ⟨b3,1,none⟩ = some (.slice a1 C.strikes.length c1) /\ W.cell? ⟨b3,2,none⟩ = some (.slice a2 C.surveys.length c2)):=Lib.hid fun W h=>box25 (HB.out.aft h)
  have H13:Hid (∀ W,Aft W1 W -> Calls Tryz.prog 13 #[(.agg #[.int .i64 C.claims,.slice a1 C.strikes.length c1,.slice a2 C.surveys.length c2])] W (CopyR 57 C W)):=Lib.hid fun W h=>cloneCase_any C a1 a2 c1 c2 W (HC.out.aft h) (by omega) (by omega) (fun l hl=>by have:=HS3.out l hl;omega)
  have H14:Hid (∀ W,Aft W1 W -> Calls Tryz.prog 14 #[(.agg #[.int .i64 C.claims,.slice a1 C.strikes.length c1,.slice a2 C.surveys.length c2])] W (CopyR 84 C W)):=Lib.hid fun W h=>caseR_any C a1 a2 c1 c2 W (HC.out.aft h) (by omega) (by omega) (fun l hl=>by have:=HS3.out l hl;omega)
  refine wp_region_valsU (by kernel_rfl) 6 119 rfl (by kernel_rfl) (by kernel_rfl) [some ((.agg #[.int .i64 C.claims,.slice a1 C.strikes.length c1,.slice a2 C.surveys.length c2])),none,some ((.agg #[.int .i64 C.claims,.slice a1 C.strikes.length c1,.slice a2 C.surveys.length c2])),none,none,none] (by kernel_rfl) rfl (Cw W1 C) (Cw.start) ?st1 ?fi1
  case st1 =>
   intro i o v ho hv
   match i,ho,hv with
   | 0,ho,hv =>
    cases ho;cases hv;refine .inl ⟨rfl,fun done a W hz hd hp hk hw K hK=>?_⟩;have e3:=hk.s 3;obtain ⟨y0,y1,y2⟩:=HC0.out W hw.aft;exact op_val (v:=(.agg #[.int .i64 C.claims,.slice a1 C.strikes.length c1,.slice a2 C.surveys.length c2])) (by simp [go_sem,ev' e3,y0,y1,y2]) (hK _ _ (fun u hu=>by cases hu;rfl) (hw.keep (by decide) (by decide)))
   | 1,ho,hv =>
    cases ho;cases hv;refine .inl ⟨rfl,fun done a W hz hd hp hk hw K hK=>?_⟩;have e19:=hk.t 0;refine op_callN rfl rfl rfl _ rfl (vs:=#[(.agg #[.int .i64 C.claims,.slice a1 C.strikes.length c1,.slice a2 C.surveys.length c2])]) (by simp [e19]) (H13.out W hw.aft) fun e w' h=>?_
    obtain ⟨v1,v2,rfl,ho,hl,ha⟩:=h;exact ⟨_,rfl,hK _ _ (fun u hu=>by cases hu) (hw.step1 ha ⟨own_base ho hw.aft.size,hl.mono hw.aft.size⟩ (by rw [hz];decide))⟩
   | 2,ho,hv =>
    cases ho;cases hv;refine .inl ⟨rfl,fun done a W hz hd hp hk hw K hK=>?_⟩;have e3:=hk.s 3;obtain ⟨y0,y1,y2⟩:=HC0.out W hw.aft;exact op_val (v:=(.agg #[.int .i64 C.claims,.slice a1 C.strikes.length c1,.slice a2 C.surveys.length c2])) (by simp [go_sem,ev' e3,y0,y1,y2]) (hK _ _ (fun u hu=>by cases hu;rfl) (hw.keep (by decide) (by decide)))
   | 3,ho,hv =>
    cases ho;cases hv;refine .inl ⟨rfl,fun done a W hz hd hp hk hw K hK=>?_⟩;have e21:=hk.t 2;refine op_callN rfl rfl rfl _ rfl (vs:=#[(.agg #[.int .i64 C.claims,.slice a1 C.strikes.length c1,.slice a2 C.surveys.length c2])]) (by simp [e21]) (H14.out W hw.aft) fun e w' h=>?_
    obtain ⟨v1,v2,rfl,ho,hl,ha⟩:=h;exact ⟨_,rfl,hK _ _ (fun u hu=>by cases hu) (hw.step3 ha ⟨own_base ho hw.aft.size,hl.mono hw.aft.size⟩ (by rw [hz];decide))⟩
   | 4,ho,hv =>
    cases ho;cases hv;refine .inl ⟨rfl,fun done a W hz hd hp hk hw K hK=>?_⟩;exact op_valW (w':=W.alloc (.cells #[.int .i64 0,.slice none 0 0,.slice none 0 0] 25)) (v:=.pointer (some ⟨W.heap.size,0,none⟩)) (by simp [go_sem]) (hK _ _ (fun u hu=>by cases hu) (hw.step4 (Aft.alloc _ _) ⟨hw.aft.size,Blk.new W 25 _⟩ (by rw [hz];decide)))
   | 5,ho,hv =>
    cases ho;cases hv;refine .inl ⟨rfl,fun done a W hz hd hp hk hw K hK=>?_⟩;exact op_valW (w':=W.alloc (.cells #[.int .i64 0,.slice none 0 0,.slice none 0 0] 31)) (v:=.pointer (some ⟨W.heap.size,0,none⟩)) (by simp [go_sem]) (hK _ _ (fun u hu=>by cases hu) (hw.step5 (Aft.alloc _ _) ⟨hw.aft.size,Blk.new W 31 _⟩ (by rw [hz];decide)))
   | _ + 6,_,hv=>cases hv
  intro done us W hus hd hw;obtain ⟨x1,x2,x3,x4,rfl⟩:=list4 hus;obtain ⟨v1,v2,e20,ho1,hl1⟩:=hw.o1 (hd 1 (by decide));obtain ⟨v3,v4,e22,ho3,hl3⟩:=hw.o3 (hd 3 (by decide));obtain ⟨g7,e7,hg7,hb7⟩:=hw.o4 (hd 4 (by decide));obtain ⟨g8,e8,hg8,hb8⟩:=hw.o5 (hd 5 (by decide));have e20':x1 = .agg #[.int .i64 C.claims,v1,v2]:=by simpa [fill,putAll,Act.put,Act.eval] using e20
  have e22':x2 = .agg #[.int .i64 C.claims,v3,v4]:=by simpa [fill,putAll,Act.put,Act.eval] using e22
  have e7':x3 = .pointer (some ⟨g7,0,none⟩):=by simpa [fill,putAll,Act.put,Act.eval] using e7
  have e8':x4 = .pointer (some ⟨g8,0,none⟩):=by simpa [fill,putAll,Act.put,Act.eval] using e8
  subst e20';subst e22';subst e7';subst e8';obtain ⟨A1,k1,hv1,_,_⟩:=own_strs ho1 (by omega);obtain ⟨A2,k2,hv2,_,_⟩:=hl1.lists (by omega) (fun l hl=>by have:=HS3.out l hl;omega);obtain ⟨A3,k3,hv3,_,_⟩:=own_strs84 ho3 (by omega);obtain ⟨A4,k4,hv4,_,_⟩:=hl3.lists (by omega) (fun l hl=>by have:=HS3.out l hl;omega);subst hv1;subst hv2;subst hv3;subst hv4
  have hne:g7 ≠ g8:=fun e=>by
   subst e;have h7:W.heap[g7]? = some (.cells #[.int .i64 0,.slice none 0 0,.slice none 0 0] 25 (0,0)):=hb7;have h8:W.heap[g7]? = some (.cells #[.int .i64 0,.slice none 0 0,.slice none 0 0] 31 (0,0)):=hb8;rw [h7] at h8;cases h8
  have hs7:W.grownBy (W.setCells g7 0 [.int .i64 C.claims,.slice A1 C.strikes.length k1,.slice A2 C.surveys.length k2]) (some g7):=only_setCells _ _ _ (only_refl _ _);have hb7':Blk (W.setCells g7 0 [.int .i64 C.claims,.slice A1 C.strikes.length k1,.slice A2 C.surveys.length k2]) g7 25 #[.int .i64 C.claims,.slice A1 C.strikes.length k1,.slice A2 C.surveys.length k2]:=((hb7.store 0 (.int .i64 C.claims)).store 1 (.slice A1 C.strikes.length k1)).store 2 (.slice A2 C.surveys.length k2);have hb8':=hb8.grown hs7 (fun e=>hne (Option.some.inj e).symm);have ho1:=own_kept_ty ho1 hb7 (by decide) hs7;have ho3:=own_kept_ty ho3 hb7 (by decide) hs7;have hl1:=hl1.kept_ty hb7 (by decide) (by decide) hs7;have hl3:=hl3.kept_ty hb7 (by decide) (by decide) hs7;have hA7:=hw.aft.grown hs7 (fun k e=>by cases e;exact hg7);have HT7:=Lib.hid (blk_there hb7 (rfl:3 = (#[Value.int .i64 0,.slice none 0 0,.slice none 0 0]:Array Value).size));have HT8:=Lib.hid (blk_there hb8' (rfl:3 = (#[Value.int .i64 0,.slice none 0 0,.slice none 0 0]:Array Value).size));obtain ⟨W2,hW2⟩:∃ W2,(W.setCells g7 0 [.int .i64 C.claims,.slice A1 C.strikes.length k1,.slice A2 C.surveys.length k2]).setCells g8 0 [.int .i64 C.claims,.slice A3 C.strikes.length k3,.slice A4 C.surveys.length k4] = W2:=⟨_,rfl⟩;have hs8:(W.setCells g7 0 [.int .i64 C.claims,.slice A1 C.strikes.length k1,.slice A2 C.surveys.length k2]).grownBy W2 (some g8):=by rw [<- hW2];exact only_setCells _ _ _ (only_refl _ _)
  have hb8'':Blk W2 g8 31 #[.int .i64 C.claims,.slice A3 C.strikes.length k3,.slice A4 C.surveys.length k4]:=by rw [<- hW2];exact ((hb8'.store 0 (.int .i64 C.claims)).store 1 (.slice A3 C.strikes.length k3)).store 2 (.slice A4 C.surveys.length k4)
  have hb7'':=hb7'.grown hs8 (fun e=>hne (Option.some.inj e));have ho1:=own_kept_ty ho1 hb8' (by decide) hs8;have ho3:=own_kept_ty ho3 hb8' (by decide) hs8;have hl1:=hl1.kept_ty hb8' (by decide) (by decide) hs8;have hl3:=hl3.kept_ty hb8' (by decide) (by decide) hs8;have hA8:=hA7.grown hs8 (fun k e=>by cases e;exact hg8);have HTW:Hid (Two2 C W2 g7 g8 b3 a1 a2 c1 c2 A1 A2 A3 A4 k1 k2 k3 k4):=Lib.hid (by
   obtain ⟨_,_,f1,g1,_⟩:=own_strs ho1 (by omega);obtain ⟨_,_,f2,_,g2⟩:=hl1.lists (by omega) (fun l hl=>by have:=HS3.out l hl;omega);obtain ⟨_,_,f3,g3,_⟩:=own_strs84 ho3 (by omega);obtain ⟨_,_,f4,_,g4⟩:=hl3.lists (by omega) (fun l hl=>by have:=HS3.out l hl;omega);cases f1;cases f2;cases f3;cases f4;exact ⟨hb7'',hb8'',HB.out.aft hA8,⟨g1,g2⟩,⟨g3,g4⟩,HC.out.aft hA8⟩)
  have HAW:=Lib.hid (H0.out.trans (HA1.out.trans hA8));have HW2:=Lib.hid hW2;clear hw hd hus e20 e22 e7 e8 ho1 ho3 hl1 hl3 hb7 hb8 hb7' hb8' hb8'' hb7'' hs7 hs8 hA7 hA8 hne hg7 hg8 hW2 HC0 H13 H14 HB HC HA1 H0;simp only [fill,List.drop_succ_cons,List.drop_zero,List.zip_cons_cons,List.zip_nil_right,putAll];simp only [Act.put,List.setIfInBounds_toArray,List.set];go_upto_region 4 with (first | (refine wpList_store_mid rfl 25 (.tmp 7) (.tmp 20) rfl g7 0 #[.int .i64 C.claims,.slice A1 C.strikes.length k1,.slice A2 C.surveys.length k2] rfl rfl HT7.out info25b (all_oneCell_toArray (by intro v hv;simp at hv;rcases hv with rfl | rfl | rfl <;> rfl)) ?_) | (refine wpList_store_mid rfl 31 (.tmp 8) (.tmp 22) rfl g8 0 #[.int .i64 C.claims,.slice A3 C.strikes.length k3,.slice A4 C.surveys.length k4] rfl rfl HT8.out info31 (all_oneCell_toArray (by intro v hv;simp at hv;rcases hv with rfl | rfl | rfl <;> rfl)) ?_;rw [HW2.out]))
  clear HT7 HT8 HW2;obtain ⟨L1,E1,hp,hr⟩:=decides_pair C s;have H15:=Lib.hid (hp A1 A2 k1 k2);have H16:=Lib.hid (hr A3 A4 k3 k4);clear hp hr;obtain ⟨x0,x1,x2⟩:=box25 HTW.out.k7;have x3:=HTW.out.k7.lt;go_upto_region 5 with (go_at_call 15;refine (H15.out _ HTW.out.r7).mono ?_;rintro e W1a ⟨B1,d1,rfl,hi,ha⟩;have HI1:=Lib.hid hi;replace HTW:=Lib.hid (HTW.out.aft ha);replace HAW:=Lib.hid (HAW.out.trans ha);clear hi ha x0 x1 x2 x3)
  obtain ⟨x0,x1,x2⟩:=box31 HTW.out.k8;have x3:=HTW.out.k8.lt;go_upto_region 6 with (go_at_call 16;refine (H16.out _ HTW.out.r8).mono ?_;rintro e W1b ⟨B2,d2,rfl,hi,ha⟩;have HI2:=Lib.hid hi;replace HI1:=Lib.hid (HI1.out.aft ha);replace HTW:=Lib.hid (HTW.out.aft ha);replace HAW:=Lib.hid (HAW.out.trans ha);clear hi ha x0 x1 x2 x3)
  have tE:(E1 != E1) = false:=by simp
  have H17:=Lib.hid (kitEqual_int B1 B2 L1 L1 d1 d2 W1b HI1.out HI2.out);rw [eqB_self] at H17;go_cut [43] from 35 to 43 (fun sv wx=>sv = .bool false /\ Aft W1b wx)
  case first =>
   (repeat (first | go_big_skip | go_big_want | go_big_move | go_big_op | go_step | go_upon | go_back));go_at_call 17;refine H17.out.mono ?_;rintro e wz ⟨rfl,ha⟩;dsimp only;have HZ:=Lib.hid ha;clear ha;(repeat (first | go_big_skip | go_big_want | go_big_move | go_big_op | go_step | go_upon | go_back));go_meet;exact ⟨rfl,HZ.out⟩
  obtain ⟨rfl,ha⟩:=hcut
  replace HTW:=Lib.hid (HTW.out.aft ha)
  replace HAW:=Lib.hid (HAW.out.trans ha)
  clear ha tE H17 HI1 HI2 H15 H16;obtain ⟨W1c,rfl⟩:∃ W1c,W1c = wc:=⟨_,rfl⟩;go_upto_region 8 with fail
  obtain ⟨L2,E2,hp,hr⟩:=surveys_pair C q;have H18:=Lib.hid (hp A1 A2 k1 k2);have H19:=Lib.hid (hr A3 A4 k3 k4);clear hp hr;obtain ⟨x0,x1,x2⟩:=box25 HTW.out.k7;have x3:=HTW.out.k7.lt;go_upto_region 9 with (go_at_call 18;refine (H18.out _ HTW.out.r7).mono ?_;rintro e W2a ⟨B1,d1,rfl,hi,ha⟩;have HI1:=Lib.hid hi;replace HTW:=Lib.hid (HTW.out.aft ha);replace HAW:=Lib.hid (HAW.out.trans ha);clear hi ha x0 x1 x2 x3)
  obtain ⟨x0,x1,x2⟩:=box31 HTW.out.k8;have x3:=HTW.out.k8.lt;go_upto_region 10 with (go_at_call 19;refine (H19.out _ HTW.out.r8).mono ?_;rintro e W2b ⟨B2,d2,rfl,hi,ha⟩;have HI2:=Lib.hid hi;replace HI1:=Lib.hid (HI1.out.aft ha);replace HTW:=Lib.hid (HTW.out.aft ha);replace HAW:=Lib.hid (HAW.out.trans ha);clear hi ha x0 x1 x2 x3)
  have tE:(E2 != E2) = false:=by simp
  have H17:=Lib.hid (kitEqual_int B1 B2 L2 L2 d1 d2 W2b HI1.out HI2.out);rw [eqB_self] at H17;go_cut [64] from 56 to 64 (fun sv wx=>sv = .bool false /\ Aft W2b wx)
  case first =>
   (repeat (first | go_big_skip | go_big_want | go_big_move | go_big_op | go_step | go_upon | go_back));go_at_call 17;refine H17.out.mono ?_;rintro e wz ⟨rfl,ha⟩;dsimp only;have HZ:=Lib.hid ha;clear ha;(repeat (first | go_big_skip | go_big_want | go_big_move | go_big_op | go_step | go_upon | go_back));go_meet;exact ⟨rfl,HZ.out⟩
  obtain ⟨rfl,ha⟩:=hcut
  replace HTW:=Lib.hid (HTW.out.aft ha)
  replace HAW:=Lib.hid (HAW.out.trans ha)
  clear ha tE H17 HI1 HI2 H18 H19;obtain ⟨W2c,rfl⟩:∃ W2c,W2c = wc:=⟨_,rfl⟩;go_upto_region 12 with fail
  obtain ⟨m,E3,hp,hr⟩:=few_pair C q;have H20:=Lib.hid (hp A1 A2 k1 k2);have H21:=Lib.hid (hr A3 A4 k3 k4);clear hp hr;obtain ⟨x0,x1,x2⟩:=box25 HTW.out.k7;have x3:=HTW.out.k7.lt;go_upto_region 13 with (go_at_call 20;refine (H20.out _ HTW.out.r7).mono ?_;rintro e W5 ⟨B1,d1,Lw,rfl,hm14,hi,ha,hup⟩;have HI1:=Lib.hid hi;have HUP:=Lib.hid hup;replace HTW:=Lib.hid (HTW.out.aft ha);replace HAW:=Lib.hid (HAW.out.trans ha);clear hi ha hup x0 x1 x2 x3)
  obtain ⟨x0,x1,x2⟩:=box31 HTW.out.k8;have x3:=HTW.out.k8.lt;go_upto_region 14 with (go_at_call 21;refine (H21.out _ HTW.out.r8).mono ?_;rintro e W6 ⟨rfl,ha⟩;replace HI1:=Lib.hid (HI1.out.aft ha);replace HTW:=Lib.hid (HTW.out.aft ha);replace HAW:=Lib.hid (HAW.out.trans ha);clear ha x0 x1 x2 x3)
  have tE:(E3 != E3) = false:=by simp
  have tm:((m:Int) != (m:Int)) = false:=by simp
  go_cut [85] from 77 to 85 (fun sv wx=>sv = .bool false /\ wx = W6)
  case first =>
   (repeat (first | go_big_skip | go_big_want | go_big_move | go_big_op | go_step | go_upon | go_back));go_meet;exact ⟨rfl,rfl⟩
  obtain ⟨rfl,rfl⟩:=hcut;obtain ⟨W6,rfl⟩:∃ W6,W6 = wc:=⟨_,rfl⟩;clear tE tm H20 H21;go_upto_region 16 with fail
  by_cases hE:E3 = 0
  ·have t0:(E3 == 0) = true:=by simpa using hE
   obtain ⟨NN,n,rfl,hnN,hN14,hcall⟩:=HUP.out hE;have H22:=Lib.hid (hcall A3 A4 k3 k4 B1 d1 W6 HTW.out.r8 HI1.out);clear hcall HUP;have inN:(0:Int) <= (n:Int) /\ (n:Int) < (NN:Int):=by omega
   obtain ⟨x0,x1,x2⟩:=box31 HTW.out.k8;have x3:=HTW.out.k8.lt;go_upto_region 18 with (go_at_call 22;refine H22.out.mono ?_;rintro e W7 ⟨g,rfl,ha,hgl,hgc⟩;replace HTW:=Lib.hid (HTW.out.aft ha);replace HAW:=Lib.hid (HAW.out.trans ha);clear ha x0 x1 x2 x3)
   clear H22;have t1:decide ((n:Int) < 0) = false:=decide_eq_false (by omega);have t2:decide ((NN:Int) <= (n:Int)) = false:=decide_eq_false (by omega);have t3:decide (NN <= n) = false:=decide_eq_false (by omega);go_cut [112] from 94 to 112 (fun sv wx=>sv = .bool false /\ wx = W7)
   case first =>
    (repeat (first | go_big_skip | go_big_want | go_big_move | go_big_op | go_step | go_upon | go_back));go_meet;exact ⟨rfl,rfl⟩
   obtain ⟨rfl,rfl⟩:=hcut;clear t1 t2 t3 hgl hgc t0;obtain ⟨x0,x1,x2⟩:=box25 HTW.out.k7;have x3:=HTW.out.k7.lt;obtain ⟨y0,y1,y2⟩:=box25 HTW.out.k3;have y3:=HTW.out.k3.lt;have H23:=Lib.hid (equal_same C A1 A2 k1 k2 a1 a2 c1 c2 _ HTW.out.r7 HTW.out.r3);go_wp2_with (first | (go_at_call 23;refine H23.out.mono ?_;rintro e wz ⟨rfl,ha⟩;replace HAW:=Lib.hid (HAW.out.trans ha);clear ha) | (go_at_call 12;refine (awake_any _).mono ?_;rintro e wz2 ⟨rfl,ha⟩;have HEND:=Lib.hid (HAW.out.trans ha);clear ha))
   go_ret;exact ⟨rfl,HEND.out⟩
  ·have t0:(E3 == 0) = false:=by simpa using hE
   clear HUP;obtain ⟨x0,x1,x2⟩:=box25 HTW.out.k7;have x3:=HTW.out.k7.lt;obtain ⟨y0,y1,y2⟩:=box25 HTW.out.k3;have y3:=HTW.out.k3.lt;have H23:=Lib.hid (equal_same C A1 A2 k1 k2 a1 a2 c1 c2 _ HTW.out.r7 HTW.out.r3);go_wp2_with (first | (go_at_call 23;refine H23.out.mono ?_;rintro e wz ⟨rfl,ha⟩;replace HAW:=Lib.hid (HAW.out.trans ha);clear ha) | (go_at_call 12;refine (awake_any _).mono ?_;rintro e wz2 ⟨rfl,ha⟩;have HEND:=Lib.hid (HAW.out.trans ha);clear ha))
   go_ret;exact ⟨rfl,HEND.out⟩
 ·go_wp2_with (go_at_call 12;refine (awake_any _).mono ?_;rintro e wz2 ⟨rfl,ha⟩;have HEND:=Lib.hid (H0.out.trans (HA1.out.trans ha));clear ha)
  go_ret;exact ⟨rfl,HEND.out⟩
end Go.Proofs
end
section
/- Words: what the law CourtStood (10) asks,in plain terms. -/
namespace Go.Proofs
open Go.RowKit
open Court (refL begF noS struckB nextR award grow)
theorem mem_strikers {S:List (Int × Int)} {n x:Int}:x ∈ strikers S noS n ↔ ∃ s ∈ S,s.2 = n /\ s.1 = x:=by
 unfold strikers;rw [List.mem_map];constructor
 ·rintro ⟨s,hs,e⟩;obtain ⟨h1,h2⟩:=List.mem_filter.1 hs;simp [noS,Court.noS] at h2;exact ⟨s,h1,h2,e⟩
 ·rintro ⟨s,hs,e,e2⟩;exact ⟨s,List.mem_filter.2 ⟨hs,by simp [e,Court.noS]⟩,e2⟩
theorem any_strikers {S:List (Int × Int)} {L:Int -> Bool} {n:Int}:(strikers S noS n).any L = Court.strikeL S L n:=by
 rw [Bool.eq_iff_iff,List.any_eq_true,Court.strikeL_iff];constructor
 ·rintro ⟨x,hx,h⟩;obtain ⟨s,hs,e1,rfl⟩:=mem_strikers.1 hx;exact ⟨s,hs,e1,h⟩
 ·rintro ⟨s,hs,e,h⟩;exact ⟨s.1,mem_strikers.2 ⟨s,hs,e,rfl⟩,h⟩
theorem def_stand {S:List (Int × Int)} {ref:Int -> Bool} {l:List Int} {n:Int} (hn:n ∈ l):defB S noS ref (refL l) n = (!ref n && !Court.strikeL S (fun x=>l.contains x) n && S.all fun s=>!decide (s.2 = n) || ref s.1 || Court.strikeL S (fun x=>l.contains x) s.1):=by
 have e:refL l = fun x=>l.contains x:=rfl
 have h1:l.contains n = true:=List.contains_iff_mem.2 hn
 have h2:((strikers S noS n).all fun x=>ref x || (strikers S noS x).any fun x=>l.contains x) = S.all fun s=>!decide (s.2 = n) || ref s.1 || Court.strikeL S (fun x=>l.contains x) s.1:=by
  rw [Bool.eq_iff_iff,List.all_eq_true,List.all_eq_true];constructor
  ·intro h s hs;by_cases q:s.2 = n
   ·have:=h s.1 (mem_strikers.2 ⟨s,hs,q,rfl⟩);rw [any_strikers] at this;rw [decide_eq_true q];simpa using this
   ·rw [decide_eq_false q];rfl
  ·intro h x hx;obtain ⟨s,hs,q,rfl⟩:=mem_strikers.1 hx;have:=h s hs;rw [decide_eq_true q] at this;rw [any_strikers];simpa using this
 unfold defB;rw [e,h2,any_strikers];show (!l.contains n || _) = _;rw [h1,Bool.and_assoc];rfl
theorem def_out {S:List (Int × Int)} {ref:Int -> Bool} {l:List Int} {n:Int} (hn:n ∉ l):defB S noS ref (refL l) n = true:=by
 have h1:refL l n = false:=by
  cases q:refL l n with
  | false=>rfl
  | true=>exact absurd (List.contains_iff_mem.1 q) hn
 unfold defB;rw [h1];rfl
theorem standsB_eq {S:List (Int × Int)} {ref:Int -> Bool} {l:List Int} {N:Nat} (hl:∀ x ∈ l,0 <= x /\ x < N):standsB S noS ref (refL l) N = Court.standB S ref l:=by
 unfold standsB Court.standB;rw [Bool.eq_iff_iff,List.all_eq_true,List.all_eq_true];constructor
 ·intro h n hn;obtain ⟨k,rfl⟩:=Int.eq_ofNat_of_zero_le (hl n hn).1;rw [<- def_stand hn];exact h k (List.mem_range.2 (by have:=(hl _ hn).2;omega))
 ·intro h n hn;by_cases q:(n:Int) ∈ l
  ·rw [def_stand q];exact h _ q
  ·exact def_out q
def openN (f:Int -> Nat) (k:Nat):Nat:=(List.range k).countP fun i=>decide (f (i:Nat) = 0)
theorem sorted_ext:∀ {l1 l2:List Int},l1.Pairwise (· < ·) -> l2.Pairwise (· < ·) -> (∀ x,x ∈ l1 ↔ x ∈ l2) -> l1 = l2
 | [],[],_,_,_=>rfl
 | [],y :: r,_,_,h=>by have:=(h y).2 List.mem_cons_self;cases this
 | x :: r,[],_,_,h=>by have:=(h x).1 List.mem_cons_self;cases this
 | x :: r,y :: t,h1,h2,h=>by
  have a1:=List.pairwise_cons.1 h1;have a2:=List.pairwise_cons.1 h2
  have e:x = y:=by
   rcases List.mem_cons.1 ((h x).1 List.mem_cons_self) with e | q
   ·exact e
   ·rcases List.mem_cons.1 ((h y).2 List.mem_cons_self) with e | q2
    ·exact e.symm
    ·have:=a2.1 x q;have:=a1.1 y q2;omega
  subst e
  congr 1
  refine sorted_ext a1.2 a2.2 fun z=>⟨fun hz=>?_,fun hz=>?_⟩
  ·rcases List.mem_cons.1 ((h z).1 (List.mem_cons_of_mem _ hz)) with e | q
   ·subst e;have:=a1.1 z hz;omega
   ·exact q
  ·rcases List.mem_cons.1 ((h z).2 (List.mem_cons_of_mem _ hz)) with e | q
   ·subst e;have:=a2.1 z hz;omega
   ·exact q
end Go.Proofs
end
