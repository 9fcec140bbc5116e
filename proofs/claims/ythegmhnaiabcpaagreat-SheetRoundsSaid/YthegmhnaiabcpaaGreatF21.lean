/- Own texts, merged: Rg Qr Rl0 Va. -/
import Derived.Test.YthegmhnaiabcpaaGreatF19
import Derived.Test.YthegmhnaiabcpaaGreatF20
set_option linter.unusedSimpArgs false
set_option linter.unusedVariables false
set_option linter.unnecessarySimpa false
section
/- Walks: copies and comparisons of sets and legs (the law's). -/
namespace Go.Proofs
open Go.RowKit
attribute [local go_sem] Oper.semAt_some
set_option maxHeartbeats 1000000 in
theorem kitCloneLeg (A:Option Addr) (l:List (Int × Bool)) (c:Nat) (w:World) (hA:RowsP w A 2 (FlatR encG) l) :
  Calls Tryz.prog 7 #[.slice A l.length c] w (OwnF 34 2 encG w l):=by
 have hl:=hA.len (by decide);have hb:l.length * 16 <= 140737488355328:=by have:=hA.1;omega
 go_enter Tryz.func7,Tryz.ntmps7;go_wp2_with (at_builtin;refine wpList_app ty103 rfl _ _ rfl (Aft.refl w) rfl (World.ownsRow_nil w _ 34 2) rfl (flat_len (enc:=encG) (sz:=2) (fun _=>rfl) l) (rows_nil hA) (rows_src (enc:=encG) (fun _=>rfl) (by decide) hA) (encG_one l) (by omega) (by decide) ?_;intro v' w1 hown' hgrow haft)
 go_ret;exact ⟨_,rfl,by simpa using hown',haft⟩
theorem tyL43:SliceTy Tryz.prog 43 106 2 16:=.mk' (z:=.agg #[.int .i64 0,.bool false]) Tryz.underlying43 (by kernel_rfl) rfl (by decide)
set_option maxRecDepth 100000 in
set_option maxHeartbeats 4000000 in
theorem legsL_any (A:Option Addr) (l:List (Int × Bool)) (c:Nat) (w:World) (hA:Gs w A l) :
  Calls Tryz.prog 11 #[.slice A l.length c] w (OwnF 106 2 encG w l):=by
 have hl:=hA.len;have hb:l.length * 16 <= 140737488355328:=by have:=hA.1;omega
 have HA:=Lib.hid hA;clear hA;go_enter Tryz.func11,Tryz.ntmps11;go_upto_block 0 with fail
 refine wp_block ?_;go_loopw [3,8] (fun v i wr=>∃ k:Nat,i = .int .i64 (k:Nat) /\ k <= l.length /\ wr.ownsRow w.heap.size 106 2 v (l.take k).length ((l.take k).flatMap encG) /\ Aft w wr) (fun _ i _=>l.length - (intOf i).toNat)
 case atStart=>exact ⟨0,rfl,by omega,World.ownsRow_nil _ _ 106 2,Aft.refl _⟩
 case round =>
  obtain ⟨k,rfl,hk,ho,ha⟩:=hrel;have HO:=Lib.hid ho;have HAF:=Lib.hid ha;clear ho ha;by_cases hkl:k < l.length
  ·have t1:decide (k < l.length) = true:=by simpa using hkl
   obtain ⟨b,o,rfl,hb2,hc⟩:=(HA.out.aft HAF.out).at hkl;obtain ⟨x0,x1⟩:=hc k hkl;have htl:(l.take k).length = k:=by rw [List.length_take];omega
   have HTS:Hid (l.take (k + 1) = l.take k ++ [l[k]]):=Lib.hid (List.take_succ_eq_append_getElem hkl);obtain ⟨⟨p,q⟩,hp⟩:∃ p,l[k] = p:=⟨_,rfl⟩;rw [hp] at x0 x1 HTS;dsimp only at x0 x1;clear hc hp;obtain ⟨W1,hW1⟩:∃ W1,wr.alloc (.cells #[.int .i64 p,.bool q] 34) = W1:=⟨_,rfl⟩;have ha1:=hW1 ▸ Aft.alloc wr (.cells #[.int .i64 p,.bool q] 34);obtain ⟨z,hz⟩:∃ z,wr.heap.size = z:=⟨_,rfl⟩;have HB1:Hid (Blk W1 z 34 #[.int .i64 p,.bool q]):=Lib.hid (by rw [<- hW1,<- hz];exact Blk.new wr _ _);have HO1:=Lib.hid (own_aft HO.out ha1);have HA1:=Lib.hid (HAF.out.trans ha1);go_upto_region 5 with fail
   try rw [hW1]
   try rw [hz]
   clear hW1 hz ha1 x0 x1 HO HAF t1;have c0:W1.cell? ⟨z,0,none⟩ = some (.int .i64 p):=HB1.out.cell 0;have c1:W1.cell? ⟨z,1,none⟩ = some (.bool q):=HB1.out.cell 1;have c2:=HB1.out.lt;have ha2:=Aft.alloc W1 (.cells #[.int .i64 p,.bool q] 106);have ho2:=own_aft HO1.out ha2;have hbs:w.heap.size <= (W1.alloc (.cells #[.int .i64 p,.bool q] 106)).heap.size:=(HA1.out.trans ha2).size;have HA2:=Lib.hid (HA1.out.trans ha2);clear ha2;go_wp2_with (at_builtin;refine wpList_pushF (enc:=encG) tyL43 rfl _ _ rfl ho2 hbs rfl (p,q) rfl rfl (src_blk (Blk.new W1 106 _)) (by intro u hu;simp [encG] at hu;rcases hu with rfl | rfl <;> rfl) (by rw [htl];omega) (by decide) ?_;intro v8 w7 ho8 hg8)
   refine ⟨⟨k + 1,by go_num,by omega,by rw [HTS.out];exact ho8,HA2.out.grown hg8 (own_ge ho2)⟩,by simp [intOf];omega⟩
  ·have t1:decide (k < l.length) = false:=by simpa using hkl
   have et:l.take k = l:=List.take_of_length_le (by omega);rw [et] at HO;go_wp2_with fail
   go_ret;exact ⟨_,rfl,HO.out,HAF.out⟩
set_option maxRecDepth 100000 in
set_option maxHeartbeats 4000000 in
theorem kitEqual_leg (A A':Option Addr) (L L':List (Int × Bool)) (c c':Nat) (w:World) (hA:Gs w A L) (hA':Gs w A' L') :
  Calls Tryz.prog 17 #[.slice A L.length c,.slice A' L'.length c'] w fun e w'=>e = .returned (.bool (eqB L L')) /\ Aft w w':=by
 have hl:=hA.len;have hl':=hA'.len;have HA:=Lib.hid hA;have HA':=Lib.hid hA';clear hA hA';go_enter Tryz.func17,Tryz.ntmps17;go_upto_block 0 with fail
 refine wp_block ?_;go_loopw [8] (fun i wr=>∃ k:Nat,i = .int .i64 k /\ k <= L.length /\ k <= L'.length /\ Hid (∀ j,(h:j < L.length) -> (h':j < L'.length) -> j < k -> L[j] = L'[j]) /\ Aft w wr) (fun i _=>L.length - (intOf i).toNat)
 case atStart=>exact ⟨0,rfl,by omega,by omega,Lib.hid fun j _ _ h=>by omega,Aft.refl _⟩
 case round =>
  obtain ⟨k,rfl,hk,hk',HH,hw⟩:=hrel;have HW:=Lib.hid hw;clear hw;by_cases hkl:k < L.length
  ·have t1:decide (k < L.length) = true:=by simpa using hkl
   have ik:(0:Int) <= (k:Int) /\ (k:Int) < (L.length:Int):=by omega
   obtain ⟨bs,os,hbs,hlts,hcs⟩:=(HA.out.aft HW.out).at hkl;subst hbs;obtain ⟨x1,x2⟩:=hcs k hkl;obtain ⟨⟨y,z⟩,hyz⟩:∃ s,L[k] = s:=⟨_,rfl⟩;have HYZ:=Lib.hid hyz;rw [hyz] at x1 x2;dsimp only at x1 x2;have HX1:Hid (∀ W,Aft wr W -> W.cell? ⟨bs,os + k * 2,none⟩ = some (.int .i64 y)):=Lib.hid fun W h=>cellA x1 hlts h
   have HX2:Hid (∀ W,Aft wr W -> W.cell? ⟨bs,os + k * 2 + 1,none⟩ = some (.bool z)):=Lib.hid fun W h=>cellA x2 hlts h
   clear hcs hyz x1 x2;by_cases hkl':k < L'.length
   ·have ik':(0:Int) <= (k:Int) /\ (k:Int) < (L'.length:Int):=by omega
    have hge:decide ((L'.length:Int) <= (k:Int)) = false:=by simp;omega
    have hgeN:decide (L'.length <= k) = false:=by simp;omega
    obtain ⟨bt,ot,hbt,hltt,hct⟩:=(HA'.out.aft HW.out).at hkl';subst hbt;obtain ⟨x3,x4⟩:=hct k hkl';obtain ⟨⟨y',z'⟩,hyz'⟩:∃ s,L'[k] = s:=⟨_,rfl⟩;have HYZ':=Lib.hid hyz';rw [hyz'] at x3 x4;dsimp only at x3 x4;have HX3:Hid (∀ W,Aft wr W -> W.cell? ⟨bt,ot + k * 2,none⟩ = some (.int .i64 y')):=Lib.hid fun W h=>cellA x3 hltt h
    have HX4:Hid (∀ W,Aft wr W -> W.cell? ⟨bt,ot + k * 2 + 1,none⟩ = some (.bool z')):=Lib.hid fun W h=>cellA x4 hltt h
    obtain ⟨bb,hbb⟩:∃ bb,(!(y == y' && z == z')) = bb:=⟨_,rfl⟩;have HBB:Hid (bb = false ↔ (y = y' /\ z = z')):=Lib.hid (by rw [<- hbb];simp);clear hct hyz' x3 x4;go_upto_region 4 with fail
    refine wp_region_valsG (by kernel_rfl) 32 rfl (by kernel_rfl) (by kernel_rfl) [.int .i64 k,.slice (some ⟨bt,ot,none⟩) L'.length c',.int .i64 L'.length,.bool false,.bool false,.slice (some ⟨bs,os,none⟩) L.length c,.int .i64 k,.pointer (some ⟨bs,os + k * 2,none⟩),.agg #[.int .i64 y,.bool z],.slice (some ⟨bt,ot,none⟩) L'.length c',.int .i64 k,.pointer (some ⟨bt,ot + k * 2,none⟩),.agg #[.int .i64 y',.bool z'],.bool bb,.bool bb] rfl (fun W=>Aft wr W) (Aft.drew _) ?st1 ?fi1
    case st1 =>
     intro i o v ho hv
     match i,ho,hv with
     | 0,ho,hv =>
      cases ho;cases hv;refine .inl ⟨rfl,fun a W hk hw K hK=>?_⟩;have e5:=hk.same 5 (by decide);exact op_val (by simp [go_sem,ev' e5]) (hK _ hw)
     | 1,ho,hv =>
      cases ho;cases hv;refine .inl ⟨rfl,fun a W hk hw K hK=>?_⟩;have e1:=hk.same 1 (by decide);exact op_val (by simp [go_sem,ev' e1]) (hK _ hw)
     | 2,ho,hv =>
      cases ho;cases hv;refine .inl ⟨rfl,fun a W hk hw K hK=>?_⟩;have e12:=hk.at_ 1 _ 12 _ rfl (by decide) _ rfl rfl rfl;exact op_val (by simp [go_sem,ev' e12]) (hK _ hw)
     | 3,ho,hv =>
      cases ho;cases hv;refine .inl ⟨rfl,fun a W hk hw K hK=>?_⟩;have e11:=hk.at_ 0 _ 11 _ rfl (by decide) _ rfl rfl rfl;have e13:=hk.at_ 2 _ 13 _ rfl (by decide) _ rfl rfl rfl;exact op_val (by simp [go_sem,ev' e11,ev' e13,hge,hgeN]) (hK _ hw)
     | 4,ho,hv =>
      cases ho;cases hv;refine .inl ⟨rfl,fun a W hk hw K hK=>?_⟩;have e14:=hk.at_ 3 _ 14 _ rfl (by decide) _ rfl rfl rfl;exact op_val (by simp [go_sem,ev' e14]) (hK _ hw)
     | 5,ho,hv =>
      cases ho;cases hv;refine .inl ⟨rfl,fun a W hk hw K hK=>?_⟩;have e0:=hk.same 0 (by decide);exact op_val (by simp [go_sem,ev' e0]) (hK _ hw)
     | 6,ho,hv =>
      cases ho;cases hv;refine .inl ⟨rfl,fun a W hk hw K hK=>?_⟩;have e5:=hk.same 5 (by decide);exact op_val (by simp [go_sem,ev' e5]) (hK _ hw)
     | 7,ho,hv =>
      cases ho;cases hv;refine .inl ⟨rfl,fun a W hk hw K hK=>?_⟩;have e16:=hk.at_ 5 _ 16 _ rfl (by decide) _ rfl rfl rfl;have e17:=hk.at_ 6 _ 17 _ rfl (by decide) _ rfl rfl rfl;exact op_val (by simp [go_sem,ev' e16,ev' e17,ik]) (hK _ hw)
     | 8,ho,hv =>
      cases ho;cases hv;refine .inl ⟨rfl,fun a W hk hw K hK=>?_⟩;have e18:=hk.at_ 7 _ 18 _ rfl (by decide) _ rfl rfl rfl;exact op_val (by simp [go_sem,ev' e18,HX1.out W hw,HX2.out W hw]) (hK _ hw)
     | 9,ho,hv =>
      cases ho;cases hv;refine .inl ⟨rfl,fun a W hk hw K hK=>?_⟩;have e1:=hk.same 1 (by decide);exact op_val (by simp [go_sem,ev' e1]) (hK _ hw)
     | 10,ho,hv =>
      cases ho;cases hv;refine .inl ⟨rfl,fun a W hk hw K hK=>?_⟩;have e5:=hk.same 5 (by decide);exact op_val (by simp [go_sem,ev' e5]) (hK _ hw)
     | 11,ho,hv =>
      cases ho;cases hv;refine .inl ⟨rfl,fun a W hk hw K hK=>?_⟩;have e20:=hk.at_ 9 _ 20 _ rfl (by decide) _ rfl rfl rfl;have e21:=hk.at_ 10 _ 21 _ rfl (by decide) _ rfl rfl rfl;exact op_val (by simp [go_sem,ev' e20,ev' e21,ik']) (hK _ hw)
     | 12,ho,hv =>
      cases ho;cases hv;refine .inl ⟨rfl,fun a W hk hw K hK=>?_⟩;have e22:=hk.at_ 11 _ 22 _ rfl (by decide) _ rfl rfl rfl;exact op_val (by simp [go_sem,ev' e22,HX3.out W hw,HX4.out W hw]) (hK _ hw)
     | 13,ho,hv =>
      cases ho;cases hv;refine .inl ⟨rfl,fun a W hk hw K hK=>?_⟩;have e19:=hk.at_ 8 _ 19 _ rfl (by decide) _ rfl rfl rfl;have e23:=hk.at_ 12 _ 23 _ rfl (by decide) _ rfl rfl rfl;exact op_val (v:=.bool bb) (by by_cases g1:y = y' <;> by_cases g2:z = z' <;> simp [go_sem,ev' e19,ev' e23,g1,g2,<- hbb]) (hK _ hw)
     | 14,ho,hv =>
      cases ho;cases hv;refine .inl ⟨rfl,fun a W hk hw K hK=>?_⟩;have e15:=hk.at_ 4 _ 15 _ rfl (by decide) _ rfl rfl rfl;have e24:=hk.at_ 13 _ 24 _ rfl (by decide) _ rfl rfl rfl;exact op_val (by simp [go_sem,ev' e15,ev' e24]) (hK _ hw)
     | _ + 15,_,hv=>cases hv
    intro W hw;simp only [List.drop_succ_cons,List.drop_zero,List.zip_cons_cons,List.zip_nil_right,putAll];simp only [Act.put,List.setIfInBounds_toArray,List.set];cases bb
    ·have HH2:Hid (∀ j,(h:j < L.length) -> (h':j < L'.length) -> j < k + 1 -> L[j] = L'[j]):=Lib.hid fun j h h' hj=>by
      by_cases e:j = k
      ·subst e;rw [HYZ.out,HYZ'.out];obtain ⟨h1,h2⟩:=HBB.out.1 rfl;rw [h1,h2]
      ·exact HH.out j h h' (by omega)
     go_wp2_with fail
     exact ⟨⟨k + 1,by go_num,by omega,by omega,HH2,HW.out.trans hw⟩,by simp [intOf];omega⟩
    ·have HF:Hid (eqB L L' = false):=Lib.hid (decide_eq_false fun e=>by
      have h1:=HYZ.out;have h2:=HYZ'.out;subst e;rw [h1] at h2;cases h2;have:=HBB.out.2 ⟨rfl,rfl⟩;cases this)
     go_wp2_with fail
     go_ret;exact ⟨ret_bool HF.out.symm,HW.out.trans hw⟩
   ·have hge:decide ((L'.length:Int) <= (k:Int)) = true:=by simp;omega
    have hgeN:decide (L'.length <= k) = true:=by simp;omega
    have HF:Hid (eqB L L' = false):=Lib.hid (decide_eq_false fun e=>by rw [e] at hkl;exact hkl' hkl);go_upto_region 4 with fail
    refine wp_region_valsG (by kernel_rfl) 32 rfl (by kernel_rfl) (by kernel_rfl) [.int .i64 k,.slice A' L'.length c',.int .i64 L'.length,.bool true,.bool true,undef,undef,undef,undef,undef,undef,undef,undef,undef,.bool true] rfl (fun W=>Aft wr W) (Aft.drew _) ?st2 ?fi2
    case st2 =>
     intro i o v ho hv
     match i,ho,hv with
     | 0,ho,hv =>
      cases ho;cases hv;refine .inl ⟨rfl,fun a W hk hw K hK=>?_⟩;have e5:=hk.same 5 (by decide);exact op_val (by simp [go_sem,ev' e5]) (hK _ hw)
     | 1,ho,hv =>
      cases ho;cases hv;refine .inl ⟨rfl,fun a W hk hw K hK=>?_⟩;have e1:=hk.same 1 (by decide);exact op_val (by simp [go_sem,ev' e1]) (hK _ hw)
     | 2,ho,hv =>
      cases ho;cases hv;refine .inl ⟨rfl,fun a W hk hw K hK=>?_⟩;have e12:=hk.at_ 1 _ 12 _ rfl (by decide) _ rfl rfl rfl;exact op_val (by simp [go_sem,ev' e12]) (hK _ hw)
     | 3,ho,hv =>
      cases ho;cases hv;refine .inl ⟨rfl,fun a W hk hw K hK=>?_⟩;have e11:=hk.at_ 0 _ 11 _ rfl (by decide) _ rfl rfl rfl;have e13:=hk.at_ 2 _ 13 _ rfl (by decide) _ rfl rfl rfl;exact op_val (by simp [go_sem,ev' e11,ev' e13,hge,hgeN]) (hK _ hw)
     | 4,ho,hv =>
      cases ho;cases hv;refine .inl ⟨rfl,fun a W hk hw K hK=>?_⟩;have e14:=hk.at_ 3 _ 14 _ rfl (by decide) _ rfl rfl rfl;exact op_val (by simp [go_sem,ev' e14]) (hK _ hw)
     | 5,ho,hv=>cases ho;cases hv;exact .inr ⟨rfl,rfl⟩
     | 6,ho,hv=>cases ho;cases hv;exact .inr ⟨rfl,rfl⟩
     | 7,ho,hv=>cases ho;cases hv;exact .inr ⟨rfl,rfl⟩
     | 8,ho,hv=>cases ho;cases hv;exact .inr ⟨rfl,rfl⟩
     | 9,ho,hv=>cases ho;cases hv;exact .inr ⟨rfl,rfl⟩
     | 10,ho,hv=>cases ho;cases hv;exact .inr ⟨rfl,rfl⟩
     | 11,ho,hv=>cases ho;cases hv;exact .inr ⟨rfl,rfl⟩
     | 12,ho,hv=>cases ho;cases hv;exact .inr ⟨rfl,rfl⟩
     | 13,ho,hv=>cases ho;cases hv;exact .inr ⟨rfl,rfl⟩
     | 14,ho,hv =>
      cases ho;cases hv;refine .inl ⟨rfl,fun a W hk hw K hK=>?_⟩;have e15:=hk.at_ 4 _ 15 _ rfl (by decide) _ rfl rfl rfl;have e24:=hk.at_ 13 _ 24 _ rfl (by decide) _ rfl rfl rfl;exact op_val (by simp [go_sem,ev' e15,ev' e24]) (hK _ hw)
     | _ + 15,_,hv=>cases hv
    intro W hw;simp only [List.drop_succ_cons,List.drop_zero,List.zip_cons_cons,List.zip_nil_right,putAll];simp only [Act.put,List.setIfInBounds_toArray,List.set];go_wp2_with fail
    go_ret;exact ⟨ret_bool HF.out.symm,HW.out.trans hw⟩
  ·have t1:decide (k < L.length) = false:=by simpa using hkl
   have HE:Hid (((L.length:Int) == (L'.length:Int)) = eqB L L'):=Lib.hid (by
    by_cases hLL:L.length = L'.length
    ·have:L = L':=List.ext_getElem hLL fun i h1 h2=>HH.out i h1 h2 (by omega)
     rw [<- this];simp [eqB]
    ·have h1:eqB L L' = false:=decide_eq_false fun e=>hLL (by rw [e])
     rw [h1]
     simp;omega)
   go_wp2_with fail
   go_ret;exact ⟨ret_bool HE.out,HW.out⟩
set_option maxRecDepth 100000 in
set_option maxHeartbeats 4000000 in
theorem kitEqual_joint (A A':Option Addr) (L L':List Q4) (c c':Nat) (w:World) (hA:Quads w A L) (hA':Quads w A' L') :
  Calls Tryz.prog 52 #[.slice A L.length c,.slice A' L'.length c'] w fun e w'=>e = .returned (.bool (eqB L L')) /\ Aft w w':=by
 have hl:=hA.len;have hl':=hA'.len;have HA:=Lib.hid hA;have HA':=Lib.hid hA';clear hA hA';go_enter Tryz.func52,Tryz.ntmps52;go_upto_block 0 with fail
 refine wp_block ?_;go_loopw [8] (fun i wr=>∃ k:Nat,i = .int .i64 k /\ k <= L.length /\ k <= L'.length /\ Hid (∀ j,(h:j < L.length) -> (h':j < L'.length) -> j < k -> L[j] = L'[j]) /\ Aft w wr) (fun i _=>L.length - (intOf i).toNat)
 case atStart=>exact ⟨0,rfl,by omega,by omega,Lib.hid fun j _ _ h=>by omega,Aft.refl _⟩
 case round =>
  obtain ⟨k,rfl,hk,hk',HH,hw⟩:=hrel;have HW:=Lib.hid hw;clear hw;by_cases hkl:k < L.length
  ·have t1:decide (k < L.length) = true:=by simpa using hkl
   have ik:(0:Int) <= (k:Int) /\ (k:Int) < (L.length:Int):=by omega
   obtain ⟨bs,os,hbs,hlts,hcs⟩:=(HA.out.aft HW.out).at hkl;subst hbs;obtain ⟨x1,x2,x1a,x2a⟩:=hcs k hkl;obtain ⟨⟨y,z,y2,z2⟩,hyz⟩:∃ s,L[k] = s:=⟨_,rfl⟩;have HYZ:=Lib.hid hyz;rw [hyz] at x1 x2 x1a x2a;dsimp only at x1 x2 x1a x2a;have HX1:Hid (∀ W,Aft wr W -> W.cell? ⟨bs,os + k * 4,none⟩ = some (.int .i64 y)):=Lib.hid fun W h=>cellA x1 hlts h
   have HX2:Hid (∀ W,Aft wr W -> W.cell? ⟨bs,os + k * 4 + 1,none⟩ = some (.int .i64 z)):=Lib.hid fun W h=>cellA x2 hlts h
   have HX1a:Hid (∀ W,Aft wr W -> W.cell? ⟨bs,os + k * 4 + 2,none⟩ = some (.int .i64 y2)):=Lib.hid fun W h=>cellA x1a hlts h
   have HX2a:Hid (∀ W,Aft wr W -> W.cell? ⟨bs,os + k * 4 + 3,none⟩ = some (.int .i64 z2)):=Lib.hid fun W h=>cellA x2a hlts h
   clear hcs hyz x1 x2 x1a x2a;by_cases hkl':k < L'.length
   ·have ik':(0:Int) <= (k:Int) /\ (k:Int) < (L'.length:Int):=by omega
    have hge:decide ((L'.length:Int) <= (k:Int)) = false:=by simp;omega
    have hgeN:decide (L'.length <= k) = false:=by simp;omega
    obtain ⟨bt,ot,hbt,hltt,hct⟩:=(HA'.out.aft HW.out).at hkl';subst hbt;obtain ⟨x3,x4,x3a,x4a⟩:=hct k hkl';obtain ⟨⟨y',z',y2',z2'⟩,hyz'⟩:∃ s,L'[k] = s:=⟨_,rfl⟩;have HYZ':=Lib.hid hyz';rw [hyz'] at x3 x4 x3a x4a;dsimp only at x3 x4 x3a x4a;have HX3:Hid (∀ W,Aft wr W -> W.cell? ⟨bt,ot + k * 4,none⟩ = some (.int .i64 y')):=Lib.hid fun W h=>cellA x3 hltt h
    have HX4:Hid (∀ W,Aft wr W -> W.cell? ⟨bt,ot + k * 4 + 1,none⟩ = some (.int .i64 z')):=Lib.hid fun W h=>cellA x4 hltt h
    obtain ⟨bb,hbb⟩:∃ bb,(!(y == y' && z == z' && y2 == y2' && z2 == z2')) = bb:=⟨_,rfl⟩;have HBB:Hid (bb = false ↔ (y = y' /\ z = z' /\ y2 = y2' /\ z2 = z2')):=Lib.hid (by rw [<- hbb];simp [and_assoc]);have HX3a:Hid (∀ W,Aft wr W -> W.cell? ⟨bt,ot + k * 4 + 2,none⟩ = some (.int .i64 y2')):=Lib.hid fun W h=>cellA x3a hltt h
    have HX4a:Hid (∀ W,Aft wr W -> W.cell? ⟨bt,ot + k * 4 + 3,none⟩ = some (.int .i64 z2')):=Lib.hid fun W h=>cellA x4a hltt h
    clear hct hyz' x3 x4 x3a x4a;go_upto_region 4 with fail
    refine wp_region_valsG (by kernel_rfl) 32 rfl (by kernel_rfl) (by kernel_rfl) [.int .i64 k,.slice (some ⟨bt,ot,none⟩) L'.length c',.int .i64 L'.length,.bool false,.bool false,.slice (some ⟨bs,os,none⟩) L.length c,.int .i64 k,.pointer (some ⟨bs,os + k * 4,none⟩),.agg #[.int .i64 y,.int .i64 z,.int .i64 y2,.int .i64 z2],.slice (some ⟨bt,ot,none⟩) L'.length c',.int .i64 k,.pointer (some ⟨bt,ot + k * 4,none⟩),.agg #[.int .i64 y',.int .i64 z',.int .i64 y2',.int .i64 z2'],.bool bb,.bool bb] rfl (fun W=>Aft wr W) (Aft.drew _) ?st3 ?fi3
    case st3 =>
     intro i o v ho hv
     match i,ho,hv with
     | 0,ho,hv =>
      cases ho;cases hv;refine .inl ⟨rfl,fun a W hk hw K hK=>?_⟩;have e5:=hk.same 5 (by decide);exact op_val (by simp [go_sem,ev' e5]) (hK _ hw)
     | 1,ho,hv =>
      cases ho;cases hv;refine .inl ⟨rfl,fun a W hk hw K hK=>?_⟩;have e1:=hk.same 1 (by decide);exact op_val (by simp [go_sem,ev' e1]) (hK _ hw)
     | 2,ho,hv =>
      cases ho;cases hv;refine .inl ⟨rfl,fun a W hk hw K hK=>?_⟩;have e12:=hk.at_ 1 _ 12 _ rfl (by decide) _ rfl rfl rfl;exact op_val (by simp [go_sem,ev' e12]) (hK _ hw)
     | 3,ho,hv =>
      cases ho;cases hv;refine .inl ⟨rfl,fun a W hk hw K hK=>?_⟩;have e11:=hk.at_ 0 _ 11 _ rfl (by decide) _ rfl rfl rfl;have e13:=hk.at_ 2 _ 13 _ rfl (by decide) _ rfl rfl rfl;exact op_val (by simp [go_sem,ev' e11,ev' e13,hge,hgeN]) (hK _ hw)
     | 4,ho,hv =>
      cases ho;cases hv;refine .inl ⟨rfl,fun a W hk hw K hK=>?_⟩;have e14:=hk.at_ 3 _ 14 _ rfl (by decide) _ rfl rfl rfl;exact op_val (by simp [go_sem,ev' e14]) (hK _ hw)
     | 5,ho,hv =>
      cases ho;cases hv;refine .inl ⟨rfl,fun a W hk hw K hK=>?_⟩;have e0:=hk.same 0 (by decide);exact op_val (by simp [go_sem,ev' e0]) (hK _ hw)
     | 6,ho,hv =>
      cases ho;cases hv;refine .inl ⟨rfl,fun a W hk hw K hK=>?_⟩;have e5:=hk.same 5 (by decide);exact op_val (by simp [go_sem,ev' e5]) (hK _ hw)
     | 7,ho,hv =>
      cases ho;cases hv;refine .inl ⟨rfl,fun a W hk hw K hK=>?_⟩;have e16:=hk.at_ 5 _ 16 _ rfl (by decide) _ rfl rfl rfl;have e17:=hk.at_ 6 _ 17 _ rfl (by decide) _ rfl rfl rfl;exact op_val (by simp [go_sem,ev' e16,ev' e17,ik]) (hK _ hw)
     | 8,ho,hv =>
      cases ho;cases hv;refine .inl ⟨rfl,fun a W hk hw K hK=>?_⟩;have e18:=hk.at_ 7 _ 18 _ rfl (by decide) _ rfl rfl rfl;exact op_val (by simp [go_sem,ev' e18,HX1.out W hw,HX2.out W hw,HX1a.out W hw,HX2a.out W hw]) (hK _ hw)
     | 9,ho,hv =>
      cases ho;cases hv;refine .inl ⟨rfl,fun a W hk hw K hK=>?_⟩;have e1:=hk.same 1 (by decide);exact op_val (by simp [go_sem,ev' e1]) (hK _ hw)
     | 10,ho,hv =>
      cases ho;cases hv;refine .inl ⟨rfl,fun a W hk hw K hK=>?_⟩;have e5:=hk.same 5 (by decide);exact op_val (by simp [go_sem,ev' e5]) (hK _ hw)
     | 11,ho,hv =>
      cases ho;cases hv;refine .inl ⟨rfl,fun a W hk hw K hK=>?_⟩;have e20:=hk.at_ 9 _ 20 _ rfl (by decide) _ rfl rfl rfl;have e21:=hk.at_ 10 _ 21 _ rfl (by decide) _ rfl rfl rfl;exact op_val (by simp [go_sem,ev' e20,ev' e21,ik']) (hK _ hw)
     | 12,ho,hv =>
      cases ho;cases hv;refine .inl ⟨rfl,fun a W hk hw K hK=>?_⟩;have e22:=hk.at_ 11 _ 22 _ rfl (by decide) _ rfl rfl rfl;exact op_val (by simp [go_sem,ev' e22,HX3.out W hw,HX4.out W hw,HX3a.out W hw,HX4a.out W hw]) (hK _ hw)
     | 13,ho,hv =>
      cases ho;cases hv;refine .inl ⟨rfl,fun a W hk hw K hK=>?_⟩;have e19:=hk.at_ 8 _ 19 _ rfl (by decide) _ rfl rfl rfl;have e23:=hk.at_ 12 _ 23 _ rfl (by decide) _ rfl rfl rfl;exact op_val (v:=.bool bb) (by by_cases g1:y = y' <;> by_cases g2:z = z' <;> by_cases g3:y2 = y2' <;> by_cases g4:z2 = z2' <;> simp [go_sem,ev' e19,ev' e23,g1,g2,g3,g4,<- hbb]) (hK _ hw)
     | 14,ho,hv =>
      cases ho;cases hv;refine .inl ⟨rfl,fun a W hk hw K hK=>?_⟩;have e15:=hk.at_ 4 _ 15 _ rfl (by decide) _ rfl rfl rfl;have e24:=hk.at_ 13 _ 24 _ rfl (by decide) _ rfl rfl rfl;exact op_val (by simp [go_sem,ev' e15,ev' e24]) (hK _ hw)
     | _ + 15,_,hv=>cases hv
    intro W hw;simp only [List.drop_succ_cons,List.drop_zero,List.zip_cons_cons,List.zip_nil_right,putAll];simp only [Act.put,List.setIfInBounds_toArray,List.set];cases bb
    ·have HH2:Hid (∀ j,(h:j < L.length) -> (h':j < L'.length) -> j < k + 1 -> L[j] = L'[j]):=Lib.hid fun j h h' hj=>by
      by_cases e:j = k
      ·subst e;rw [HYZ.out,HYZ'.out];obtain ⟨h1,h2,h3,h4⟩:=HBB.out.1 rfl;rw [h1,h2,h3,h4]
      ·exact HH.out j h h' (by omega)
     go_wp2_with fail
     exact ⟨⟨k + 1,by go_num,by omega,by omega,HH2,HW.out.trans hw⟩,by simp [intOf];omega⟩
    ·have HF:Hid (eqB L L' = false):=Lib.hid (decide_eq_false fun e=>by
      have h1:=HYZ.out;have h2:=HYZ'.out;subst e;rw [h1] at h2;cases h2;have:=HBB.out.2 ⟨rfl,rfl,rfl,rfl⟩;cases this)
     go_wp2_with fail
     go_ret;exact ⟨ret_bool HF.out.symm,HW.out.trans hw⟩
   ·have hge:decide ((L'.length:Int) <= (k:Int)) = true:=by simp;omega
    have hgeN:decide (L'.length <= k) = true:=by simp;omega
    have HF:Hid (eqB L L' = false):=Lib.hid (decide_eq_false fun e=>by rw [e] at hkl;exact hkl' hkl);go_upto_region 4 with fail
    refine wp_region_valsG (by kernel_rfl) 32 rfl (by kernel_rfl) (by kernel_rfl) [.int .i64 k,.slice A' L'.length c',.int .i64 L'.length,.bool true,.bool true,undef,undef,undef,undef,undef,undef,undef,undef,undef,.bool true] rfl (fun W=>Aft wr W) (Aft.drew _) ?st4 ?fi4
    case st4 =>
     intro i o v ho hv
     match i,ho,hv with
     | 0,ho,hv =>
      cases ho;cases hv;refine .inl ⟨rfl,fun a W hk hw K hK=>?_⟩;have e5:=hk.same 5 (by decide);exact op_val (by simp [go_sem,ev' e5]) (hK _ hw)
     | 1,ho,hv =>
      cases ho;cases hv;refine .inl ⟨rfl,fun a W hk hw K hK=>?_⟩;have e1:=hk.same 1 (by decide);exact op_val (by simp [go_sem,ev' e1]) (hK _ hw)
     | 2,ho,hv =>
      cases ho;cases hv;refine .inl ⟨rfl,fun a W hk hw K hK=>?_⟩;have e12:=hk.at_ 1 _ 12 _ rfl (by decide) _ rfl rfl rfl;exact op_val (by simp [go_sem,ev' e12]) (hK _ hw)
     | 3,ho,hv =>
      cases ho;cases hv;refine .inl ⟨rfl,fun a W hk hw K hK=>?_⟩;have e11:=hk.at_ 0 _ 11 _ rfl (by decide) _ rfl rfl rfl;have e13:=hk.at_ 2 _ 13 _ rfl (by decide) _ rfl rfl rfl;exact op_val (by simp [go_sem,ev' e11,ev' e13,hge,hgeN]) (hK _ hw)
     | 4,ho,hv =>
      cases ho;cases hv;refine .inl ⟨rfl,fun a W hk hw K hK=>?_⟩;have e14:=hk.at_ 3 _ 14 _ rfl (by decide) _ rfl rfl rfl;exact op_val (by simp [go_sem,ev' e14]) (hK _ hw)
     | 5,ho,hv=>cases ho;cases hv;exact .inr ⟨rfl,rfl⟩
     | 6,ho,hv=>cases ho;cases hv;exact .inr ⟨rfl,rfl⟩
     | 7,ho,hv=>cases ho;cases hv;exact .inr ⟨rfl,rfl⟩
     | 8,ho,hv=>cases ho;cases hv;exact .inr ⟨rfl,rfl⟩
     | 9,ho,hv=>cases ho;cases hv;exact .inr ⟨rfl,rfl⟩
     | 10,ho,hv=>cases ho;cases hv;exact .inr ⟨rfl,rfl⟩
     | 11,ho,hv=>cases ho;cases hv;exact .inr ⟨rfl,rfl⟩
     | 12,ho,hv=>cases ho;cases hv;exact .inr ⟨rfl,rfl⟩
     | 13,ho,hv=>cases ho;cases hv;exact .inr ⟨rfl,rfl⟩
     | 14,ho,hv =>
      cases ho;cases hv;refine .inl ⟨rfl,fun a W hk hw K hK=>?_⟩;have e15:=hk.at_ 4 _ 15 _ rfl (by decide) _ rfl rfl rfl;have e24:=hk.at_ 13 _ 24 _ rfl (by decide) _ rfl rfl rfl;exact op_val (by simp [go_sem,ev' e15,ev' e24]) (hK _ hw)
     | _ + 15,_,hv=>cases hv
    intro W hw;simp only [List.drop_succ_cons,List.drop_zero,List.zip_cons_cons,List.zip_nil_right,putAll];simp only [Act.put,List.setIfInBounds_toArray,List.set];go_wp2_with fail
    go_ret;exact ⟨ret_bool HF.out.symm,HW.out.trans hw⟩
  ·have t1:decide (k < L.length) = false:=by simpa using hkl
   have HE:Hid (((L.length:Int) == (L'.length:Int)) = eqB L L'):=Lib.hid (by
    by_cases hLL:L.length = L'.length
    ·have:L = L':=List.ext_getElem hLL fun i h1 h2=>HH.out i h1 h2 (by omega)
     rw [<- this];simp [eqB]
    ·have h1:eqB L L' = false:=decide_eq_false fun e=>hLL (by rw [e])
     rw [h1]
     simp;omega)
   go_wp2_with fail
   go_ret;exact ⟨ret_bool HE.out,HW.out⟩
def OwQ (e:TypeId) (base:Nat) (l:List Q4) (v:Value) (W:World):Prop:=W.ownsRow base e 4 v l.length (l.flatMap enc4)
theorem OwQ.quads {e:TypeId} {base:Nat} {l:List Q4} {v:Value} {W:World} (h:OwQ e base l v W) (hl:l.length <= 1000):∃ A c,v = .slice A l.length c /\ Quads W A l:=by
 obtain ⟨A,c,h1,-,h2,-⟩:=own_flat (enc:=enc4) (sz:=4) (fun _=>rfl) h (by omega);exact ⟨A,c,h1,h2⟩
set_option maxRecDepth 100000 in
set_option maxHeartbeats 4000000 in
theorem cloneQ_any (nn:Int) (A:Option Addr) (l:List Q4) (c:Nat) (w:World) (hA:Quads w A l) :
  Calls Tryz.prog 6 #[.agg #[.int .i64 nn,.slice A l.length c]] w fun e w'=>∃ v,e = .returned (.agg #[.int .i64 nn,v]) /\ OwQ 72 w.heap.size l v w' /\ Aft w w':=by
 obtain ⟨s,hs⟩:∃ s,w.heap.size = s:=⟨_,rfl⟩;have F0:=((Fr.start w).alloc rfl 24 #[.int .i64 nn,.slice A l.length c]).alloc (by simp) 24 #[.int .i64 0,.slice none 0 0];simp only [List.nil_append,List.cons_append] at F0;rw [hs] at F0;have HF:=Lib.hid F0;have HQ:=Lib.hid (hA.aft ((Aft.alloc w (.cells #[.int .i64 nn,.slice A l.length c] 24)).then_alloc (.cells #[.int .i64 0,.slice none 0 0] 24)));clear F0 hA;go_enter Tryz.func6,Tryz.ntmps6;go_upto_region 1 with fail
 try rw [hs]
 generalize (w.alloc (.cells #[.int .i64 nn,.slice A l.length c] 24)).alloc (.cells #[.int .i64 0,.slice none 0 0] 24) = W1 at *
 have hm:∀ (i:Nat) (v:Value) (W W':World),(if i = 4 then OwQ 72 W1.heap.size l v W else ∃ u,v = .agg #[.int .i64 nn,u] /\ OwQ 72 W1.heap.size l u W) -> Aft W W' -> (if i = 4 then OwQ 72 W1.heap.size l v W' else ∃ u,v = .agg #[.int .i64 nn,u] /\ OwQ 72 W1.heap.size l u W'):=fun i v W W' h ha=>by
  by_cases e:i = 4
  ·rw [if_pos e] at h ⊢;exact own_aft h ha
  ·rw [if_neg e] at h ⊢;obtain ⟨u,h1,h2⟩:=h;exact ⟨u,h1,own_aft h2 ha⟩
 refine wp_region_valsU (by kernel_rfl) 6 9 rfl (by kernel_rfl) (by kernel_rfl) [some (.pointer (some ⟨s,0,none⟩)),some (.int .i64 nn),some (.pointer (some ⟨s,1,none⟩)),some (.slice A l.length c),none,none] (by kernel_rfl) rfl (OpR W1 [(4,7),(5,8)] [] (fun i v W=>if i = 4 then OwQ 72 W1.heap.size l v W else ∃ u,v = .agg #[.int .i64 nn,u] /\ OwQ 72 W1.heap.size l u W) (fun _=>#[])) (OpR.start hm) ?st5 ?fi5
 case st5 =>
  intro i o v ho hv
  match i,ho,hv with
  | 0,ho,hv =>
   cases ho;cases hv;refine .inl ⟨rfl,fun done a W hz hd hp hk hw K hK=>?_⟩;have e1:=hk.same 1 (by decide);exact op_val (v:=.pointer (some ⟨s,0,none⟩)) (by simp [go_sem,ev' e1]) (hK _ _ (fun u hu=>by cases hu;rfl) (hw.keep (Aft.refl _) hd (by decide)))
  | 1,ho,hv =>
   cases ho;cases hv;refine .inl ⟨rfl,fun done a W hz hd hp hk hw K hK=>?_⟩;have e3:=hk.at_ 0 _ 3 _ rfl (by decide) _ rfl rfl rfl;exact op_val (v:=.int .i64 nn) (by simp [go_sem,ev' e3,(HF.out.nth 0 rfl |>.aft hw.aft).cell 0]) (hK _ _ (fun u hu=>by cases hu;rfl) (hw.keep (Aft.refl _) hd (by decide)))
  | 2,ho,hv =>
   cases ho;cases hv;refine .inl ⟨rfl,fun done a W hz hd hp hk hw K hK=>?_⟩;have e1:=hk.same 1 (by decide);exact op_val (v:=.pointer (some ⟨s,1,none⟩)) (by simp [go_sem,ev' e1]) (hK _ _ (fun u hu=>by cases hu;rfl) (hw.keep (Aft.refl _) hd (by decide)))
  | 3,ho,hv =>
   cases ho;cases hv;refine .inl ⟨rfl,fun done a W hz hd hp hk hw K hK=>?_⟩;have e5:=hk.at_ 2 _ 5 _ rfl (by decide) _ rfl rfl rfl;exact op_val (v:=.slice A l.length c) (by simp [go_sem,ev' e5,(HF.out.nth 0 rfl |>.aft hw.aft).cell 1]) (hK _ _ (fun u hu=>by cases hu;rfl) (hw.keep (Aft.refl _) hd (by decide)))
  | 4,ho,hv =>
   cases ho;cases hv;refine .inl ⟨rfl,fun done a W hz hd hp hk hw K hK=>?_⟩;have e6:=hk.at_ 3 _ 6 _ rfl (by decide) _ rfl rfl rfl;refine op_callN rfl rfl rfl _ rfl (vs:=#[.slice A l.length c]) (by simp [e6]) (kitCloneJoint A l c W (HQ.out.aft hw.aft)) fun e w' h=>?_
   obtain ⟨v,rfl,ho,ha⟩:=h;exact ⟨_,rfl,hK _ _ (fun u hu=>by cases hu) (hw.step ha hd (World.ownsRow.mono ho hw.aft.size) (by rw [hz];decide) (by decide))⟩
  | 5,ho,hv =>
   cases ho;cases hv;refine .inl ⟨rfl,fun done a W hz hd hp hk hw K hK=>?_⟩;have e4:=hk.at_ 1 _ 4 _ rfl (by decide) _ rfl rfl rfl;have hq:OwQ 72 W1.heap.size l (a.eval (.tmp 7)) W:=hw.fact (4,7) (by decide) (hp 4 (by decide));obtain ⟨A9,n9,c9,e7⟩:=own_slice_form hq;rw [e7] at hq;exact op_val (v:=.agg #[.int .i64 nn,.slice A9 n9 c9]) (by simp [go_sem,ev' e4,ev' e7]) (hK _ _ (fun u hu=>by cases hu) (hw.step (Aft.refl _) hd ⟨_,rfl,hq⟩ (by rw [hz];decide) (by decide)))
  | _ + 6,_,hv=>cases hv
 intro done us W hus hd hw;obtain ⟨x1,x2,rfl⟩:=list2 hus;obtain ⟨u,e8,hq⟩:=hw.fact (5,8) (by decide) (hd 5 (by decide));have e8':x2 = .agg #[.int .i64 nn,u]:=by simpa [fill,putAll,Act.put,Act.eval] using e8
 subst e8';have hwa:=hw.aft;simp only [fill,List.drop_succ_cons,List.drop_zero,List.zip_cons_cons,List.zip_nil_right,putAll];simp only [Act.put,List.setIfInBounds_toArray,List.set];have HB:=Lib.hid ((HF.out.nth 1 rfl).aft hwa);have HF2:=Lib.hid (HF.out.aft.trans hwa);have hge:w.heap.size <= s + 1:=by omega
 have hs1:=HF.out.aft.size;have HQO:Hid (OwQ 72 w.heap.size l u W):=Lib.hid (World.ownsRow.mono hq hs1)
 obtain ⟨A9,c9,hu9⟩:∃ A9 c9,u = .slice A9 l.length c9:=by
  rcases hq.2 with ⟨h1,h2⟩ | ⟨g,cap,cur,h1,-⟩
  ·exact ⟨none,0,by rw [h1,h2]⟩
  ·exact ⟨_,_,h1⟩
 subst hu9;clear hw hd hus hwa e8 hq hs1 HF hm;have c0:=HB.out.cell 0;have c1:=HB.out.cell 1;have c2:=HB.out.frozen 0;have c3:=HB.out.frozen 1;have c4:=HB.out.lt;simp only [List.getElem?_toArray,List.getElem?_cons_zero,List.getElem?_cons_succ] at c0 c1;go_wp2_with fail
 have z0:=((HB.out.store 0 (.int .i64 nn)).store 1 (.slice A9 l.length c9)).cell 0;have z1:=((HB.out.store 0 (.int .i64 nn)).store 1 (.slice A9 l.length c9)).cell 1;have Q2:OwQ 72 w.heap.size l (.slice A9 l.length c9) ((W.setCell ⟨s + 1,0,none⟩ (.int .i64 nn)).setCell ⟨s + 1,1,none⟩ (.slice A9 l.length c9)):=own_far2 (own_far2 HQO.out HB.out (by decide) 0 _) (HB.out.store 0 _) (by decide) 1 _;have A2:=(HF2.out.then_setCell (p:=⟨s + 1,0,none⟩) hge (.int .i64 nn)).then_setCell (p:=⟨s + 1,1,none⟩) hge (.slice A9 l.length c9);generalize (W.setCell ⟨s + 1,0,none⟩ (.int .i64 nn)).setCell ⟨s + 1,1,none⟩ (.slice A9 l.length c9) = X at *;simp at z0 z1;exact bodyPost_ret (v:=.agg #[.int .i64 nn,.slice A9 l.length c9]) (by simp [results,Tryz.results6,go_sem,z0,z1]) rfl ⟨_,rfl,Q2,A2⟩
theorem tyL35:SliceTy Tryz.prog 35 90 4 32:=.mk' (z:=.agg #[.int .i64 0,.int .i64 0,.int .i64 0,.int .i64 0]) Tryz.underlying35 (by kernel_rfl) rfl (by decide)
set_option maxRecDepth 100000 in
set_option maxHeartbeats 4000000 in
theorem setL_any (nn:Int) (A:Option Addr) (l:List Q4) (c:Nat) (w:World) (hA:Quads w A l) :
  Calls Tryz.prog 8 #[.agg #[.int .i64 nn,.slice A l.length c]] w fun e w'=>∃ v,e = .returned (.agg #[.int .i64 nn,v]) /\ OwQ 90 w.heap.size l v w' /\ Aft w w':=by
 have hl:=hA.len;have hb:l.length * 32 <= 140737488355328:=by have:=hA.1;omega
 obtain ⟨s,hs⟩:∃ s,w.heap.size = s:=⟨_,rfl⟩;have F0:=(((Fr.start w).alloc rfl 24 #[.int .i64 nn,.slice A l.length c]).alloc (by simp) 37 #[.int .i64 0,.slice none 0 0]);simp only [List.nil_append,List.cons_append] at F0;rw [hs] at F0;have HF:=Lib.hid F0;have HA:=Lib.hid hA;have HS:=Lib.hid hs;have c0:=(F0.nth 0 rfl).cell 0;have c1:=(F0.nth 0 rfl).cell 1;have c2:=(F0.nth 0 rfl).lt;simp only [List.getElem?_toArray,List.getElem?_cons_zero,List.getElem?_cons_succ] at c0 c1;clear F0 hA;go_enter Tryz.func8,Tryz.ntmps8;go_upto_region 1 with fail
 try rw [hs]
 generalize (w.alloc (.cells #[.int .i64 nn,.slice A l.length c] 24)).alloc (.cells #[.int .i64 0,.slice none 0 0] 37) = W1 at *;obtain ⟨b3,hb3⟩:∃ b,W1.heap.size = b:=⟨_,rfl⟩;have HB3:Hid (Blk (W1.alloc (.cells #[.int .i64 nn,.slice none 0 0] 37)) b3 37 #[.int .i64 nn,.slice none 0 0]):=Lib.hid (by rw [<- hb3];exact Blk.new _ _ _);have HA3:=Lib.hid (Aft.alloc W1 (.cells #[.int .i64 nn,.slice none 0 0] 37))
 have d1:(W1.alloc (.cells #[.int .i64 nn,.slice none 0 0] 37)).cell? ⟨s,1,none⟩ = some (.slice A l.length c):=by
  have:=((HF.out.nth 0 rfl).aft HA3.out).cell 1;simpa using this
 have d2:=((HF.out.nth 0 rfl).aft HA3.out).lt;have hge3:w.heap.size <= b3:=by rw [<- hb3];exact HF.out.aft.size
 have HB0:=Lib.hid hb3;go_upto_region 2 with fail
 try rw [hb3]
 generalize W1.alloc (.cells #[.int .i64 nn,.slice none 0 0] 37) = W2 at *;clear c0 c1 c2 hb3;have HI0:Hid (∃ v,Blk W2 b3 37 #[.int .i64 nn,v] /\ OwQ 90 W1.heap.size (l.take 0) v W2):=Lib.hid ⟨_,HB3.out,World.ownsRow_nil _ _ 90 4⟩;go_upto_block 0 with fail
 clear d1 d2;refine wp_block ?_;go_loopw [12] (fun i wr=>∃ k:Nat,i = .int .i64 (k:Nat) /\ k <= l.length /\ Aft W1 wr /\ Hid (∃ v,Blk wr b3 37 #[.int .i64 nn,v] /\ OwQ 90 W1.heap.size (l.take k) v wr)) (fun i _=>l.length - (intOf i).toNat)
 case atStart=>exact ⟨0,rfl,by omega,HA3.out,HI0⟩
 case round =>
  clear HI0 HA3 HB3;obtain ⟨k,rfl,hk,ha,HV⟩:=hrel;obtain ⟨v,hbk,ho⟩:=HV.out;have HO:=Lib.hid ho;have HAF:=Lib.hid ha;have HBK:=Lib.hid hbk;clear ho ha hbk HV;by_cases hkl:k < l.length
  ·have t1:decide (k < l.length) = true:=by simpa using hkl
   obtain ⟨b,o,rfl,hb2,hc⟩:=(HA.out.aft (HF.out.aft.trans HAF.out)).at hkl;obtain ⟨x0,x1,x2,x3⟩:=hc k hkl;have htl:(l.take k).length = k:=by rw [List.length_take];omega
   have HTS:Hid (l.take (k + 1) = l.take k ++ [l[k]]):=Lib.hid (List.take_succ_eq_append_getElem hkl);obtain ⟨⟨p,q,p2,q2⟩,hp⟩:∃ p,l[k] = p:=⟨_,rfl⟩;rw [hp] at x0 x1 x2 x3 HTS;dsimp only at x0 x1 x2 x3;clear hc hp;obtain ⟨X1,hX1⟩:∃ W1,wr.alloc (.cells #[.int .i64 p,.int .i64 q,.int .i64 p2,.int .i64 q2] 72) = W1:=⟨_,rfl⟩;have ha1:=hX1 ▸ Aft.alloc wr (.cells #[.int .i64 p,.int .i64 q,.int .i64 p2,.int .i64 q2] 72);obtain ⟨z,hz⟩:∃ z,wr.heap.size = z:=⟨_,rfl⟩;have HB1:Hid (Blk X1 z 72 #[.int .i64 p,.int .i64 q,.int .i64 p2,.int .i64 q2]):=Lib.hid (by rw [<- hX1,<- hz];exact Blk.new wr _ _);have HO1:=Lib.hid (own_aft HO.out ha1);have HA1:=Lib.hid (HAF.out.trans ha1);have HBK1:=Lib.hid (HBK.out.aft ha1);go_upto_region 5 with fail
   try rw [hX1]
   try rw [hz]
   clear hX1 hz ha1 x0 x1 x2 x3 HO HAF t1 hb2 HBK;have c0:X1.cell? ⟨z,0,none⟩ = some (.int .i64 p):=HB1.out.cell 0;have c1:X1.cell? ⟨z,1,none⟩ = some (.int .i64 q):=HB1.out.cell 1;have c2:X1.cell? ⟨z,2,none⟩ = some (.int .i64 p2):=HB1.out.cell 2;have c3:X1.cell? ⟨z,3,none⟩ = some (.int .i64 q2):=HB1.out.cell 3;have c4:=HB1.out.lt;have d0:X1.cell? ⟨b3,1,none⟩ = some v:=HBK1.out.cell 1;have d1:=HBK1.out.lt;have ha2:=Aft.alloc X1 (.cells #[.int .i64 p,.int .i64 q,.int .i64 p2,.int .i64 q2] 90);have ho2:=own_aft HO1.out ha2;have hbs:W1.heap.size <= (X1.alloc (.cells #[.int .i64 p,.int .i64 q,.int .i64 p2,.int .i64 q2] 90)).heap.size:=(HA1.out.trans ha2).size;have HA2:=Lib.hid (HA1.out.trans ha2);have HBK2:=Lib.hid (HBK1.out.aft ha2);clear ha2;go_wp2_with (at_builtin;refine wpList_pushF (enc:=enc4) tyL35 rfl _ _ rfl ho2 hbs rfl ⟨p,q,p2,q2⟩ rfl rfl (src_blk (Blk.new X1 90 _)) (by intro u hu;simp [enc4] at hu;rcases hu with rfl | rfl | rfl | rfl <;> rfl) (by rw [htl];omega) (by decide) ?_;intro v8 w7 ho8 hg8;have HO8:=Lib.hid ho8;have HBK8:=Lib.hid (blk_push HBK2.out ho2 hg8 (by decide));have HA8:=Lib.hid (HA2.out.grown hg8 (own_ge ho2));obtain ⟨A8,n8,c8,hv8⟩:=own_slice_form ho8;subst hv8;have f0:w7.cell? ⟨b3,1,none⟩ = some v:=HBK8.out.cell 1;have f1:=HBK8.out.frozen 1;have f2:=HBK8.out.lt;clear ho8 ho2 hbs c0 c1 c2 c3 c4 d0 d1)
   have HBN:=Lib.hid (HBK8.out.store 1 (.slice A8 n8 c8));have HAN:=Lib.hid (HA8.out.then_setCell (p:=⟨b3,1,none⟩) (by show W1.heap.size <= b3;rw [HB0.out];exact Nat.le_refl _) (.slice A8 n8 c8));have HON:Hid (OwQ 90 W1.heap.size (l.take (k + 1)) (.slice A8 n8 c8) (w7.setCell ⟨b3,1,none⟩ (.slice A8 n8 c8))):=Lib.hid (by rw [HTS.out];exact own_far2 HO8.out HBK8.out (by decide) 1 _);exact ⟨⟨k + 1,by go_num,by omega,HAN.out,Lib.hid ⟨_,HBN.out,HON.out⟩⟩,by simp [intOf];omega⟩
  ·have t1:decide (k < l.length) = false:=by simpa using hkl
   have et:l.take k = l:=List.take_of_length_le (by omega);rw [et] at HO;obtain ⟨A8,n8,c8,hv8⟩:=own_slice_form HO.out;subst hv8;have e0:wr.cell? ⟨b3,0,none⟩ = some (.int .i64 nn):=HBK.out.cell 0;have e1:wr.cell? ⟨b3,1,none⟩ = some (.slice A8 n8 c8):=HBK.out.cell 1;have e2:=HBK.out.lt;have HFB:=Lib.hid ((HF.out.nth 1 rfl).aft HAF.out);have f0:=HFB.out.cell 0;have f1:=HFB.out.cell 1;have f2:=HFB.out.frozen 0;have f3:=HFB.out.frozen 1;have f4:=HFB.out.lt;simp only [List.getElem?_toArray,List.getElem?_cons_zero,List.getElem?_cons_succ] at f0 f1;go_wp2_with fail
   have z0:=((HFB.out.store 0 (.int .i64 nn)).store 1 (.slice A8 n8 c8)).cell 0;have z1:=((HFB.out.store 0 (.int .i64 nn)).store 1 (.slice A8 n8 c8)).cell 1;have Q2:OwQ 90 w.heap.size l (.slice A8 n8 c8) ((wr.setCell ⟨s + 1,0,none⟩ (.int .i64 nn)).setCell ⟨s + 1,1,none⟩ (.slice A8 n8 c8)):=World.ownsRow.mono (own_far2 (own_far2 HO.out HFB.out (by decide) 0 _) (HFB.out.store 0 _) (by decide) 1 _) HF.out.aft.size;have A2:=((HF.out.aft.trans HAF.out).then_setCell (p:=⟨s + 1,0,none⟩) (by show w.heap.size <= s + 1;rw [HS.out];omega) (.int .i64 nn)).then_setCell (p:=⟨s + 1,1,none⟩) (by show w.heap.size <= s + 1;rw [HS.out];omega) (.slice A8 n8 c8);generalize (wr.setCell ⟨s + 1,0,none⟩ (.int .i64 nn)).setCell ⟨s + 1,1,none⟩ (.slice A8 n8 c8) = X at *;simp at z0 z1;exact bodyPost_ret (v:=.agg #[.int .i64 nn,.slice A8 n8 c8]) (by simp [results,Tryz.results8,go_sem,z0,z1]) rfl ⟨_,rfl,Q2,A2⟩
set_option maxRecDepth 100000 in
set_option maxHeartbeats 4000000 in
theorem sameS_any (n n':Int) (A A':Option Addr) (L L':List Q4) (c c':Nat) (w:World) (hA:Quads w A L) (hA':Quads w A' L') :
  Calls Tryz.prog 16 #[.agg #[.int .i64 n,.slice A L.length c],.agg #[.int .i64 n',.slice A' L'.length c']] w fun e w'=>e = .returned (.bool (n == n' && eqB L L')) /\ Aft w w':=by
 have HA1:=(Aft.alloc w (.cells #[.int .i64 n,.slice A L.length c] 24)).then_alloc (.cells #[.int .i64 n',.slice A' L'.length c'] 24);have HE:=Lib.hid (kitEqual_joint A A' L L' c c' _ (hA.aft HA1) (hA'.aft HA1));have HA2:=Lib.hid HA1;obtain ⟨b,hb⟩:∃ b,(n == n') = b:=⟨_,rfl⟩;obtain ⟨q,hq⟩:∃ q,eqB L L' = q:=⟨_,rfl⟩;rw [hb,hq];rw [hq] at HE;clear hA hA' HA1;cases b
 ·go_enter Tryz.func16,Tryz.ntmps16;go_wp2_with fail
  go_ret;exact ⟨rfl,HA2.out⟩
 ·go_enter Tryz.func16,Tryz.ntmps16;go_wp2_with (go_at_call 52;refine HE.out.mono ?_;rintro e w2 ⟨rfl,hw2⟩)
  go_ret;exact ⟨by simp,HA2.out.trans hw2⟩
end Go.Proofs
end
section
/- Slices as they come in,of whatever length. -/
namespace Go.Proofs
open Go.RowKit
section rows
variable {α:Type}
def RowsQ (w:World) (A:Option Addr) (sz:Nat) (R:World -> α -> List Value -> Prop) (l:List α):Prop :=
 l.length <= 9223372036854775807 /\ (l = [] \/ ∃ b o,A = some ⟨b,o,none⟩ /\ b < w.heap.size /\
  ∀ i,(h:i < l.length) -> ∃ vs:List Value,vs.length = sz /\ R w l[i] vs /\ ∀ j,(hj:j < vs.length) -> w.cell? ⟨b,o + i * sz + j,none⟩ = some vs[j])
theorem RowsQ.small {w:World} {A:Option Addr} {sz:Nat} {R R':World -> α -> List Value -> Prop} {l:List α} (h:RowsQ w A sz R l) (hs:l.length * sz <= 17592186043904) (hR:∀ x ∈ l,∀ vs,R w x vs -> R' w x vs):RowsP w A sz R' l:=by
 refine ⟨hs,?_⟩;rcases h.2 with h | ⟨b,o,rfl,hb,hc⟩
 ·exact .inl h
 ·refine .inr ⟨b,o,rfl,hb,fun i hi=>?_⟩;obtain ⟨vs,h1,h2,h3⟩:=hc i hi;exact ⟨vs,h1,hR _ (List.getElem_mem hi) _ h2,h3⟩
end rows
def QuadsQ (w:World) (A:Option Addr) (l:List Q4):Prop:=RowsQ w A 4 (FlatR enc4) l
theorem QuadsQ.small {w:World} {A:Option Addr} {l:List Q4} (h:QuadsQ w A l) (hs:l.length <= 1000000):Quads w A l:=RowsQ.small h (by omega) fun _ _ _ h=>h
def GsQ (w:World) (A:Option Addr) (l:List (Int × Bool)):Prop:=RowsQ w A 2 (FlatR encG) l
theorem GsQ.small {w:World} {A:Option Addr} {l:List (Int × Bool)} (h:GsQ w A l) (hs:l.length <= 1000000):Gs w A l:=RowsQ.small h (by omega) fun _ _ _ h=>h
end Go.Proofs
end
section
/- Words for SheetRounds. -/
namespace Go.Proofs
open Go.RowKit
attribute [local go_sem] Oper.semAt_some
theorem progBt_any (S:SetL) (A:Option Addr) (c:Nat) (a b N D:Int) (w:World) (hA:Quads w A S.J) :
  Calls Tryz.prog 12 #[.agg #[.int .i64 S.n,.slice A S.J.length c],.int .i64 a,.int .i64 b,.agg #[.int .i64 N,.int .i64 D]] w fun e w'=>(∃ o:Q4 × Q4 × Int,BtO S a b N D o /\ e = .returned (.tuple #[.agg (encS o.1),.agg (encS o.2.1),.int .i64 o.2.2])) /\ Aft w w':=by
 by_cases he:setE S = 0
 ·by_cases hb:fromB a 0 (S.n - 1) = false \/ fromB b 0 (S.n - 1) = false
  ·exact (between_arg S A c a b N D w hA he hb).mono fun e w' ⟨h1,h2⟩=>⟨⟨(z4,z4,2),by unfold BtO;rw [if_neg (by simp [he]),if_pos hb],h1⟩,h2⟩
  ·have h1:fromB a 0 (S.n - 1) = true:=by
    cases e:fromB a 0 (S.n - 1)
    ·exact absurd (.inl e) hb
    ·rfl
   have h2:fromB b 0 (S.n - 1) = true:=by
    cases e:fromB b 0 (S.n - 1)
    ·exact absurd (.inr e) hb
    ·rfl
   by_cases h3:partB N D 0 = false
   ·exact (between_val S A c a b N D w hA he h1 h2 h3).mono fun e w' ⟨g1,g2⟩=>⟨⟨(z4,z4,4),by unfold BtO;rw [if_neg (by simp [he]),if_neg hb,if_pos h3],g1⟩,g2⟩
   ·have h4:partB N D 0 = true:=by simpa using h3
    rw [fromB_iff] at h1 h2;unfold partB at h4;rw [Bool.and_eq_true,fromB_iff,fromB_iff] at h4;obtain ⟨an,rfl⟩:∃ n:Nat,a = n:=⟨a.toNat,by omega⟩;obtain ⟨bn,rfl⟩:∃ n:Nat,b = n:=⟨b.toNat,by omega⟩;have hS:=setE_ok he;have hn1:=hS.n1;have hk:PlayOk N D:=⟨by omega,by omega,by omega,by omega⟩
    exact (between_good S A c an bn N D w hA he (by omega) (by omega) hk).mono fun e w' h=>by
     obtain ⟨o,h5,h6⟩:=bt_prog hS (by omega) (by omega) hk h;exact ⟨⟨o,by unfold BtO;rw [if_neg (by simp [he]),if_neg hb,if_neg h3,Int.toNat_natCast,Int.toNat_natCast];exact h5,h6⟩,h.1⟩
 ·exact (between_bad S A c a b N D w hA he).mono fun e w' ⟨h1,h2⟩=>⟨⟨(z4,z4,setE S),by unfold BtO;rw [if_pos he],h1⟩,h2⟩
def P3 (base:Nat) (n:Int) (north:Bool) (J:List Q4) (L:List (Int × Bool)) (i:Nat) (v:Value) (W:World):Prop :=
 match i with
 | 1=>∃ u,v = .agg #[.int .i64 n,u] /\ OwQ 72 base J u W
 | 6=>W.ownsRow base 34 2 v L.length (L.flatMap encG)
 | 7=>∃ u,v = .agg #[.bool north,u] /\ W.ownsRow base 34 2 u L.length (L.flatMap encG)
 | 9=>∃ u,v = .agg #[.int .i64 n,u] /\ OwQ 90 base J u W
 | _=>True
theorem P3.mono {base:Nat} {n:Int} {north:Bool} {J:List Q4} {L:List (Int × Bool)} (i:Nat) (v:Value) (W W':World) (h:P3 base n north J L i v W) (ha:Aft W W'):P3 base n north J L i v W':=by
 unfold P3 at h ⊢;split at h
 ·obtain ⟨u,h1,h2⟩:=h;exact ⟨u,h1,own_aft h2 ha⟩
 ·exact own_aft h ha
 ·obtain ⟨u,h1,h2⟩:=h;exact ⟨u,h1,own_aft h2 ha⟩
 ·obtain ⟨u,h1,h2⟩:=h;exact ⟨u,h1,own_aft h2 ha⟩
 ·exact h
theorem P3.far {base:Nat} {n:Int} {north:Bool} {J:List Q4} {L:List (Int × Bool)} {i:Nat} {v:Value} {W:World} (h:P3 base n north J L i v W) {b:Nat} {t:TypeId} {cs:Array Value} (hb:Blk W b t cs) (h1:72 ≠ t) (h2:34 ≠ t) (h3:90 ≠ t) (k:Nat) (x:Value):P3 base n north J L i v (W.setCell ⟨b,k,none⟩ x):=by
 unfold P3 at h ⊢;split at h
 ·obtain ⟨u,g1,g2⟩:=h;exact ⟨u,g1,own_far2 g2 hb h1 k x⟩
 ·exact own_far2 h hb h2 k x
 ·obtain ⟨u,g1,g2⟩:=h;exact ⟨u,g1,own_far2 g2 hb h2 k x⟩
 ·obtain ⟨u,g1,g2⟩:=h;exact ⟨u,g1,own_far2 g2 hb h3 k x⟩
 ·exact h
def P5 (base:Nat) (L:List (Int × Bool)) (_:Nat) (v:Value) (W:World):Prop:=W.ownsRow base 106 2 v L.length (L.flatMap encG)
theorem P5.mono {base:Nat} {L:List (Int × Bool)} (i:Nat) (v:Value) (W W':World) (h:P5 base L i v W) (ha:Aft W W'):P5 base L i v W':=own_aft h ha
theorem gs_of {e:TypeId} {base:Nat} {L:List (Int × Bool)} {v:Value} {W:World} (h:W.ownsRow base e 2 v L.length (L.flatMap encG)) (hl:L.length <= 1000):∃ A c,v = .slice A L.length c /\ Gs W A L:=by
 obtain ⟨A,c,h1,-,h2,-⟩:=own_flat (enc:=encG) (sz:=2) (fun _=>rfl) h (by omega);exact ⟨A,c,h1,h2⟩
theorem sizeOf29 (W:World):(sizeOf 29).run Tryz.prog W = .ok 2 W:=by simp [go_sem]
theorem eq29 (a b:Int) (W:World):(Op.equalIn 9999 29 (.agg #[.int .i64 a,.int .i64 b]) (.agg #[.int .i64 a,.int .i64 b])).run Tryz.prog W = .ok true W:=by
 simp [go_sem]
theorem eq49 (d:Nat) (hd:∀ (a b:Int) (W:World),(Op.equalIn d 29 (.agg #[.int .i64 a,.int .i64 b]) (.agg #[.int .i64 a,.int .i64 b])).run Tryz.prog W = .ok true W) (a1 a2 a3 a4 a5 a6 a7 a8:Int) (W:World):(Op.equalIn (d + 1) 49 (.agg #[.int .i64 a1,.int .i64 a2,.int .i64 a3,.int .i64 a4,.int .i64 a5,.int .i64 a6,.int .i64 a7,.int .i64 a8]) (.agg #[.int .i64 a1,.int .i64 a2,.int .i64 a3,.int .i64 a4,.int .i64 a5,.int .i64 a6,.int .i64 a7,.int .i64 a8])).run Tryz.prog W = .ok true W:=by
 have h:Tryz.prog.underlying 49 = some (.array 4 29):=by kernel_rfl
 have p0:∀ W,(part 29 #[.int .i64 a1,.int .i64 a2,.int .i64 a3,.int .i64 a4,.int .i64 a5,.int .i64 a6,.int .i64 a7,.int .i64 a8] 0).run Tryz.prog W = .ok (.agg #[.int .i64 a1,.int .i64 a2]) W:=fun W=>by simp [go_sem]
 have p1:∀ W,(part 29 #[.int .i64 a1,.int .i64 a2,.int .i64 a3,.int .i64 a4,.int .i64 a5,.int .i64 a6,.int .i64 a7,.int .i64 a8] 2).run Tryz.prog W = .ok (.agg #[.int .i64 a3,.int .i64 a4]) W:=fun W=>by simp [go_sem]
 have p2:∀ W,(part 29 #[.int .i64 a1,.int .i64 a2,.int .i64 a3,.int .i64 a4,.int .i64 a5,.int .i64 a6,.int .i64 a7,.int .i64 a8] 4).run Tryz.prog W = .ok (.agg #[.int .i64 a5,.int .i64 a6]) W:=fun W=>by simp [go_sem]
 have p3:∀ W,(part 29 #[.int .i64 a1,.int .i64 a2,.int .i64 a3,.int .i64 a4,.int .i64 a5,.int .i64 a6,.int .i64 a7,.int .i64 a8] 6).run Tryz.prog W = .ok (.agg #[.int .i64 a7,.int .i64 a8]) W:=fun W=>by simp [go_sem]
 simp only [Op.equalIn,Sem.run_bind,run_underlying h,Result.andThen_ok,sizeOf29];simp [Std.Legacy.Range.forIn_eq_forIn_range',List.range',Std.Legacy.Range.size,p0,p1,p2,p3,hd]
theorem ne49 (a1 a2 a3 a4 a5 a6 a7 a8:Int) (W:World):(binOp .neq 49 (.agg #[.int .i64 a1,.int .i64 a2,.int .i64 a3,.int .i64 a4,.int .i64 a5,.int .i64 a6,.int .i64 a7,.int .i64 a8]) (.agg #[.int .i64 a1,.int .i64 a2,.int .i64 a3,.int .i64 a4,.int .i64 a5,.int .i64 a6,.int .i64 a7,.int .i64 a8])).run Tryz.prog W = .ok (.bool false) W:=by
 rw [run_neq_struct,eq49 9999 eq29];rfl
end Go.Proofs
end
section
/- Walks: the examples of the law;shifted,sum,Fold. -/
namespace Go.Proofs
open Go.RowKit
attribute [local go_sem] Oper.semAt_some
theorem rows_of_blk {α:Type} {enc:α -> List Value} {sz:Nat} (hs:∀ x,(enc x).length = sz) {W:World} {b:Nat} {t:TypeId} {l:List α} {cs:Array Value} (h:Blk W b t cs) (hc:cs = (l.flatMap enc).toArray) (hl:l.length * sz <= 17592186043904):RowsP W (some ⟨b,0,none⟩) sz (FlatR enc) l:=by
 subst hc;refine ⟨hl,.inr ⟨b,0,rfl,h.lt,fun i hi=>⟨enc l[i],hs _,rfl,fun j hj=>?_⟩⟩⟩;have hj':j < sz:=by rw [hs] at hj;exact hj
 have h1:=h.cell (i * sz + j);have h2:=flat_get hs l i j hi hj';rw [List.getElem?_eq_getElem hj] at h2;rw [Nat.zero_add,h1];simpa using h2
def threeJ:List Q4:=[⟨0,1,10,0⟩,⟨1,2,20,0⟩,⟨0,2,36,0⟩]
def ringJ:List Q4:=[⟨0,1,1,0⟩,⟨1,2,1,0⟩,⟨2,3,1,0⟩,⟨3,0,1,0⟩]
def edgeA:List (Int × Int):=[(0,1),(10,2),(20,1)]
def edgeB:List (Int × Int):=[(1,2),(9,1),(12,2)]
set_option maxRecDepth 100000 in
set_option maxHeartbeats 1000000 in
theorem three_any (w:World):Calls Tryz.prog 18 #[] w fun e w'=>∃ b,e = .returned (.agg #[.int .i64 3,.slice (some ⟨b,0,none⟩) 3 3]) /\ Quads w' (some ⟨b,0,none⟩) threeJ /\ Aft w w':=by
 obtain ⟨s,hs⟩:∃ s,w.heap.size = s:=⟨_,rfl⟩;have hw:w.heap.size <= s:=Nat.le_of_eq hs;obtain ⟨W1,hW1⟩:∃ W1,(w.alloc (.cells #[.int .i64 0,.slice none 0 0] 24)).alloc (.cells #[.int .i64 0,.int .i64 1,.int .i64 10,.int .i64 0,.int .i64 1,.int .i64 2,.int .i64 20,.int .i64 0,.int .i64 0,.int .i64 2,.int .i64 36,.int .i64 0] 72) = W1:=⟨_,rfl⟩;have HA1:Hid (Aft w W1):=Lib.hid (hW1 ▸ (Aft.alloc w _).then_alloc _);have HB1:Hid (Blk W1 s 24 #[.int .i64 0,.slice none 0 0]):=Lib.hid (by rw [<- hW1,<- hs];exact (Blk.new w 24 _).alloc _);have HQ1:Hid (Blk W1 (s + 1) 72 #[.int .i64 0,.int .i64 1,.int .i64 10,.int .i64 0,.int .i64 1,.int .i64 2,.int .i64 20,.int .i64 0,.int .i64 0,.int .i64 2,.int .i64 36,.int .i64 0]):=Lib.hid (by have:=Blk.new (w.alloc (.cells #[.int .i64 0,.slice none 0 0] 24)) 72 #[.int .i64 0,.int .i64 1,.int .i64 10,.int .i64 0,.int .i64 1,.int .i64 2,.int .i64 20,.int .i64 0,.int .i64 0,.int .i64 2,.int .i64 36,.int .i64 0];rw [World.size_alloc,hs,hW1] at this;exact this);have c0:=HB1.out.cell 0;have c1:=HB1.out.cell 1;have c2:=HB1.out.frozen 0;have c3:=HB1.out.frozen 1;have c4:=HB1.out.lt;simp only [List.getElem?_toArray,List.getElem?_cons_zero,List.getElem?_cons_succ] at c0 c1;go_enter Tryz.func18,Tryz.ntmps18;go_upto_region 1 with fail
 go_wp2_with fail
 have B2:=(HB1.out.store 0 (.int .i64 3)).store 1 (.slice (some ⟨s + 1,0,none⟩) 3 3);have A2:=(HA1.out.then_setCell (p:=⟨s,0,none⟩) hw (.int .i64 3)).then_setCell (p:=⟨s,1,none⟩) hw (.slice (some ⟨s + 1,0,none⟩) 3 3);have Q2:=(HQ1.out.far (p:=⟨s,0,none⟩) (by show s + 1 ≠ s;omega) (.int .i64 3)).far (p:=⟨s,1,none⟩) (by show s + 1 ≠ s;omega) (.slice (some ⟨s + 1,0,none⟩) 3 3);generalize (W1.setCell ⟨s,0,none⟩ (.int .i64 3)).setCell ⟨s,1,none⟩ (.slice (some ⟨s + 1,0,none⟩) 3 3) = X at *;have z0:X.cell? ⟨s,0,none⟩ = some (.int .i64 3):=B2.cell 0;have z1:X.cell? ⟨s,1,none⟩ = some (.slice (some ⟨s + 1,0,none⟩) 3 3):=B2.cell 1;exact bodyPost_ret (v:=.agg #[.int .i64 3,.slice (some ⟨s + 1,0,none⟩) 3 3]) (by simp [results,Tryz.results18,go_sem,z0,z1]) rfl ⟨s + 1,rfl,rows_of_blk (enc:=enc4) (fun _=>rfl) Q2 rfl (by decide),A2⟩
set_option maxRecDepth 100000 in
set_option maxHeartbeats 1000000 in
theorem ring_any (w:World):Calls Tryz.prog 27 #[] w fun e w'=>∃ b,e = .returned (.agg #[.int .i64 4,.slice (some ⟨b,0,none⟩) 4 4]) /\ Quads w' (some ⟨b,0,none⟩) ringJ /\ Aft w w':=by
 obtain ⟨s,hs⟩:∃ s,w.heap.size = s:=⟨_,rfl⟩;have hw:w.heap.size <= s:=Nat.le_of_eq hs;obtain ⟨W1,hW1⟩:∃ W1,(w.alloc (.cells #[.int .i64 0,.slice none 0 0] 24)).alloc (.cells #[.int .i64 0,.int .i64 1,.int .i64 1,.int .i64 0,.int .i64 1,.int .i64 2,.int .i64 1,.int .i64 0,.int .i64 2,.int .i64 3,.int .i64 1,.int .i64 0,.int .i64 3,.int .i64 0,.int .i64 1,.int .i64 0] 72) = W1:=⟨_,rfl⟩;have HA1:Hid (Aft w W1):=Lib.hid (hW1 ▸ (Aft.alloc w _).then_alloc _);have HB1:Hid (Blk W1 s 24 #[.int .i64 0,.slice none 0 0]):=Lib.hid (by rw [<- hW1,<- hs];exact (Blk.new w 24 _).alloc _);have HQ1:Hid (Blk W1 (s + 1) 72 #[.int .i64 0,.int .i64 1,.int .i64 1,.int .i64 0,.int .i64 1,.int .i64 2,.int .i64 1,.int .i64 0,.int .i64 2,.int .i64 3,.int .i64 1,.int .i64 0,.int .i64 3,.int .i64 0,.int .i64 1,.int .i64 0]):=Lib.hid (by have:=Blk.new (w.alloc (.cells #[.int .i64 0,.slice none 0 0] 24)) 72 #[.int .i64 0,.int .i64 1,.int .i64 1,.int .i64 0,.int .i64 1,.int .i64 2,.int .i64 1,.int .i64 0,.int .i64 2,.int .i64 3,.int .i64 1,.int .i64 0,.int .i64 3,.int .i64 0,.int .i64 1,.int .i64 0];rw [World.size_alloc,hs,hW1] at this;exact this);have c0:=HB1.out.cell 0;have c1:=HB1.out.cell 1;have c2:=HB1.out.frozen 0;have c3:=HB1.out.frozen 1;have c4:=HB1.out.lt;simp only [List.getElem?_toArray,List.getElem?_cons_zero,List.getElem?_cons_succ] at c0 c1;go_enter Tryz.func27,Tryz.ntmps27;go_upto_region 1 with fail
 go_wp2_with fail
 have B2:=(HB1.out.store 0 (.int .i64 4)).store 1 (.slice (some ⟨s + 1,0,none⟩) 4 4);have A2:=(HA1.out.then_setCell (p:=⟨s,0,none⟩) hw (.int .i64 4)).then_setCell (p:=⟨s,1,none⟩) hw (.slice (some ⟨s + 1,0,none⟩) 4 4);have Q2:=(HQ1.out.far (p:=⟨s,0,none⟩) (by show s + 1 ≠ s;omega) (.int .i64 4)).far (p:=⟨s,1,none⟩) (by show s + 1 ≠ s;omega) (.slice (some ⟨s + 1,0,none⟩) 4 4);generalize (W1.setCell ⟨s,0,none⟩ (.int .i64 4)).setCell ⟨s,1,none⟩ (.slice (some ⟨s + 1,0,none⟩) 4 4) = X at *;have z0:X.cell? ⟨s,0,none⟩ = some (.int .i64 4):=B2.cell 0;have z1:X.cell? ⟨s,1,none⟩ = some (.slice (some ⟨s + 1,0,none⟩) 4 4):=B2.cell 1;exact bodyPost_ret (v:=.agg #[.int .i64 4,.slice (some ⟨s + 1,0,none⟩) 4 4]) (by simp [results,Tryz.results27,go_sem,z0,z1]) rfl ⟨s + 1,rfl,rows_of_blk (enc:=enc4) (fun _=>rfl) Q2 rfl (by decide),A2⟩
set_option maxRecDepth 100000 in
set_option maxHeartbeats 1000000 in
theorem edges_any (w:World):Calls Tryz.prog 21 #[] w fun e w'=>∃ b1 b2,e = .returned (.tuple #[.slice (some ⟨b1,0,none⟩) 3 3,.slice (some ⟨b2,0,none⟩) 3 3]) /\ Prs w' (some ⟨b1,0,none⟩) edgeA /\ Prs w' (some ⟨b2,0,none⟩) edgeB /\ Aft w w':=by
 have HQ1:=Lib.hid ((Blk.new w 76 #[.int .i64 0,.int .i64 1,.int .i64 10,.int .i64 2,.int .i64 20,.int .i64 1]).alloc (.cells #[.int .i64 1,.int .i64 2,.int .i64 9,.int .i64 1,.int .i64 12,.int .i64 2] 76));have HQ2:=Lib.hid (Blk.new (w.alloc (.cells #[.int .i64 0,.int .i64 1,.int .i64 10,.int .i64 2,.int .i64 20,.int .i64 1] 76)) 76 #[.int .i64 1,.int .i64 2,.int .i64 9,.int .i64 1,.int .i64 12,.int .i64 2]);have HA:=Lib.hid ((Aft.alloc w (.cells #[.int .i64 0,.int .i64 1,.int .i64 10,.int .i64 2,.int .i64 20,.int .i64 1] 76)).then_alloc (.cells #[.int .i64 1,.int .i64 2,.int .i64 9,.int .i64 1,.int .i64 12,.int .i64 2] 76));go_enter Tryz.func21,Tryz.ntmps21;go_wp2_with fail
 exact bodyPost_ret (v:=.tuple #[.slice (some ⟨w.heap.size,0,none⟩) 3 3,.slice (some ⟨w.heap.size + 1,0,none⟩) 3 3]) (by simp [results,Tryz.results21,go_sem]) rfl ⟨w.heap.size,w.heap.size + 1,rfl,rows_of_blk (enc:=enc2) (fun _=>rfl) HQ1.out rfl (by decide),rows_of_blk (enc:=enc2) (fun _=>rfl) (by have:=HQ2.out;rw [World.size_alloc] at this;exact this) rfl (by decide),HA.out⟩
def shI (n:Int):Q4:=⟨n,1,0,1⟩
set_option maxRecDepth 100000 in
set_option maxHeartbeats 4000000 in
theorem shifted_any (A:Option Addr) (l:List Int) (c:Nat) (w:World) (hA:Ints w A l) (hl:l.length <= 1000) :
  Calls Tryz.prog 19 #[.slice A l.length c] w (OwnF 74 4 enc4 w (l.map shI)):=by
 have HA:=Lib.hid hA;clear hA;go_enter Tryz.func19,Tryz.ntmps19;go_upto_block 0 with fail
 refine wp_block ?_;go_loopw [3,8] (fun v i wr=>∃ k:Nat,i = .int .i64 (k:Nat) /\ k <= l.length /\ wr.ownsRow w.heap.size 74 4 v ((l.take k).map shI).length (((l.take k).map shI).flatMap enc4) /\ Aft w wr) (fun _ i _=>l.length - (intOf i).toNat)
 case atStart=>exact ⟨0,rfl,by omega,World.ownsRow_nil _ _ 74 4,Aft.refl _⟩
 case round =>
  obtain ⟨k,rfl,hk,ho,ha⟩:=hrel;have HO:=Lib.hid ho;have HAF:=Lib.hid ha;clear ho ha;by_cases hkl:k < l.length
  ·have t1:decide (k < l.length) = true:=by simpa using hkl
   obtain ⟨b,o,rfl,hb2,hc⟩:=(HA.out.aft HAF.out).at hkl;have x0:=hc k hkl;have htl:((l.take k).map shI).length = k:=by rw [List.length_map,List.length_take];omega
   have HTL:=Lib.hid htl;have HTS:Hid ((l.take (k + 1)).map shI = (l.take k).map shI ++ [shI l[k]]):=Lib.hid (by rw [List.take_succ_eq_append_getElem hkl,List.map_append];rfl);obtain ⟨p,hp⟩:∃ p,l[k] = p:=⟨_,rfl⟩;rw [hp] at x0 HTS;obtain ⟨L,hL⟩:∃ L,(l.take k).map shI = L:=⟨_,rfl⟩;rw [hL] at HO HTS HTL;clear hc hp hL htl;have hba:=HAF.out.size;go_upto_region 5 with fail
   clear x0 t1;go_wp2_with (first | (go_at_call 20;refine (ratioL_any _ _ _).mono ?_;rintro e w2 ⟨rfl,u,rfl⟩) | (at_builtin;refine wpList_pushF (enc:=enc4) ty26 rfl _ _ rfl (own_aft HO.out (((Aft.lat _ _).then_lat _).then_alloc _)) (Nat.le_trans hba (((Aft.lat _ _).then_lat _).then_alloc _).size) rfl (shI p) rfl rfl (src_blk (Blk.new _ 74 _)) (by intro u hu;simp [enc4,shI] at hu;rcases hu with rfl | rfl | rfl | rfl <;> rfl) (by rw [HTL.out];omega) (by decide) ?_;intro v8 w7 ho8 hg8))
   have ha9:=(HAF.out.trans (((Aft.lat _ _).then_lat _).then_alloc _)).grown hg8 (own_ge HO.out);refine ⟨⟨k + 1,by go_num,by omega,by rw [HTS.out];exact ho8,ha9⟩,by simp [intOf];omega⟩
  ·have t1:decide (k < l.length) = false:=by simpa using hkl
   have et:l.take k = l:=List.take_of_length_le (by omega);rw [et] at HO;go_wp2_with fail
   go_ret;exact ⟨_,rfl,HO.out,HAF.out⟩
end Go.Proofs
end
