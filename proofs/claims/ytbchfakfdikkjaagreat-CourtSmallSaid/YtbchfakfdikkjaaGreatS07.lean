/- Own texts, merged: CtSm0 CtRa CtRb. -/
import Derived.Test.YtbchfakfdikkjaaGreatS06
import Derived.BigGuard
import Derived.Deep.CutRange
set_option linter.unusedSimpArgs false
set_option linter.unusedVariables false
set_option linter.unnecessarySimpa false
section
/- Walks: Five,in boxes of its own;stores into them. -/
namespace Go.Proofs
open Go.RowKit
attribute [local go_sem] Oper.semAt_some
set_option maxRecDepth 100000 in
set_option maxHeartbeats 2000000 in
theorem struck80_own (l:List Int) (A:Option Addr) (c:Nat) (w:World) (hA:Ints w A l) (hl:l.length <= 1000) :
  Calls Tryz.prog 80 #[.slice A l.length c] w fun e w'=>∃ v,e = .returned v /\ w'.ownsRow w.heap.size 57 2 v (prL l (l.length / 2)).length (strC (prL l (l.length / 2))) /\ Aft w w':=by
 have HA:=Lib.hid hA;have HN0:=Lib.hid (World.ownsRow_nil w w.heap.size 57 2);clear hA;obtain ⟨T,hT⟩:∃ T,prL l (l.length / 2) = T:=⟨_,rfl⟩;rw [hT];have HT:=Lib.hid hT;clear hT;go_enter Tryz.func80,Tryz.ntmps80;go_upto_block 0 with (fail)
 refine wp_block ?_;go_loopw [3,4] (fun v i wr=>∃ k:Nat,i = .int .i64 ((2 * k:Nat):Int) /\ 2 * k <= l.length /\ wr.ownsRow w.heap.size 57 2 v (prL l k).length (strC (prL l k)) /\ Aft w wr) (fun _ i _=>l.length - (intOf i).toNat)
 case atStart=>exact ⟨0,rfl,by omega,HN0.out,Aft.refl _⟩
 case round =>
  obtain ⟨k,rfl,hk,hown,haw⟩:=hrel;have HOW:=Lib.hid hown;have HAW:=Lib.hid haw;clear hown haw;by_cases hkl:2 * k + 1 < l.length
  ·have t1:decide (2 * k + 1 < l.length) = true:=by simpa using hkl
   obtain ⟨bx,ox,hbx,hbl,hx⟩:=(HA.out.aft HAW.out).at (k:=2 * k) (by omega);subst hbx;have x0:=hx (2 * k) (by omega);have x1:=hx (2 * k + 1) hkl;have e0:l.getD (2 * k) 0 = l[2 * k]:=by rw [List.getD_eq_getElem?_getD,List.getElem?_eq_getElem (by omega)];rfl
   have e1:l.getD (2 * k + 1) 0 = l[2 * k + 1]:=by rw [List.getD_eq_getElem?_getD,List.getElem?_eq_getElem hkl];rfl
   have HS:=Lib.hid (prL_succ l k);rw [e0,e1] at HS;have hpl:=prL_len l k;clear hx e0 e1;generalize l[2 * k] = y0 at *;generalize l[2 * k + 1] = y1 at *;have HX0:Hid (∀ W,Aft wr W -> W.cell? ⟨bx,ox + 2 * k,none⟩ = some (.int .i64 y0)):=Lib.hid fun W h=>cell_of_aft x0 hbl h
   have HX1:Hid (∀ W,Aft wr W -> W.cell? ⟨bx,ox + (2 * k + 1),none⟩ = some (.int .i64 y1)):=Lib.hid fun W h=>cell_of_aft x1 hbl h
   clear x0 x1;go_upto_region 5 with (fail)
   have b0:(0:Int) <= 2 * (k:Int) /\ 2 * (k:Int) < (l.length:Int):=by omega
   have b1:(0:Int) <= 2 * (k:Int) + 1 /\ 2 * (k:Int) + 1 < (l.length:Int):=by omega
   have o0:(2 * (k:Int)).toNat = 2 * k:=by omega
   have o1:(2 * (k:Int) + 1).toNat = 2 * k + 1:=by omega
   refine wp_region_valsU (by kernel_rfl) 12 26 rfl (by kernel_rfl) (by kernel_rfl) [some (u3),some (.slice (some ⟨bx,ox,none⟩) l.length c),some (.int .i64 (2 * (k:Int))),some (.pointer (some ⟨bx,ox + 2 * k,none⟩)),some (.int .i64 y0),some (.slice (some ⟨bx,ox,none⟩) l.length c),some (.int .i64 (2 * (k:Int))),some (.int .i64 (2 * (k:Int) + 1)),some (.pointer (some ⟨bx,ox + (2 * k + 1),none⟩)),some (.int .i64 y1),some (.agg #[.int .i64 y0,.int .i64 y1]),some (.slice (some ⟨wr.heap.size,0,none⟩) 1 1)] (by kernel_rfl) rfl (fun done a W=>a.eval (.tmp 3) = u3 /\ Aft wr W /\ (if done 11 = true then W = wr.drew.alloc (.cells #[.int .i64 y0,.int .i64 y1] 57) else W = wr.drew)) (⟨rfl,Aft.drew _,by simp⟩) ?st1 ?fi1
   case st1 =>
    intro i o v ho hv
    match i,ho,hv with
    | 0,ho,hv =>
     cases ho;cases hv;refine .inl ⟨rfl,fun done a W hz hd hp hk hw K hK=>?_⟩;exact op_val (v:=u3) (by simp [go_sem,ev' hw.1]) (hK _ _ (fun u hu=>by cases hu;rfl) ⟨(evne (by decide)).trans hw.1,hw.2.1,by rw [upd_ne' (by decide)];exact hw.2.2⟩)
    | 1,ho,hv =>
     cases ho;cases hv;refine .inl ⟨rfl,fun done a W hz hd hp hk hw K hK=>?_⟩;have e0:=hk.s 0;exact op_val (v:=.slice (some ⟨bx,ox,none⟩) l.length c) (by simp [go_sem,ev' e0]) (hK _ _ (fun u hu=>by cases hu;rfl) ⟨(evne (by decide)).trans hw.1,hw.2.1,by rw [upd_ne' (by decide)];exact hw.2.2⟩)
    | 2,ho,hv =>
     cases ho;cases hv;refine .inl ⟨rfl,fun done a W hz hd hp hk hw K hK=>?_⟩;have e4:=hk.s 4;exact op_val (v:=.int .i64 (2 * (k:Int))) (by simp [go_sem,ev' e4]) (hK _ _ (fun u hu=>by cases hu;rfl) ⟨(evne (by decide)).trans hw.1,hw.2.1,by rw [upd_ne' (by decide)];exact hw.2.2⟩)
    | 3,ho,hv =>
     cases ho;cases hv;refine .inl ⟨rfl,fun done a W hz hd hp hk hw K hK=>?_⟩;have e13:=hk.t 1;have e14:=hk.t 2;exact op_val (v:=.pointer (some ⟨bx,ox + 2 * k,none⟩)) (by simp [go_sem,ev' e13,ev' e14,b0,o0]) (hK _ _ (fun u hu=>by cases hu;rfl) ⟨(evne (by decide)).trans hw.1,hw.2.1,by rw [upd_ne' (by decide)];exact hw.2.2⟩)
    | 4,ho,hv =>
     cases ho;cases hv;refine .inl ⟨rfl,fun done a W hz hd hp hk hw K hK=>?_⟩;have e15:=hk.t 3;have x0:=HX0.out W hw.2.1;exact op_val (v:=.int .i64 y0) (by simp [go_sem,ev' e15,x0]) (hK _ _ (fun u hu=>by cases hu;rfl) ⟨(evne (by decide)).trans hw.1,hw.2.1,by rw [upd_ne' (by decide)];exact hw.2.2⟩)
    | 5,ho,hv =>
     cases ho;cases hv;refine .inl ⟨rfl,fun done a W hz hd hp hk hw K hK=>?_⟩;have e0:=hk.s 0;exact op_val (v:=.slice (some ⟨bx,ox,none⟩) l.length c) (by simp [go_sem,ev' e0]) (hK _ _ (fun u hu=>by cases hu;rfl) ⟨(evne (by decide)).trans hw.1,hw.2.1,by rw [upd_ne' (by decide)];exact hw.2.2⟩)
    | 6,ho,hv =>
     cases ho;cases hv;refine .inl ⟨rfl,fun done a W hz hd hp hk hw K hK=>?_⟩;have e4:=hk.s 4;exact op_val (v:=.int .i64 (2 * (k:Int))) (by simp [go_sem,ev' e4]) (hK _ _ (fun u hu=>by cases hu;rfl) ⟨(evne (by decide)).trans hw.1,hw.2.1,by rw [upd_ne' (by decide)];exact hw.2.2⟩)
    | 7,ho,hv =>
     cases ho;cases hv;refine .inl ⟨rfl,fun done a W hz hd hp hk hw K hK=>?_⟩;have e18:=hk.t 6;refine op_val (v:=.int .i64 (2 * (k:Int) + 1)) ?_ (hK _ _ (fun u hu=>by cases hu;rfl) ⟨(evne (by decide)).trans hw.1,hw.2.1,by rw [upd_ne' (by decide)];exact hw.2.2⟩);simp [go_sem,ev' e18];rw [IntKind.wrap_i64];omega
    | 8,ho,hv =>
     cases ho;cases hv;refine .inl ⟨rfl,fun done a W hz hd hp hk hw K hK=>?_⟩;have e17:=hk.t 5;have e19:=hk.t 7;exact op_val (v:=.pointer (some ⟨bx,ox + (2 * k + 1),none⟩)) (by simp [go_sem,ev' e17,ev' e19,b1,o1]) (hK _ _ (fun u hu=>by cases hu;rfl) ⟨(evne (by decide)).trans hw.1,hw.2.1,by rw [upd_ne' (by decide)];exact hw.2.2⟩)
    | 9,ho,hv =>
     cases ho;cases hv;refine .inl ⟨rfl,fun done a W hz hd hp hk hw K hK=>?_⟩;have e20:=hk.t 8;have x1:=HX1.out W hw.2.1;exact op_val (v:=.int .i64 y1) (by simp [go_sem,ev' e20,x1]) (hK _ _ (fun u hu=>by cases hu;rfl) ⟨(evne (by decide)).trans hw.1,hw.2.1,by rw [upd_ne' (by decide)];exact hw.2.2⟩)
    | 10,ho,hv =>
     cases ho;cases hv;refine .inl ⟨rfl,fun done a W hz hd hp hk hw K hK=>?_⟩;have e16:=hk.t 4;have e21:=hk.t 9;exact op_val (v:=.agg #[.int .i64 y0,.int .i64 y1]) (by simp [go_sem,ev' e16,ev' e21]) (hK _ _ (fun u hu=>by cases hu;rfl) ⟨(evne (by decide)).trans hw.1,hw.2.1,by rw [upd_ne' (by decide)];exact hw.2.2⟩)
    | 11,ho,hv =>
     cases ho;cases hv;refine .inl ⟨rfl,fun done a W hz hd hp hk hw K hK=>?_⟩;have e22:=hk.t 10;have h2:=hw.2.2;rw [hd] at h2;simp only [Bool.false_eq_true,if_false] at h2;subst h2;exact op_valW (v:=.slice (some ⟨wr.heap.size,0,none⟩) 1 1) (w':=wr.drew.alloc (.cells #[.int .i64 y0,.int .i64 y1] 57)) (by simp [go_sem,ev' e22]) (hK _ _ (fun u hu=>by cases hu;rfl) ⟨(evne (by decide)).trans hw.1,(Aft.drew wr).then_alloc _,by rw [upd_same',if_pos rfl]⟩)
    | _ + 12,_,hv=>cases hv
   intro done us W hus hd hw;obtain rfl:us = []:=List.eq_nil_of_length_eq_zero hus;have hw2:=hw.2.2;rw [if_pos (hd 11 (by decide))] at hw2;clear hw hd hus;subst hw2;simp only [fill,List.drop_succ_cons,List.drop_zero,List.zip_cons_cons,List.zip_nil_right,putAll];simp only [Act.put,List.setIfInBounds_toArray,List.set];have HO2:=Lib.hid (own_aft HOW.out ((Aft.drew wr).then_alloc (.cells #[.int .i64 y0,.int .i64 y1] 57)));have hbase:w.heap.size <= (wr.drew.alloc (.cells #[.int .i64 y0,.int .i64 y1] 57)).heap.size:=Nat.le_trans HAW.out.size ((Aft.drew wr).then_alloc _).size;have c0:(wr.drew.alloc (.cells #[.int .i64 y0,.int .i64 y1] 57)).cell? ⟨wr.heap.size,0,none⟩ = some (.int .i64 y0):=(Blk.new wr.drew 57 #[.int .i64 y0,.int .i64 y1]).cell 0;have c1:(wr.drew.alloc (.cells #[.int .i64 y0,.int .i64 y1] 57)).cell? ⟨wr.heap.size,1,none⟩ = some (.int .i64 y1):=(Blk.new wr.drew 57 #[.int .i64 y0,.int .i64 y1]).cell 1;have HC0:=Lib.hid c0;have HC1:=Lib.hid c1;have HA2:=Lib.hid (HAW.out.trans ((Aft.drew wr).then_alloc (.cells #[.int .i64 y0,.int .i64 y1] 57)));clear c0 c1;generalize wr.drew.alloc (.cells #[.int .i64 y0,.int .i64 y1] 57) = W2 at *;go_wp2_with (at_builtin;refine wpList_push22 rfl _ _ rfl HO2.out hbase rfl rfl HC0.out HC1.out (by omega) ?_;intro v7 w7 hr7 hg7;have HR7:=Lib.hid hr7;have HG7:=Lib.hid hg7;clear hr7 hg7)
   exact ⟨⟨k + 1,by go_num,by omega,by rw [HS.out];exact HR7.out,HA2.out.grown HG7.out (fun g hg=>own_ge HO2.out g hg)⟩,by simp [intOf];omega⟩
  ·have t1:decide (2 * k + 1 < l.length) = false:=by simpa using hkl
   have hk2:l.length / 2 = k:=by omega
   have HT2:=Lib.hid (show prL l k = T by rw [<- hk2];exact HT.out);have hpl:=prL_len l k;rw [HT2.out] at HOW hpl;clear hkl;go_wp2_with fail
   go_ret;exact ⟨_,rfl,HOW.out,HAW.out⟩
structure FiveAt (W0 W:World) (b1 c1 g:Nat):Prop where
 st:W.ownsRow W0.heap.size 57 2 (.slice (some ⟨b1,0,none⟩) 5 c1) 5 (strC fiveC.strikes)
 r0:Blk W g 3 #[.int .i64 0]
 r1:Blk W (g + 1) 3 #[.int .i64 3]
 sv:Blk W (g + 1 + 1) 33 #[.slice (some ⟨g,0,none⟩) 1 1,.slice (some ⟨g + 1,0,none⟩) 1 1]
 base:W0.heap.size <= g
 aft:Aft W0 W
set_option maxRecDepth 100000 in
set_option maxHeartbeats 2000000 in
theorem five_own (w:World):Calls Tryz.prog 32 #[] w fun e w'=>∃ b1 c1 g,e = .returned (.agg #[.int .i64 5,.slice (some ⟨b1,0,none⟩) 5 c1,.slice (some ⟨g + 1 + 1,0,none⟩) 2 2]) /\ FiveAt w w' b1 c1 g:=by
 have H1:Hid (∀ W (b:Nat),Blk W b 3 #[.int .i64 0,.int .i64 1,.int .i64 1,.int .i64 2,.int .i64 2,.int .i64 3,.int .i64 3,.int .i64 2,.int .i64 3,.int .i64 4] -> Calls Tryz.prog 80 #[.slice (some ⟨b,0,none⟩) 10 10] W fun e w'=>∃ b1 c',e = .returned (.slice (some ⟨b1,0,none⟩) 5 c') /\ w'.ownsRow W.heap.size 57 2 (.slice (some ⟨b1,0,none⟩) 5 c') 5 (strC fiveC.strikes) /\ Aft W w'):=Lib.hid fun W b hb=>by
  have h:=struck80_own fiveL (some ⟨b,0,none⟩) 10 W (Nums.ints hb (nums_self fiveL) (by decide)) (by decide);rw [five_pairs] at h;refine h.mono fun e w' ⟨v,h1,h2,h3⟩=>?_
  rcases h2.2 with ⟨_,h0⟩ | ⟨b1,c',cur,rfl,h4⟩
  ·cases h0
  ·exact ⟨b1,c',h1,h2,h3⟩
 have HB0:=Lib.hid (Blk.new w 25 #[.int .i64 0,.slice none 0 0,.slice none 0 0]);have HB1:Hid (Blk ((w.alloc (.cells #[.int .i64 0,.slice none 0 0,.slice none 0 0] 25)).alloc (.cells #[.int .i64 0,.int .i64 1,.int .i64 1,.int .i64 2,.int .i64 2,.int .i64 3,.int .i64 3,.int .i64 2,.int .i64 3,.int .i64 4] 3)) (w.heap.size + 1) 3 #[.int .i64 0,.int .i64 1,.int .i64 1,.int .i64 2,.int .i64 2,.int .i64 3,.int .i64 3,.int .i64 2,.int .i64 3,.int .i64 4]):=Lib.hid (by
  have:=Blk.new (w.alloc (.cells #[.int .i64 0,.slice none 0 0,.slice none 0 0] 25)) 3 #[.int .i64 0,.int .i64 1,.int .i64 1,.int .i64 2,.int .i64 2,.int .i64 3,.int .i64 3,.int .i64 2,.int .i64 3,.int .i64 4]
  rwa [World.size_alloc] at this)
 go_enter Tryz.func32,Tryz.ntmps32;go_wp2_with (first | (go_at_call 80;refine (H1.out _ _ HB1.out).mono ?_;rintro e w2 ⟨b1,c2,rfl,hs2,ha2⟩;have HS2:=Lib.hid hs2;have HA2:=Lib.hid (((Aft.alloc w _).then_alloc _).trans ha2);have HBX:=Lib.hid ((HB0.out.alloc (.cells #[.int .i64 0,.int .i64 1,.int .i64 1,.int .i64 2,.int .i64 2,.int .i64 3,.int .i64 3,.int .i64 2,.int .i64 3,.int .i64 4] 3)).aft ha2);clear hs2 ha2) | (refine wpList_store_mid rfl 25 (.tmp 0) (.tmp 6) rfl w.heap.size 0 #[.int .i64 5,.slice (some ⟨b1,0,none⟩) 5 c2,.slice (some ⟨w2.heap.size + 1 + 1,0,none⟩) 2 2] rfl rfl (blk_there (((HBX.out.alloc _).alloc _).alloc _) rfl) info25' (all_oneCell_toArray (by intro v hv;simp at hv;rcases hv with rfl | rfl | rfl <;> rfl)) ?_))
 have hne:∀ g,w2.heap.size <= g -> w.heap.size ≠ g:=fun g hg=>by have:=HBX.out.lt;omega
 have G3:=Lib.hid (((Blk.new w2 3 #[.int .i64 0]).alloc (.cells #[.int .i64 3] 3)).alloc (.cells #[.slice (some ⟨w2.heap.size,0,none⟩) 1 1,.slice (some ⟨w2.heap.size + 1,0,none⟩) 1 1] 33));have G4:=Lib.hid ((Blk.new (w2.alloc (.cells #[.int .i64 0] 3)) 3 #[.int .i64 3]).alloc (.cells #[.slice (some ⟨w2.heap.size,0,none⟩) 1 1,.slice (some ⟨w2.heap.size + 1,0,none⟩) 1 1] 33));have G5:=Lib.hid (Blk.new ((w2.alloc (.cells #[.int .i64 0] 3)).alloc (.cells #[.int .i64 3] 3)) 33 #[.slice (some ⟨w2.heap.size,0,none⟩) 1 1,.slice (some ⟨w2.heap.size + 1,0,none⟩) 1 1]);have G0:=Lib.hid (((HBX.out.alloc (.cells #[.int .i64 0] 3)).alloc (.cells #[.int .i64 3] 3)).alloc (.cells #[.slice (some ⟨w2.heap.size,0,none⟩) 1 1,.slice (some ⟨w2.heap.size + 1,0,none⟩) 1 1] 33));rw [World.size_alloc] at G4;rw [World.size_alloc,World.size_alloc] at G5;have GA:=Lib.hid ((((Aft.alloc w2 (.cells #[.int .i64 0] 3)).then_alloc (.cells #[.int .i64 3] 3)).then_alloc (.cells #[.slice (some ⟨w2.heap.size,0,none⟩) 1 1,.slice (some ⟨w2.heap.size + 1,0,none⟩) 1 1] 33)));generalize (((w2.alloc (.cells #[.int .i64 0] 3)).alloc (.cells #[.int .i64 3] 3)).alloc (.cells #[.slice (some ⟨w2.heap.size,0,none⟩) 1 1,.slice (some ⟨w2.heap.size + 1,0,none⟩) 1 1] 33)) = W3 at *
 have hbb:w.heap.size ≠ b1:=by
  have h1:=own_ge HS2.out b1 rfl;rw [World.size_alloc,World.size_alloc] at h1;omega
 have hgb:=HA2.out.size;generalize w2.heap.size = g at *;obtain ⟨W9,hW9,hl9,hg9⟩:∃ W9,W3.setCells w.heap.size 0 [.int .i64 5,.slice (some ⟨b1,0,none⟩) 5 c2,.slice (some ⟨g + 1 + 1,0,none⟩) 2 2] = W9 /\ (loadVar 25 ⟨w.heap.size,0,none⟩).run Tryz.prog W9 = .ok (.agg #[.int .i64 5,.slice (some ⟨b1,0,none⟩) 5 c2,.slice (some ⟨g + 1 + 1,0,none⟩) 2 2]) W9 /\ W3.grownBy W9 (some w.heap.size) :=
  ⟨_,rfl,run_loadVar_mid (P:=Tryz.prog) _ w.heap.size 0 25 [.int .i64 5,.slice (some ⟨b1,0,none⟩) 5 c2,.slice (some ⟨g + 1 + 1,0,none⟩) 2 2] _ (World.rangeAt_setCells_same W3 w.heap.size 0 _ (blk_there G0.out rfl)) Tryz.underlying25 rfl info25',only_setCells _ _ _ (only_refl _ _)⟩
 rw [hW9];have q3:=(G3.out.grown hg9 (fun e=>hne _ (Nat.le_refl _) (Option.some.inj e).symm));have q4:=(G4.out.grown hg9 (fun e=>hne _ (Nat.le_succ _) (Option.some.inj e).symm));have q5:=(G5.out.grown hg9 (fun e=>hne (g + 1 + 1) (by omega) (Option.some.inj e).symm));have q9:=own_base (own_aft HS2.out GA.out) (show w.heap.size <= _ by rw [World.size_alloc,World.size_alloc];omega);refine bodyPost_ret (v:=.agg #[.int .i64 5,.slice (some ⟨b1,0,none⟩) 5 c2,.slice (some ⟨g + 1 + 1,0,none⟩) 2 2]) (by simp [results,Tryz.results32,Act.put,asAddr,hl9]) rfl ⟨b1,c2,g,rfl,?_,q3,q4,q5,hgb,(HA2.out.trans GA.out).grown hg9 (fun k e=>by cases e;exact Nat.le_refl _)⟩;exact q9.kept hg9 (.inr fun e=>hbb (Option.some.inj e).symm)
theorem FiveAt.on {W0 W W':World} {b1 c1 g:Nat} (h:FiveAt W0 W b1 c1 g) (ha:Aft W W'):FiveAt W0 W' b1 c1 g:=⟨own_aft h.st ha,h.r0.aft ha,h.r1.aft ha,h.sv.aft ha,h.base,h.aft.trans ha⟩
theorem FiveAt.rep {W0 W:World} {b1 c1 g:Nat} (h:FiveAt W0 W b1 c1 g):CRep W fiveC (some ⟨b1,0,none⟩) (some ⟨g + 1 + 1,0,none⟩):=by
 refine ⟨?_,?_⟩
 ·obtain ⟨A,c,e,hs,-⟩:=own_strs (L:=fiveC.strikes) h.st (by decide);injection e with e1 _ _
  rw [e1];exact hs
 ·refine ⟨by decide,.inr ⟨g + 1 + 1,0,rfl,h.sv.lt,fun i hi=>?_⟩⟩
  match i,hi with
  | 0,_=>exact ⟨[.slice (some ⟨g,0,none⟩) 1 1],rfl,⟨_,1,rfl,Nums.ints h.r0 (nums_self [0]) (by show 1 <= 17592186043904;decide)⟩,fun j hj=>by
    have:j = 0:=by simpa using hj
    subst this;exact h.sv.cell 0⟩
  | 1,_=>exact ⟨[.slice (some ⟨g + 1,0,none⟩) 1 1],rfl,⟨_,1,rfl,Nums.ints h.r1 (nums_self [3]) (by show 1 <= 17592186043904;decide)⟩,fun j hj=>by
    have:j = 0:=by simpa using hj
    subst this;exact h.sv.cell 1⟩
theorem list_pick {α:Type} (P:Nat -> α -> Prop):∀ n:Nat,(∀ i,i < n -> ∃ y,P i y) -> ∃ l:List α,l.length = n /\ ∀ i (hi:i < l.length),P i l[i]
 | 0,_=>⟨[],rfl,fun i hi=>by cases hi⟩
 | n + 1,h=>by
  obtain ⟨l,h1,h2⟩:=list_pick P n fun i hi=>h i (by omega)
  obtain ⟨y,hy⟩:=h n (by omega);refine ⟨l ++ [y],by simp [h1],fun i hi=>?_⟩;by_cases e:i < l.length
  ·rw [List.getElem_append_left e];exact h2 i e
  ·have:i = n:=by simp at hi;omega
   subst this;rw [List.getElem_append_right (by omega)];simpa using hy
def Jolt (W W':World):Prop:=W'.heap.size = W.heap.size /\ ∀ p v,W.cell? p = some v -> W'.cell? p = some v \/ ((∃ x,v = .int .i64 x) /\ ∃ y,W'.cell? p = some (.int .i64 y))
theorem Jolt.num {W W':World} (h:Jolt W W') {p:Addr} {x:Int} (hp:W.cell? p = some (.int .i64 x)):∃ y,W'.cell? p = some (.int .i64 y):=by
 rcases h.2 p _ hp with h | ⟨_,h⟩
 ·exact ⟨_,h⟩
 ·exact h
theorem Jolt.sli {W W':World} (h:Jolt W W') {p:Addr} {A:Option Addr} {n c:Nat} (hp:W.cell? p = some (.slice A n c)):W'.cell? p = some (.slice A n c):=by
 rcases h.2 p _ hp with h | ⟨⟨x,e⟩,_⟩
 ·exact h
 ·cases e
theorem Jolt.set {W:World} {b o:Nat} {x:Int} (y:Int) (hp:W.cell? ⟨b,o,none⟩ = some (.int .i64 x)):Jolt W (W.setCell ⟨b,o,none⟩ (.int .i64 y)):=by
 refine ⟨by simp,fun p v hv=>?_⟩;by_cases e:p = ⟨b,o,none⟩
 ·subst e;refine .inr ⟨⟨x,by rw [hp] at hv;exact (Option.some.inj hv).symm⟩,y,?_⟩;rw [World.cell?_setCell_same (h:=hp)]
 ·exact .inl (by rw [World.cell?_setCell_other (h:=Ne.symm e)];exact hv)
theorem Jolt.ints {W W':World} (h:Jolt W W') {A:Option Addr} {l:List Int} (hA:Ints W A l):∃ l',l'.length = l.length /\ Ints W' A l':=by
 rcases hA.2 with rfl | ⟨b,o,rfl,hb,-⟩
 ·exact ⟨[],rfl,by simp,.inl rfl⟩
 ·obtain ⟨l',h1,h2⟩:=list_pick (fun i y=>W'.cell? ⟨b,o + i,none⟩ = some (.int .i64 y)) l.length fun i hi=>by
   obtain ⟨b',o',e,-,hc⟩:=hA.at hi;cases e;exact h.num (hc i hi)
  refine ⟨l',h1,by rw [h1];exact hA.1,.inr ⟨b,o,rfl,by rw [h.1];exact hb,fun i hi=>⟨[.int .i64 l'[i]],rfl,rfl,fun j hj=>?_⟩⟩⟩;have:j = 0:=by simpa using hj
  subst this;simpa using h2 i hi
theorem Jolt.case {W W':World} (h:Jolt W W') {C:CaseL} {a1 a2:Option Addr} (hC:CRep W C a1 a2) (N:Int):∃ S T,S.length = C.strikes.length /\ T.length = C.surveys.length /\ CRep W' ⟨N,S,T⟩ a1 a2:=by
 have hS:∃ S,S.length = C.strikes.length /\ Strs W' a1 S:=by
  rcases hC.strikes.2 with e | ⟨b,o,rfl,hb,-⟩
  ·exact ⟨[],by rw [e],by simp,.inl rfl⟩
  ·obtain ⟨S,h1,h2⟩:=list_pick (fun i (y:Int × Int)=>W'.cell? ⟨b,o + i * 2,none⟩ = some (.int .i64 y.1) /\ W'.cell? ⟨b,o + i * 2 + 1,none⟩ = some (.int .i64 y.2)) C.strikes.length fun i hi=>by
    obtain ⟨b',o',e,-,hc⟩:=hC.strikes.at hi;cases e;obtain ⟨x,hx⟩:=h.num (hc i hi).1;obtain ⟨y,hy⟩:=h.num (hc i hi).2;exact ⟨(x,y),hx,hy⟩
   refine ⟨S,h1,by rw [h1];exact hC.strikes.1,.inr ⟨b,o,rfl,by rw [h.1];exact hb,fun i hi=>⟨[.int .i64 S[i].1,.int .i64 S[i].2],rfl,rfl,fun j hj=>?_⟩⟩⟩
   match j,hj with
   | 0,_=>simpa using (h2 i hi).1
   | 1,_=>simpa using (h2 i hi).2
 have hT:∃ T,T.length = C.surveys.length /\ Lists W' a2 T:=by
  rcases hC.surveys.2 with e | ⟨b,o,rfl,hb,-⟩
  ·exact ⟨[],by rw [e],by simp,.inl rfl⟩
  ·obtain ⟨T,h1,h2⟩:=list_pick (fun i (l:List Int)=>∃ A c,W'.cell? ⟨b,o + i,none⟩ = some (.slice A l.length c) /\ Ints W' A l) C.surveys.length fun i hi=>by
    obtain ⟨b',o',e,-,hc⟩:=hC.surveys.at hi;cases e;obtain ⟨A,c,h3,h4⟩:=hc i hi;obtain ⟨l',h5,h6⟩:=h.ints h4;exact ⟨l',A,c,by rw [h5];exact h.sli h3,h6⟩
   refine ⟨T,h1,by rw [h1];exact hC.surveys.1,.inr ⟨b,o,rfl,by rw [h.1];exact hb,fun i hi=>?_⟩⟩;obtain ⟨A,c,h3,h4⟩:=h2 i hi;refine ⟨[.slice A T[i].length c],rfl,⟨A,c,rfl,h4⟩,fun j hj=>?_⟩;have:j = 0:=by simpa using hj
   subst this;simpa using h3
 obtain ⟨S,h1,h2⟩:=hS;obtain ⟨T,h3,h4⟩:=hT;exact ⟨S,T,h1,h3,h2,h4⟩
end Go.Proofs
end
section
/- Walks: the reference's small functions: beside 57,has 64,listed 72. -/
namespace Go.Proofs
open Go.RowKit
open Court (refL begF noS struckB)
attribute [local go_sem] Oper.semAt_some
theorem box31 {W:World} {b:Nat} {N:Int} {s1 s2:Value} (h:Blk W b 31 #[.int .i64 N,s1,s2]):W.cell? ⟨b,0,none⟩ = some (.int .i64 N) /\ W.cell? ⟨b,1,none⟩ = some s1 /\ W.cell? ⟨b,2,none⟩ = some s2 :=
 ⟨h.cell 0,h.cell 1,h.cell 2⟩
theorem cellA {W W':World} {g i:Nat} {v:Value} (h:W.cell? ⟨g,i,none⟩ = some v) (hg:g < W.heap.size) (ha:Aft W W'):W'.cell? ⟨g,i,none⟩ = some v :=
 (World.cell?_of_block (a:=⟨g,i,none⟩) (ha.below.block g hg)).trans h
theorem not_from (n a b:Int):(!fromB n a b) = (decide (n < a) || decide (b < n)):=by
 unfold fromB;rw [Bool.not_and,<- decide_not,<- decide_not]
 congr 1 <;> exact decide_eq_decide.2 (by omega)
set_option maxHeartbeats 400000 in
theorem beside_any (n a b:Int) (w:World) :
  Calls Tryz.prog 57 #[.int .i64 n,.int .i64 a,.int .i64 b] w fun e w'=>e = .returned (.bool (!fromB n a b)) /\ w = w':=by
 go_enter Tryz.func57,Tryz.ntmps57;go_wp2
 all_goals go_ret
 all_goals exact ⟨ret_bool (by first | exact (not_from n a b).symm | (rw [not_from];simp_all)),rfl⟩
set_option maxHeartbeats 400000 in
theorem hasR_any (A:Option Addr) (l:List Int) (c:Nat) (x:Int) (w:World) (hA:Ints w A l) :
  Calls Tryz.prog 64 #[.slice A l.length c,.int .i64 x] w fun e w'=>e = .returned (.bool (hasB l x)) /\ w = w':=by
 have hl:=hA.len;go_enter Tryz.func64,Tryz.ntmps64;go_wp2;go_loop [5] (fun i=>∃ k:Nat,i = .int .i64 k /\ k <= l.length /\ hasB (l.take k) x = false) (fun i=>l.length - (intOf i).toNat)
 case atStart=>exact ⟨0,rfl,by omega,rfl⟩
 case round =>
  obtain ⟨k,rfl,hk,hany⟩:=hrel;have HA:=Lib.hid hany;clear hany;by_cases hlt:k < l.length
  ·obtain ⟨b,o,rfl,hbw,hc⟩:=hA.at hlt;have hck:=hc k hlt;clear hc;go_wp2
   ·have hx:l[k] = x:=by simp_all
    go_ret;exact ⟨ret_bool (hasB_iff.2 (hx ▸ List.getElem_mem hlt)).symm,rfl⟩
   ·have hx:¬ l[k] = x:=by simp_all
    go_round
    case rel=>exact ⟨k + 1,by go_num,by omega,by rw [List.take_succ_eq_append_getElem hlt,hasB_false];have:=hasB_false.1 HA.out;simp only [List.mem_append,List.mem_singleton];rintro (h | h);exact this h;exact hx h.symm⟩
    case measure=>simp [intOf];omega
  ·go_wp2;go_ret;exact ⟨ret_bool (by have:=HA.out;rw [List.take_of_length_le (by omega)] at this;exact this.symm),rfl⟩
theorem all_upto {l:List Int} {p:Int -> Bool} (h:∀ j,(hj:j < l.length) -> j < l.length -> p l[j] = true):l.all p = true:=by
 rw [List.all_eq_true];intro x hx;obtain ⟨j,hj,rfl⟩:=List.mem_iff_getElem.1 hx;exact h j hj hj
theorem all_not {l:List Int} {p:Int -> Bool} {k:Nat} (hk:k < l.length) (h:p l[k] = false):l.all p = false:=by
 rw [Bool.eq_false_iff];intro h';have:=List.all_eq_true.1 h' _ (List.getElem_mem hk);rw [h] at this;cases this
set_option maxRecDepth 100000 in
set_option maxHeartbeats 2000000 in
theorem listedR_any (N:Int) (s1 s2:Option Addr) (n1 n2 c1 c2:Nat) (A:Option Addr) (l:List Int) (c:Nat) (w:World) (hN:1 <= N /\ N <= 14) (hA:Ints w A l) :
  Calls Tryz.prog 72 #[.agg #[.int .i64 N,.slice s1 n1 c1,.slice s2 n2 c2],.slice A l.length c] w fun e w'=>e = .returned (.int .i64 (listedE N l)) /\ Aft w w':=by
 have hl:=hA.len;have H0:=Lib.hid (Aft.alloc w (.cells #[.int .i64 N,.slice s1 n1 c1,.slice s2 n2 c2] 31));have HB:=Lib.hid (Blk.new w 31 #[.int .i64 N,.slice s1 n1 c1,.slice s2 n2 c2]);have HA:=Lib.hid (hA.aft H0.out);have e1:IntKind.i64.wrap (N - 1) = N - 1:=by rw [IntWalk.i64_in _ (by omega)]
 clear hA;obtain ⟨bC,hbC⟩:∃ bC,w.heap.size = bC:=⟨_,rfl⟩;rw [hbC] at HB;have HBC:=Lib.hid hbC;clear hbC;go_enter Tryz.func72,Tryz.ntmps72;go_upto_block 0 with fail
 rw [HBC.out];generalize w.alloc (.cells #[.int .i64 N,.slice s1 n1 c1,.slice s2 n2 c2] 31) = W0 at *;clear HBC;refine wp_block ?_;go_loopw [5] (fun i wr=>∃ k:Nat,i = .int .i64 k /\ k <= l.length /\ Aft W0 wr /\ Hid (∀ j,(h:j < l.length) -> j < k -> Cl l[j] N = true)) (fun i _=>l.length - (intOf i).toNat)
 case atStart=>exact ⟨0,rfl,by omega,Aft.refl _,Lib.hid fun j _ h=>by omega⟩
 case round =>
  obtain ⟨k,rfl,hk,hy,HCL⟩:=hrel;have HY:=Lib.hid hy;clear hy;by_cases hkl:k < l.length
  ·have t1:decide (k < l.length) = true:=by simpa using hkl
   have ik:(0:Int) <= (k:Int) /\ (k:Int) < (l.length:Int):=by omega
   obtain ⟨b,o,rfl,hb,hc⟩:=(HA.out.aft HY.out).at hkl;obtain ⟨y,hyk⟩:∃ y,l[k] = y:=⟨_,rfl⟩;have HYK:=Lib.hid hyk;have x0:=hc k hkl;rw [hyk] at x0;have HX:Hid (∀ W,Aft wr W -> W.cell? ⟨b,o + k,none⟩ = some (.int .i64 y)):=Lib.hid fun W h=>cellA x0 hb h
   have HN:Hid (∀ W,Aft wr W -> W.cell? ⟨bC,0,none⟩ = some (.int .i64 N)):=Lib.hid fun W h=>(box31 (HB.out.aft (HY.out.trans h))).1
   clear hc hyk x0;go_upto_region 4 with fail
   obtain ⟨bb,hbb⟩:∃ bb,(!fromB y 0 (N - 1)) = bb:=⟨_,rfl⟩;have H57:Hid (∀ W,Calls Tryz.prog 57 #[.int .i64 y,.int .i64 0,.int .i64 (N - 1)] W fun e w'=>e = .returned (.bool bb) /\ W = w'):=Lib.hid fun W=>by rw [<- hbb];exact beside_any y 0 (N - 1) W
   have HBB:=Lib.hid hbb;clear hbb;refine wp_region_valsG (by kernel_rfl) 37 rfl (by kernel_rfl) (by kernel_rfl) [.slice (some ⟨b,o,none⟩) l.length c,.int .i64 k,.pointer (some ⟨b,o + k,none⟩),.int .i64 y,.pointer (some ⟨bC,0,none⟩),.int .i64 N,.int .i64 (N - 1),.bool bb] rfl (fun W=>Aft wr W) (Aft.drew _) ?st1 ?fi1
   case st1 =>
    intro i o v ho hv
    match i,ho,hv with
    | 0,ho,hv =>
     cases ho;cases hv;refine .inl ⟨rfl,fun a W hk hw K hK=>?_⟩;have e1:=hk.s 1;exact op_val (by simp [go_sem,ev' e1]) (hK _ hw)
    | 1,ho,hv =>
     cases ho;cases hv;refine .inl ⟨rfl,fun a W hk hw K hK=>?_⟩;have e5:=hk.s 5;exact op_val (by simp [go_sem,ev' e5]) (hK _ hw)
    | 2,ho,hv =>
     cases ho;cases hv;refine .inl ⟨rfl,fun a W hk hw K hK=>?_⟩;have e13:=hk.t 0;have e14:=hk.t 1;exact op_val (by simp [go_sem,ev' e13,ev' e14,ik]) (hK _ hw)
    | 3,ho,hv =>
     cases ho;cases hv;refine .inl ⟨rfl,fun a W hk hw K hK=>?_⟩;have e15:=hk.t 2;exact op_val (by simp [go_sem,ev' e15,HX.out W hw]) (hK _ hw)
    | 4,ho,hv =>
     cases ho;cases hv;refine .inl ⟨rfl,fun a W hk hw K hK=>?_⟩;have e2:=hk.s 2;exact op_val (by simp [go_sem,ev' e2]) (hK _ hw)
    | 5,ho,hv =>
     cases ho;cases hv;refine .inl ⟨rfl,fun a W hk hw K hK=>?_⟩;have e17:=hk.t 4;exact op_val (by simp [go_sem,ev' e17,HN.out W hw]) (hK _ hw)
    | 6,ho,hv =>
     cases ho;cases hv;refine .inl ⟨rfl,fun a W hk hw K hK=>?_⟩;have e18:=hk.t 5;exact op_val (by simp [go_sem,ev' e18,e1]) (hK _ hw)
    | 7,ho,hv =>
     cases ho;cases hv;refine .inl ⟨rfl,fun a W hk hw K hK=>?_⟩;have e16:=hk.t 3;have e19:=hk.t 6;refine op_callN rfl rfl rfl _ rfl (vs:=#[.int .i64 y,.int .i64 0,.int .i64 (N - 1)]) (by simp [e16,e19,show ∀ v,a.eval (.const v) = v from fun _=>rfl]) (H57.out W) fun e w' h=>?_
     obtain ⟨rfl,rfl⟩:=h;exact ⟨_,rfl,hK _ hw⟩
    | _ + 8,_,hv=>cases hv
   intro W hw;simp only [List.drop_succ_cons,List.drop_zero,List.zip_cons_cons,List.zip_nil_right,putAll];simp only [Act.put,List.setIfInBounds_toArray,List.set];cases bb
   ·have HCL2:Hid (∀ j,(h:j < l.length) -> j < k + 1 -> Cl l[j] N = true):=Lib.hid fun j h h'=>by
     by_cases e:j = k
     ·subst e;rw [HYK.out];unfold Cl;simpa using HBB.out
     ·exact HCL.out j h (by omega)
    go_wp2_with fail
    exact ⟨⟨k + 1,by go_num,by omega,HY.out.trans hw,HCL2⟩,by simp [intOf];omega⟩
   ·go_wp2_with fail
    go_ret;refine ⟨ret_int ?_,H0.out.trans (HY.out.trans hw)⟩;unfold listedE;rw [if_neg];rw [all_not hkl (by rw [HYK.out];unfold Cl;simpa using HBB.out)];decide
  ·have t1:decide (k < l.length) = false:=by simpa using hkl
   have HAL:Hid (l.all (fun n=>Cl n N) = true):=Lib.hid (all_upto fun j h h'=>HCL.out j h (by omega));obtain ⟨W1,rfl⟩:∃ W1,W1 = wr:=⟨_,rfl⟩
   replace HA:=Lib.hid (HA.out.aft HY.out)
   replace H0:=Lib.hid (H0.out.trans HY.out)
   clear HCL HY hkl HB;go_upto_block 2 with fail
   refine wp_block ?_;go_loopw [6] (fun i wr=>∃ k:Nat,1 <= k /\ i = .int .i64 k /\ (k <= l.length \/ k = 1) /\ Aft W1 wr /\ Hid (∀ j,j + 1 < k -> (h:j + 1 < l.length) -> l[j] < l[j+1])) (fun i _=>l.length - (intOf i).toNat)
   case atStart=>exact ⟨1,by omega,rfl,by omega,Aft.refl _,Lib.hid fun j h=>by omega⟩
   case round =>
    obtain ⟨k,hk1,rfl,hk,hy,HLT⟩:=hrel;have HY:=Lib.hid hy;clear hy;by_cases hkl:k < l.length
    ·have t2:decide (k < l.length) = true:=by simpa using hkl
     have ik:(0:Int) <= (k:Int) /\ (k:Int) < (l.length:Int):=by omega
     have ik2:(0:Int) <= ((k - 1:Nat):Int) /\ ((k - 1:Nat):Int) < (l.length:Int):=by omega
     have e2:IntKind.i64.wrap ((k:Int) - 1) = ((k - 1:Nat):Int):=by rw [IntWalk.i64_in _ (by omega)];omega
     obtain ⟨b,o,rfl,hb,hc⟩:=(HA.out.aft HY.out).at hkl;obtain ⟨y,hyk⟩:∃ y,l[k] = y:=⟨_,rfl⟩;obtain ⟨z,hzk⟩:∃ z,l[k-1] = z:=⟨_,rfl⟩;have HYK:=Lib.hid hyk;have HZK:=Lib.hid hzk;have x0:=hc k hkl;have x1:=hc (k - 1) (by omega);rw [hyk] at x0;rw [hzk] at x1;have HX:Hid (∀ W,Aft wr W -> W.cell? ⟨b,o + k,none⟩ = some (.int .i64 y)):=Lib.hid fun W h=>cellA x0 hb h
     have HX1:Hid (∀ W,Aft wr W -> W.cell? ⟨b,o + (k - 1),none⟩ = some (.int .i64 z)):=Lib.hid fun W h=>cellA x1 hb h
     clear hc hyk x0 x1 hzk;go_upto_region 9 with fail
     obtain ⟨bb,hbb⟩:∃ bb,decide (y <= z) = bb:=⟨_,rfl⟩;refine wp_region_valsG (by kernel_rfl) 37 rfl (by kernel_rfl) (by kernel_rfl) [.slice (some ⟨b,o,none⟩) l.length c,.int .i64 k,.pointer (some ⟨b,o + k,none⟩),.int .i64 y,.slice (some ⟨b,o,none⟩) l.length c,.int .i64 k,.int .i64 ((k - 1:Nat):Int),.pointer (some ⟨b,o + (k - 1),none⟩),.int .i64 z,.bool bb] rfl (fun W=>Aft wr W) (Aft.drew _) ?st2 ?fi2
     case st2 =>
      intro i o v ho hv
      match i,ho,hv with
      | 0,ho,hv =>
       cases ho;cases hv;refine .inl ⟨rfl,fun a W hk hw K hK=>?_⟩;have e1:=hk.s 1;exact op_val (by simp [go_sem,ev' e1]) (hK _ hw)
      | 1,ho,hv =>
       cases ho;cases hv;refine .inl ⟨rfl,fun a W hk hw K hK=>?_⟩;have e6:=hk.s 6;exact op_val (by simp [go_sem,ev' e6]) (hK _ hw)
      | 2,ho,hv =>
       cases ho;cases hv;refine .inl ⟨rfl,fun a W hk hw K hK=>?_⟩;have e27:=hk.t 0;have e28:=hk.t 1;exact op_val (by simp [go_sem,ev' e27,ev' e28,ik]) (hK _ hw)
      | 3,ho,hv =>
       cases ho;cases hv;refine .inl ⟨rfl,fun a W hk hw K hK=>?_⟩;have e29:=hk.t 2;exact op_val (by simp [go_sem,ev' e29,HX.out W hw]) (hK _ hw)
      | 4,ho,hv =>
       cases ho;cases hv;refine .inl ⟨rfl,fun a W hk hw K hK=>?_⟩;have e1:=hk.s 1;exact op_val (by simp [go_sem,ev' e1]) (hK _ hw)
      | 5,ho,hv =>
       cases ho;cases hv;refine .inl ⟨rfl,fun a W hk hw K hK=>?_⟩;have e6:=hk.s 6;exact op_val (by simp [go_sem,ev' e6]) (hK _ hw)
      | 6,ho,hv =>
       cases ho;cases hv;refine .inl ⟨rfl,fun a W hk hw K hK=>?_⟩;have e32:=hk.t 5;exact op_val (by simp [go_sem,ev' e32,e2]) (hK _ hw)
      | 7,ho,hv =>
       cases ho;cases hv;refine .inl ⟨rfl,fun a W hk hw K hK=>?_⟩;have e31:=hk.t 4;have e33:=hk.t 6;exact op_val (by simp [go_sem,ev' e31,ev' e33,ik2]) (hK _ hw)
      | 8,ho,hv =>
       cases ho;cases hv;refine .inl ⟨rfl,fun a W hk hw K hK=>?_⟩;have e34:=hk.t 7;exact op_val (by simp [go_sem,ev' e34,HX1.out W hw]) (hK _ hw)
      | 9,ho,hv =>
       cases ho;cases hv;refine .inl ⟨rfl,fun a W hk hw K hK=>?_⟩;have e30:=hk.t 3;have e35:=hk.t 8;exact op_val (by simp [go_sem,ev' e30,ev' e35,hbb]) (hK _ hw)
      | _ + 10,_,hv=>cases hv
     intro W hw;simp only [List.drop_succ_cons,List.drop_zero,List.zip_cons_cons,List.zip_nil_right,putAll];simp only [Act.put,List.setIfInBounds_toArray,List.set];cases bb
     ·have HLT2:Hid (∀ j,j + 1 < k + 1 -> (h:j + 1 < l.length) -> l[j] < l[j+1]):=Lib.hid fun j hj hjl=>by
       by_cases hjk:j + 1 < k
       ·exact HLT.out j hjk hjl
       ·obtain rfl:j = k - 1:=by omega
        have h3:=of_decide_eq_false hbb;have h4:=HYK.out;simp only [Nat.sub_add_cancel hk1];rw [HZK.out,h4];omega
      go_wp2_with fail
      exact ⟨⟨k + 1,by omega,by go_num,by omega,HY.out.trans hw,HLT2⟩,by simp [intOf];omega⟩
     ·go_wp2_with fail
      go_ret;refine ⟨ret_int ?_,H0.out.trans (HY.out.trans hw)⟩;unfold listedE;rw [if_pos HAL.out,if_neg];rw [risesB_false l (k-1) (by omega) (by simp only [Nat.sub_add_cancel hk1];rw [HZK.out,HYK.out];exact of_decide_eq_true hbb)];decide
    ·have t2:decide (k < l.length) = false:=by simpa using hkl
     go_wp2_with fail
     go_ret;refine ⟨ret_int ?_,H0.out.trans HY.out⟩;unfold listedE;rw [if_pos HAL.out,if_pos (risesB_true l fun j hj=>HLT.out j (by omega) hj)]
end Go.Proofs
end
section
/- Walks: the reference's begin 99,heard 100,strikes 104. -/
namespace Go.Proofs
open Go.RowKit
open Court (refL begF noS struckB heard1 rule setF strikeL)
attribute [local go_sem] Oper.semAt_some
def ivs (l:List Int):Array Value:=(l.map (Value.int .i64)).toArray
theorem ivs_set (l:List Int) (i:Nat) (x:Int):(ivs l).setIfInBounds i (.int .i64 x) = ivs (l.set i x):=by
 unfold ivs;rw [List.setIfInBounds_toArray,List.map_set]
theorem ivs_ints {w:World} {g:Nat} {l:List Int} (h:Blk w g 3 (ivs l)) (hl:l.length <= 17592186043904):Ints w (some ⟨g,0,none⟩) l:=Nums.ints h (nums_self l) hl
theorem ivs_cell {w:World} {g:Nat} {l:List Int} (h:Blk w g 3 (ivs l)) {i:Nat} (hi:i < l.length):w.cell? ⟨g,i,none⟩ = some (.int .i64 l[i]):=(h.cell i).trans ((nums_self l).2 i hi)
theorem ivs_size (l:List Int):(ivs l).size = l.length:=by unfold ivs;simp
theorem foundL_set (f:Int -> Nat) {N n:Nat} (h:n < N) (v:Nat):(foundL f N).set n (v:Int) = foundL (setF f n v) N:=by
 apply List.ext_getElem
 ·rw [List.length_set,foundL_len,foundL_len]
 ·intro i h1 h2;rw [List.getElem_set,foundL_get,foundL_get];unfold setF;by_cases e:n = i
  ·subst e;simp
  ·rw [if_neg e,if_neg (by omega)]
theorem ivs_make (w:World) (N:Nat) (hN:N <= 1000):(Instr.makeSlice 33 (.int .i64 N) (.int .i64 N)).run Tryz.prog w = .ok (.slice (some ⟨w.heap.size,0,none⟩) N N) (w.alloc (.cells (ivs (foundL (fun _=>0) N)) 3)):=by
 obtain ⟨ht,⟨i,z,hi,hz,hsize,hby,hzs⟩,hsz⟩:=ty24;have hzz:(Tryz.prog.info? 3).bind (·.zero) = some (.int .i64 0):=by kernel_rfl
 rw [hi] at hzz;have hzz:i.zero = some (.int .i64 0):=hzz;rw [hz] at hzz;cases hzz;have h:=run_makeSlice (P:=Tryz.prog) (w:=w) 33 3 i (.int .i64 0) ht hi hz .i64 .i64 N N (by omega) (Int.le_refl _) (by rw [hsize];simp;omega) (by rw [hby];omega) (by omega);rw [Int.toNat_natCast,hsize,Nat.mul_one] at h
 have e:(Go.madeCells #[.int .i64 0] N) = ivs (foundL (fun _=>0) N):=by
  apply Array.ext_getElem?;intro k;by_cases hk:k < N
  ·unfold ivs foundL;simp [Go.madeCells,hk,Nat.mod_one]
  ·rw [Array.getElem?_eq_none (by simp [Go.madeCells];omega),Array.getElem?_eq_none (by rw [ivs_size,foundL_len];omega)]
 rw [<- e];exact h
def MadeI (L:List Int) (w:World) (e:Ending) (w':World):Prop:=∃ g,e = .returned (.slice (some ⟨g,0,none⟩) L.length L.length) /\ w.heap.size <= g /\ Blk w' g 3 (ivs L) /\ Aft w w'
theorem begF_succ (R:List Int) (k:Nat) (h:k < R.length):begF (refL (R.take (k + 1))) = setF (begF (refL (R.take k))) R[k] 2:=by
 rw [refL_succ R k h]
 funext n
 unfold begF setM setF;by_cases e:n = R[k]
 ·rw [if_pos e,if_pos e];rfl
 ·rw [if_neg e,if_neg e]
set_option maxRecDepth 100000 in
set_option maxHeartbeats 2000000 in
theorem begin_any (N:Nat) (s1 s2:Option Addr) (n1 n2 c1 c2:Nat) (A:Option Addr) (R:List Int) (c:Nat) (w:World) (hN:1 <= N /\ N <= 14) (hA:Ints w A R) (hR:∀ x ∈ R,0 <= x /\ x < N) :
  Calls Tryz.prog 99 #[.agg #[.int .i64 N,.slice s1 n1 c1,.slice s2 n2 c2],.slice A R.length c] w (MadeI (foundL (begF (refL R)) N) w):=by
 have hl:=hA.len;have H0:=Lib.hid (Aft.alloc w (.cells #[.int .i64 N,.slice s1 n1 c1,.slice s2 n2 c2] 31));have HB:=Lib.hid (Blk.new w 31 #[.int .i64 N,.slice s1 n1 c1,.slice s2 n2 c2]);have HA:=Lib.hid (hA.aft H0.out);have hmk:=ivs_make (w.alloc (.cells #[.int .i64 N,.slice s1 n1 c1,.slice s2 n2 c2] 31)) N (by omega);clear hA;obtain ⟨bC,hbC⟩:∃ bC,w.heap.size = bC:=⟨_,rfl⟩;rw [hbC] at HB;have HBC:=Lib.hid hbC;have hw0:w.heap.size <= (w.alloc (.cells #[.int .i64 N,.slice s1 n1 c1,.slice s2 n2 c2] 31)).heap.size:=H0.out.size;rw [hbC] at hw0;clear hbC;obtain ⟨k0,k1,k2⟩:=box31 HB.out;have k3:=HB.out.lt;unfold MadeI;rw [foundL_len];go_enter Tryz.func99,Tryz.ntmps99;go_upto_region 1 with fail
 rw [HBC.out];generalize w.alloc (.cells #[.int .i64 N,.slice s1 n1 c1,.slice s2 n2 c2] 31) = W0 at *;go_upto_block 0 with fail
 have HB2:=Lib.hid (Blk.new W0 3 (ivs (foundL (fun _=>0) N)));have HA1:=Lib.hid (Aft.alloc W0 (.cells (ivs (foundL (fun _=>0) N)) 3));obtain ⟨g,hg⟩:∃ g,W0.heap.size = g:=⟨_,rfl⟩;rw [hg] at HB2 hw0 ⊢;have HG:=Lib.hid hg;clear hmk hg k0 k1 k2 k3 HB;generalize W0.alloc (.cells (ivs (foundL (fun _=>0) N)) 3) = W1 at *;refine wp_block ?_;go_loopw [6] (fun i wr=>∃ k:Nat,i = .int .i64 k /\ k <= R.length /\ Aft W0 wr /\ Blk wr g 3 (ivs (foundL (begF (refL (R.take k))) N))) (fun i _=>R.length - (intOf i).toNat)
 case atStart =>
  refine ⟨0,rfl,by omega,HA1.out,?_⟩;have:begF (refL (R.take 0)) = fun _=>0:=by funext n;simp [begF,refL]
  rw [this];exact HB2.out
 case round =>
  obtain ⟨k,rfl,hk,hy,hbk⟩:=hrel;have HY:=Lib.hid hy;have HK:=Lib.hid hbk;clear hy hbk;by_cases hkl:k < R.length
  ·have t1:decide (k < R.length) = true:=by simpa using hkl
   have ik:(0:Int) <= (k:Int) /\ (k:Int) < (R.length:Int):=by omega
   obtain ⟨b,o,rfl,hb,hc⟩:=(HA.out.aft HY.out).at hkl;have x0:=hc k hkl;have hx:=hR R[k] (List.getElem_mem hkl);have HSU:=Lib.hid (begF_succ R k hkl);obtain ⟨x,hxe⟩:=Int.eq_ofNat_of_zero_le hx.1;rw [hxe] at x0 hx HSU;have hxN:x < N:=by omega
   have ix:(0:Int) <= (x:Int) /\ (x:Int) < (N:Int):=by omega
   have y0:=ivs_cell HK.out (i:=x) (by rw [foundL_len];exact hxN);have y1:=HK.out.frozen x;have y2:=HK.out.lt;clear hc hxe hx;generalize hvv:(foundL (begF (refL (R.take k))) N)[x]'(by rw [foundL_len];exact hxN) = vv at y0;clear hvv;go_wp2_with fail
   have hs:wr.grownBy (wr.setCell ⟨g,x,none⟩ (.int .i64 2)) (some g):=only_setCell (only_refl wr (some g)) (p:=⟨g,x,none⟩) (.inl rfl) _;refine ⟨⟨k + 1,by go_num,by omega,HY.out.grown hs (fun j e=>by cases e;exact Nat.le_of_eq HG.out),?_⟩,by simp [intOf];omega⟩;have:=HK.out.store x (.int .i64 2);rw [ivs_set,show ((2:Int)) = ((2:Nat):Int) from rfl,foundL_set _ hxN,<- HSU.out] at this;exact this
  ·have t1:decide (k < R.length) = false:=by simpa using hkl
   have HK2:Hid (Blk wr g 3 (ivs (foundL (begF (refL R)) N))):=Lib.hid (by
    have:=HK.out
    rwa [List.take_of_length_le (by omega)] at this)
   clear HK;go_wp2_with fail
   go_ret;exact ⟨g,rfl,by rw [HBC.out];exact hw0,HK2.out,H0.out.trans HY.out⟩
set_option maxRecDepth 100000 in
set_option maxHeartbeats 4000000 in
theorem heardR_any (C:CaseL) (a1 a2:Option Addr) (c1 c2:Nat) (N:Nat) (f:Int -> Nat) (A:Option Addr) (c:Nat) (n:Nat) (w:World) (hC:CRep w C a1 a2) (hN:N <= 14) (hin:∀ s ∈ C.strikes,0 <= s.1 /\ s.1 < N) (hA:Ints w A (foundL f N)) (hn:n < N) :
  Calls Tryz.prog 100 #[(.agg #[.int .i64 C.claims,.slice a1 C.strikes.length c1,.slice a2 C.surveys.length c2]),.slice A N c,.int .i64 n] w fun e w'=>e = .returned (.int .i64 (heard1 C.strikes noS f n:Nat)) /\ Aft w w':=by
 have hl:=hC.strikes.len;have H0:=Lib.hid (Aft.alloc w (.cells #[.int .i64 C.claims,.slice a1 C.strikes.length c1,.slice a2 C.surveys.length c2] 31));have HB:=Lib.hid (Blk.new w 31 #[.int .i64 C.claims,.slice a1 C.strikes.length c1,.slice a2 C.surveys.length c2]);have HA:=Lib.hid (hA.aft H0.out);have HS:=Lib.hid (hC.strikes.aft H0.out);clear hA hC;have iN:(0:Int) <= (n:Int) /\ (n:Int) < (N:Int):=by omega
 obtain ⟨bC,hbC⟩:∃ bC,w.heap.size = bC:=⟨_,rfl⟩;rw [hbC] at HB;have HBC:=Lib.hid hbC;obtain ⟨hv,hhv⟩:∃ hv,heard1 C.strikes noS f n = hv:=⟨_,rfl⟩;have HHV:=Lib.hid hhv;rw [hhv];clear hbC hhv;obtain ⟨bA,oA,rfl,hltA,-⟩:=HA.out.at (k:=0) (by rw [foundL_len];omega)
 have HC:Hid (∀ W,Aft (w.alloc (.cells #[.int .i64 C.claims,.slice a1 C.strikes.length c1,.slice a2 C.surveys.length c2] 31)) W -> ∀ i:Nat,i < N -> W.cell? ⟨bA,oA + i,none⟩ = some (.int .i64 ((f i:Nat):Int))):=Lib.hid fun W h i hi=>by
  obtain ⟨b',o',e',_,hc'⟩:=(HA.out.aft h).at (show i < (foundL f N).length by rw [foundL_len];exact hi);cases e';have:=hc' i (by rw [foundL_len];exact hi);rw [foundL_get] at this;exact this
 obtain ⟨fn,hfn⟩:∃ fn,f n = fn:=⟨_,rfl⟩;have x0:=HC.out _ (Aft.refl _) n hn;rw [hfn] at x0;have HFN:=Lib.hid hfn;clear hfn HA;go_enter Tryz.func100,Tryz.ntmps100;go_upto_region 1 with fail
 rw [HBC.out];generalize w.alloc (.cells #[.int .i64 C.claims,.slice a1 C.strikes.length c1,.slice a2 C.surveys.length c2] 31) = W0 at *;by_cases hf0:fn = 0
 ·have t0:((fn:Int) != 0) = false:=by simp;omega
  have HHR:Hid (hv = rule C.strikes noS f n):=Lib.hid (by
   have:=HHV.out;unfold heard1 at this;rw [if_pos (by rw [HFN.out];exact hf0)] at this;exact this.symm)
  go_upto_block 0 with fail
  clear x0 hf0 t0;refine wp_block ?_;go_loopw [7,8] (fun o i wr=>∃ (k:Nat) (ov:Int),i = .int .i64 k /\ o = .int .i64 ov /\ k <= C.strikes.length /\ Aft W0 wr /\ Hid (ov = if struckB (C.strikes.take k) noS f n 0 then 0 else 1) /\ Hid (struckB (C.strikes.take k) noS f n 1 = false)) (fun _ i _=>C.strikes.length - (intOf i).toNat)
  case atStart=>exact ⟨0,1,rfl,rfl,by omega,Aft.refl _,Lib.hid (by simp [struckB]),Lib.hid (by simp [struckB])⟩
  case round =>
   obtain ⟨k,ov,rfl,rfl,hk,hy,HOV,HNO⟩:=hrel;have HY:=Lib.hid hy;clear hy;obtain ⟨k0,k1,k2⟩:=box31 (HB.out.aft HY.out);have k3:=(HB.out.aft HY.out).lt;by_cases hkl:k < C.strikes.length
   ·have t1:decide (k < C.strikes.length) = true:=by simpa using hkl
    have ik:(0:Int) <= (k:Int) /\ (k:Int) < (C.strikes.length:Int):=by omega
    obtain ⟨bs,os,hbs,hlts,hcs⟩:=(HS.out.aft HY.out).at hkl;subst hbs;obtain ⟨x1,x2⟩:=hcs k hkl;have hin1:=hin _ (List.getElem_mem hkl);have HS0:Hid (struckB (C.strikes.take (k + 1)) noS f n 0 = (struckB (C.strikes.take k) noS f n 0 || (decide (C.strikes[k].2 = n) && !noS n && decide (f C.strikes[k].1 = 0)))):=Lib.hid (any_take_succ C.strikes _ k hkl);have HS1:Hid (struckB (C.strikes.take (k + 1)) noS f n 1 = (struckB (C.strikes.take k) noS f n 1 || (decide (C.strikes[k].2 = n) && !noS n && decide (f C.strikes[k].1 = 1)))):=Lib.hid (any_take_succ C.strikes _ k hkl);have HIN:Hid (∀ v,(decide (C.strikes[k].2 = n) && !noS n && decide (f C.strikes[k].1 = v)) = true -> struckB C.strikes noS f n v = true):=Lib.hid fun v h=>List.any_eq_true.2 ⟨_,List.getElem_mem hkl,h⟩
    obtain ⟨⟨y,z⟩,hyz⟩:∃ s,C.strikes[k] = s:=⟨_,rfl⟩;rw [hyz] at x1 x2 hin1 HS0 HS1 HIN;dsimp only at x1 x2 hin1 HS0 HS1 HIN;obtain ⟨Y,rfl⟩:=Int.eq_ofNat_of_zero_le hin1.1;have hYN:Y < N:=by omega
    have iY:(0:Int) <= (Y:Int) /\ (Y:Int) < (N:Int):=by omega
    have x3:=HC.out wr HY.out Y hYN;obtain ⟨fv,hfv⟩:∃ fv,f Y = fv:=⟨_,rfl⟩;rw [hfv] at x3 HS0 HS1 HIN;have hns:noS (n:Int) = false:=rfl;rw [hns] at HS0 HS1 HIN;simp only [Bool.not_false,Bool.and_true] at HS0 HS1 HIN;clear hcs hyz hin1 hfv hns;cases hzn:(z == (n:Int))
    ·have HZ:=Lib.hid (show decide (z = (n:Int)) = false by simpa using hzn);rw [HZ.out,Bool.false_and,Bool.or_false] at HS0 HS1;go_wp2_with fail
     exact ⟨⟨k + 1,ov,by go_num,rfl,by omega,HY.out,Lib.hid (by rw [HS0.out];exact HOV.out),Lib.hid (by rw [HS1.out];exact HNO.out)⟩,by simp [intOf];omega⟩
    ·have HZ:=Lib.hid (show decide (z = (n:Int)) = true by simpa using hzn);rw [HZ.out,Bool.true_and] at HS0 HS1;rw [HZ.out] at HIN;simp only [Bool.true_and] at HIN;by_cases hf1:fv = 1
     ·have q1:((fv:Int) == 1) = true:=by simp;omega
      go_wp2_with fail
      go_ret;refine ⟨ret_int ?_,H0.out.trans HY.out⟩;have h:=HIN.out 1 (by simpa using hf1);rw [HHR.out,Court.rule_two.2 h];rfl
     ·have q1:((fv:Int) == 1) = false:=by simp;omega
      have d1:decide (fv = 1) = false:=by simpa using hf1
      rw [d1,Bool.or_false] at HS1;by_cases hf0:fv = 0
      ·have q0:((fv:Int) == 0) = true:=by simp;omega
       have d0:decide (fv = 0) = true:=by simpa using hf0
       rw [d0,Bool.or_true] at HS0;go_wp2_with fail
       exact ⟨⟨k + 1,0,by go_num,rfl,by omega,HY.out,Lib.hid (by rw [HS0.out];rfl),Lib.hid (by rw [HS1.out];exact HNO.out)⟩,by simp [intOf];omega⟩
      ·have q0:((fv:Int) == 0) = false:=by simp;omega
       have d0:decide (fv = 0) = false:=by simpa using hf0
       rw [d0,Bool.or_false] at HS0;go_wp2_with fail
       exact ⟨⟨k + 1,ov,by go_num,rfl,by omega,HY.out,Lib.hid (by rw [HS0.out];exact HOV.out),Lib.hid (by rw [HS1.out];exact HNO.out)⟩,by simp [intOf];omega⟩
   ·have t1:decide (k < C.strikes.length) = false:=by simpa using hkl
    have HOVE:Hid (ov = (hv:Int)):=Lib.hid (by
     have h0:=HOV.out;have h1:=HNO.out;rw [List.take_of_length_le (by omega)] at h0 h1;rw [h0,HHR.out];unfold rule;rw [h1];cases struckB C.strikes noS f n 0 <;> rfl)
    clear HOV HNO;go_wp2_with fail
    go_ret;exact ⟨ret_int HOVE.out,H0.out.trans HY.out⟩
 ·have t0:((fn:Int) != 0) = true:=by simp;omega
  have HHR:Hid (hv = fn):=Lib.hid (by
   have:=HHV.out;unfold heard1 at this;rw [if_neg (by rw [HFN.out];exact hf0),HFN.out] at this;exact this.symm)
  go_wp2_with fail
  go_ret;exact ⟨ret_int (by rw [HHR.out]),H0.out⟩
set_option maxRecDepth 100000 in
set_option maxHeartbeats 4000000 in
theorem strikesR_any (C:CaseL) (a1 a2:Option Addr) (c1 c2:Nat) (l:List Int) (A:Option Addr) (c:Nat) (n:Int) (w:World) (hC:CRep w C a1 a2) (hA:Ints w A l) :
  Calls Tryz.prog 104 #[(.agg #[.int .i64 C.claims,.slice a1 C.strikes.length c1,.slice a2 C.surveys.length c2]),.slice A l.length c,.int .i64 n] w fun e w'=>e = .returned (.bool (strikeL C.strikes (refL l) n)) /\ Aft w w':=by
 have hl:=hC.strikes.len;have hll:=hA.len;have H0:=Lib.hid (Aft.alloc w (.cells #[.int .i64 C.claims,.slice a1 C.strikes.length c1,.slice a2 C.surveys.length c2] 31));have HB:=Lib.hid (Blk.new w 31 #[.int .i64 C.claims,.slice a1 C.strikes.length c1,.slice a2 C.surveys.length c2]);have HA:=Lib.hid (hA.aft H0.out);have HS:=Lib.hid (hC.strikes.aft H0.out);clear hA hC;obtain ⟨bC,hbC⟩:∃ bC,w.heap.size = bC:=⟨_,rfl⟩;rw [hbC] at HB;have HBC:=Lib.hid hbC;obtain ⟨hv,hhv⟩:∃ hv,strikeL C.strikes (refL l) n = hv:=⟨_,rfl⟩;have HHV:=Lib.hid hhv;rw [hhv];clear hbC hhv;go_enter Tryz.func104,Tryz.ntmps104;go_upto_block 0 with fail
 rw [HBC.out];generalize w.alloc (.cells #[.int .i64 C.claims,.slice a1 C.strikes.length c1,.slice a2 C.surveys.length c2] 31) = W0 at *;refine wp_block ?_;go_loopw [7] (fun i wr=>∃ k:Nat,i = .int .i64 k /\ k <= C.strikes.length /\ Aft W0 wr /\ Hid (strikeL (C.strikes.take k) (refL l) n = false)) (fun i _=>C.strikes.length - (intOf i).toNat)
 case atStart=>exact ⟨0,rfl,by omega,Aft.refl _,Lib.hid (by simp [strikeL])⟩
 case round =>
  obtain ⟨k,rfl,hk,hy,HNO⟩:=hrel;have HY:=Lib.hid hy;clear hy;obtain ⟨k0,k1,k2⟩:=box31 (HB.out.aft HY.out);have k3:=(HB.out.aft HY.out).lt;by_cases hkl:k < C.strikes.length
  ·have t1:decide (k < C.strikes.length) = true:=by simpa using hkl
   have ik:(0:Int) <= (k:Int) /\ (k:Int) < (C.strikes.length:Int):=by omega
   obtain ⟨bs,os,hbs,hlts,hcs⟩:=(HS.out.aft HY.out).at hkl;subst hbs;obtain ⟨x1,x2⟩:=hcs k hkl;have HS1:Hid (strikeL (C.strikes.take (k + 1)) (refL l) n = (strikeL (C.strikes.take k) (refL l) n || (decide (C.strikes[k].2 = n) && refL l C.strikes[k].1))):=Lib.hid (any_take_succ C.strikes _ k hkl);have HIN:Hid ((decide (C.strikes[k].2 = n) && refL l C.strikes[k].1) = true -> strikeL C.strikes (refL l) n = true):=Lib.hid fun h=>List.any_eq_true.2 ⟨_,List.getElem_mem hkl,h⟩
   obtain ⟨⟨y,z⟩,hyz⟩:∃ s,C.strikes[k] = s:=⟨_,rfl⟩;rw [hyz] at x1 x2 HS1 HIN;dsimp only at x1 x2 HS1 HIN;obtain ⟨bh,hbh⟩:∃ bh,refL l y = bh:=⟨_,rfl⟩;have H64:Hid (Calls Tryz.prog 64 #[.slice A l.length c,.int .i64 y] wr fun e w'=>e = .returned (.bool bh) /\ wr = w'):=Lib.hid (by rw [<- hbh];exact hasR_any A l c y wr (HA.out.aft HY.out));rw [hbh] at HS1 HIN;clear hcs hyz hbh;cases hzn:(z == n)
   ·have HZ:=Lib.hid (show decide (z = n) = false by simpa using hzn);rw [HZ.out,Bool.false_and,Bool.or_false] at HS1;go_wp2_with fail
    exact ⟨⟨k + 1,by go_num,by omega,HY.out,Lib.hid (by rw [HS1.out];exact HNO.out)⟩,by simp [intOf];omega⟩
   ·have HZ:=Lib.hid (show decide (z = n) = true by simpa using hzn);rw [HZ.out,Bool.true_and] at HS1 HIN;cases bh
    ·rw [Bool.or_false] at HS1;go_wp2_with (go_at_call 64;refine H64.out.mono ?_;rintro e w4 ⟨rfl,rfl⟩)
     exact ⟨⟨k + 1,by go_num,by omega,HY.out,Lib.hid (by rw [HS1.out];exact HNO.out)⟩,by simp [intOf];omega⟩
    ·go_wp2_with (go_at_call 64;refine H64.out.mono ?_;rintro e w4 ⟨rfl,rfl⟩)
     go_ret;exact ⟨ret_bool (by rw [<- HHV.out,HIN.out trivial]),H0.out.trans HY.out⟩
  ·have t1:decide (k < C.strikes.length) = false:=by simpa using hkl
   have HF:Hid (hv = false):=Lib.hid (by
    have:=HNO.out;rw [List.take_of_length_le (by omega)] at this;rw [<- HHV.out,this])
   clear HNO;go_wp2_with fail
   go_ret;exact ⟨ret_bool HF.out.symm,H0.out.trans HY.out⟩
end Go.Proofs
end
