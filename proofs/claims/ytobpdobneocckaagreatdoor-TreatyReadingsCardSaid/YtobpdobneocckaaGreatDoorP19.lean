/- Own texts, merged: Req Rev Rve. -/
import Derived.Test.YtobpdobneocckaaGreatDoorP17
import Derived.Test.YtobpdobneocckaaGreatDoorP18
section
/- Walks: equal of two treaties of the same contents. -/
namespace Go.Proofs
open Go.RowKit
attribute [local go_sem] Oper.semAt_some
theorem eqB_self {α:Type} [DecidableEq α] (l:List α):eqB l l = true:=decide_eq_true rfl
set_option maxRecDepth 100000 in
set_option maxHeartbeats 8000000 in
theorem equal_same (w:World) (T:Treaty) (a1 a2 a3 a4:Option Addr) (c1 c2 c3 c4:Nat) (e1 e2 e3 e4:Option Addr) (f1 f2 f3 f4:Nat) (hT:TRep w T a1 a2 a3 a4) (hU:TRep w T e1 e2 e3 e4) :
  Calls Tryz.prog 19 #[.agg #[.int .i64 T.places,.slice a1 T.ways.length c1,.slice a2 T.words.length c2,.slice a3 T.starts.length c3,.slice a4 T.legs.length c4],.agg #[.int .i64 T.places,.slice e1 T.ways.length f1,.slice e2 T.words.length f2,.slice e3 T.starts.length f3,.slice e4 T.legs.length f4]] w fun e w'=>e = .returned (.bool true) /\ Aft w w':=by
 have hl2:=hT.words.len (by decide);have HT:=Lib.hid hT;have HU:=Lib.hid hU;clear hT hU;go_enter Tryz.func19,Tryz.ntmps19;go_upto_region 1 with fail
 have hA0:Aft w ((w.alloc (.cells #[.int .i64 T.places,.slice a1 T.ways.length c1,.slice a2 T.words.length c2,.slice a3 T.starts.length c3,.slice a4 T.legs.length c4] 27)).alloc (.cells #[.int .i64 T.places,.slice e1 T.ways.length f1,.slice e2 T.words.length f2,.slice e3 T.starts.length f3,.slice e4 T.legs.length f4] 27)):=(Aft.alloc _ _).then_alloc _;have hb1:Blk ((w.alloc (.cells #[.int .i64 T.places,.slice a1 T.ways.length c1,.slice a2 T.words.length c2,.slice a3 T.starts.length c3,.slice a4 T.legs.length c4] 27)).alloc (.cells #[.int .i64 T.places,.slice e1 T.ways.length f1,.slice e2 T.words.length f2,.slice e3 T.starts.length f3,.slice e4 T.legs.length f4] 27)) w.heap.size 27 #[.int .i64 T.places,.slice a1 T.ways.length c1,.slice a2 T.words.length c2,.slice a3 T.starts.length c3,.slice a4 T.legs.length c4]:=(Blk.new _ _ _).alloc _;have hb2:=Blk.new (w.alloc (.cells #[.int .i64 T.places,.slice a1 T.ways.length c1,.slice a2 T.words.length c2,.slice a3 T.starts.length c3,.slice a4 T.legs.length c4] 27)) 27 #[.int .i64 T.places,.slice e1 T.ways.length f1,.slice e2 T.words.length f2,.slice e3 T.starts.length f3,.slice e4 T.legs.length f4];rw [World.size_alloc] at hb2;generalize ((w.alloc (.cells #[.int .i64 T.places,.slice a1 T.ways.length c1,.slice a2 T.words.length c2,.slice a3 T.starts.length c3,.slice a4 T.legs.length c4] 27)).alloc (.cells #[.int .i64 T.places,.slice e1 T.ways.length f1,.slice e2 T.words.length f2,.slice e3 T.starts.length f3,.slice e4 T.legs.length f4] 27)) = X at *;have HB1:=Lib.hid hb1;have HB2:=Lib.hid hb2;have HA:=Lib.hid hA0;have hp:(T.places != T.places) = false:=by simp
 have hX0:=Aft.refl X;clear hb1 hb2 hA0;have hB1:=HB1.out.aft hX0;have hB2:=HB2.out.aft hX0;have k0:X.cell? ⟨w.heap.size,0,none⟩ = some (.int .i64 T.places):=hB1.cell 0;have k1:X.cell? ⟨w.heap.size,1,none⟩ = some (.slice a1 T.ways.length c1):=hB1.cell 1;have k2:X.cell? ⟨w.heap.size,2,none⟩ = some (.slice a2 T.words.length c2):=hB1.cell 2;have k3:X.cell? ⟨w.heap.size,3,none⟩ = some (.slice a3 T.starts.length c3):=hB1.cell 3;have k4:X.cell? ⟨w.heap.size,4,none⟩ = some (.slice a4 T.legs.length c4):=hB1.cell 4;have m0:X.cell? ⟨w.heap.size + 1,0,none⟩ = some (.int .i64 T.places):=hB2.cell 0;have m1:X.cell? ⟨w.heap.size + 1,1,none⟩ = some (.slice e1 T.ways.length f1):=hB2.cell 1;have m2:X.cell? ⟨w.heap.size + 1,2,none⟩ = some (.slice e2 T.words.length f2):=hB2.cell 2;have m3:X.cell? ⟨w.heap.size + 1,3,none⟩ = some (.slice e3 T.starts.length f3):=hB2.cell 3;have m4:X.cell? ⟨w.heap.size + 1,4,none⟩ = some (.slice e4 T.legs.length f4):=hB2.cell 4;clear hB1 hB2;clear hX0;(repeat (first | go_big_skip | go_big_want | go_big_move | go_big_op | go_step | go_upon | go_back));go_at_call 64;refine (equalWays_same _ _ _ _ _ X (HT.out.aft HA.out).ways (HU.out.aft HA.out).ways).mono ?_;rintro e Y ⟨rfl,haY⟩;dsimp only;have HAY:=Lib.hid haY;clear k0 k1 k2 k3 k4 m0 m1 m2 m3 m4;have hB1:=HB1.out.aft haY;have hB2:=HB2.out.aft haY;have k0:Y.cell? ⟨w.heap.size,0,none⟩ = some (.int .i64 T.places):=hB1.cell 0;have k1:Y.cell? ⟨w.heap.size,1,none⟩ = some (.slice a1 T.ways.length c1):=hB1.cell 1;have k2:Y.cell? ⟨w.heap.size,2,none⟩ = some (.slice a2 T.words.length c2):=hB1.cell 2;have k3:Y.cell? ⟨w.heap.size,3,none⟩ = some (.slice a3 T.starts.length c3):=hB1.cell 3;have k4:Y.cell? ⟨w.heap.size,4,none⟩ = some (.slice a4 T.legs.length c4):=hB1.cell 4;have m0:Y.cell? ⟨w.heap.size + 1,0,none⟩ = some (.int .i64 T.places):=hB2.cell 0
 have m1:Y.cell? ⟨w.heap.size + 1,1,none⟩ = some (.slice e1 T.ways.length f1):=hB2.cell 1;have m2:Y.cell? ⟨w.heap.size + 1,2,none⟩ = some (.slice e2 T.words.length f2):=hB2.cell 2;have m3:Y.cell? ⟨w.heap.size + 1,3,none⟩ = some (.slice e3 T.starts.length f3):=hB2.cell 3;have m4:Y.cell? ⟨w.heap.size + 1,4,none⟩ = some (.slice e4 T.legs.length f4):=hB2.cell 4;clear hB1 hB2;clear haY;(repeat (first | go_big_skip | go_big_want | go_big_move | go_big_op | go_step | go_upon | go_back));go_at_call 27;refine (kitEqual_int _ _ _ _ _ _ Y (HT.out.aft (HA.out.trans HAY.out)).starts (HU.out.aft (HA.out.trans HAY.out)).starts).mono ?_;rintro e Z ⟨rfl,haZ⟩;rw [eqB_self];dsimp only;have HAZ:=Lib.hid (HAY.out.trans haZ);clear k0 k1 k2 k3 k4 m0 m1 m2 m3 m4;have hB1:=HB1.out.aft HAZ.out;have hB2:=HB2.out.aft HAZ.out;have k0:Z.cell? ⟨w.heap.size,0,none⟩ = some (.int .i64 T.places):=hB1.cell 0;have k1:Z.cell? ⟨w.heap.size,1,none⟩ = some (.slice a1 T.ways.length c1):=hB1.cell 1;have k2:Z.cell? ⟨w.heap.size,2,none⟩ = some (.slice a2 T.words.length c2):=hB1.cell 2;have k3:Z.cell? ⟨w.heap.size,3,none⟩ = some (.slice a3 T.starts.length c3):=hB1.cell 3;have k4:Z.cell? ⟨w.heap.size,4,none⟩ = some (.slice a4 T.legs.length c4):=hB1.cell 4;have m0:Z.cell? ⟨w.heap.size + 1,0,none⟩ = some (.int .i64 T.places):=hB2.cell 0;have m1:Z.cell? ⟨w.heap.size + 1,1,none⟩ = some (.slice e1 T.ways.length f1):=hB2.cell 1;have m2:Z.cell? ⟨w.heap.size + 1,2,none⟩ = some (.slice e2 T.words.length f2):=hB2.cell 2;have m3:Z.cell? ⟨w.heap.size + 1,3,none⟩ = some (.slice e3 T.starts.length f3):=hB2.cell 3;have m4:Z.cell? ⟨w.heap.size + 1,4,none⟩ = some (.slice e4 T.legs.length f4):=hB2.cell 4;clear hB1 hB2;clear haZ;(repeat (first | go_big_skip | go_big_want | go_big_move | go_big_op | go_step | go_upon | go_back));go_at_call 65
 refine (equalLegs_same _ _ _ _ _ Z (HT.out.aft (HA.out.trans HAZ.out)).legs (HU.out.aft (HA.out.trans HAZ.out)).legs).mono ?_;rintro e V ⟨rfl,haV⟩;dsimp only;have HAV:=Lib.hid (HAZ.out.trans haV);have hq:((T.words.length:Int) != (T.words.length:Int)) = false:=by simp
 clear k0 k1 k2 k3 k4 m0 m1 m2 m3 m4;clear haV;have hB1:=HB1.out.aft HAV.out;have hB2:=HB2.out.aft HAV.out;have k2:V.cell? ⟨w.heap.size,2,none⟩ = some (.slice a2 T.words.length c2):=hB1.cell 2;have m2:V.cell? ⟨w.heap.size + 1,2,none⟩ = some (.slice e2 T.words.length f2):=hB2.cell 2;clear hB1 hB2;(repeat (first | go_big_skip | go_big_want | go_big_move | go_big_op | go_step | go_upon | go_back));clear k2 m2;go_loopw [48] (fun i wr=>∃ k:Nat,i = .int .i64 k /\ k <= T.words.length /\ Aft X wr) (fun i _=>T.words.length - (intOf i).toNat)
 case atStart=>exact ⟨0,rfl,by omega,HAV.out⟩
 case round =>
  obtain ⟨k,rfl,hk,ha⟩:=hrel;have HAX:=Lib.hid ha;have hB1:=HB1.out.aft ha;have hB2:=HB2.out.aft ha;have k2:wr.cell? ⟨w.heap.size,2,none⟩ = some (.slice a2 T.words.length c2):=hB1.cell 2;have m2:wr.cell? ⟨w.heap.size + 1,2,none⟩ = some (.slice e2 T.words.length f2):=hB2.cell 2;clear hB1 hB2;clear ha;by_cases hkn:k < T.words.length
  ·have hdec:decide (k < T.words.length) = true:=decide_eq_true hkn;obtain ⟨b2,o2,Am,cm,rfl,cW,hms⟩:=word_cell (HT.out.aft (HA.out.trans HAX.out)).words hkn;obtain ⟨p2,q2,Bm,cn,rfl,dW,hns⟩:=word_cell (HU.out.aft (HA.out.trans HAX.out)).words hkn;have hml:=hms.len (by decide);have CW:=Lib.hid cW;have DW:=Lib.hid dW;have HMS:=Lib.hid hms;have HNS:=Lib.hid hns;have i1:(0:Int) <= (k:Int) /\ (k:Int) < (T.words.length:Int):=by omega
   have hq2:((T.words[k].length:Int) != (T.words[k].length:Int)) = false:=by simp
   clear hms hns;generalize T.words[k] = ws at *;(repeat (first | go_big_skip | go_big_want | go_big_move | go_big_op | go_step | go_upon | go_back));go_quiet (fail);generalize hu:wr.drewN _ = u at *;have hAu:Aft wr u:=by rw [<- hu];exact Aft.drewN _ _
   have HAU:=Lib.hid (HAX.out.trans hAu);have cW:=cells_aft hAu CW.out;have dW:=cells_aft hAu DW.out;have HMU:=Lib.hid (HMS.out.aft MeanR.mono hAu);have HNU:=Lib.hid (HNS.out.aft MeanR.mono hAu);have CWU:=Lib.hid cW;have DWU:=Lib.hid dW;clear hu hAu k2 m2 hq2;have hB1:=HB1.out.aft HAU.out;have hB2:=HB2.out.aft HAU.out;have k2:u.cell? ⟨w.heap.size,2,none⟩ = some (.slice (some ⟨b2,o2,none⟩) T.words.length c2):=hB1.cell 2;have m2:u.cell? ⟨w.heap.size + 1,2,none⟩ = some (.slice (some ⟨p2,q2,none⟩) T.words.length f2):=hB2.cell 2;clear hB1 hB2;(repeat (first | go_big_skip | go_big_want | go_big_move | go_big_op | go_step | go_upon | go_back));clear k2 m2 cW dW;go_loopw [70] (fun i wr=>∃ m:Nat,i = .int .i64 m /\ m <= ws.length /\ Aft u wr) (fun i _=>ws.length - (intOf i).toNat)
   case atStart=>exact ⟨0,rfl,by omega,Aft.refl _⟩
   case round =>
    rename World=>w6
    obtain ⟨m,rfl,hm,ha6⟩:=hrel;have HA6:=Lib.hid ha6;clear ha6;by_cases hml:m < ws.length
    ·have hdm:decide (m < ws.length) = true:=decide_eq_true hml;obtain ⟨bm,om,rfl,hbm,hcm⟩:=HMU.out.at hml;obtain ⟨vs,-,⟨Ak,ck,Ae,ce,rfl,hik,hie⟩,hv2⟩:=hcm m hml;obtain ⟨pm,qm,rfl,hpm,hcm'⟩:=HNU.out.at hml;obtain ⟨vs,-,⟨Bk,dk,Be,de,rfl,hik',hie'⟩,hv2'⟩:=hcm' m hml;have CK1:=Lib.hid (show w6.cell? ⟨bm,om + m * 2,none⟩ = some (.slice Ak ws[m].kinds.length ck) from cells_aft HA6.out (by have:=hv2 0 (by simp);simpa using this));have CE1:=Lib.hid (show w6.cell? ⟨bm,om + m * 2 + 1,none⟩ = some (.slice Ae ws[m].ends.length ce) from cells_aft HA6.out (by have:=hv2 1 (by simp);simpa using this));have CK2:=Lib.hid (show w6.cell? ⟨pm,qm + m * 2,none⟩ = some (.slice Bk ws[m].kinds.length dk) from cells_aft HA6.out (by have:=hv2' 0 (by simp);simpa using this));have CE2:=Lib.hid (show w6.cell? ⟨pm,qm + m * 2 + 1,none⟩ = some (.slice Be ws[m].ends.length de) from cells_aft HA6.out (by have:=hv2' 1 (by simp);simpa using this));have CW1:=Lib.hid (cells_aft HA6.out CWU.out);have CW2:=Lib.hid (cells_aft HA6.out DWU.out);have HK1:=Lib.hid (hik.aft HA6.out);have HE1:=Lib.hid (hie.aft HA6.out);have HK2:=Lib.hid (hik'.aft HA6.out);have HE2:=Lib.hid (hie'.aft HA6.out);have hB1:=HB1.out.aft (HAU.out.trans HA6.out);have hB2:=HB2.out.aft (HAU.out.trans HA6.out);have C1:Hid (w6.cell? ⟨w.heap.size,2,none⟩ = some (.slice (some ⟨b2,o2,none⟩) T.words.length c2)):=Lib.hid (hB1.cell 2);have C2:Hid (w6.cell? ⟨w.heap.size + 1,2,none⟩ = some (.slice (some ⟨p2,q2,none⟩) T.words.length f2)):=Lib.hid (hB2.cell 2);have i2:(0:Int) <= (m:Int) /\ (m:Int) < (ws.length:Int):=by omega
     clear hcm hv2 hcm' hv2' hik hie hik' hie' hB1 hB2;generalize ws[m].kinds = kk at *;generalize ws[m].ends = ee at *;(repeat (first | go_big_skip | go_big_want | go_big_move | go_big_op | go_step | go_upon | go_back));have hmx:Tryz.prog.follows .mixedOrders = true:=by kernel_rfl
     refine wp_region_valsG hmx 117 rfl (by kernel_rfl) (by kernel_rfl) [.pointer (some ⟨w.heap.size,2,none⟩),.slice (some ⟨b2,o2,none⟩) T.words.length c2,.int .i64 k,.pointer (some ⟨b2,o2 + k,none⟩),.slice (some ⟨bm,om,none⟩) ws.length cm,.int .i64 m,.pointer (some ⟨bm,om + m * 2,none⟩),.pointer (some ⟨bm,om + m * 2,none⟩),.slice Ak kk.length ck,.pointer (some ⟨w.heap.size + 1,2,none⟩),.slice (some ⟨p2,q2,none⟩) T.words.length f2,.int .i64 k,.pointer (some ⟨p2,q2 + k,none⟩),.slice (some ⟨pm,qm,none⟩) ws.length cn,.int .i64 m,.pointer (some ⟨pm,qm + m * 2,none⟩),.pointer (some ⟨pm,qm + m * 2,none⟩),.slice Bk kk.length dk,.bool true,.bool false,.bool false,.pointer (some ⟨w.heap.size,2,none⟩),.slice (some ⟨b2,o2,none⟩) T.words.length c2,.int .i64 k,.pointer (some ⟨b2,o2 + k,none⟩),.slice (some ⟨bm,om,none⟩) ws.length cm,.int .i64 m,.pointer (some ⟨bm,om + m * 2,none⟩),.pointer (some ⟨bm,om + m * 2 + 1,none⟩),.slice Ae ee.length ce,.pointer (some ⟨w.heap.size + 1,2,none⟩),.slice (some ⟨p2,q2,none⟩) T.words.length f2,.int .i64 k,.pointer (some ⟨p2,q2 + k,none⟩),.slice (some ⟨pm,qm,none⟩) ws.length cn,.int .i64 m,.pointer (some ⟨pm,qm + m * 2,none⟩),.pointer (some ⟨pm,qm + m * 2 + 1,none⟩),.slice Be ee.length de,.bool true,.bool false,.bool false] rfl (fun X=>Aft w6 X) (Aft.drew _) ?step ?fin
     case step =>
      intro i' o' v ho hv
      match i',ho,hv with
      | 0,ho,hv =>
       cases ho;cases hv;refine .inl ⟨rfl,fun a X hk hX K hK=>?_⟩;have e_2:a.eval (.tmp 2) = .pointer (some ⟨w.heap.size,0,none⟩):=(hk.same 2 (by decide)).trans rfl;exact op_val (by simp [go_sem,ev' e_2]) (hK _ hX)
      | 1,ho,hv =>
       cases ho;cases hv;refine .inl ⟨rfl,fun a X hk hX K hK=>?_⟩;have e_73:a.eval (.tmp 73) = .pointer (some ⟨w.heap.size,2,none⟩):=hk.at_ 0 _ 73 _ rfl (by decide) _ rfl rfl rfl;have hc:=cells_aft hX C1.out;exact op_val (by simp [go_sem,ev' e_73,hc]) (hK _ hX)
      | 2,ho,hv =>
       cases ho;cases hv;refine .inl ⟨rfl,fun a X hk hX K hK=>?_⟩;have e_5:a.eval (.tmp 5) = .int .i64 k:=(hk.same 5 (by decide)).trans rfl;exact op_val (by simp [go_sem,ev' e_5]) (hK _ hX)
      | 3,ho,hv =>
       cases ho;cases hv;refine .inl ⟨rfl,fun a X hk hX K hK=>?_⟩;have e_74:a.eval (.tmp 74) = .slice (some ⟨b2,o2,none⟩) T.words.length c2:=hk.at_ 1 _ 74 _ rfl (by decide) _ rfl rfl rfl;have e_75:a.eval (.tmp 75) = .int .i64 k:=hk.at_ 2 _ 75 _ rfl (by decide) _ rfl rfl rfl;exact op_val (by simp [go_sem,ev' e_74,ev' e_75,i1]) (hK _ hX)
      | 4,ho,hv =>
       cases ho;cases hv;refine .inl ⟨rfl,fun a X hk hX K hK=>?_⟩;have e_76:a.eval (.tmp 76) = .pointer (some ⟨b2,o2 + k,none⟩):=hk.at_ 3 _ 76 _ rfl (by decide) _ rfl rfl rfl;have hc:=cells_aft hX CW1.out;exact op_val (by simp [go_sem,ev' e_76,hc]) (hK _ hX)
      | 5,ho,hv =>
       cases ho;cases hv;refine .inl ⟨rfl,fun a X hk hX K hK=>?_⟩;have e_6:a.eval (.tmp 6) = .int .i64 m:=(hk.same 6 (by decide)).trans rfl;exact op_val (by simp [go_sem,ev' e_6]) (hK _ hX)
      | 6,ho,hv =>
       cases ho;cases hv;refine .inl ⟨rfl,fun a X hk hX K hK=>?_⟩;have e_77:a.eval (.tmp 77) = .slice (some ⟨bm,om,none⟩) ws.length cm:=hk.at_ 4 _ 77 _ rfl (by decide) _ rfl rfl rfl;have e_78:a.eval (.tmp 78) = .int .i64 m:=hk.at_ 5 _ 78 _ rfl (by decide) _ rfl rfl rfl;exact op_val (by simp [go_sem,ev' e_77,ev' e_78,i2]) (hK _ hX)
      | 7,ho,hv =>
       cases ho;cases hv;refine .inl ⟨rfl,fun a X hk hX K hK=>?_⟩;have e_79:a.eval (.tmp 79) = .pointer (some ⟨bm,om + m * 2,none⟩):=hk.at_ 6 _ 79 _ rfl (by decide) _ rfl rfl rfl;exact op_val (by simp [go_sem,ev' e_79]) (hK _ hX)
      | 8,ho,hv =>
       cases ho;cases hv;refine .inl ⟨rfl,fun a X hk hX K hK=>?_⟩;have e_80:a.eval (.tmp 80) = .pointer (some ⟨bm,om + m * 2,none⟩):=hk.at_ 7 _ 80 _ rfl (by decide) _ rfl rfl rfl;have hc:=cells_aft hX CK1.out;exact op_val (by simp [go_sem,ev' e_80,hc]) (hK _ hX)
      | 9,ho,hv =>
       cases ho;cases hv;refine .inl ⟨rfl,fun a X hk hX K hK=>?_⟩;have e_3:a.eval (.tmp 3) = .pointer (some ⟨w.heap.size + 1,0,none⟩):=(hk.same 3 (by decide)).trans rfl;exact op_val (by simp [go_sem,ev' e_3]) (hK _ hX)
      | 10,ho,hv =>
       cases ho;cases hv;refine .inl ⟨rfl,fun a X hk hX K hK=>?_⟩;have e_82:a.eval (.tmp 82) = .pointer (some ⟨w.heap.size + 1,2,none⟩):=hk.at_ 9 _ 82 _ rfl (by decide) _ rfl rfl rfl;have hc:=cells_aft hX C2.out;exact op_val (by simp [go_sem,ev' e_82,hc]) (hK _ hX)
      | 11,ho,hv =>
       cases ho;cases hv;refine .inl ⟨rfl,fun a X hk hX K hK=>?_⟩;have e_5:a.eval (.tmp 5) = .int .i64 k:=(hk.same 5 (by decide)).trans rfl;exact op_val (by simp [go_sem,ev' e_5]) (hK _ hX)
      | 12,ho,hv =>
       cases ho;cases hv;refine .inl ⟨rfl,fun a X hk hX K hK=>?_⟩;have e_83:a.eval (.tmp 83) = .slice (some ⟨p2,q2,none⟩) T.words.length f2:=hk.at_ 10 _ 83 _ rfl (by decide) _ rfl rfl rfl;have e_84:a.eval (.tmp 84) = .int .i64 k:=hk.at_ 11 _ 84 _ rfl (by decide) _ rfl rfl rfl;exact op_val (by simp [go_sem,ev' e_83,ev' e_84,i1]) (hK _ hX)
      | 13,ho,hv =>
       cases ho;cases hv;refine .inl ⟨rfl,fun a X hk hX K hK=>?_⟩;have e_85:a.eval (.tmp 85) = .pointer (some ⟨p2,q2 + k,none⟩):=hk.at_ 12 _ 85 _ rfl (by decide) _ rfl rfl rfl;have hc:=cells_aft hX CW2.out;exact op_val (by simp [go_sem,ev' e_85,hc]) (hK _ hX)
      | 14,ho,hv =>
       cases ho;cases hv;refine .inl ⟨rfl,fun a X hk hX K hK=>?_⟩;have e_6:a.eval (.tmp 6) = .int .i64 m:=(hk.same 6 (by decide)).trans rfl;exact op_val (by simp [go_sem,ev' e_6]) (hK _ hX)
      | 15,ho,hv =>
       cases ho;cases hv;refine .inl ⟨rfl,fun a X hk hX K hK=>?_⟩;have e_86:a.eval (.tmp 86) = .slice (some ⟨pm,qm,none⟩) ws.length cn:=hk.at_ 13 _ 86 _ rfl (by decide) _ rfl rfl rfl;have e_87:a.eval (.tmp 87) = .int .i64 m:=hk.at_ 14 _ 87 _ rfl (by decide) _ rfl rfl rfl;exact op_val (by simp [go_sem,ev' e_86,ev' e_87,i2]) (hK _ hX)
      | 16,ho,hv =>
       cases ho;cases hv;refine .inl ⟨rfl,fun a X hk hX K hK=>?_⟩;have e_88:a.eval (.tmp 88) = .pointer (some ⟨pm,qm + m * 2,none⟩):=hk.at_ 15 _ 88 _ rfl (by decide) _ rfl rfl rfl;exact op_val (by simp [go_sem,ev' e_88]) (hK _ hX)
      | 17,ho,hv =>
       cases ho;cases hv;refine .inl ⟨rfl,fun a X hk hX K hK=>?_⟩;have e_89:a.eval (.tmp 89) = .pointer (some ⟨pm,qm + m * 2,none⟩):=hk.at_ 16 _ 89 _ rfl (by decide) _ rfl rfl rfl;have hc:=cells_aft hX CK2.out;exact op_val (by simp [go_sem,ev' e_89,hc]) (hK _ hX)
      | 18,ho,hv =>
       cases ho;cases hv;refine .inl ⟨rfl,fun a X hk hX K hK=>?_⟩;have e_81:a.eval (.tmp 81) = .slice Ak kk.length ck:=hk.at_ 8 _ 81 _ rfl (by decide) _ rfl rfl rfl;have e_90:a.eval (.tmp 90) = .slice Bk kk.length dk:=hk.at_ 17 _ 90 _ rfl (by decide) _ rfl rfl rfl;refine op_call2 Tryz.func27 (by kernel_rfl) (by kernel_rfl) _ _ rfl e_81 e_90 (kitEqual_int Ak Bk kk kk ck dk X (HK1.out.aft hX) (HK2.out.aft hX)) ?_;rintro e w' ⟨rfl,ha7⟩;rw [eqB_self];exact ⟨_,rfl,hK _ (hX.trans ha7)⟩
      | 19,ho,hv =>
       cases ho;cases hv;refine .inl ⟨rfl,fun a X hk hX K hK=>?_⟩;have e_91:a.eval (.tmp 91) = .bool true:=hk.at_ 18 _ 91 _ rfl (by decide) _ rfl rfl rfl;exact op_val (by simp [go_sem,ev' e_91]) (hK _ hX)
      | 20,ho,hv =>
       cases ho;cases hv;refine .inl ⟨rfl,fun a X hk hX K hK=>?_⟩;have e_92:a.eval (.tmp 92) = .bool false:=hk.at_ 19 _ 92 _ rfl (by decide) _ rfl rfl rfl;exact op_val (by simp [go_sem,ev' e_92]) (hK _ hX)
      | 21,ho,hv =>
       cases ho;cases hv;refine .inl ⟨rfl,fun a X hk hX K hK=>?_⟩;have e_2:a.eval (.tmp 2) = .pointer (some ⟨w.heap.size,0,none⟩):=(hk.same 2 (by decide)).trans rfl;exact op_val (by simp [go_sem,ev' e_2]) (hK _ hX)
      | 22,ho,hv =>
       cases ho;cases hv;refine .inl ⟨rfl,fun a X hk hX K hK=>?_⟩;have e_94:a.eval (.tmp 94) = .pointer (some ⟨w.heap.size,2,none⟩):=hk.at_ 21 _ 94 _ rfl (by decide) _ rfl rfl rfl;have hc:=cells_aft hX C1.out;exact op_val (by simp [go_sem,ev' e_94,hc]) (hK _ hX)
      | 23,ho,hv =>
       cases ho;cases hv;refine .inl ⟨rfl,fun a X hk hX K hK=>?_⟩;have e_5:a.eval (.tmp 5) = .int .i64 k:=(hk.same 5 (by decide)).trans rfl;exact op_val (by simp [go_sem,ev' e_5]) (hK _ hX)
      | 24,ho,hv =>
       cases ho;cases hv;refine .inl ⟨rfl,fun a X hk hX K hK=>?_⟩;have e_95:a.eval (.tmp 95) = .slice (some ⟨b2,o2,none⟩) T.words.length c2:=hk.at_ 22 _ 95 _ rfl (by decide) _ rfl rfl rfl;have e_96:a.eval (.tmp 96) = .int .i64 k:=hk.at_ 23 _ 96 _ rfl (by decide) _ rfl rfl rfl;exact op_val (by simp [go_sem,ev' e_95,ev' e_96,i1]) (hK _ hX)
      | 25,ho,hv =>
       cases ho;cases hv;refine .inl ⟨rfl,fun a X hk hX K hK=>?_⟩;have e_97:a.eval (.tmp 97) = .pointer (some ⟨b2,o2 + k,none⟩):=hk.at_ 24 _ 97 _ rfl (by decide) _ rfl rfl rfl;have hc:=cells_aft hX CW1.out;exact op_val (by simp [go_sem,ev' e_97,hc]) (hK _ hX)
      | 26,ho,hv =>
       cases ho;cases hv;refine .inl ⟨rfl,fun a X hk hX K hK=>?_⟩;have e_6:a.eval (.tmp 6) = .int .i64 m:=(hk.same 6 (by decide)).trans rfl;exact op_val (by simp [go_sem,ev' e_6]) (hK _ hX)
      | 27,ho,hv =>
       cases ho;cases hv;refine .inl ⟨rfl,fun a X hk hX K hK=>?_⟩;have e_98:a.eval (.tmp 98) = .slice (some ⟨bm,om,none⟩) ws.length cm:=hk.at_ 25 _ 98 _ rfl (by decide) _ rfl rfl rfl;have e_99:a.eval (.tmp 99) = .int .i64 m:=hk.at_ 26 _ 99 _ rfl (by decide) _ rfl rfl rfl;exact op_val (by simp [go_sem,ev' e_98,ev' e_99,i2]) (hK _ hX)
      | 28,ho,hv =>
       cases ho;cases hv;refine .inl ⟨rfl,fun a X hk hX K hK=>?_⟩;have e_100:a.eval (.tmp 100) = .pointer (some ⟨bm,om + m * 2,none⟩):=hk.at_ 27 _ 100 _ rfl (by decide) _ rfl rfl rfl;exact op_val (by simp [go_sem,ev' e_100]) (hK _ hX)
      | 29,ho,hv =>
       cases ho;cases hv;refine .inl ⟨rfl,fun a X hk hX K hK=>?_⟩;have e_101:a.eval (.tmp 101) = .pointer (some ⟨bm,om + m * 2 + 1,none⟩):=hk.at_ 28 _ 101 _ rfl (by decide) _ rfl rfl rfl;have hc:=cells_aft hX CE1.out;exact op_val (by simp [go_sem,ev' e_101,hc]) (hK _ hX)
      | 30,ho,hv =>
       cases ho;cases hv;refine .inl ⟨rfl,fun a X hk hX K hK=>?_⟩;have e_3:a.eval (.tmp 3) = .pointer (some ⟨w.heap.size + 1,0,none⟩):=(hk.same 3 (by decide)).trans rfl;exact op_val (by simp [go_sem,ev' e_3]) (hK _ hX)
      | 31,ho,hv =>
       cases ho;cases hv;refine .inl ⟨rfl,fun a X hk hX K hK=>?_⟩;have e_103:a.eval (.tmp 103) = .pointer (some ⟨w.heap.size + 1,2,none⟩):=hk.at_ 30 _ 103 _ rfl (by decide) _ rfl rfl rfl;have hc:=cells_aft hX C2.out;exact op_val (by simp [go_sem,ev' e_103,hc]) (hK _ hX)
      | 32,ho,hv =>
       cases ho;cases hv;refine .inl ⟨rfl,fun a X hk hX K hK=>?_⟩;have e_5:a.eval (.tmp 5) = .int .i64 k:=(hk.same 5 (by decide)).trans rfl;exact op_val (by simp [go_sem,ev' e_5]) (hK _ hX)
      | 33,ho,hv =>
       cases ho;cases hv;refine .inl ⟨rfl,fun a X hk hX K hK=>?_⟩;have e_104:a.eval (.tmp 104) = .slice (some ⟨p2,q2,none⟩) T.words.length f2:=hk.at_ 31 _ 104 _ rfl (by decide) _ rfl rfl rfl;have e_105:a.eval (.tmp 105) = .int .i64 k:=hk.at_ 32 _ 105 _ rfl (by decide) _ rfl rfl rfl;exact op_val (by simp [go_sem,ev' e_104,ev' e_105,i1]) (hK _ hX)
      | 34,ho,hv =>
       cases ho;cases hv;refine .inl ⟨rfl,fun a X hk hX K hK=>?_⟩;have e_106:a.eval (.tmp 106) = .pointer (some ⟨p2,q2 + k,none⟩):=hk.at_ 33 _ 106 _ rfl (by decide) _ rfl rfl rfl;have hc:=cells_aft hX CW2.out;exact op_val (by simp [go_sem,ev' e_106,hc]) (hK _ hX)
      | 35,ho,hv =>
       cases ho;cases hv;refine .inl ⟨rfl,fun a X hk hX K hK=>?_⟩;have e_6:a.eval (.tmp 6) = .int .i64 m:=(hk.same 6 (by decide)).trans rfl;exact op_val (by simp [go_sem,ev' e_6]) (hK _ hX)
      | 36,ho,hv =>
       cases ho;cases hv;refine .inl ⟨rfl,fun a X hk hX K hK=>?_⟩;have e_107:a.eval (.tmp 107) = .slice (some ⟨pm,qm,none⟩) ws.length cn:=hk.at_ 34 _ 107 _ rfl (by decide) _ rfl rfl rfl;have e_108:a.eval (.tmp 108) = .int .i64 m:=hk.at_ 35 _ 108 _ rfl (by decide) _ rfl rfl rfl;exact op_val (by simp [go_sem,ev' e_107,ev' e_108,i2]) (hK _ hX)
      | 37,ho,hv =>
       cases ho;cases hv;refine .inl ⟨rfl,fun a X hk hX K hK=>?_⟩;have e_109:a.eval (.tmp 109) = .pointer (some ⟨pm,qm + m * 2,none⟩):=hk.at_ 36 _ 109 _ rfl (by decide) _ rfl rfl rfl;exact op_val (by simp [go_sem,ev' e_109]) (hK _ hX)
      | 38,ho,hv =>
       cases ho;cases hv;refine .inl ⟨rfl,fun a X hk hX K hK=>?_⟩;have e_110:a.eval (.tmp 110) = .pointer (some ⟨pm,qm + m * 2 + 1,none⟩):=hk.at_ 37 _ 110 _ rfl (by decide) _ rfl rfl rfl;have hc:=cells_aft hX CE2.out;exact op_val (by simp [go_sem,ev' e_110,hc]) (hK _ hX)
      | 39,ho,hv =>
       cases ho;cases hv;refine .inl ⟨rfl,fun a X hk hX K hK=>?_⟩;have e_102:a.eval (.tmp 102) = .slice Ae ee.length ce:=hk.at_ 29 _ 102 _ rfl (by decide) _ rfl rfl rfl;have e_111:a.eval (.tmp 111) = .slice Be ee.length de:=hk.at_ 38 _ 111 _ rfl (by decide) _ rfl rfl rfl;refine op_call2 Tryz.func27 (by kernel_rfl) (by kernel_rfl) _ _ rfl e_102 e_111 (kitEqual_int Ae Be ee ee ce de X (HE1.out.aft hX) (HE2.out.aft hX)) ?_;rintro e w' ⟨rfl,ha7⟩;rw [eqB_self];exact ⟨_,rfl,hK _ (hX.trans ha7)⟩
      | 40,ho,hv =>
       cases ho;cases hv;refine .inl ⟨rfl,fun a X hk hX K hK=>?_⟩;have e_112:a.eval (.tmp 112) = .bool true:=hk.at_ 39 _ 112 _ rfl (by decide) _ rfl rfl rfl;exact op_val (by simp [go_sem,ev' e_112]) (hK _ hX)
      | 41,ho,hv =>
       cases ho;cases hv;refine .inl ⟨rfl,fun a X hk hX K hK=>?_⟩;have e_93:a.eval (.tmp 93) = .bool false:=hk.at_ 20 _ 93 _ rfl (by decide) _ rfl rfl rfl;have e_113:a.eval (.tmp 113) = .bool false:=hk.at_ 40 _ 113 _ rfl (by decide) _ rfl rfl rfl;exact op_val (by simp [go_sem,ev' e_93,ev' e_113]) (hK _ hX)
      | _ + 42,ho,_=>cases ho
     case fin =>
      intro X2 hX;simp only [List.zip_cons_cons,List.zip_nil_right,putAll,Act.put,List.setIfInBounds_toArray,List.set_cons_succ,List.set_cons_zero];have HX:=Lib.hid hX;clear hX;(repeat (first | go_big_skip | go_big_want | go_big_move | go_big_op | go_step | go_upon | go_back));exact ⟨⟨m + 1,by go_num,by omega,HA6.out.trans HX.out⟩,by simp [intOf] <;> omega⟩
    ·have hdm:decide (m < ws.length) = false:=decide_eq_false hml;(repeat (first | go_big_skip | go_big_want | go_big_move | go_big_op | go_step | go_upon | go_back));exact ⟨⟨k + 1,by go_num,by omega,HAU.out.trans HA6.out⟩,by simp [intOf] <;> omega⟩
  ·have hdec:decide (k < T.words.length) = false:=decide_eq_false hkn;(repeat (first | go_big_skip | go_big_want | go_big_move | go_big_op | go_step | go_upon | go_back));go_ret;exact ⟨rfl,HA.out.trans HAX.out⟩
end Go.Proofs
end
section
/- Plain: all readings,word by word. -/
namespace Go.Proofs
theorem prodN_app (ns:List Nat) (n:Nat):prodN (ns ++ [n]) = prodN ns * n:=by
 induction ns with
 | nil=>simp [prodN]
 | cons a ns ih=>show a * prodN (ns ++ [n]) = a * prodN ns * n;rw [ih,Nat.mul_assoc]
theorem dig_app:∀ (ns:List Nat) (n k:Nat),k < prodN (ns ++ [n]) -> dig (ns ++ [n]) k = dig ns (k / n) ++ [((k % n:Nat):Int)]
 | [],n,k,hn=>by
  have hk:k < n:=by have:k < n * 1:=hn;omega
  show [((k / 1:Nat):Int)] = [((k % n:Nat):Int)];rw [Nat.div_one,Nat.mod_eq_of_lt hk]
 | a :: ns,n,k,hn=>by
  show ((k / prodN (ns ++ [n]):Nat):Int) :: dig (ns ++ [n]) (k % prodN (ns ++ [n])) = ((k / n / prodN ns:Nat):Int) :: dig ns (k / n % prodN ns) ++ [((k % n:Nat):Int)]
  have hp:0 < prodN (ns ++ [n]):=by
   have h:k < a * prodN (ns ++ [n]):=hn;rcases Nat.eq_zero_or_pos (prodN (ns ++ [n])) with e | e
   ·rw [e] at h;simp at h
   ·exact e
  rw [dig_app ns n _ (Nat.mod_lt _ hp),prodN_app,Nat.mul_comm (prodN ns) n,<- Nat.div_div_eq_div_mul,List.cons_append]
  congr 2
  ·rw [Nat.mod_mul_right_div_self]
  ·rw [Nat.mod_mul_right_mod]
def readW (T:Treaty) (k:Nat):List (List Int):=(List.range (prodN ((T.words.take k).map List.length))).map (dig ((T.words.take k).map List.length))
def extW (n:Nat) (r:List Int) (m:Nat):List (List Int):=(List.range m).map fun m:Nat=>r ++ [(m:Int)]
theorem range_mul_map {α:Type} (f:Nat -> α) (P n:Nat):(List.range (P * n)).map f = (List.range P).flatMap fun q=>(List.range n).map fun m=>f (q * n + m):=by
 induction P with
 | zero=>simp
 | succ P ih =>
  rw [Nat.add_mul,Nat.one_mul,List.range_add,List.map_append,ih,List.range_succ,List.flatMap_append];simp [List.map_map,Function.comp_def]
theorem readW_succ {T:Treaty} {k:Nat} (hk:k < T.words.length) (h1:1 <= T.words[k].length):readW T (k + 1) = (readW T k).flatMap fun r=>extW 0 r T.words[k].length:=by
 unfold readW extW;rw [List.take_succ_eq_append_getElem hk,List.map_append,List.map_singleton,prodN_app,range_mul_map,List.flatMap_map];refine flatMap_congr' fun q hq=>?_
 have hq:=List.mem_range.1 hq;refine List.map_congr_left fun m hm=>?_
 have hm:=List.mem_range.1 hm
 have hlt:q * T.words[k].length + m < prodN ((T.words.take k).map List.length ++ [T.words[k].length]):=by
  rw [prodN_app];have:(q + 1) * T.words[k].length <= prodN ((T.words.take k).map List.length) * T.words[k].length:=Nat.mul_le_mul_right _ hq;rw [Nat.add_mul,Nat.one_mul] at this;omega
 rw [dig_app _ _ _ hlt]
 congr 2
 ·rw [Nat.mul_comm,Nat.mul_add_div (by omega),Nat.div_eq_of_lt hm,Nat.add_zero]
 ·rw [Nat.mul_comm,Nat.mul_add_mod,Nat.mod_eq_of_lt hm]
theorem readW_zero (T:Treaty):readW T 0 = [[]]:=by unfold readW;simp [prodN,dig]
theorem readW_all (T:Treaty):readW T T.words.length = readingsL T:=by unfold readW readingsL lensOf;rw [List.take_length]
theorem readW_len {T:Treaty} {k:Nat} {l:List Int} (hk:k <= T.words.length) (h:l ∈ readW T k):l.length = k:=by
 unfold readW at h;obtain ⟨j,-,rfl⟩:=List.mem_map.1 h;rw [dig_len,List.length_map,List.length_take];omega
end Go.Proofs
end
section
/- Walks: the reference's every. -/
namespace Go.Proofs
open Go.RowKit
attribute [local go_sem] Oper.semAt_some
theorem own_nil2 (u:World):OwnLists ((u.alloc (.cells #[] 3)).alloc (.cells #[.slice (some ⟨u.heap.size,0,none⟩) 0 0] 24)) u.heap.size (.slice (some ⟨u.heap.size + 1,0,none⟩) 1 1) [[]]:=by
 have h1:=own_aft (own_zero u) (Aft.alloc (u.alloc (.cells #[] 3)) (.cells #[.slice (some ⟨u.heap.size,0,none⟩) 0 0] 24));have hb:=Blk.new (u.alloc (.cells #[] 3)) 24 #[.slice (some ⟨u.heap.size,0,none⟩) 0 0];rw [World.size_alloc] at hb;refine ⟨[.slice (some ⟨u.heap.size,0,none⟩) 0 0],⟨rfl,.inr ⟨u.heap.size + 1,1,_,rfl,by omega,hb,by decide,by decide,rfl,rfl⟩⟩,fun i hi hi'=>?_,fun i hi g hg=>?_⟩
 ·have e:i = 0:=by simp at hi;omega
  subst e;exact h1
 ·have e:i = 0:=by simp at hi;omega
  subst e;cases hg;refine ⟨fun e=>?_,fun j hj hne=>?_⟩
  ·have e':some (u.heap.size + 1) = some u.heap.size:=e;injection e';omega
  ·simp at hj;omega
theorem ints_src3 {w:World} {A:Option Addr} {l:List Int} (h:Ints w A l):∀ ad,A = some ad -> ∀ j u,(l.map (Value.int .i64))[j]? = some u -> w.cell? (ad.add j) = some u:=by
 intro ad e j u hu;subst e;have hj:j < l.length:=by have:=(List.getElem?_eq_some_iff.1 hu).1;simpa using this
 obtain ⟨b',o',e,-,hc⟩:=h.at hj;cases e;rw [Addr.add_lit];have:=hc j hj;rw [List.getElem?_map,List.getElem?_eq_getElem hj] at hu;rw [this];exact hu
theorem ints_none {w:World} {A:Option Addr} {l:List Int} (h:Ints w A l):A = none -> l.length = 0:=fun e=>by
 rcases Nat.eq_zero_or_pos l.length with h0 | h0
 ·exact h0
 ·obtain ⟨b',o',e2,-⟩:=h.at h0;rw [e] at e2;cases e2
theorem readW_le {T:Treaty} (ok:TOk T) {k:Nat} (hk:k <= T.words.length):(readW T k).length <= 4096:=by
 have h1:(readW T k).length = prodLen (T.words.take k):=by
  unfold readW prodLen;rw [foldl_prod,Nat.one_mul,List.length_map,List.length_range]
 rw [h1];exact Nat.le_trans (prodLen_le T.words (fun l hl=>(ok.wlen l hl).2) k hk) (Nat.le_trans (Nat.pow_le_pow_right (by decide) (show k <= 6 by have:=ok.nwords;omega)) (by decide))
theorem flat_le {n:Nat} (rk:List (List Int)) (i:Nat):((rk.take i).flatMap fun r=>extW 0 r n).length <= rk.length * n:=by
 have h:∀ l:List (List Int),(l.flatMap fun r=>extW 0 r n).length = l.length * n:=by
  intro l
  induction l with
  | nil=>simp
  | cons a l ih=>rw [List.flatMap_cons,List.length_append,ih,List.length_cons,Nat.add_mul];unfold extW;simp;omega
 rw [h,List.length_take];exact Nat.mul_le_mul_right _ (Nat.min_le_right _ _)
set_option maxRecDepth 100000 in
set_option maxHeartbeats 8000000 in
theorem everyRef_any (w:World) (T:Treaty) (a1 a2 a3 a4:Option Addr) (c1 c2 c3 c4:Nat) (hT:TRep w T a1 a2 a3 a4) (ok:TOk T) :
  Calls Tryz.prog 54 #[.agg #[.int .i64 T.places,.slice a1 T.ways.length c1,.slice a2 T.words.length c2,.slice a3 T.starts.length c3,.slice a4 T.legs.length c4]] w fun e w'=>∃ v,e = .returned v /\ Aft w w' /\ OwnLists w' w.heap.size v (readingsL T):=by
 have HT:=Lib.hid hT;have HOK:=Lib.hid ok;have hnw:=ok.nwords;clear hT ok;go_enter Tryz.func54,Tryz.ntmps54;go_upto_region 1 with fail
 have hb:=Blk.new w 35 #[.int .i64 T.places,.slice a1 T.ways.length c1,.slice a2 T.words.length c2,.slice a3 T.starts.length c3,.slice a4 T.legs.length c4];have ha:=Aft.alloc w (.cells #[.int .i64 T.places,.slice a1 T.ways.length c1,.slice a2 T.words.length c2,.slice a3 T.starts.length c3,.slice a4 T.legs.length c4] 35);generalize w.alloc (.cells #[.int .i64 T.places,.slice a1 T.ways.length c1,.slice a2 T.words.length c2,.slice a3 T.starts.length c3,.slice a4 T.legs.length c4] 35) = X at *;have HB:=Lib.hid hb;have HA:=Lib.hid ha;have hsz:=ha.size;clear hb ha;go_upto_region 2 with fail
 have hL0:=own_nil2 X;have hA0:Aft X ((X.alloc (.cells #[] 3)).alloc (.cells #[.slice (some ⟨X.heap.size,0,none⟩) 0 0] 24)):=(Aft.alloc _ _).then_alloc _;generalize ((X.alloc (.cells #[] 3)).alloc (.cells #[.slice (some ⟨X.heap.size,0,none⟩) 0 0] 24)) = Y at *;have HE0:Hid (Aft X Y /\ OwnLists Y X.heap.size (.slice (some ⟨X.heap.size + 1,0,none⟩) 1 1) (readW T 0)):=Lib.hid ⟨hA0,by rw [readW_zero];exact hL0⟩;clear hL0 hA0;(repeat (first | go_big_skip | go_big_want | go_big_move | go_big_op | go_step | go_upon | go_back));go_loopw [3,4] (fun v i wr=>∃ k:Nat,i = .int .i64 k /\ k <= T.words.length /\ Aft X wr /\ OwnLists wr X.heap.size v (readW T k)) (fun _ i _=>T.words.length - (intOf i).toNat)
 case atStart=>exact ⟨0,rfl,by omega,HE0.out⟩
 case round =>
  obtain ⟨k,rfl,hk,haX,⟨vs,hls⟩⟩:=hrel;obtain ⟨sA,sc,rfl⟩:=own_slice2 hls.own;have HAX:=Lib.hid haX;have HLS:=Lib.hid hls;have hBw:=HB.out.aft haX;have k2:wr.cell? ⟨w.heap.size,2,none⟩ = some (.slice a2 T.words.length c2):=hBw.cell 2;have hszr:=haX.size;clear haX hls hBw HE0;by_cases hkn:k < T.words.length
  ·have hdec:decide (k < T.words.length) = true:=decide_eq_true hkn;have hw4:=(HOK.out.wlen _ (List.getElem_mem hkn));have HRW:=Lib.hid (readW_succ hkn hw4.1);have hrl:=readW_le HOK.out hk;have HRL:=Lib.hid (fun l hl=>readW_len (T:=T) (k:=k) (l:=l) hk hl);generalize readW T k = rk at *;obtain ⟨b2,o2,Am,cm,rfl,cW,hms⟩:=word_cell2 (HT.out.aft (HA.out.trans HAX.out)).words hkn;have CW:=Lib.hid cW;have HWK:=Lib.hid (show T.words[k].length = T.words[k].length from rfl);clear hms cW HWK;generalize T.words[k].length = ln at *;have HN0:Hid (Aft wr wr /\ OwnLists wr wr.heap.size (.slice none 0 0) ((rk.take 0).flatMap fun r=>extW 0 r ln)):=Lib.hid ⟨Aft.refl _,OwnLists.nil⟩;(repeat (first | go_big_skip | go_big_want | go_big_move | go_big_op | go_step | go_upon | go_back));clear k2;go_loopw [5,6] (fun v i2 w5=>∃ i:Nat,i2 = .int .i64 i /\ i <= rk.length /\ Aft wr w5 /\ OwnLists w5 wr.heap.size v ((rk.take i).flatMap fun r=>extW 0 r ln)) (fun _ i2 _=>rk.length - (intOf i2).toNat)
   case atStart=>exact ⟨0,rfl,by omega,HN0.out⟩
   case round =>
    rename World=>w5
    obtain ⟨i,rfl,hi,ha5,⟨vs5,hls5⟩⟩:=hrel;have hfl:=Nat.le_trans (flat_le (n:=ln) rk i) (Nat.mul_le_mul hrl hw4.2);generalize hpre:((rk.take i).flatMap fun r=>extW 0 r ln) = pre at *;have HPRE:=Lib.hid hpre;clear hpre;obtain ⟨uA,uc,rfl⟩:=own_slice2 hls5.own;have HA5:=Lib.hid ha5;have HL5:=Lib.hid hls5;clear ha5 hls5 HN0;by_cases hil:i < rk.length
    ·have hdi:decide (i < rk.length) = true:=decide_eq_true hil;have hrk:∀ l ∈ rk,l.length <= 17592186043904:=fun l hl=>by have:=HRL.out l hl;omega
     obtain ⟨Aal,cal,eal,-,hLi⟩:=HLS.out.lists (by omega) hrk;cases eal;obtain ⟨bA,oA,rfl,hbA,hcA⟩:=hLi.at hil;obtain ⟨Aj,cj,hvj,hij⟩:=hcA i hil;have CA:=Lib.hid hvj;have HIJ:=Lib.hid hij;have hjb:rk[i].length <= 6:=by have:=HRL.out _ (List.getElem_mem hil);omega
     have HTK:Hid (((rk.take (i + 1)).flatMap fun r=>extW 0 r ln) = pre ++ extW 0 rk[i] ln):=Lib.hid (by rw [List.take_succ_eq_append_getElem hil,List.flatMap_append,HPRE.out];simp);clear hrk hcA hvj hij;generalize rk[i] = lj at *;have HB0:Hid (OwnLists w5 wr.heap.size (.slice uA pre.length uc) (pre ++ extW 0 lj 0)):=Lib.hid (by unfold extW;rw [List.range_zero,List.map_nil,List.append_nil];exact ⟨_,HL5.out⟩);(repeat (first | go_big_skip | go_big_want | go_big_move | go_big_op | go_step | go_upon | go_back));go_loopw [5,7] (fun v i3 w6=>∃ m:Nat,i3 = .int .i64 m /\ m <= ln /\ Aft wr w6 /\ OwnLists w6 wr.heap.size v (pre ++ extW 0 lj m)) (fun _ i3 _=>ln - (intOf i3).toNat)
     case atStart=>exact ⟨0,rfl,by omega,HA5.out,HB0.out⟩
     case round =>
      rename World=>w6
      obtain ⟨m,rfl,hm,ha6,⟨vs6,hls6⟩⟩:=hrel;have hxl:(pre ++ extW 0 lj m).length = pre.length + m:=by rw [List.length_append];unfold extW;simp
      generalize hll:pre ++ extW 0 lj m = ll at *;have HLL:=Lib.hid hll;clear hll;obtain ⟨xA,xc,rfl⟩:=own_slice2 hls6.own;have HA6:=Lib.hid ha6;have HL6:=Lib.hid hls6;have hBw:=HB.out.aft (HAX.out.trans ha6);have k2:w6.cell? ⟨w.heap.size,2,none⟩ = some (.slice (some ⟨b2,o2,none⟩) T.words.length c2):=hBw.cell 2;have cW:=cells_aft ha6 CW.out;have hsz6:=ha6.size;have i1:(0:Int) <= (k:Int) /\ (k:Int) < (T.words.length:Int):=by omega
      have i2:(0:Int) <= (i:Int) /\ (i:Int) < (rk.length:Int):=by omega
      have hll5:ll.length <= 100000:=by omega
      clear ha6 hls6 hBw HB0 hxl;by_cases hml:m < ln
      ·have hdm:decide (m < ln) = true:=decide_eq_true hml;have HE:Hid (extW 0 lj (m + 1) = extW 0 lj m ++ [lj ++ [(m:Int)]]):=Lib.hid (by unfold extW;rw [List.range_succ,List.map_append];rfl);have ca0:=cells_aft (HA6.out.then_alloc (.cells #[] 3)) CA.out;have HIU:=Lib.hid (HIJ.out.aft HA6.out);go_upto_region 11 with (first | (at_builtin;refine wpList_app_at (m:=lj.length) (n:=0) (xs:=[]) ty24 rfl _ _ rfl (Aft.alloc w6 _).size rfl (own_zero w6) rfl (news:=lj.map (Value.int .i64)) (by simp) (ints_none HIU.out) (ints_src3 (HIU.out.aft (Aft.alloc w6 _))) (fun q hq=>by obtain ⟨z,-,rfl⟩:=List.mem_map.1 hq;rfl) (by omega) (by decide) ?_;intro v7 w7 hown7 hg7;have ho7:w7.ownsRow w6.heap.size 3 1 v7 lj.length (lj.map (Value.int .i64)):=(by simpa using hown7);obtain ⟨yA,yc,rfl⟩:=own_slice2 ho7;have hA7:Aft w6 w7:=(Aft.alloc w6 _).grown hg7 (fun q e=>by cases e;exact Nat.le_refl _);have HA7:=Lib.hid hA7;have HO7:=Lib.hid ho7;have hsz7:=hA7.size;clear hown7 hg7 ho7 hA7 ca0 k2 cW) | (at_builtin;refine wpList_push rfl _ _ rfl (own_aft HO7.out (Aft.alloc w7 _)) (Nat.le_trans hsz7 (Aft.alloc w7 _).size) rfl rfl (cell_new1 _ _ _) (by omega) ?_;intro v8 w8 hown8 hg8;generalize hl8:lj ++ [(m:Int)] = l8 at *;clear hl8;obtain ⟨yA,yc,rfl⟩:=own_slice2 hown8;have hA8:Aft w6 w8:=(HA7.out.trans (Aft.alloc w7 _)).grown hg8 (fun q e=>(HO7.out.lt q e).1);have HA8:=Lib.hid hA8;have HO8:=Lib.hid hown8;have hsz8:=hA8.size;clear hown8 hg8 hA8) | (at_builtin;refine wpList_app_list rfl _ _ rfl HL6.out hsz6 rfl rfl (cell_new1 _ _ _) rfl (HA8.out.trans (Aft.alloc w8 _)) (own_aft HO8.out (Aft.alloc w8 _)) (by omega) ?_;intro v9 vs9 w9 hls9 hg9;have HL9:=Lib.hid hls9;have HA9:=Lib.hid ((HA6.out.trans (HA8.out.trans (Aft.alloc w8 _))).grown hg9 (fun q e=>(HL6.out.own.lt q e).1));clear hls9 hg9))
       (repeat (first | go_big_skip | go_big_want | go_big_move | go_big_op | go_step | go_upon | go_back));exact ⟨⟨m + 1,by go_num,by omega,HA9.out,by rw [HE.out,<- List.append_assoc,HLL.out];exact ⟨_,HL9.out⟩⟩,by simp [intOf] <;> omega⟩
      ·have hdm:decide (m < ln) = false:=decide_eq_false hml;have e:m = ln:=by omega
       have HFI:Hid (OwnLists w6 wr.heap.size (.slice xA ll.length xc) ((rk.take (i + 1)).flatMap fun r=>extW 0 r ln)):=Lib.hid (by rw [HTK.out,<- e,HLL.out];exact ⟨_,HL6.out⟩);clear e;(repeat (first | go_big_skip | go_big_want | go_big_move | go_big_op | go_step | go_upon | go_back));exact ⟨⟨i + 1,by go_num,by omega,HA6.out,HFI.out⟩,by simp [intOf] <;> omega⟩
    ·have hdi:decide (i < rk.length) = false:=decide_eq_false hil;have HFI:Hid (OwnLists w5 X.heap.size (.slice uA pre.length uc) (readW T (k + 1))):=Lib.hid (by rw [HRW.out];have e:=HPRE.out;rw [List.take_of_length_le (by omega)] at e;rw [e];exact (show OwnLists _ _ _ _ from ⟨_,HL5.out⟩).mono hszr);(repeat (first | go_big_skip | go_big_want | go_big_move | go_big_op | go_step | go_upon | go_back));exact ⟨⟨k + 1,by go_num,by omega,HAX.out.trans HA5.out,HFI.out⟩,by simp [intOf] <;> omega⟩
  ·have hdec:decide (k < T.words.length) = false:=decide_eq_false hkn;have HR:Hid (readW T k = readingsL T):=Lib.hid (by
    have e:k = T.words.length:=by omega
    rw [e];exact readW_all T)
   have HFI:Hid (OwnLists wr w.heap.size (.slice sA (readW T k).length sc) (readingsL T)):=Lib.hid (by
    have h:=(show OwnLists _ _ _ _ from ⟨_,HLS.out⟩).mono hsz;generalize Value.slice sA (readW T k).length sc = vv at h ⊢;rw [HR.out] at h;exact h)
   clear HLS HR;generalize (readW T k).length = nl at *;(repeat (first | go_big_skip | go_big_want | go_big_move | go_big_op | go_step | go_upon | go_back));go_ret;exact ⟨_,rfl,HA.out.trans HAX.out,HFI.out⟩
end Go.Proofs
end
