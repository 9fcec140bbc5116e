/- Own texts, merged: Rf. -/
import Derived.Test.YthegmhnaiabcpaaGreatF15
set_option linter.unusedSimpArgs false
set_option linter.unusedVariables false
set_option linter.unnecessarySimpa false
section
/- Walks: the reference's worst 51. -/
namespace Go.Proofs
open Go.RowKit
attribute [local go_sem] Oper.semAt_some
set_option maxRecDepth 100000 in
set_option maxHeartbeats 16000000 in
theorem refWorst_any (S:SetL) (A:Option Addr) (c:Nat) (north:Bool) (w:World) (hA:Quads w A S.J) (hS:SetOk S) :
  Calls Tryz.prog 51 #[.agg #[.int .i64 S.n,.slice A S.J.length c],.bool north] w fun e w'=>∃ p:Int × Int,e = .returned (.agg #[.int .i64 p.1,.int .i64 p.2]) /\ LP S north p /\ Aft w w':=by
 obtain ⟨s,hs⟩:∃ s,w.heap.size = s:=⟨_,rfl⟩;have F0:=((Fr.start w).alloc rfl 37 #[.int .i64 S.n,.slice A S.J.length c]).alloc (by simp) 29 #[.int .i64 0,.int .i64 0];simp only [List.nil_append,List.cons_append] at F0;rw [hs] at F0;obtain ⟨W0,hW0⟩:∃ W0,(w.alloc (.cells #[.int .i64 S.n,.slice A S.J.length c] 37)).alloc (.cells #[.int .i64 0,.int .i64 0] 29) = W0:=⟨_,rfl⟩;rw [hW0] at F0;have HF0:=Lib.hid F0;have HA:=Lib.hid (hA.aft F0.aft);have HW0:=Lib.hid hW0;have HS0:=Lib.hid hs;have hn1:=hS.n1;have hn2:=hS.n2;have hfew:=hS.few;obtain ⟨n,hn⟩:∃ n,S.n.toNat = n:=⟨_,rfl⟩;have hnn:S.n = (n:Int):=by omega
 have hn12:n <= 12:=by omega
 have hn0:0 < n:=by omega
 have HNN:=Lib.hid hnn;have HS:=Lib.hid hS;have HJO:Hid (∀ i,(h:i < S.J.length) -> Sheet.jo (joOf north S.J) i = (S.J[i].a.toNat,S.J[i].b.toNat,way1 north S.J[i])):=Lib.hid fun i h=>jo_of north S.J h
 have HJL:Hid ((joOf north S.J).length = S.J.length):=Lib.hid (joOf_len north S.J);have HWY:Hid (∀ i,(h:i < S.J.length) -> -1000000 <= way1 north S.J[i] /\ way1 north S.J[i] <= 1000000):=Lib.hid fun i h=>way_le hS north _ (List.getElem_mem h)
 have HNUM:Hid (∀ g:Nat × Bool,g.1 < (joOf north S.J).length -> -1000000 <= Sheet.num (joOf north S.J) g /\ Sheet.num (joOf north S.J) g <= 1000000):=Lib.hid fun g hg=>by
  obtain ⟨g1,g2⟩:=g;have hg':g1 < S.J.length:=by rw [<- HJL.out];exact hg
  have h1:=HWY.out g1 hg';unfold Sheet.num;dsimp only;rw [HJO.out g1 hg'];cases g2 <;> simp <;> omega
 have HOK:Hid (Sheet.Ok n (joOf north S.J)):=Lib.hid (by rw [<- hn];exact hS.ok north)
 have HLP:Hid (∀ p:Int × Int,Sheet.BmI n (fun i b=>Sheet.optW (Sheet.wkT (joOf north S.J) i b)) n p -> LP S north p):=Lib.hid fun p hp=>by
  obtain ⟨h1,h2,h3⟩:=hp.least HOK.out HNUM.out hn0 hn12;exact ⟨h1,hp.low,h2,h3⟩
 obtain ⟨JO,hJO⟩:∃ JO,joOf north S.J = JO:=⟨_,rfl⟩;rw [hJO] at HJO HJL HNUM HOK HLP;have HPB:=Lib.hid (Sheet.wkT_bnd HOK.out HNUM.out);clear hA F0 hW0 hs hS hn hnn hJO;go_enter Tryz.func51,Tryz.ntmps51;go_upto_region 1 with fail
 try rw [HS0.out]
 try rw [HW0.out]
 have hsz:s + 1 + 1 <= W0.heap.size:=HF0.out.size;have c0:W0.cell? ⟨s,0,none⟩ = some (.int .i64 (n:Int)):=by rw [<- HNN.out];exact (HF0.out.nth 0 rfl).cell 0
 have c2:=(HF0.out.nth 0 rfl).lt;obtain ⟨cs0,hmk,hrx⟩:=rx_made W0 n (by omega);obtain ⟨z0,hz0⟩:∃ z,W0.heap.size = z:=⟨_,rfl⟩;have HZ0:=Lib.hid hz0;have hrx0:RX (W0.alloc (.cells cs0 3)) z0 n fun _=>0:=by rw [<- hz0];exact hrx
 have hb0:Blk ((W0.alloc (.cells cs0 3)).alloc (.cells #[.slice (some ⟨z0,0,none⟩) n n] 58)) (z0 + 1) 58 #[.slice (some ⟨z0,0,none⟩) n n]:=by
  have:=Blk.new (W0.alloc (.cells cs0 3)) 58 #[.slice (some ⟨z0,0,none⟩) n n];rw [World.size_alloc,hz0] at this;exact this
 have hal:=(Aft.alloc W0 (.cells cs0 3)).then_alloc (.cells #[.slice (some ⟨z0,0,none⟩) n n] 58);have hol:OwnLs ((W0.alloc (.cells cs0 3)).alloc (.cells #[.slice (some ⟨z0,0,none⟩) n n] 58)) z0 (.slice (some ⟨z0 + 1,0,none⟩) 1 1) [.slice (some ⟨z0,0,none⟩) n n] (rowsZ (Sheet.wkT JO) 1 n):=own_first hb0 (hrx0.aft (Aft.alloc _ _)) (by omega) (Nat.le_refl _) (by omega) hn12;have HAL:=Lib.hid hal;have HOL:=Lib.hid hol;clear hrx hrx0 hb0 hal hol;go_upto_region 3 with fail
 try rw [hz0]
 generalize (W0.alloc (.cells cs0 3)).alloc (.cells #[.slice (some ⟨z0,0,none⟩) n n] 58) = W1 at *;clear c0 c2 hmk;go_upto_block 0 with fail
 refine wp_block ?_;go_loopw [6,7] (fun v i wr=>∃ q k:Nat,i = .int .i64 (k:Nat) /\ k = q + 1 /\ q <= n /\ Aft W0 wr /\ ∃ vs,OwnLs wr z0 v vs (rowsZ (Sheet.wkT JO) k n)) (fun _ i _=>n + 1 - (intOf i).toNat)
 case atStart=>exact ⟨0,1,rfl,rfl,by omega,HAL.out,_,HOL.out⟩
 case round =>
  rename World=>wa
  obtain ⟨q,k,rfl,hkq,hq,hw,vs,hown⟩:=hrel;clear HOL HAL;have HOW:=Lib.hid hown;have HXA:=Lib.hid hw;obtain ⟨T,cT,G,C,hv,htab⟩:=own_tabR hown hn0 (by omega);subst hv;have HTAB:=Lib.hid htab;have HKQ:=Lib.hid hkq;clear hown hw htab;by_cases hkn:k <= n
  ·have t1:decide (k <= n) = true:=by simpa using hkn
   obtain ⟨cs,hmk,hrx⟩:=rx_made wa n (by omega);obtain ⟨g,hg⟩:∃ z,wa.heap.size = z:=⟨_,rfl⟩;have HG:=Lib.hid hg;rw [hg] at hrx;have HRX0:=Lib.hid hrx;have HXB:=Lib.hid (Aft.alloc wa (.cells cs 3));have hqk:q < k:=by omega
   clear hrx hkq;go_upto_region 7 with fail
   try rw [hg]
   generalize wa.alloc (.cells cs 3) = wb at *;clear hmk t1;obtain ⟨P,hP⟩:∃ P,Sheet.wkT JO q = P:=⟨_,rfl⟩;have hpb:=HPB.out q (by omega);rw [hP] at hpb;have HPQ:Hid (∀ c,c < n -> P c = -1000000000000000000 \/ (-20000000 <= P c /\ P c <= 20000000)):=Lib.hid fun c hc=>by have:=hpb c hc;omega
   have HP:=Lib.hid hP;clear hpb hP;have HTP:Hid (∀ W,Aft wa W -> ∀ c,c < n -> W.cell? ⟨G q,c,none⟩ = some (.int .i64 (P c))):=Lib.hid fun W h c hc=>by rw [<- HP.out];exact (HTAB.out.aft h).cell hqk hc
   have HTT:Hid (∀ W,Aft wa W -> W.cell? ⟨T,q,none⟩ = some (.slice (some ⟨G q,0,none⟩) n (C q)) /\ T < W.heap.size /\ G q < W.heap.size):=Lib.hid fun W h=>⟨(HTAB.out.aft h).tcell hqk,(HTAB.out.aft h).lt,((HTAB.out.aft h).row q hqk).lt⟩
   obtain ⟨gq,hgq⟩:∃ x,G q = x:=⟨_,rfl⟩;obtain ⟨cq,hcq⟩:∃ x,C q = x:=⟨_,rfl⟩;rw [hgq] at HTP HTT;rw [hcq] at HTT;clear hgq hcq HTAB;go_upto_block 2 with fail
   refine wp_block ?_;go_loopw [9] (fun i wr=>∃ na:Nat,i = .int .i64 (na:Nat) /\ na <= n /\ Aft wa wr /\ Hid (RX wr g n fun j=>if j < na then -1000000000000000000 else 0)) (fun i _=>n - (intOf i).toNat)
   case atStart=>exact ⟨0,rfl,by omega,HXB.out,Lib.hid (HRX0.out.congr fun j _=>(if_neg (Nat.not_lt_zero _)).symm)⟩
   case round =>
    clear HRX0 HXB;obtain ⟨na,rfl,ha,hw,HR⟩:=hrel;by_cases han:na < n
    ·have t1:decide (na < n) = true:=by simpa using han
     have d0:=HR.out.cell han;have d1:=HR.out.frozen na;have d2:=HR.out.lt;have ia:(0:Int) <= (na:Int) /\ (na:Int) < (n:Int):=by omega
     have HXC:=Lib.hid (hw.then_setCell (p:=⟨g,na,none⟩) (by show wa.heap.size <= g;rw [HG.out];exact Nat.le_refl _) (.int .i64 (-1000000000000000000)))
     have HRN:=Lib.hid ((HR.out.put na (-1000000000000000000)).congr (f':=fun j=>if j < na + 1 then -1000000000000000000 else 0) fun j _=>by
      unfold Sheet.putR;dsimp only;by_cases e:j = na
      ·rw [if_pos e,if_pos (by omega)]
      ·rw [if_neg e];by_cases e2:j < na
       ·rw [if_pos e2,if_pos (by omega)]
       ·rw [if_neg e2,if_neg (by omega)])
     clear hw HR;go_wp2_with fail
     exact ⟨⟨na + 1,by go_num,by omega,HXC.out,HRN⟩,by simp [intOf];omega⟩
    ·have t1:decide (na < n) = false:=by simpa using han
     have ea:na = n:=by omega
     subst ea;have HR1:Hid (RX wr g na (Sheet.wkR JO P 0)):=Lib.hid (HR.out.congr fun j hj=>by rw [if_pos hj];rfl);have HXD:=Lib.hid hw;clear hw HR;go_upto_block 4 with fail
     clear t1;refine wp_block ?_;go_loopw [10] (fun i wr=>∃ j:Nat,i = .int .i64 (j:Nat) /\ j <= S.J.length /\ Aft wa wr /\ Hid (RX wr g na (Sheet.wkR JO P j))) (fun i _=>S.J.length - (intOf i).toNat)
     case atStart=>exact ⟨0,rfl,by omega,HXD.out,HR1⟩
     case round =>
      clear HR1 HXD;obtain ⟨j,rfl,hj,hw,HR⟩:=hrel;have HXI:=Lib.hid hw;have HXW:=Lib.hid (HXA.out.trans hw);clear hw;have c1:wr.cell? ⟨s,1,none⟩ = some (.slice A S.J.length c):=((HF0.out.later HXW.out).nth 0 rfl).cell 1;have c2:=((HF0.out.later HXW.out).nth 0 rfl).lt;by_cases hjl:j < S.J.length
      ·have t1:decide (j < S.J.length) = true:=by simpa using hjl
       obtain ⟨b9,o9,rfl,hb9,hc9⟩:=(HA.out.aft HXW.out).at hjl;obtain ⟨x0,x1,x2,x3⟩:=hc9 j hjl;have hends:=HS.out.ends _ (List.getElem_mem hjl);have hjo:=HJO.out j hjl;have hwy:=HWY.out j hjl;obtain ⟨⟨ja,jb,jx,jy⟩,hjj⟩:∃ y,S.J[j] = y:=⟨_,rfl⟩;rw [hjj] at x0 x1 x2 x3 hends hwy hjo;dsimp only at x0 x1 x2 x3 hends hjo;clear hc9 hjj;obtain ⟨an,rfl⟩:∃ an:Nat,ja = an:=⟨ja.toNat,by omega⟩;obtain ⟨bn,rfl⟩:∃ bn:Nat,jb = bn:=⟨jb.toNat,by omega⟩;simp only [Int.toNat_natCast] at hjo;have hnm:=HNN.out;have hne:an ≠ bn:=fun e=>hends.2.2 (by rw [e])
       have han2:an < na:=by omega
       have hbn2:bn < na:=by omega
       obtain ⟨nw,hnw⟩:∃ nw,way1 north ⟨(an:Int),(bn:Int),jx,jy⟩ = nw:=⟨_,rfl⟩;rw [hnw] at hwy hjo
       have HNC:Hid (∀ W,Calls Tryz.prog 41 #[.agg #[.int .i64 (an:Nat),.int .i64 (bn:Nat),.int .i64 jx,.int .i64 jy],.bool north] W fun e w'=>e = .returned (.int .i64 nw) /\ Aft W w'):=Lib.hid fun W=>by
        have:=refNumber_any ⟨(an:Int),(bn:Int),jx,jy⟩ north W;rw [hnw] at this;exact this
       obtain ⟨pa,hpa⟩:∃ x,P an = x:=⟨_,rfl⟩;obtain ⟨pb,hpb⟩:∃ x,P bn = x:=⟨_,rfl⟩;have hpa2:=HPQ.out an han2;have hpb2:=HPQ.out bn hbn2;rw [hpa] at hpa2;rw [hpb] at hpb2;have HW1:=Lib.hid (wg_fwd hjo P);have HW2:=Lib.hid (wg_back hjo P);rw [hpa] at HW1;rw [hpb] at HW2;have HCA:Hid (∀ W,Aft wa W -> W.cell? ⟨gq,an,none⟩ = some (.int .i64 pa)):=Lib.hid fun W h=>by rw [<- hpa];exact HTP.out W h an han2
       have HCB:Hid (∀ W,Aft wa W -> W.cell? ⟨gq,bn,none⟩ = some (.int .i64 pb)):=Lib.hid fun W h=>by rw [<- hpb];exact HTP.out W h bn hbn2
       obtain ⟨f,hf⟩:∃ f,Sheet.wkR JO P j = f:=⟨_,rfl⟩;have HST:Hid (Sheet.wkR JO P (j + 1) = Sheet.wg1 JO P (j,true) (Sheet.wg1 JO P (j,false) f)):=Lib.hid (by rw [<- hf];rfl);rw [hf] at HR;have ian:(0:Int) <= (an:Int) /\ (an:Int) < (na:Int):=by omega
       have ibn:(0:Int) <= (bn:Int) /\ (bn:Int) < (na:Int):=by omega
       have iqk:(0:Int) <= (q:Int) /\ (q:Int) < (k:Int):=by omega
       have hwk:IntKind.i64.wrap ((k:Int) - 1) = (q:Int):=by rw [show (k:Int) - 1 = (q:Int) by have:=HKQ.out;omega];exact IntWalk.i64_in _ (by omega)
       have HNE:=Lib.hid hne;clear hends hnw hjo hpa hpb hf hnm hne;obtain ⟨zj,hzj⟩:∃ zj,wr.heap.size = zj:=⟨_,rfl⟩;obtain ⟨W5,hW5⟩:∃ W5,wr.alloc (.cells #[.int .i64 (an:Nat),.int .i64 (bn:Nat),.int .i64 jx,.int .i64 jy] 90) = W5:=⟨_,rfl⟩;have ha5:=hW5 ▸ Aft.alloc wr (.cells #[.int .i64 (an:Nat),.int .i64 (bn:Nat),.int .i64 jx,.int .i64 jy] 90);have HB5:Hid (Blk W5 zj 90 #[.int .i64 (an:Nat),.int .i64 (bn:Nat),.int .i64 jx,.int .i64 jy]):=Lib.hid (by rw [<- hW5,<- hzj];exact (Blk.new wr 90 _));have HXI5:=Lib.hid (HXI.out.trans ha5);have HR5:=Lib.hid (HR.out.aft ha5);go_upto_region 15 with fail
       try rw [hW5]
       try rw [hzj]
       clear hW5 hzj x0 x1 x2 x3 ha5 hb9 t1 c1 c2 HXI HXW HR;have d0:W5.cell? ⟨zj,0,none⟩ = some (.int .i64 (an:Nat)):=HB5.out.cell 0;have d1:W5.cell? ⟨zj,1,none⟩ = some (.int .i64 (bn:Nat)):=HB5.out.cell 1;have d2:W5.cell? ⟨zj,2,none⟩ = some (.int .i64 jx):=HB5.out.cell 2;have d3:W5.cell? ⟨zj,3,none⟩ = some (.int .i64 jy):=HB5.out.cell 3;have d4:=HB5.out.lt;go_upto_region 16 with (go_at_call 41;refine (HNC.out _).mono ?_;rintro e w7 ⟨rfl,hw7⟩)
       have HB7:=Lib.hid (HB5.out.aft hw7);have HX7:=Lib.hid (HXI5.out.trans hw7);have HR7:=Lib.hid (HR5.out.aft hw7);clear d0 d1 d2 d3 d4 HB5 HXI5 HR5 hw7 HNC;by_cases hea:-1000000000000000000 < pa
       ·have tea:decide (-1000000000000000000 < pa) = true:=by simpa using hea
        have hwn:IntKind.i64.wrap (pa + nw) = pa + nw:=IntWalk.i64_in _ (by omega);obtain ⟨fb,hfb⟩:∃ x,f bn = x:=⟨_,rfl⟩;obtain ⟨mv,hmv⟩:∃ m,(if fb < pa + nw then pa + nw else fb) = m:=⟨_,rfl⟩;have HFB:Hid (∀ W,RX W g na f -> W.cell? ⟨g,bn,none⟩ = some (.int .i64 fb)):=Lib.hid fun W h=>by rw [<- hfb];exact h.cell hbn2
        have HF1:Hid (Sheet.wg1 JO P (j,false) f = Sheet.putR f bn mv):=Lib.hid (by rw [HW1.out,if_pos hea,hfb];rw [show Sheet.mx fb (pa + nw) = mv from hmv]);clear hfb;refine wp_region_valsG (by kernel_rfl) 180 rfl (by kernel_rfl) (by kernel_rfl) [.slice (some ⟨T,0,none⟩) k cT,.int .i64 (k:Nat),.int .i64 (q:Nat),.pointer (some ⟨T,q,none⟩),.slice (some ⟨gq,0,none⟩) na cq,.pointer (some ⟨zj,0,none⟩),.int .i64 (an:Nat),.pointer (some ⟨gq,an,none⟩),.int .i64 pa,.bool true] rfl (fun W=>Aft w7.drew W) (Aft.refl _) ?st1 ?fi1
        case st1 =>
         intro i o v ho hv
         match i,ho,hv with
         | 0,ho,hv =>
          cases ho;cases hv;refine .inl ⟨rfl,fun a W hk hw K hK=>?_⟩;have e6:=hk.same 6 (by decide);exact op_val (by simp [go_sem,ev' e6]) (hK _ hw)
         | 1,ho,hv =>
          cases ho;cases hv;refine .inl ⟨rfl,fun a W hk hw K hK=>?_⟩;have e7:=hk.same 7 (by decide);exact op_val (by simp [go_sem,ev' e7]) (hK _ hw)
         | 2,ho,hv =>
          cases ho;cases hv;refine .inl ⟨rfl,fun a W hk hw K hK=>?_⟩;have e54:=hk.at_ 1 _ 54 _ rfl (by decide) _ rfl rfl rfl;exact op_val (by simp [go_sem,ev' e54,hwk]) (hK _ hw)
         | 3,ho,hv =>
          cases ho;cases hv;refine .inl ⟨rfl,fun a W hk hw K hK=>?_⟩;have e53:=hk.at_ 0 _ 53 _ rfl (by decide) _ rfl rfl rfl;have e55:=hk.at_ 2 _ 55 _ rfl (by decide) _ rfl rfl rfl;exact op_val (by simp [go_sem,ev' e53,ev' e55,iqk]) (hK _ hw)
         | 4,ho,hv =>
          cases ho;cases hv;refine .inl ⟨rfl,fun a W hk hw K hK=>?_⟩;have e56:=hk.at_ 3 _ 56 _ rfl (by decide) _ rfl rfl rfl;exact op_val (by simp [go_sem,ev' e56,(HTT.out _ (HX7.out.trans ((Aft.drew w7).trans hw))).1]) (hK _ hw)
         | 5,ho,hv =>
          cases ho;cases hv;refine .inl ⟨rfl,fun a W hk hw K hK=>?_⟩;have e11:=hk.same 11 (by decide);exact op_val (by simp [go_sem,ev' e11]) (hK _ hw)
         | 6,ho,hv =>
          cases ho;cases hv;refine .inl ⟨rfl,fun a W hk hw K hK=>?_⟩;have e58:=hk.at_ 5 _ 58 _ rfl (by decide) _ rfl rfl rfl;exact op_val (by simp [go_sem,ev' e58,(HB7.out.aft ((Aft.drew w7).trans hw)).cell 0]) (hK _ hw)
         | 7,ho,hv =>
          cases ho;cases hv;refine .inl ⟨rfl,fun a W hk hw K hK=>?_⟩;have e57:=hk.at_ 4 _ 57 _ rfl (by decide) _ rfl rfl rfl;have e59:=hk.at_ 6 _ 59 _ rfl (by decide) _ rfl rfl rfl;exact op_val (by simp [go_sem,ev' e57,ev' e59,ian]) (hK _ hw)
         | 8,ho,hv =>
          cases ho;cases hv;refine .inl ⟨rfl,fun a W hk hw K hK=>?_⟩;have e60:=hk.at_ 7 _ 60 _ rfl (by decide) _ rfl rfl rfl;exact op_val (by simp [go_sem,ev' e60,HCA.out _ (HX7.out.trans ((Aft.drew w7).trans hw))]) (hK _ hw)
         | 9,ho,hv =>
          cases ho;cases hv;refine .inl ⟨rfl,fun a W hk hw K hK=>?_⟩;have e61:=hk.at_ 8 _ 61 _ rfl (by decide) _ rfl rfl rfl;exact op_val (by simp [go_sem,ev' e61,tea]) (hK _ hw)
         | _ + 10,_,hv=>cases hv
        intro W hw;simp only [List.drop_succ_cons,List.drop_zero,List.zip_cons_cons,List.zip_nil_right,putAll];simp only [Act.put,List.setIfInBounds_toArray,List.set];go_upto_region 17 with fail
        obtain ⟨V,hV⟩:∃ V,W = V:=⟨_,rfl⟩;rw [hV] at hw ⊢;have hh0:Aft w7 V /\ RX V g na f:=⟨(Aft.drew w7).trans hw,HR7.out.aft ((Aft.drew w7).trans hw)⟩;have HH0:=Lib.hid hh0;clear hw hV hh0;refine wp_region_valsT (by kernel_rfl) 20 180 rfl (by kernel_rfl) (by kernel_rfl) (by kernel_rfl) [.slice (some ⟨g,0,none⟩) na na,.pointer (some ⟨zj,1,none⟩),.int .i64 (bn:Nat),.slice (some ⟨g,0,none⟩) na na,.pointer (some ⟨zj,1,none⟩),.int .i64 (bn:Nat),.pointer (some ⟨g,bn,none⟩),.int .i64 fb,.slice (some ⟨T,0,none⟩) k cT,.int .i64 (k:Nat),.int .i64 (q:Nat),.pointer (some ⟨T,q,none⟩),.slice (some ⟨gq,0,none⟩) na cq,.pointer (some ⟨zj,0,none⟩),.int .i64 (an:Nat),.pointer (some ⟨gq,an,none⟩),.int .i64 pa,.int .i64 nw,.int .i64 (pa + nw),.int .i64 mv] rfl (fun _ W=>Aft V W) (Aft.drew _) ?st2 ?fi2
        case st2 =>
         intro i o v ho hv
         match i,ho,hv with
         | 0,ho,hv =>
          cases ho;cases hv;refine .inl ⟨rfl,fun done a W hd hp hk hw K hK=>?_⟩;have e8:=hk.same 8 (by decide);exact op_val (by simp [go_sem,ev' e8]) (hK _ hw)
         | 1,ho,hv =>
          cases ho;cases hv;refine .inl ⟨rfl,fun done a W hd hp hk hw K hK=>?_⟩;have e11:=hk.same 11 (by decide);exact op_val (by simp [go_sem,ev' e11]) (hK _ hw)
         | 2,ho,hv =>
          cases ho;cases hv;refine .inl ⟨rfl,fun done a W hd hp hk hw K hK=>?_⟩;have e64:=hk.at_ 1 _ 64 _ rfl (by decide) _ rfl rfl rfl;exact op_val (by simp [go_sem,ev' e64,(HB7.out.aft (HH0.out.1.trans hw)).cell 1]) (hK _ hw)
         | 3,ho,hv =>
          cases ho;cases hv;refine .inl ⟨rfl,fun done a W hd hp hk hw K hK=>?_⟩;have e8:=hk.same 8 (by decide);exact op_val (by simp [go_sem,ev' e8]) (hK _ hw)
         | 4,ho,hv =>
          cases ho;cases hv;refine .inl ⟨rfl,fun done a W hd hp hk hw K hK=>?_⟩;have e11:=hk.same 11 (by decide);exact op_val (by simp [go_sem,ev' e11]) (hK _ hw)
         | 5,ho,hv =>
          cases ho;cases hv;refine .inl ⟨rfl,fun done a W hd hp hk hw K hK=>?_⟩;have e67:=hk.at_ 4 _ 67 _ rfl (by decide) _ rfl rfl rfl;exact op_val (by simp [go_sem,ev' e67,(HB7.out.aft (HH0.out.1.trans hw)).cell 1]) (hK _ hw)
         | 6,ho,hv =>
          cases ho;cases hv;refine .inl ⟨rfl,fun done a W hd hp hk hw K hK=>?_⟩;have e66:=hk.at_ 3 _ 66 _ rfl (by decide) _ rfl rfl rfl;have e68:=hk.at_ 5 _ 68 _ rfl (by decide) _ rfl rfl rfl;exact op_val (by simp [go_sem,ev' e66,ev' e68,ibn]) (hK _ hw)
         | 7,ho,hv =>
          cases ho;cases hv;refine .inl ⟨rfl,fun done a W hd hp hk hw K hK=>?_⟩;have e69:=hk.at_ 6 _ 69 _ rfl (by decide) _ rfl rfl rfl;exact op_val (by simp [go_sem,ev' e69,HFB.out _ (HH0.out.2.aft hw)]) (hK _ hw)
         | 8,ho,hv =>
          cases ho;cases hv;refine .inl ⟨rfl,fun done a W hd hp hk hw K hK=>?_⟩;have e6:=hk.same 6 (by decide);exact op_val (by simp [go_sem,ev' e6]) (hK _ hw)
         | 9,ho,hv =>
          cases ho;cases hv;refine .inl ⟨rfl,fun done a W hd hp hk hw K hK=>?_⟩;have e7:=hk.same 7 (by decide);exact op_val (by simp [go_sem,ev' e7]) (hK _ hw)
         | 10,ho,hv =>
          cases ho;cases hv;refine .inl ⟨rfl,fun done a W hd hp hk hw K hK=>?_⟩;have e72:=hk.at_ 9 _ 72 _ rfl (by decide) _ rfl rfl rfl;exact op_val (by simp [go_sem,ev' e72,hwk]) (hK _ hw)
         | 11,ho,hv =>
          cases ho;cases hv;refine .inl ⟨rfl,fun done a W hd hp hk hw K hK=>?_⟩;have e71:=hk.at_ 8 _ 71 _ rfl (by decide) _ rfl rfl rfl;have e73:=hk.at_ 10 _ 73 _ rfl (by decide) _ rfl rfl rfl;exact op_val (by simp [go_sem,ev' e71,ev' e73,iqk]) (hK _ hw)
         | 12,ho,hv =>
          cases ho;cases hv;refine .inl ⟨rfl,fun done a W hd hp hk hw K hK=>?_⟩;have e74:=hk.at_ 11 _ 74 _ rfl (by decide) _ rfl rfl rfl;exact op_val (by simp [go_sem,ev' e74,(HTT.out _ (HX7.out.trans (HH0.out.1.trans hw))).1]) (hK _ hw)
         | 13,ho,hv =>
          cases ho;cases hv;refine .inl ⟨rfl,fun done a W hd hp hk hw K hK=>?_⟩;have e11:=hk.same 11 (by decide);exact op_val (by simp [go_sem,ev' e11]) (hK _ hw)
         | 14,ho,hv =>
          cases ho;cases hv;refine .inl ⟨rfl,fun done a W hd hp hk hw K hK=>?_⟩;have e76:=hk.at_ 13 _ 76 _ rfl (by decide) _ rfl rfl rfl;exact op_val (by simp [go_sem,ev' e76,(HB7.out.aft (HH0.out.1.trans hw)).cell 0]) (hK _ hw)
         | 15,ho,hv =>
          cases ho;cases hv;refine .inl ⟨rfl,fun done a W hd hp hk hw K hK=>?_⟩;have e75:=hk.at_ 12 _ 75 _ rfl (by decide) _ rfl rfl rfl;have e77:=hk.at_ 14 _ 77 _ rfl (by decide) _ rfl rfl rfl;exact op_val (by simp [go_sem,ev' e75,ev' e77,ian]) (hK _ hw)
         | 16,ho,hv =>
          cases ho;cases hv;refine .inl ⟨rfl,fun done a W hd hp hk hw K hK=>?_⟩;have e78:=hk.at_ 15 _ 78 _ rfl (by decide) _ rfl rfl rfl;exact op_val (by simp [go_sem,ev' e78,HCA.out _ (HX7.out.trans (HH0.out.1.trans hw))]) (hK _ hw)
         | 17,ho,hv =>
          cases ho;cases hv;refine .inl ⟨rfl,fun done a W hd hp hk hw K hK=>?_⟩;have e12:=hk.same 12 (by decide);exact op_val (by simp [go_sem,ev' e12]) (hK _ hw)
         | 18,ho,hv =>
          cases ho;cases hv;refine .inl ⟨rfl,fun done a W hd hp hk hw K hK=>?_⟩;have e79:=hk.at_ 16 _ 79 _ rfl (by decide) _ rfl rfl rfl;have e80:=hk.at_ 17 _ 80 _ rfl (by decide) _ rfl rfl rfl;exact op_val (by simp [go_sem,ev' e79,ev' e80,hwn]) (hK _ hw)
         | 19,ho,hv =>
          cases ho;cases hv;refine .inl ⟨rfl,fun done a W hd hp hk hw K hK=>?_⟩;have e70:=hk.at_ 7 _ 70 _ rfl (by decide) _ rfl rfl rfl;have e81:=hk.at_ 18 _ 81 _ rfl (by decide) _ rfl rfl rfl;exact op_val (by simp [go_sem,ev' e70,ev' e81,hmv]) (hK _ hw)
         | _ + 20,_,hv=>cases hv
        intro done W hd hw;simp only [List.drop_succ_cons,List.drop_zero,List.zip_cons_cons,List.zip_nil_right,putAll];simp only [Act.put,List.setIfInBounds_toArray,List.set];clear hd;obtain ⟨Y,hY⟩:∃ Y,W = Y:=⟨_,rfl⟩;rw [hY] at hw ⊢;have HX8:=Lib.hid (HH0.out.1.trans hw);have HR8:=Lib.hid (HR7.out.aft HX8.out);have e0:=HFB.out _ HR8.out;have e1:=HR8.out.frozen bn;have e2:=HR8.out.lt;clear hw HH0 hY;have HR9:Hid (RX (Y.setCell ⟨g,bn,none⟩ (.int .i64 mv)) g na (Sheet.wg1 JO P (j,false) f)):=Lib.hid (by rw [HF1.out];exact HR8.out.put bn mv);have HX9:=Lib.hid ((HX7.out.trans HX8.out).then_setCell (p:=⟨g,bn,none⟩) (by show wa.heap.size <= g;rw [HG.out];exact Nat.le_refl _) (.int .i64 mv))
        have HB9:Hid (Blk (Y.setCell ⟨g,bn,none⟩ (.int .i64 mv)) zj 90 #[.int .i64 (an:Nat),.int .i64 (bn:Nat),.int .i64 jx,.int .i64 jy]):=Lib.hid ((HB7.out.aft HX8.out).far (p:=⟨g,bn,none⟩) (fun e=>by
         have h1:(w7.heap[g]?) = w7.heap[g]?:=rfl;have h2:zj = g:=e;have h3:=HB7.out;have h4:=HR7.out;rw [h2] at h3;unfold RX at h4;unfold Blk at h3 h4;rw [h3] at h4;injection h4 with h4
         injection h4 with h4 h5
         exact absurd h5 (by decide)) _)
        go_upto_region 18 with fail
        have hX9:∃ X9,Y.setCell ⟨g,bn,none⟩ (.int .i64 mv) = X9:=⟨_,rfl⟩;obtain ⟨X9,hX9⟩:=hX9;rw [hX9] at HR9 HX9 HB9 ⊢;clear hX9 e0 e1 e2 HX8 HR8 HX7 HR7 HB7 HF1 HFB HW1;obtain ⟨f9,hf9⟩:∃ x,Sheet.wg1 JO P (j,false) f = x:=⟨_,rfl⟩;rw [hf9] at HR9 HST;have HST:=Lib.hid HST.out;clear hf9;by_cases heb:-1000000000000000000 < pb
        ·have teb:decide (-1000000000000000000 < pb) = true:=by simpa using heb
         have hwn2:IntKind.i64.wrap (pb - nw) = pb - nw:=IntWalk.i64_in _ (by omega);obtain ⟨fa,hfa⟩:∃ x,f9 an = x:=⟨_,rfl⟩;obtain ⟨mv2,hmv2⟩:∃ m,(if fa < pb - nw then pb - nw else fa) = m:=⟨_,rfl⟩;have HFA:Hid (∀ W,RX W g na f9 -> W.cell? ⟨g,an,none⟩ = some (.int .i64 fa)):=Lib.hid fun W h=>by rw [<- hfa];exact h.cell han2
         have HF2:Hid (Sheet.wkR JO P (j + 1) = Sheet.putR f9 an mv2):=Lib.hid (by rw [HST.out,HW2.out,if_pos heb,hfa];rw [show Sheet.mx fa (pb - nw) = mv2 from hmv2]);clear hfa;refine wp_region_valsG (by kernel_rfl) 180 rfl (by kernel_rfl) (by kernel_rfl) [.slice (some ⟨T,0,none⟩) k cT,.int .i64 (k:Nat),.int .i64 (q:Nat),.pointer (some ⟨T,q,none⟩),.slice (some ⟨gq,0,none⟩) na cq,.pointer (some ⟨zj,1,none⟩),.int .i64 (bn:Nat),.pointer (some ⟨gq,bn,none⟩),.int .i64 pb,.bool true] rfl (fun W=>Aft X9.drew W) (Aft.refl _) ?st3 ?fi3
         case st3 =>
          intro i o v ho hv
          match i,ho,hv with
          | 0,ho,hv =>
           cases ho;cases hv;refine .inl ⟨rfl,fun a W hk hw K hK=>?_⟩;have e6:=hk.same 6 (by decide);exact op_val (by simp [go_sem,ev' e6]) (hK _ hw)
          | 1,ho,hv =>
           cases ho;cases hv;refine .inl ⟨rfl,fun a W hk hw K hK=>?_⟩;have e7:=hk.same 7 (by decide);exact op_val (by simp [go_sem,ev' e7]) (hK _ hw)
          | 2,ho,hv =>
           cases ho;cases hv;refine .inl ⟨rfl,fun a W hk hw K hK=>?_⟩;have e85:=hk.at_ 1 _ 85 _ rfl (by decide) _ rfl rfl rfl;exact op_val (by simp [go_sem,ev' e85,hwk]) (hK _ hw)
          | 3,ho,hv =>
           cases ho;cases hv;refine .inl ⟨rfl,fun a W hk hw K hK=>?_⟩;have e84:=hk.at_ 0 _ 84 _ rfl (by decide) _ rfl rfl rfl;have e86:=hk.at_ 2 _ 86 _ rfl (by decide) _ rfl rfl rfl;exact op_val (by simp [go_sem,ev' e84,ev' e86,iqk]) (hK _ hw)
          | 4,ho,hv =>
           cases ho;cases hv;refine .inl ⟨rfl,fun a W hk hw K hK=>?_⟩;have e87:=hk.at_ 3 _ 87 _ rfl (by decide) _ rfl rfl rfl;exact op_val (by simp [go_sem,ev' e87,(HTT.out _ (HX9.out.trans ((Aft.drew X9).trans hw))).1]) (hK _ hw)
          | 5,ho,hv =>
           cases ho;cases hv;refine .inl ⟨rfl,fun a W hk hw K hK=>?_⟩;have e11:=hk.same 11 (by decide);exact op_val (by simp [go_sem,ev' e11]) (hK _ hw)
          | 6,ho,hv =>
           cases ho;cases hv;refine .inl ⟨rfl,fun a W hk hw K hK=>?_⟩;have e89:=hk.at_ 5 _ 89 _ rfl (by decide) _ rfl rfl rfl;exact op_val (by simp [go_sem,ev' e89,(HB9.out.aft ((Aft.drew X9).trans hw)).cell 1]) (hK _ hw)
          | 7,ho,hv =>
           cases ho;cases hv;refine .inl ⟨rfl,fun a W hk hw K hK=>?_⟩;have e88:=hk.at_ 4 _ 88 _ rfl (by decide) _ rfl rfl rfl;have e90:=hk.at_ 6 _ 90 _ rfl (by decide) _ rfl rfl rfl;exact op_val (by simp [go_sem,ev' e88,ev' e90,ibn]) (hK _ hw)
          | 8,ho,hv =>
           cases ho;cases hv;refine .inl ⟨rfl,fun a W hk hw K hK=>?_⟩;have e91:=hk.at_ 7 _ 91 _ rfl (by decide) _ rfl rfl rfl;exact op_val (by simp [go_sem,ev' e91,HCB.out _ (HX9.out.trans ((Aft.drew X9).trans hw))]) (hK _ hw)
          | 9,ho,hv =>
           cases ho;cases hv;refine .inl ⟨rfl,fun a W hk hw K hK=>?_⟩;have e92:=hk.at_ 8 _ 92 _ rfl (by decide) _ rfl rfl rfl;exact op_val (by simp [go_sem,ev' e92,teb]) (hK _ hw)
          | _ + 10,_,hv=>cases hv
         intro W hw;simp only [List.drop_succ_cons,List.drop_zero,List.zip_cons_cons,List.zip_nil_right,putAll];simp only [Act.put,List.setIfInBounds_toArray,List.set];go_upto_region 19 with fail
         obtain ⟨Y,hY⟩:∃ Y,W = Y:=⟨_,rfl⟩;rw [hY] at hw ⊢;have HXY:=Lib.hid ((Aft.drew X9).trans hw);clear hw hY;refine wp_region_valsT (by kernel_rfl) 20 180 rfl (by kernel_rfl) (by kernel_rfl) (by kernel_rfl) [.slice (some ⟨g,0,none⟩) na na,.pointer (some ⟨zj,0,none⟩),.int .i64 (an:Nat),.slice (some ⟨g,0,none⟩) na na,.pointer (some ⟨zj,0,none⟩),.int .i64 (an:Nat),.pointer (some ⟨g,an,none⟩),.int .i64 fa,.slice (some ⟨T,0,none⟩) k cT,.int .i64 (k:Nat),.int .i64 (q:Nat),.pointer (some ⟨T,q,none⟩),.slice (some ⟨gq,0,none⟩) na cq,.pointer (some ⟨zj,1,none⟩),.int .i64 (bn:Nat),.pointer (some ⟨gq,bn,none⟩),.int .i64 pb,.int .i64 nw,.int .i64 (pb - nw),.int .i64 mv2] rfl (fun _ W=>Aft Y W) (Aft.drew _) ?st4 ?fi4
         case st4 =>
          intro i o v ho hv
          match i,ho,hv with
          | 0,ho,hv =>
           cases ho;cases hv;refine .inl ⟨rfl,fun done a W hd hp hk hw K hK=>?_⟩;have e8:=hk.same 8 (by decide);exact op_val (by simp [go_sem,ev' e8]) (hK _ hw)
          | 1,ho,hv =>
           cases ho;cases hv;refine .inl ⟨rfl,fun done a W hd hp hk hw K hK=>?_⟩;have e11:=hk.same 11 (by decide);exact op_val (by simp [go_sem,ev' e11]) (hK _ hw)
          | 2,ho,hv =>
           cases ho;cases hv;refine .inl ⟨rfl,fun done a W hd hp hk hw K hK=>?_⟩;have e95:=hk.at_ 1 _ 95 _ rfl (by decide) _ rfl rfl rfl;exact op_val (by simp [go_sem,ev' e95,(HB9.out.aft (HXY.out.trans hw)).cell 0]) (hK _ hw)
          | 3,ho,hv =>
           cases ho;cases hv;refine .inl ⟨rfl,fun done a W hd hp hk hw K hK=>?_⟩;have e8:=hk.same 8 (by decide);exact op_val (by simp [go_sem,ev' e8]) (hK _ hw)
          | 4,ho,hv =>
           cases ho;cases hv;refine .inl ⟨rfl,fun done a W hd hp hk hw K hK=>?_⟩;have e11:=hk.same 11 (by decide);exact op_val (by simp [go_sem,ev' e11]) (hK _ hw)
          | 5,ho,hv =>
           cases ho;cases hv;refine .inl ⟨rfl,fun done a W hd hp hk hw K hK=>?_⟩;have e98:=hk.at_ 4 _ 98 _ rfl (by decide) _ rfl rfl rfl;exact op_val (by simp [go_sem,ev' e98,(HB9.out.aft (HXY.out.trans hw)).cell 0]) (hK _ hw)
          | 6,ho,hv =>
           cases ho;cases hv;refine .inl ⟨rfl,fun done a W hd hp hk hw K hK=>?_⟩;have e97:=hk.at_ 3 _ 97 _ rfl (by decide) _ rfl rfl rfl;have e99:=hk.at_ 5 _ 99 _ rfl (by decide) _ rfl rfl rfl;exact op_val (by simp [go_sem,ev' e97,ev' e99,ian]) (hK _ hw)
          | 7,ho,hv =>
           cases ho;cases hv;refine .inl ⟨rfl,fun done a W hd hp hk hw K hK=>?_⟩;have e100:=hk.at_ 6 _ 100 _ rfl (by decide) _ rfl rfl rfl;exact op_val (by simp [go_sem,ev' e100,HFA.out _ (HR9.out.aft (HXY.out.trans hw))]) (hK _ hw)
          | 8,ho,hv =>
           cases ho;cases hv;refine .inl ⟨rfl,fun done a W hd hp hk hw K hK=>?_⟩;have e6:=hk.same 6 (by decide);exact op_val (by simp [go_sem,ev' e6]) (hK _ hw)
          | 9,ho,hv =>
           cases ho;cases hv;refine .inl ⟨rfl,fun done a W hd hp hk hw K hK=>?_⟩;have e7:=hk.same 7 (by decide);exact op_val (by simp [go_sem,ev' e7]) (hK _ hw)
          | 10,ho,hv =>
           cases ho;cases hv;refine .inl ⟨rfl,fun done a W hd hp hk hw K hK=>?_⟩;have e103:=hk.at_ 9 _ 103 _ rfl (by decide) _ rfl rfl rfl;exact op_val (by simp [go_sem,ev' e103,hwk]) (hK _ hw)
          | 11,ho,hv =>
           cases ho;cases hv;refine .inl ⟨rfl,fun done a W hd hp hk hw K hK=>?_⟩;have e102:=hk.at_ 8 _ 102 _ rfl (by decide) _ rfl rfl rfl;have e104:=hk.at_ 10 _ 104 _ rfl (by decide) _ rfl rfl rfl;exact op_val (by simp [go_sem,ev' e102,ev' e104,iqk]) (hK _ hw)
          | 12,ho,hv =>
           cases ho;cases hv;refine .inl ⟨rfl,fun done a W hd hp hk hw K hK=>?_⟩;have e105:=hk.at_ 11 _ 105 _ rfl (by decide) _ rfl rfl rfl;exact op_val (by simp [go_sem,ev' e105,(HTT.out _ (HX9.out.trans (HXY.out.trans hw))).1]) (hK _ hw)
          | 13,ho,hv =>
           cases ho;cases hv;refine .inl ⟨rfl,fun done a W hd hp hk hw K hK=>?_⟩;have e11:=hk.same 11 (by decide);exact op_val (by simp [go_sem,ev' e11]) (hK _ hw)
          | 14,ho,hv =>
           cases ho;cases hv;refine .inl ⟨rfl,fun done a W hd hp hk hw K hK=>?_⟩;have e107:=hk.at_ 13 _ 107 _ rfl (by decide) _ rfl rfl rfl;exact op_val (by simp [go_sem,ev' e107,(HB9.out.aft (HXY.out.trans hw)).cell 1]) (hK _ hw)
          | 15,ho,hv =>
           cases ho;cases hv;refine .inl ⟨rfl,fun done a W hd hp hk hw K hK=>?_⟩;have e106:=hk.at_ 12 _ 106 _ rfl (by decide) _ rfl rfl rfl;have e108:=hk.at_ 14 _ 108 _ rfl (by decide) _ rfl rfl rfl;exact op_val (by simp [go_sem,ev' e106,ev' e108,ibn]) (hK _ hw)
          | 16,ho,hv =>
           cases ho;cases hv;refine .inl ⟨rfl,fun done a W hd hp hk hw K hK=>?_⟩;have e109:=hk.at_ 15 _ 109 _ rfl (by decide) _ rfl rfl rfl;exact op_val (by simp [go_sem,ev' e109,HCB.out _ (HX9.out.trans (HXY.out.trans hw))]) (hK _ hw)
          | 17,ho,hv =>
           cases ho;cases hv;refine .inl ⟨rfl,fun done a W hd hp hk hw K hK=>?_⟩;have e12:=hk.same 12 (by decide);exact op_val (by simp [go_sem,ev' e12]) (hK _ hw)
          | 18,ho,hv =>
           cases ho;cases hv;refine .inl ⟨rfl,fun done a W hd hp hk hw K hK=>?_⟩;have e110:=hk.at_ 16 _ 110 _ rfl (by decide) _ rfl rfl rfl;have e111:=hk.at_ 17 _ 111 _ rfl (by decide) _ rfl rfl rfl;exact op_val (by simp [go_sem,ev' e110,ev' e111,hwn2]) (hK _ hw)
          | 19,ho,hv =>
           cases ho;cases hv;refine .inl ⟨rfl,fun done a W hd hp hk hw K hK=>?_⟩;have e101:=hk.at_ 7 _ 101 _ rfl (by decide) _ rfl rfl rfl;have e112:=hk.at_ 18 _ 112 _ rfl (by decide) _ rfl rfl rfl;exact op_val (by simp [go_sem,ev' e101,ev' e112,hmv2]) (hK _ hw)
          | _ + 20,_,hv=>cases hv
         intro done W hd hw;simp only [List.drop_succ_cons,List.drop_zero,List.zip_cons_cons,List.zip_nil_right,putAll];simp only [Act.put,List.setIfInBounds_toArray,List.set];clear hd;have HX10:=Lib.hid (HXY.out.trans hw);have HR10:=Lib.hid (HR9.out.aft HX10.out);have e0:=HFA.out _ HR10.out;have e1:=HR10.out.frozen an;have e2:=HR10.out.lt;obtain ⟨Z,hZ⟩:∃ Z,W = Z:=⟨_,rfl⟩;rw [hZ] at HX10 HR10 e0 e1 e2 ⊢;clear hw hZ;have HR11:Hid (RX (Z.setCell ⟨g,an,none⟩ (.int .i64 mv2)) g na (Sheet.wkR JO P (j + 1))):=Lib.hid (by rw [HF2.out];exact HR10.out.put an mv2);have HX11:=Lib.hid ((HX9.out.trans HX10.out).then_setCell (p:=⟨g,an,none⟩) (by show wa.heap.size <= g;rw [HG.out];exact Nat.le_refl _) (.int .i64 mv2));go_wp2_with fail
         exact ⟨⟨j + 1,by go_num,by omega,HX11.out,HR11⟩,by simp [intOf];omega⟩
        ·have teb:decide (-1000000000000000000 < pb) = false:=by simpa using heb
         have HF2:Hid (Sheet.wkR JO P (j + 1) = f9):=Lib.hid (by rw [HST.out,HW2.out,if_neg heb]);refine wp_region_valsG (by kernel_rfl) 180 rfl (by kernel_rfl) (by kernel_rfl) [.slice (some ⟨T,0,none⟩) k cT,.int .i64 (k:Nat),.int .i64 (q:Nat),.pointer (some ⟨T,q,none⟩),.slice (some ⟨gq,0,none⟩) na cq,.pointer (some ⟨zj,1,none⟩),.int .i64 (bn:Nat),.pointer (some ⟨gq,bn,none⟩),.int .i64 pb,.bool false] rfl (fun W=>Aft X9.drew W) (Aft.refl _) ?st5 ?fi5
         case st5 =>
          intro i o v ho hv
          match i,ho,hv with
          | 0,ho,hv =>
           cases ho;cases hv;refine .inl ⟨rfl,fun a W hk hw K hK=>?_⟩;have e6:=hk.same 6 (by decide);exact op_val (by simp [go_sem,ev' e6]) (hK _ hw)
          | 1,ho,hv =>
           cases ho;cases hv;refine .inl ⟨rfl,fun a W hk hw K hK=>?_⟩;have e7:=hk.same 7 (by decide);exact op_val (by simp [go_sem,ev' e7]) (hK _ hw)
          | 2,ho,hv =>
           cases ho;cases hv;refine .inl ⟨rfl,fun a W hk hw K hK=>?_⟩;have e85:=hk.at_ 1 _ 85 _ rfl (by decide) _ rfl rfl rfl;exact op_val (by simp [go_sem,ev' e85,hwk]) (hK _ hw)
          | 3,ho,hv =>
           cases ho;cases hv;refine .inl ⟨rfl,fun a W hk hw K hK=>?_⟩;have e84:=hk.at_ 0 _ 84 _ rfl (by decide) _ rfl rfl rfl;have e86:=hk.at_ 2 _ 86 _ rfl (by decide) _ rfl rfl rfl;exact op_val (by simp [go_sem,ev' e84,ev' e86,iqk]) (hK _ hw)
          | 4,ho,hv =>
           cases ho;cases hv;refine .inl ⟨rfl,fun a W hk hw K hK=>?_⟩;have e87:=hk.at_ 3 _ 87 _ rfl (by decide) _ rfl rfl rfl;exact op_val (by simp [go_sem,ev' e87,(HTT.out _ (HX9.out.trans ((Aft.drew X9).trans hw))).1]) (hK _ hw)
          | 5,ho,hv =>
           cases ho;cases hv;refine .inl ⟨rfl,fun a W hk hw K hK=>?_⟩;have e11:=hk.same 11 (by decide);exact op_val (by simp [go_sem,ev' e11]) (hK _ hw)
          | 6,ho,hv =>
           cases ho;cases hv;refine .inl ⟨rfl,fun a W hk hw K hK=>?_⟩;have e89:=hk.at_ 5 _ 89 _ rfl (by decide) _ rfl rfl rfl;exact op_val (by simp [go_sem,ev' e89,(HB9.out.aft ((Aft.drew X9).trans hw)).cell 1]) (hK _ hw)
          | 7,ho,hv =>
           cases ho;cases hv;refine .inl ⟨rfl,fun a W hk hw K hK=>?_⟩;have e88:=hk.at_ 4 _ 88 _ rfl (by decide) _ rfl rfl rfl;have e90:=hk.at_ 6 _ 90 _ rfl (by decide) _ rfl rfl rfl;exact op_val (by simp [go_sem,ev' e88,ev' e90,ibn]) (hK _ hw)
          | 8,ho,hv =>
           cases ho;cases hv;refine .inl ⟨rfl,fun a W hk hw K hK=>?_⟩;have e91:=hk.at_ 7 _ 91 _ rfl (by decide) _ rfl rfl rfl;exact op_val (by simp [go_sem,ev' e91,HCB.out _ (HX9.out.trans ((Aft.drew X9).trans hw))]) (hK _ hw)
          | 9,ho,hv =>
           cases ho;cases hv;refine .inl ⟨rfl,fun a W hk hw K hK=>?_⟩;have e92:=hk.at_ 8 _ 92 _ rfl (by decide) _ rfl rfl rfl;exact op_val (by simp [go_sem,ev' e92,teb]) (hK _ hw)
          | _ + 10,_,hv=>cases hv
         intro W hw;simp only [List.drop_succ_cons,List.drop_zero,List.zip_cons_cons,List.zip_nil_right,putAll];simp only [Act.put,List.setIfInBounds_toArray,List.set];have HX11:=Lib.hid (HX9.out.trans ((Aft.drew X9).trans hw));have HR11:Hid (RX W g na (Sheet.wkR JO P (j + 1))):=Lib.hid (by rw [HF2.out];exact HR9.out.aft ((Aft.drew X9).trans hw));clear hw;go_wp2_with fail
         exact ⟨⟨j + 1,by go_num,by omega,HX11.out,HR11⟩,by simp [intOf];omega⟩
       ·have tea:decide (-1000000000000000000 < pa) = false:=by simpa using hea
        have HF1:Hid (Sheet.wg1 JO P (j,false) f = f):=Lib.hid (by rw [HW1.out,if_neg hea]);refine wp_region_valsG (by kernel_rfl) 180 rfl (by kernel_rfl) (by kernel_rfl) [.slice (some ⟨T,0,none⟩) k cT,.int .i64 (k:Nat),.int .i64 (q:Nat),.pointer (some ⟨T,q,none⟩),.slice (some ⟨gq,0,none⟩) na cq,.pointer (some ⟨zj,0,none⟩),.int .i64 (an:Nat),.pointer (some ⟨gq,an,none⟩),.int .i64 pa,.bool false] rfl (fun W=>Aft w7.drew W) (Aft.refl _) ?st6 ?fi6
        case st6 =>
         intro i o v ho hv
         match i,ho,hv with
         | 0,ho,hv =>
          cases ho;cases hv;refine .inl ⟨rfl,fun a W hk hw K hK=>?_⟩;have e6:=hk.same 6 (by decide);exact op_val (by simp [go_sem,ev' e6]) (hK _ hw)
         | 1,ho,hv =>
          cases ho;cases hv;refine .inl ⟨rfl,fun a W hk hw K hK=>?_⟩;have e7:=hk.same 7 (by decide);exact op_val (by simp [go_sem,ev' e7]) (hK _ hw)
         | 2,ho,hv =>
          cases ho;cases hv;refine .inl ⟨rfl,fun a W hk hw K hK=>?_⟩;have e54:=hk.at_ 1 _ 54 _ rfl (by decide) _ rfl rfl rfl;exact op_val (by simp [go_sem,ev' e54,hwk]) (hK _ hw)
         | 3,ho,hv =>
          cases ho;cases hv;refine .inl ⟨rfl,fun a W hk hw K hK=>?_⟩;have e53:=hk.at_ 0 _ 53 _ rfl (by decide) _ rfl rfl rfl;have e55:=hk.at_ 2 _ 55 _ rfl (by decide) _ rfl rfl rfl;exact op_val (by simp [go_sem,ev' e53,ev' e55,iqk]) (hK _ hw)
         | 4,ho,hv =>
          cases ho;cases hv;refine .inl ⟨rfl,fun a W hk hw K hK=>?_⟩;have e56:=hk.at_ 3 _ 56 _ rfl (by decide) _ rfl rfl rfl;exact op_val (by simp [go_sem,ev' e56,(HTT.out _ (HX7.out.trans ((Aft.drew w7).trans hw))).1]) (hK _ hw)
         | 5,ho,hv =>
          cases ho;cases hv;refine .inl ⟨rfl,fun a W hk hw K hK=>?_⟩;have e11:=hk.same 11 (by decide);exact op_val (by simp [go_sem,ev' e11]) (hK _ hw)
         | 6,ho,hv =>
          cases ho;cases hv;refine .inl ⟨rfl,fun a W hk hw K hK=>?_⟩;have e58:=hk.at_ 5 _ 58 _ rfl (by decide) _ rfl rfl rfl;exact op_val (by simp [go_sem,ev' e58,(HB7.out.aft ((Aft.drew w7).trans hw)).cell 0]) (hK _ hw)
         | 7,ho,hv =>
          cases ho;cases hv;refine .inl ⟨rfl,fun a W hk hw K hK=>?_⟩;have e57:=hk.at_ 4 _ 57 _ rfl (by decide) _ rfl rfl rfl;have e59:=hk.at_ 6 _ 59 _ rfl (by decide) _ rfl rfl rfl;exact op_val (by simp [go_sem,ev' e57,ev' e59,ian]) (hK _ hw)
         | 8,ho,hv =>
          cases ho;cases hv;refine .inl ⟨rfl,fun a W hk hw K hK=>?_⟩;have e60:=hk.at_ 7 _ 60 _ rfl (by decide) _ rfl rfl rfl;exact op_val (by simp [go_sem,ev' e60,HCA.out _ (HX7.out.trans ((Aft.drew w7).trans hw))]) (hK _ hw)
         | 9,ho,hv =>
          cases ho;cases hv;refine .inl ⟨rfl,fun a W hk hw K hK=>?_⟩;have e61:=hk.at_ 8 _ 61 _ rfl (by decide) _ rfl rfl rfl;exact op_val (by simp [go_sem,ev' e61,tea]) (hK _ hw)
         | _ + 10,_,hv=>cases hv
        intro W hw;simp only [List.drop_succ_cons,List.drop_zero,List.zip_cons_cons,List.zip_nil_right,putAll];simp only [Act.put,List.setIfInBounds_toArray,List.set];go_upto_region 18 with fail
        have HR9:=Lib.hid (HR7.out.aft ((Aft.drew w7).trans hw));have HX9:=Lib.hid (HX7.out.trans ((Aft.drew w7).trans hw));have HB9:=Lib.hid (HB7.out.aft ((Aft.drew w7).trans hw));obtain ⟨X9,hX9⟩:∃ X,W = X:=⟨_,rfl⟩;rw [hX9] at HR9 HX9 HB9 ⊢;rw [HF1.out] at HST;have HST:=Lib.hid HST.out;clear hX9 hw HX7 HR7 HB7 HF1 HW1;obtain ⟨f9,hf9⟩:∃ x,f = x:=⟨_,rfl⟩;rw [hf9] at HR9 HST;clear hf9;by_cases heb:-1000000000000000000 < pb
        ·have teb:decide (-1000000000000000000 < pb) = true:=by simpa using heb
         have hwn2:IntKind.i64.wrap (pb - nw) = pb - nw:=IntWalk.i64_in _ (by omega);obtain ⟨fa,hfa⟩:∃ x,f9 an = x:=⟨_,rfl⟩;obtain ⟨mv2,hmv2⟩:∃ m,(if fa < pb - nw then pb - nw else fa) = m:=⟨_,rfl⟩;have HFA:Hid (∀ W,RX W g na f9 -> W.cell? ⟨g,an,none⟩ = some (.int .i64 fa)):=Lib.hid fun W h=>by rw [<- hfa];exact h.cell han2
         have HF2:Hid (Sheet.wkR JO P (j + 1) = Sheet.putR f9 an mv2):=Lib.hid (by rw [HST.out,HW2.out,if_pos heb,hfa];rw [show Sheet.mx fa (pb - nw) = mv2 from hmv2]);clear hfa;refine wp_region_valsG (by kernel_rfl) 180 rfl (by kernel_rfl) (by kernel_rfl) [.slice (some ⟨T,0,none⟩) k cT,.int .i64 (k:Nat),.int .i64 (q:Nat),.pointer (some ⟨T,q,none⟩),.slice (some ⟨gq,0,none⟩) na cq,.pointer (some ⟨zj,1,none⟩),.int .i64 (bn:Nat),.pointer (some ⟨gq,bn,none⟩),.int .i64 pb,.bool true] rfl (fun W=>Aft X9.drew W) (Aft.refl _) ?st7 ?fi7
         case st7 =>
          intro i o v ho hv
          match i,ho,hv with
          | 0,ho,hv =>
           cases ho;cases hv;refine .inl ⟨rfl,fun a W hk hw K hK=>?_⟩;have e6:=hk.same 6 (by decide);exact op_val (by simp [go_sem,ev' e6]) (hK _ hw)
          | 1,ho,hv =>
           cases ho;cases hv;refine .inl ⟨rfl,fun a W hk hw K hK=>?_⟩;have e7:=hk.same 7 (by decide);exact op_val (by simp [go_sem,ev' e7]) (hK _ hw)
          | 2,ho,hv =>
           cases ho;cases hv;refine .inl ⟨rfl,fun a W hk hw K hK=>?_⟩;have e85:=hk.at_ 1 _ 85 _ rfl (by decide) _ rfl rfl rfl;exact op_val (by simp [go_sem,ev' e85,hwk]) (hK _ hw)
          | 3,ho,hv =>
           cases ho;cases hv;refine .inl ⟨rfl,fun a W hk hw K hK=>?_⟩;have e84:=hk.at_ 0 _ 84 _ rfl (by decide) _ rfl rfl rfl;have e86:=hk.at_ 2 _ 86 _ rfl (by decide) _ rfl rfl rfl;exact op_val (by simp [go_sem,ev' e84,ev' e86,iqk]) (hK _ hw)
          | 4,ho,hv =>
           cases ho;cases hv;refine .inl ⟨rfl,fun a W hk hw K hK=>?_⟩;have e87:=hk.at_ 3 _ 87 _ rfl (by decide) _ rfl rfl rfl;exact op_val (by simp [go_sem,ev' e87,(HTT.out _ (HX9.out.trans ((Aft.drew X9).trans hw))).1]) (hK _ hw)
          | 5,ho,hv =>
           cases ho;cases hv;refine .inl ⟨rfl,fun a W hk hw K hK=>?_⟩;have e11:=hk.same 11 (by decide);exact op_val (by simp [go_sem,ev' e11]) (hK _ hw)
          | 6,ho,hv =>
           cases ho;cases hv;refine .inl ⟨rfl,fun a W hk hw K hK=>?_⟩;have e89:=hk.at_ 5 _ 89 _ rfl (by decide) _ rfl rfl rfl;exact op_val (by simp [go_sem,ev' e89,(HB9.out.aft ((Aft.drew X9).trans hw)).cell 1]) (hK _ hw)
          | 7,ho,hv =>
           cases ho;cases hv;refine .inl ⟨rfl,fun a W hk hw K hK=>?_⟩;have e88:=hk.at_ 4 _ 88 _ rfl (by decide) _ rfl rfl rfl;have e90:=hk.at_ 6 _ 90 _ rfl (by decide) _ rfl rfl rfl;exact op_val (by simp [go_sem,ev' e88,ev' e90,ibn]) (hK _ hw)
          | 8,ho,hv =>
           cases ho;cases hv;refine .inl ⟨rfl,fun a W hk hw K hK=>?_⟩;have e91:=hk.at_ 7 _ 91 _ rfl (by decide) _ rfl rfl rfl;exact op_val (by simp [go_sem,ev' e91,HCB.out _ (HX9.out.trans ((Aft.drew X9).trans hw))]) (hK _ hw)
          | 9,ho,hv =>
           cases ho;cases hv;refine .inl ⟨rfl,fun a W hk hw K hK=>?_⟩;have e92:=hk.at_ 8 _ 92 _ rfl (by decide) _ rfl rfl rfl;exact op_val (by simp [go_sem,ev' e92,teb]) (hK _ hw)
          | _ + 10,_,hv=>cases hv
         intro W hw;simp only [List.drop_succ_cons,List.drop_zero,List.zip_cons_cons,List.zip_nil_right,putAll];simp only [Act.put,List.setIfInBounds_toArray,List.set];go_upto_region 19 with fail
         obtain ⟨Y,hY⟩:∃ Y,W = Y:=⟨_,rfl⟩;rw [hY] at hw ⊢;have HXY:=Lib.hid ((Aft.drew X9).trans hw);clear hw hY;refine wp_region_valsT (by kernel_rfl) 20 180 rfl (by kernel_rfl) (by kernel_rfl) (by kernel_rfl) [.slice (some ⟨g,0,none⟩) na na,.pointer (some ⟨zj,0,none⟩),.int .i64 (an:Nat),.slice (some ⟨g,0,none⟩) na na,.pointer (some ⟨zj,0,none⟩),.int .i64 (an:Nat),.pointer (some ⟨g,an,none⟩),.int .i64 fa,.slice (some ⟨T,0,none⟩) k cT,.int .i64 (k:Nat),.int .i64 (q:Nat),.pointer (some ⟨T,q,none⟩),.slice (some ⟨gq,0,none⟩) na cq,.pointer (some ⟨zj,1,none⟩),.int .i64 (bn:Nat),.pointer (some ⟨gq,bn,none⟩),.int .i64 pb,.int .i64 nw,.int .i64 (pb - nw),.int .i64 mv2] rfl (fun _ W=>Aft Y W) (Aft.drew _) ?st8 ?fi8
         case st8 =>
          intro i o v ho hv
          match i,ho,hv with
          | 0,ho,hv =>
           cases ho;cases hv;refine .inl ⟨rfl,fun done a W hd hp hk hw K hK=>?_⟩;have e8:=hk.same 8 (by decide);exact op_val (by simp [go_sem,ev' e8]) (hK _ hw)
          | 1,ho,hv =>
           cases ho;cases hv;refine .inl ⟨rfl,fun done a W hd hp hk hw K hK=>?_⟩;have e11:=hk.same 11 (by decide);exact op_val (by simp [go_sem,ev' e11]) (hK _ hw)
          | 2,ho,hv =>
           cases ho;cases hv;refine .inl ⟨rfl,fun done a W hd hp hk hw K hK=>?_⟩;have e95:=hk.at_ 1 _ 95 _ rfl (by decide) _ rfl rfl rfl;exact op_val (by simp [go_sem,ev' e95,(HB9.out.aft (HXY.out.trans hw)).cell 0]) (hK _ hw)
          | 3,ho,hv =>
           cases ho;cases hv;refine .inl ⟨rfl,fun done a W hd hp hk hw K hK=>?_⟩;have e8:=hk.same 8 (by decide);exact op_val (by simp [go_sem,ev' e8]) (hK _ hw)
          | 4,ho,hv =>
           cases ho;cases hv;refine .inl ⟨rfl,fun done a W hd hp hk hw K hK=>?_⟩;have e11:=hk.same 11 (by decide);exact op_val (by simp [go_sem,ev' e11]) (hK _ hw)
          | 5,ho,hv =>
           cases ho;cases hv;refine .inl ⟨rfl,fun done a W hd hp hk hw K hK=>?_⟩;have e98:=hk.at_ 4 _ 98 _ rfl (by decide) _ rfl rfl rfl;exact op_val (by simp [go_sem,ev' e98,(HB9.out.aft (HXY.out.trans hw)).cell 0]) (hK _ hw)
          | 6,ho,hv =>
           cases ho;cases hv;refine .inl ⟨rfl,fun done a W hd hp hk hw K hK=>?_⟩;have e97:=hk.at_ 3 _ 97 _ rfl (by decide) _ rfl rfl rfl;have e99:=hk.at_ 5 _ 99 _ rfl (by decide) _ rfl rfl rfl;exact op_val (by simp [go_sem,ev' e97,ev' e99,ian]) (hK _ hw)
          | 7,ho,hv =>
           cases ho;cases hv;refine .inl ⟨rfl,fun done a W hd hp hk hw K hK=>?_⟩;have e100:=hk.at_ 6 _ 100 _ rfl (by decide) _ rfl rfl rfl;exact op_val (by simp [go_sem,ev' e100,HFA.out _ (HR9.out.aft (HXY.out.trans hw))]) (hK _ hw)
          | 8,ho,hv =>
           cases ho;cases hv;refine .inl ⟨rfl,fun done a W hd hp hk hw K hK=>?_⟩;have e6:=hk.same 6 (by decide);exact op_val (by simp [go_sem,ev' e6]) (hK _ hw)
          | 9,ho,hv =>
           cases ho;cases hv;refine .inl ⟨rfl,fun done a W hd hp hk hw K hK=>?_⟩;have e7:=hk.same 7 (by decide);exact op_val (by simp [go_sem,ev' e7]) (hK _ hw)
          | 10,ho,hv =>
           cases ho;cases hv;refine .inl ⟨rfl,fun done a W hd hp hk hw K hK=>?_⟩;have e103:=hk.at_ 9 _ 103 _ rfl (by decide) _ rfl rfl rfl;exact op_val (by simp [go_sem,ev' e103,hwk]) (hK _ hw)
          | 11,ho,hv =>
           cases ho;cases hv;refine .inl ⟨rfl,fun done a W hd hp hk hw K hK=>?_⟩;have e102:=hk.at_ 8 _ 102 _ rfl (by decide) _ rfl rfl rfl;have e104:=hk.at_ 10 _ 104 _ rfl (by decide) _ rfl rfl rfl;exact op_val (by simp [go_sem,ev' e102,ev' e104,iqk]) (hK _ hw)
          | 12,ho,hv =>
           cases ho;cases hv;refine .inl ⟨rfl,fun done a W hd hp hk hw K hK=>?_⟩;have e105:=hk.at_ 11 _ 105 _ rfl (by decide) _ rfl rfl rfl;exact op_val (by simp [go_sem,ev' e105,(HTT.out _ (HX9.out.trans (HXY.out.trans hw))).1]) (hK _ hw)
          | 13,ho,hv =>
           cases ho;cases hv;refine .inl ⟨rfl,fun done a W hd hp hk hw K hK=>?_⟩;have e11:=hk.same 11 (by decide);exact op_val (by simp [go_sem,ev' e11]) (hK _ hw)
          | 14,ho,hv =>
           cases ho;cases hv;refine .inl ⟨rfl,fun done a W hd hp hk hw K hK=>?_⟩;have e107:=hk.at_ 13 _ 107 _ rfl (by decide) _ rfl rfl rfl;exact op_val (by simp [go_sem,ev' e107,(HB9.out.aft (HXY.out.trans hw)).cell 1]) (hK _ hw)
          | 15,ho,hv =>
           cases ho;cases hv;refine .inl ⟨rfl,fun done a W hd hp hk hw K hK=>?_⟩;have e106:=hk.at_ 12 _ 106 _ rfl (by decide) _ rfl rfl rfl;have e108:=hk.at_ 14 _ 108 _ rfl (by decide) _ rfl rfl rfl;exact op_val (by simp [go_sem,ev' e106,ev' e108,ibn]) (hK _ hw)
          | 16,ho,hv =>
           cases ho;cases hv;refine .inl ⟨rfl,fun done a W hd hp hk hw K hK=>?_⟩;have e109:=hk.at_ 15 _ 109 _ rfl (by decide) _ rfl rfl rfl;exact op_val (by simp [go_sem,ev' e109,HCB.out _ (HX9.out.trans (HXY.out.trans hw))]) (hK _ hw)
          | 17,ho,hv =>
           cases ho;cases hv;refine .inl ⟨rfl,fun done a W hd hp hk hw K hK=>?_⟩;have e12:=hk.same 12 (by decide);exact op_val (by simp [go_sem,ev' e12]) (hK _ hw)
          | 18,ho,hv =>
           cases ho;cases hv;refine .inl ⟨rfl,fun done a W hd hp hk hw K hK=>?_⟩;have e110:=hk.at_ 16 _ 110 _ rfl (by decide) _ rfl rfl rfl;have e111:=hk.at_ 17 _ 111 _ rfl (by decide) _ rfl rfl rfl;exact op_val (by simp [go_sem,ev' e110,ev' e111,hwn2]) (hK _ hw)
          | 19,ho,hv =>
           cases ho;cases hv;refine .inl ⟨rfl,fun done a W hd hp hk hw K hK=>?_⟩;have e101:=hk.at_ 7 _ 101 _ rfl (by decide) _ rfl rfl rfl;have e112:=hk.at_ 18 _ 112 _ rfl (by decide) _ rfl rfl rfl;exact op_val (by simp [go_sem,ev' e101,ev' e112,hmv2]) (hK _ hw)
          | _ + 20,_,hv=>cases hv
         intro done W hd hw;simp only [List.drop_succ_cons,List.drop_zero,List.zip_cons_cons,List.zip_nil_right,putAll];simp only [Act.put,List.setIfInBounds_toArray,List.set];clear hd;have HX10:=Lib.hid (HXY.out.trans hw);have HR10:=Lib.hid (HR9.out.aft HX10.out);have e0:=HFA.out _ HR10.out;have e1:=HR10.out.frozen an;have e2:=HR10.out.lt;obtain ⟨Z,hZ⟩:∃ Z,W = Z:=⟨_,rfl⟩;rw [hZ] at HX10 HR10 e0 e1 e2 ⊢;clear hw hZ;have HR11:Hid (RX (Z.setCell ⟨g,an,none⟩ (.int .i64 mv2)) g na (Sheet.wkR JO P (j + 1))):=Lib.hid (by rw [HF2.out];exact HR10.out.put an mv2);have HX11:=Lib.hid ((HX9.out.trans HX10.out).then_setCell (p:=⟨g,an,none⟩) (by show wa.heap.size <= g;rw [HG.out];exact Nat.le_refl _) (.int .i64 mv2));go_wp2_with fail
         exact ⟨⟨j + 1,by go_num,by omega,HX11.out,HR11⟩,by simp [intOf];omega⟩
        ·have teb:decide (-1000000000000000000 < pb) = false:=by simpa using heb
         have HF2:Hid (Sheet.wkR JO P (j + 1) = f9):=Lib.hid (by rw [HST.out,HW2.out,if_neg heb]);refine wp_region_valsG (by kernel_rfl) 180 rfl (by kernel_rfl) (by kernel_rfl) [.slice (some ⟨T,0,none⟩) k cT,.int .i64 (k:Nat),.int .i64 (q:Nat),.pointer (some ⟨T,q,none⟩),.slice (some ⟨gq,0,none⟩) na cq,.pointer (some ⟨zj,1,none⟩),.int .i64 (bn:Nat),.pointer (some ⟨gq,bn,none⟩),.int .i64 pb,.bool false] rfl (fun W=>Aft X9.drew W) (Aft.refl _) ?st9 ?fi9
         case st9 =>
          intro i o v ho hv
          match i,ho,hv with
          | 0,ho,hv =>
           cases ho;cases hv;refine .inl ⟨rfl,fun a W hk hw K hK=>?_⟩;have e6:=hk.same 6 (by decide);exact op_val (by simp [go_sem,ev' e6]) (hK _ hw)
          | 1,ho,hv =>
           cases ho;cases hv;refine .inl ⟨rfl,fun a W hk hw K hK=>?_⟩;have e7:=hk.same 7 (by decide);exact op_val (by simp [go_sem,ev' e7]) (hK _ hw)
          | 2,ho,hv =>
           cases ho;cases hv;refine .inl ⟨rfl,fun a W hk hw K hK=>?_⟩;have e85:=hk.at_ 1 _ 85 _ rfl (by decide) _ rfl rfl rfl;exact op_val (by simp [go_sem,ev' e85,hwk]) (hK _ hw)
          | 3,ho,hv =>
           cases ho;cases hv;refine .inl ⟨rfl,fun a W hk hw K hK=>?_⟩;have e84:=hk.at_ 0 _ 84 _ rfl (by decide) _ rfl rfl rfl;have e86:=hk.at_ 2 _ 86 _ rfl (by decide) _ rfl rfl rfl;exact op_val (by simp [go_sem,ev' e84,ev' e86,iqk]) (hK _ hw)
          | 4,ho,hv =>
           cases ho;cases hv;refine .inl ⟨rfl,fun a W hk hw K hK=>?_⟩;have e87:=hk.at_ 3 _ 87 _ rfl (by decide) _ rfl rfl rfl;exact op_val (by simp [go_sem,ev' e87,(HTT.out _ (HX9.out.trans ((Aft.drew X9).trans hw))).1]) (hK _ hw)
          | 5,ho,hv =>
           cases ho;cases hv;refine .inl ⟨rfl,fun a W hk hw K hK=>?_⟩;have e11:=hk.same 11 (by decide);exact op_val (by simp [go_sem,ev' e11]) (hK _ hw)
          | 6,ho,hv =>
           cases ho;cases hv;refine .inl ⟨rfl,fun a W hk hw K hK=>?_⟩;have e89:=hk.at_ 5 _ 89 _ rfl (by decide) _ rfl rfl rfl;exact op_val (by simp [go_sem,ev' e89,(HB9.out.aft ((Aft.drew X9).trans hw)).cell 1]) (hK _ hw)
          | 7,ho,hv =>
           cases ho;cases hv;refine .inl ⟨rfl,fun a W hk hw K hK=>?_⟩;have e88:=hk.at_ 4 _ 88 _ rfl (by decide) _ rfl rfl rfl;have e90:=hk.at_ 6 _ 90 _ rfl (by decide) _ rfl rfl rfl;exact op_val (by simp [go_sem,ev' e88,ev' e90,ibn]) (hK _ hw)
          | 8,ho,hv =>
           cases ho;cases hv;refine .inl ⟨rfl,fun a W hk hw K hK=>?_⟩;have e91:=hk.at_ 7 _ 91 _ rfl (by decide) _ rfl rfl rfl;exact op_val (by simp [go_sem,ev' e91,HCB.out _ (HX9.out.trans ((Aft.drew X9).trans hw))]) (hK _ hw)
          | 9,ho,hv =>
           cases ho;cases hv;refine .inl ⟨rfl,fun a W hk hw K hK=>?_⟩;have e92:=hk.at_ 8 _ 92 _ rfl (by decide) _ rfl rfl rfl;exact op_val (by simp [go_sem,ev' e92,teb]) (hK _ hw)
          | _ + 10,_,hv=>cases hv
         intro W hw;simp only [List.drop_succ_cons,List.drop_zero,List.zip_cons_cons,List.zip_nil_right,putAll];simp only [Act.put,List.setIfInBounds_toArray,List.set];have HX11:=Lib.hid (HX9.out.trans ((Aft.drew X9).trans hw));have HR11:Hid (RX W g na (Sheet.wkR JO P (j + 1))):=Lib.hid (by rw [HF2.out];exact HR9.out.aft ((Aft.drew X9).trans hw));clear hw;go_wp2_with fail
         exact ⟨⟨j + 1,by go_num,by omega,HX11.out,HR11⟩,by simp [intOf];omega⟩
      ·have t1:decide (j < S.J.length) = false:=by simpa using hjl
       have ej:j = S.J.length:=by omega
       have HR1:Hid (RX wr g na (Sheet.wkT JO k)):=Lib.hid (by
        have h:=HR.out;rw [ej,<- HJL.out,<- HP.out] at h;rw [HKQ.out];exact h)
       have hll:(rowsZ (Sheet.wkT JO) k na).length <= 1000000:=by rw [rowsZ_len];omega
       have hws:z0 <= wa.heap.size:=by rw [<- HZ0.out];exact HXA.out.size
       have HTS:=Lib.hid (rowsZ_succ (Sheet.wkT JO) k na);obtain ⟨rows,hrows⟩:∃ r,rowsZ (Sheet.wkT JO) k na = r:=⟨_,rfl⟩;rw [hrows] at HOW hll HTS;have HRW:=Lib.hid (HR1.out.own (base:=wa.heap.size) (by rw [HG.out];exact Nat.le_refl _) hn12);have hgo:∀ g',(Value.slice (some ⟨T,0,none⟩) k cT).ownBlock = some g' -> z0 <= g':=fun g' hg'=>(HOW.out.own.lt g' hg').1
       have HGO:=Lib.hid hgo;clear hrows hgo ej;go_wp2_with (at_builtin;refine wpList_app_list rfl _ _ rfl (W:=wa) HOW.out hws rfl rfl (cell_new1 _ _ _) rfl (HXI.out.then_alloc _) (own_aft HRW.out (Aft.alloc _ _)) hll ?_;intro v' vs' w5 hown5 hg5)
       refine ⟨⟨k,k + 1,by go_num,rfl,by omega,(HXW.out.then_alloc _).grown hg5 (fun g' hg'=>by rw [HZ0.out];exact HGO.out g' hg'),vs',?_⟩,by simp [intOf];omega⟩;rw [HTS.out];exact hown5
  ·have t1:decide (k <= n) = false:=by simpa using hkn
   have ek:k = n + 1:=by omega
   have hnk:n < k:=by omega
   clear ek HOW hkq;have HXB:=Lib.hid (Aft.alloc wa (.cells #[.int .i64 0,.int .i64 1] 29));obtain ⟨bb,hbb⟩:∃ z,wa.heap.size = z:=⟨_,rfl⟩;have HBB:Hid (Blk (wa.alloc (.cells #[.int .i64 0,.int .i64 1] 29)) bb 29 #[.int .i64 0,.int .i64 1]):=Lib.hid (by rw [<- hbb];exact Blk.new _ _ _);go_upto_region 22 with fail
   try rw [hbb]
   generalize wa.alloc (.cells #[.int .i64 0,.int .i64 1] 29) = wb at *;have HB0:Hid (∃ p:Int × Int,Blk wb bb 29 #[.int .i64 p.1,.int .i64 p.2] /\ Sheet.BmI n (fun i b=>Sheet.optW (Sheet.wkT JO i b)) 0 p):=Lib.hid ⟨(0,1),HBB.out,.start hn0⟩;have HBZ:=Lib.hid hbb;clear HBB hbb t1;obtain ⟨V,hV⟩:∃ V,Sheet.wkT JO = V:=⟨_,rfl⟩;have hV0:Hid (∀ b,V 0 b = 0):=Lib.hid fun b=>by rw [<- hV];rfl
   have hvb:Hid (∀ i,i <= n -> ∀ b,b < n -> V i b = -1000000000000000000 \/ (-12000000 <= V i b /\ V i b <= 12000000)):=Lib.hid fun i hi b hb=>by have:=HPB.out i (by omega) b hb;rw [hV] at this;omega
   rw [hV] at HB0 HLP HTAB;clear hV HPB;go_upto_block 6 with fail
   refine wp_block ?_;go_loopw [14] (fun i wr=>∃ ca:Nat,i = .int .i64 (ca:Nat) /\ ca <= n /\ Aft wa wr /\ Hid (∃ p:Int × Int,Blk wr bb 29 #[.int .i64 p.1,.int .i64 p.2] /\ Sheet.BmI n (fun i b=>Sheet.optW (V i b)) ca p)) (fun i _=>n - (intOf i).toNat)
   case atStart=>exact ⟨0,rfl,by omega,HXB.out,HB0⟩
   case round =>
    rename World=>wo
    clear HB0 HXB;obtain ⟨ca,rfl,ha,hw,HBP⟩:=hrel;obtain ⟨p,hbp,hbm⟩:=HBP.out;have HBK:=Lib.hid hbp;have HBM:=Lib.hid hbm;have HXO:=Lib.hid hw;clear hw hbp hbm HBP;by_cases han:ca < n
    ·have t1:decide (ca < n) = true:=by simpa using han
     have ht:=HTAB.out.aft HXO.out;have d0:=ht.tcell hnk;have d1:=ht.lt;have d2:=ht.cell hnk han;have d3:=(ht.row n hnk).lt;have h0:Hid (Sheet.optW (V 0 ca) = some 0):=Lib.hid (by rw [hV0.out];rfl);have hxb:=hvb.out n (Nat.le_refl _) ca han;obtain ⟨x,hx⟩:∃ x,V n ca = x:=⟨_,rfl⟩;rw [hx] at d2 hxb;have HX:=Lib.hid hx;have inq:(0:Int) <= (n:Int) /\ (n:Int) < (k:Int):=by omega
     have ian:(0:Int) <= (ca:Int) /\ (ca:Int) < (n:Int):=by omega
     obtain ⟨gn,hgn⟩:∃ z,G n = z:=⟨_,rfl⟩;obtain ⟨cn,hcn⟩:∃ z,C n = z:=⟨_,rfl⟩;rw [hgn] at d0 d2 d3;rw [hcn] at d0;have HGN:=Lib.hid (And.intro hgn hcn);have HTO:=Lib.hid ht;clear hx hgn hcn ht;by_cases hxe:x = -1000000000000000000
     ·have tx:(x == -1000000000000000000) = true:=by simpa using hxe
      have HBN:Hid (∃ p:Int × Int,Blk wo bb 29 #[.int .i64 p.1,.int .i64 p.2] /\ Sheet.BmI n (fun i b=>Sheet.optW (V i b)) (ca + 1) p):=Lib.hid ⟨p,HBK.out,HBM.out.skip (by show Sheet.optW (V n ca) = none;rw [HX.out];exact Sheet.optW_none.2 hxe)⟩;clear hxe hxb;go_wp2_with fail
      exact ⟨⟨ca + 1,by go_num,by omega,HXO.out,HBN⟩,by simp [intOf];omega⟩
     ·have tx:(x == -1000000000000000000) = false:=by simpa using hxe
      have HXS:Hid (Sheet.optW (V n ca) = some x):=Lib.hid (Sheet.optW_some.2 ⟨by rw [HX.out];exact hxe,HX.out⟩);have hxb2:-12000000 <= x /\ x <= 12000000:=by omega
      clear hxe hxb HX;have HXP:=Lib.hid (Aft.alloc wo (.cells #[.int .i64 0,.int .i64 0] 29));obtain ⟨lb,hlb⟩:∃ z,wo.heap.size = z:=⟨_,rfl⟩;have HLB:Hid (Blk (wo.alloc (.cells #[.int .i64 0,.int .i64 0] 29)) lb 29 #[.int .i64 0,.int .i64 0]):=Lib.hid (by rw [<- hlb];exact Blk.new _ _ _);go_upto_region 27 with fail
      try rw [hlb]
      generalize wo.alloc (.cells #[.int .i64 0,.int .i64 0] 29) = wp at *;have HL0:Hid (∃ q:Int × Int,Blk wp lb 29 #[.int .i64 q.1,.int .i64 q.2] /\ Sheet.LmI n (fun i b=>Sheet.optW (V i b)) ca x 0 q):=Lib.hid ⟨(0,0),HLB.out,.start⟩;have HLZ:=Lib.hid hlb;clear HLB hlb t1 tx d0 d1 d2 d3;go_upto_block 8 with fail
      refine wp_block ?_;go_loopw [16] (fun i wr=>∃ m:Nat,i = .int .i64 (m:Nat) /\ m <= n /\ Aft wo wr /\ Hid (∃ q:Int × Int,Blk wr lb 29 #[.int .i64 q.1,.int .i64 q.2] /\ Sheet.LmI n (fun i b=>Sheet.optW (V i b)) ca x m q)) (fun i _=>n - (intOf i).toNat)
      case atStart=>exact ⟨0,rfl,by omega,HXP.out,HL0⟩
      case round =>
       clear HL0 HXP;obtain ⟨m,rfl,hm,hw,HLP2⟩:=hrel;obtain ⟨q9,hbq,hlm⟩:=HLP2.out;have HLK:=Lib.hid hbq;have HLM:=Lib.hid hlm;have HXR:=Lib.hid hw;have hlmd:=hlm.d0;have hlmn:=hlm.n0;clear hw hbq hlm HLP2;by_cases hmn:m < n
       ·have t1:decide (m < n) = true:=by simpa using hmn
        have hmk:m < k:=by omega
        have ht:=HTO.out.aft HXR.out;have d0:=ht.tcell hmk;have d1:=ht.lt;have d2:=ht.cell hmk han;have d3:=(ht.row m hmk).lt;have imk:(0:Int) <= (m:Int) /\ (m:Int) < (k:Int):=by omega
        have hyb:=hvb.out m (by omega) ca han;obtain ⟨y,hy⟩:∃ y,V m ca = y:=⟨_,rfl⟩;rw [hy] at d2 hyb;have HYC:Hid (∀ W,Aft wr W -> W.cell? ⟨G m,ca,none⟩ = some (.int .i64 y)):=Lib.hid fun W h=>by rw [<- hy];exact (HTO.out.aft (HXR.out.trans h)).cell hmk han
        have HXC:Hid (∀ W,Aft wr W -> W.cell? ⟨gn,ca,none⟩ = some (.int .i64 x) /\ W.cell? ⟨T,n,none⟩ = some (.slice (some ⟨gn,0,none⟩) n cn) /\ W.cell? ⟨T,m,none⟩ = some (.slice (some ⟨G m,0,none⟩) n (C m))):=Lib.hid fun W h=>by
         have h9:=HTO.out.aft (HXR.out.trans h);have e2:=h9.tcell hnk;have e1:=h9.cell hnk han;rw [(Sheet.optW_some.1 HXS.out).2] at e1;rw [HGN.out.1] at e1 e2;rw [HGN.out.2] at e2;exact ⟨e1,e2,h9.tcell hmk⟩
        have HY:=Lib.hid hy;obtain ⟨gm,hgm⟩:∃ z,G m = z:=⟨_,rfl⟩;obtain ⟨cm,hcm⟩:∃ z,C m = z:=⟨_,rfl⟩;rw [hgm] at d0 d2 d3 HYC HXC;rw [hcm] at d0 HXC;clear hy hgm hcm ht;by_cases hye:y = -1000000000000000000
        ·have ty:(y == -1000000000000000000) = true:=by simpa using hye
         have HLN:Hid (∃ q:Int × Int,Blk wr lb 29 #[.int .i64 q.1,.int .i64 q.2] /\ Sheet.LmI n (fun i b=>Sheet.optW (V i b)) ca x (m + 1) q):=Lib.hid ⟨q9,HLK.out,HLM.out.skip (by show Sheet.optW (V m ca) = none;rw [HY.out];exact Sheet.optW_none.2 hye)⟩;clear hye hyb;go_wp2_with fail
         exact ⟨⟨m + 1,by go_num,by omega,HXR.out,HLN⟩,by simp [intOf];omega⟩
        ·have ty:(y == -1000000000000000000) = false:=by simpa using hye
         have HYS:Hid (Sheet.optW (V m ca) = some y):=Lib.hid (Sheet.optW_some.2 ⟨by rw [HY.out];exact hye,HY.out⟩);have hyb2:-12000000 <= y /\ y <= 12000000:=by omega
         have hwd:IntKind.i64.wrap (x - y) = x - y:=IntWalk.i64_in _ (by omega);obtain ⟨r9,hr9⟩:∃ z:Nat,n - m = z:=⟨_,rfl⟩;have hr1:((n:Int) - (m:Int)) = (r9:Int):=by omega
         have hwr:IntKind.i64.wrap ((n:Int) - (m:Int)) = (r9:Int):=by rw [hr1];exact IntWalk.i64_in _ (by omega)
         obtain ⟨l,hl⟩:∃ l,Sheet.low (x - y) ((n - m:Nat):Int) = l:=⟨_,rfl⟩
         have HCL:Hid (∀ W,Calls Tryz.prog 42 #[.int .i64 (x - y),.int .i64 (r9:Nat)] W fun e w'=>e = .returned (.agg #[.int .i64 l.1,.int .i64 l.2]) /\ Aft W w'):=Lib.hid fun W=>by
          have:=lowest_any (x - y) ((n - m:Nat):Int) W (by omega) (by omega) (by omega);rw [hl,hr9] at this;exact this
         have HTK:=Lib.hid fun h=>HLM.out.take (m:=x) (k:=m) (mk:=y) (show (fun i b=>Sheet.optW (V i b)) m ca = some y from HYS.out) hmn (by omega) h
         have HKP:=Lib.hid fun h1 h2=>HLM.out.keep (m:=x) (k:=m) (mk:=y) (show (fun i b=>Sheet.optW (V i b)) m ca = some y from HYS.out) hmn h1 h2
         have HLO:=Lib.hid (low_bd (n:=x - y) (d:=((n - m:Nat):Int)) (B:=24000000) (by omega) (by omega));rw [hl] at HTK HKP HLO;obtain ⟨l1,l2⟩:=l;dsimp only at HCL HTK HKP HLO;clear hye hyb HY hr1 hl;go_upto_region 31 with fail
         clear d0 d1 d2 d3 ty t1;refine wp_region_valsU (by kernel_rfl) 20 180 rfl (by kernel_rfl) (by kernel_rfl) [some (.slice (some ⟨T,0,none⟩) k cT),some (.int .i64 (n:Nat)),some (.pointer (some ⟨T,n,none⟩)),some (.slice (some ⟨gn,0,none⟩) n cn),some (.int .i64 (ca:Nat)),some (.pointer (some ⟨gn,ca,none⟩)),some (.int .i64 x),some (.slice (some ⟨T,0,none⟩) k cT),some (.int .i64 (m:Nat)),some (.pointer (some ⟨T,m,none⟩)),some (.slice (some ⟨gm,0,none⟩) n cm),some (.int .i64 (ca:Nat)),some (.pointer (some ⟨gm,ca,none⟩)),some (.int .i64 y),some (.int .i64 (x - y)),some (.int .i64 (n:Nat)),some (.int .i64 (m:Nat)),some (.int .i64 (r9:Nat)),some (.agg #[.int .i64 l1,.int .i64 l2]),none] (by kernel_rfl) rfl (Bx1 wr 19 17) (Bx1.start) ?st10 ?fi10
         case st10 =>
          intro i o v ho hv
          match i,ho,hv with
          | 0,ho,hv =>
           cases ho;cases hv;refine .inl ⟨rfl,fun done a W hz hd hp hk hw K hK=>?_⟩;have e6:=hk.same 6 (by decide);exact op_val (v:=.slice (some ⟨T,0,none⟩) k cT) (by simp [go_sem,ev' e6]) (hK _ _ (fun u hu=>by cases hu;rfl) (hw.keep (Aft.refl _) (by decide) (by decide)))
          | 1,ho,hv =>
           cases ho;cases hv;refine .inl ⟨rfl,fun done a W hz hd hp hk hw K hK=>?_⟩;have e5:=hk.same 5 (by decide);exact op_val (v:=.int .i64 (n:Nat)) (by simp [go_sem,ev' e5]) (hK _ _ (fun u hu=>by cases hu;rfl) (hw.keep (Aft.refl _) (by decide) (by decide)))
          | 2,ho,hv =>
           cases ho;cases hv;refine .inl ⟨rfl,fun done a W hz hd hp hk hw K hK=>?_⟩;have e147:=hk.at_ 0 _ 147 _ rfl (by decide) _ rfl rfl rfl;have e148:=hk.at_ 1 _ 148 _ rfl (by decide) _ rfl rfl rfl;exact op_val (v:=.pointer (some ⟨T,n,none⟩)) (by simp [go_sem,ev' e147,ev' e148,inq]) (hK _ _ (fun u hu=>by cases hu;rfl) (hw.keep (Aft.refl _) (by decide) (by decide)))
          | 3,ho,hv =>
           cases ho;cases hv;refine .inl ⟨rfl,fun done a W hz hd hp hk hw K hK=>?_⟩;have e149:=hk.at_ 2 _ 149 _ rfl (by decide) _ rfl rfl rfl;exact op_val (v:=.slice (some ⟨gn,0,none⟩) n cn) (by simp [go_sem,ev' e149,(HXC.out W hw.aft).2.1]) (hK _ _ (fun u hu=>by cases hu;rfl) (hw.keep (Aft.refl _) (by decide) (by decide)))
          | 4,ho,hv =>
           cases ho;cases hv;refine .inl ⟨rfl,fun done a W hz hd hp hk hw K hK=>?_⟩;have e14:=hk.same 14 (by decide);exact op_val (v:=.int .i64 (ca:Nat)) (by simp [go_sem,ev' e14]) (hK _ _ (fun u hu=>by cases hu;rfl) (hw.keep (Aft.refl _) (by decide) (by decide)))
          | 5,ho,hv =>
           cases ho;cases hv;refine .inl ⟨rfl,fun done a W hz hd hp hk hw K hK=>?_⟩;have e150:=hk.at_ 3 _ 150 _ rfl (by decide) _ rfl rfl rfl;have e151:=hk.at_ 4 _ 151 _ rfl (by decide) _ rfl rfl rfl;exact op_val (v:=.pointer (some ⟨gn,ca,none⟩)) (by simp [go_sem,ev' e150,ev' e151,ian]) (hK _ _ (fun u hu=>by cases hu;rfl) (hw.keep (Aft.refl _) (by decide) (by decide)))
          | 6,ho,hv =>
           cases ho;cases hv;refine .inl ⟨rfl,fun done a W hz hd hp hk hw K hK=>?_⟩;have e152:=hk.at_ 5 _ 152 _ rfl (by decide) _ rfl rfl rfl;exact op_val (v:=.int .i64 x) (by simp [go_sem,ev' e152,(HXC.out W hw.aft).1]) (hK _ _ (fun u hu=>by cases hu;rfl) (hw.keep (Aft.refl _) (by decide) (by decide)))
          | 7,ho,hv =>
           cases ho;cases hv;refine .inl ⟨rfl,fun done a W hz hd hp hk hw K hK=>?_⟩;have e6:=hk.same 6 (by decide);exact op_val (v:=.slice (some ⟨T,0,none⟩) k cT) (by simp [go_sem,ev' e6]) (hK _ _ (fun u hu=>by cases hu;rfl) (hw.keep (Aft.refl _) (by decide) (by decide)))
          | 8,ho,hv =>
           cases ho;cases hv;refine .inl ⟨rfl,fun done a W hz hd hp hk hw K hK=>?_⟩;have e16:=hk.same 16 (by decide);exact op_val (v:=.int .i64 (m:Nat)) (by simp [go_sem,ev' e16]) (hK _ _ (fun u hu=>by cases hu;rfl) (hw.keep (Aft.refl _) (by decide) (by decide)))
          | 9,ho,hv =>
           cases ho;cases hv;refine .inl ⟨rfl,fun done a W hz hd hp hk hw K hK=>?_⟩;have e154:=hk.at_ 7 _ 154 _ rfl (by decide) _ rfl rfl rfl;have e155:=hk.at_ 8 _ 155 _ rfl (by decide) _ rfl rfl rfl;exact op_val (v:=.pointer (some ⟨T,m,none⟩)) (by simp [go_sem,ev' e154,ev' e155,imk]) (hK _ _ (fun u hu=>by cases hu;rfl) (hw.keep (Aft.refl _) (by decide) (by decide)))
          | 10,ho,hv =>
           cases ho;cases hv;refine .inl ⟨rfl,fun done a W hz hd hp hk hw K hK=>?_⟩;have e156:=hk.at_ 9 _ 156 _ rfl (by decide) _ rfl rfl rfl;exact op_val (v:=.slice (some ⟨gm,0,none⟩) n cm) (by simp [go_sem,ev' e156,(HXC.out W hw.aft).2.2]) (hK _ _ (fun u hu=>by cases hu;rfl) (hw.keep (Aft.refl _) (by decide) (by decide)))
          | 11,ho,hv =>
           cases ho;cases hv;refine .inl ⟨rfl,fun done a W hz hd hp hk hw K hK=>?_⟩;have e14:=hk.same 14 (by decide);exact op_val (v:=.int .i64 (ca:Nat)) (by simp [go_sem,ev' e14]) (hK _ _ (fun u hu=>by cases hu;rfl) (hw.keep (Aft.refl _) (by decide) (by decide)))
          | 12,ho,hv =>
           cases ho;cases hv;refine .inl ⟨rfl,fun done a W hz hd hp hk hw K hK=>?_⟩;have e157:=hk.at_ 10 _ 157 _ rfl (by decide) _ rfl rfl rfl;have e158:=hk.at_ 11 _ 158 _ rfl (by decide) _ rfl rfl rfl;exact op_val (v:=.pointer (some ⟨gm,ca,none⟩)) (by simp [go_sem,ev' e157,ev' e158,ian]) (hK _ _ (fun u hu=>by cases hu;rfl) (hw.keep (Aft.refl _) (by decide) (by decide)))
          | 13,ho,hv =>
           cases ho;cases hv;refine .inl ⟨rfl,fun done a W hz hd hp hk hw K hK=>?_⟩;have e159:=hk.at_ 12 _ 159 _ rfl (by decide) _ rfl rfl rfl;exact op_val (v:=.int .i64 y) (by simp [go_sem,ev' e159,HYC.out W hw.aft]) (hK _ _ (fun u hu=>by cases hu;rfl) (hw.keep (Aft.refl _) (by decide) (by decide)))
          | 14,ho,hv =>
           cases ho;cases hv;refine .inl ⟨rfl,fun done a W hz hd hp hk hw K hK=>?_⟩;have e153:=hk.at_ 6 _ 153 _ rfl (by decide) _ rfl rfl rfl;have e160:=hk.at_ 13 _ 160 _ rfl (by decide) _ rfl rfl rfl;exact op_val (v:=.int .i64 (x - y)) (by simp [go_sem,ev' e153,ev' e160,hwd]) (hK _ _ (fun u hu=>by cases hu;rfl) (hw.keep (Aft.refl _) (by decide) (by decide)))
          | 15,ho,hv =>
           cases ho;cases hv;refine .inl ⟨rfl,fun done a W hz hd hp hk hw K hK=>?_⟩;have e5:=hk.same 5 (by decide);exact op_val (v:=.int .i64 (n:Nat)) (by simp [go_sem,ev' e5]) (hK _ _ (fun u hu=>by cases hu;rfl) (hw.keep (Aft.refl _) (by decide) (by decide)))
          | 16,ho,hv =>
           cases ho;cases hv;refine .inl ⟨rfl,fun done a W hz hd hp hk hw K hK=>?_⟩;have e16:=hk.same 16 (by decide);exact op_val (v:=.int .i64 (m:Nat)) (by simp [go_sem,ev' e16]) (hK _ _ (fun u hu=>by cases hu;rfl) (hw.keep (Aft.refl _) (by decide) (by decide)))
          | 17,ho,hv =>
           cases ho;cases hv;refine .inl ⟨rfl,fun done a W hz hd hp hk hw K hK=>?_⟩;have e162:=hk.at_ 15 _ 162 _ rfl (by decide) _ rfl rfl rfl;have e163:=hk.at_ 16 _ 163 _ rfl (by decide) _ rfl rfl rfl;exact op_val (v:=.int .i64 (r9:Nat)) (by simp [go_sem,ev' e162,ev' e163,hwr]) (hK _ _ (fun u hu=>by cases hu;rfl) (hw.keep (Aft.refl _) (by decide) (by decide)))
          | 18,ho,hv =>
           cases ho;cases hv;refine .inl ⟨rfl,fun done a W hz hd hp hk hw K hK=>?_⟩;have e161:=hk.at_ 14 _ 161 _ rfl (by decide) _ rfl rfl rfl;have e164:=hk.at_ 17 _ 164 _ rfl (by decide) _ rfl rfl rfl;refine op_callN rfl rfl rfl _ rfl (vs:=#[.int .i64 (x - y),.int .i64 (r9:Nat)]) (by simp [e161,e164]) (HCL.out W) ?_;rintro e w7 ⟨rfl,hw7⟩;exact ⟨_,rfl,hK _ _ (fun u hu=>by cases hu;rfl) (hw.keep hw7 (by decide) (by decide))⟩
          | 19,ho,hv =>
           cases ho;cases hv;refine .inl ⟨rfl,fun done a W hz hd hp hk hw K hK=>?_⟩;exact op_valW (w':=W.alloc (.cells #[.int .i64 0,.int .i64 0] 29)) (v:=.pointer (some ⟨W.heap.size,0,none⟩)) (by simp [go_sem]) (hK _ _ (fun u hu=>by cases hu) (hw.step (by rw [hz];decide)))
          | _ + 20,_,hv=>cases hv
         intro done us W hus hd hw;obtain ⟨b9,e17,hb9,hbk⟩:=hw.s (hd 19 (by decide));have hwa:=hw.aft;clear hw;obtain ⟨x1,rfl⟩:∃ x,us = [x]:=List.length_eq_one_iff.1 hus;simp only [fill,List.drop_succ_cons,List.drop_zero,List.zip_cons_cons,List.zip_nil_right,putAll] at e17 ⊢;simp only [Act.put,List.setIfInBounds_toArray,List.set] at e17 ⊢;have e17:x1 = .pointer (some ⟨b9,0,none⟩):=e17;subst e17;have c1:=hbk.cell 0;have c2:=hbk.cell 1;have c3:=hbk.frozen 0;have c4:=hbk.frozen 1;have c5:=hbk.lt;simp only [List.getElem?_toArray,List.getElem?_cons_zero,List.getElem?_cons_succ] at c1 c2;have B10:=Lib.hid ((hbk.store 0 (.int .i64 l1)).store 1 (.int .i64 l2));have HXW:=Lib.hid (((hwa.then_setCell (p:=⟨b9,0,none⟩) hb9 (.int .i64 l1)).then_setCell (p:=⟨b9,1,none⟩) hb9 (.int .i64 l2)));clear hbk hwa hd hus hb9 HCL HYC HXC;go_upto_region 32 with fail
         obtain ⟨X9,hX9⟩:∃ X9,(W.setCell ⟨b9,0,none⟩ (.int .i64 l1)).setCell ⟨b9,1,none⟩ (.int .i64 l2) = X9:=⟨_,rfl⟩;rw [hX9] at B10 HXW ⊢;clear hX9 c1 c2 c3 c4 c5;have HLK9:=Lib.hid (HLK.out.aft HXW.out);have c1:X9.cell? ⟨b9,0,none⟩ = some (.int .i64 l1):=B10.out.cell 0;have c2:X9.cell? ⟨b9,1,none⟩ = some (.int .i64 l2):=B10.out.cell 1;have c3:=B10.out.lt;have d1:X9.cell? ⟨lb,0,none⟩ = some (.int .i64 q9.1):=HLK9.out.cell 0;have d2:X9.cell? ⟨lb,1,none⟩ = some (.int .i64 q9.2):=HLK9.out.cell 1;have d3:=HLK9.out.lt;have d4:=HLK9.out.frozen 0;have d5:=HLK9.out.frozen 1;have HXT:=Lib.hid (HXR.out.trans HXW.out);have HLN:Hid (Sheet.LmI n (fun i b=>Sheet.optW (V i b)) ca x (m + 1) (l1,l2) -> ∃ q:Int × Int,Blk ((X9.setCell ⟨lb,0,none⟩ (.int .i64 l1)).setCell ⟨lb,1,none⟩ (.int .i64 l2)) lb 29 #[.int .i64 q.1,.int .i64 q.2] /\ Sheet.LmI n (fun i b=>Sheet.optW (V i b)) ca x (m + 1) q):=Lib.hid fun h=>⟨(l1,l2),(HLK9.out.store 0 (.int .i64 l1)).store 1 (.int .i64 l2),h⟩
         have HXN:=Lib.hid ((HXT.out.then_setCell (p:=⟨lb,0,none⟩) (by show wo.heap.size <= lb;rw [HLZ.out];exact Nat.le_refl _) (.int .i64 l1)).then_setCell (p:=⟨lb,1,none⟩) (by show wo.heap.size <= lb;rw [HLZ.out];exact Nat.le_refl _) (.int .i64 l2));obtain ⟨q1,q2⟩:=q9;dsimp only at d1 d2 hlmd hlmn HTK HKP;clear HXR HXW HLK;by_cases hq0:q2 = 0
         ·have tq:(q2 == 0) = true:=by simpa using hq0
          have HT9:=Lib.hid (HLN.out (HTK.out (.inl hq0)));clear hq0 HTK HKP HLN hlmd hlmn;go_wp2_with fail
          exact ⟨⟨m + 1,by go_num,by omega,HXN.out,HT9⟩,by simp [intOf];omega⟩
         ·have tq:(q2 == 0) = false:=by simpa using hq0
          have hl12:(-24000000 <= l1 /\ l1 <= 24000000) /\ 0 <= l2 /\ l2 <= 12:=⟨HLO.out.1,HLO.out.2.1,by have:=HLO.out.2.2;omega⟩;have hp1:=prodb hlmn.1 hlmn.2 hl12.2.1 hl12.2.2;have hp2:=prodb hl12.1.1 hl12.1.2 hlmd.1 (show q2 <= 12 by omega);have HMO:Hid (∀ W,Calls Tryz.prog 47 #[.agg #[.int .i64 q1,.int .i64 q2],.agg #[.int .i64 l1,.int .i64 l2]] W fun e w'=>e = .returned (.bool (decide (l1 * q2 < q1 * l2))) /\ Aft W w'):=Lib.hid fun W=>more_any q1 q2 l1 l2 W (by omega) (by omega)
          by_cases hlt:l1 * q2 < q1 * l2
          ·rw [decide_eq_true hlt] at HMO;have HT9:=Lib.hid (HTK.out (.inr hlt));clear hlt hq0 HTK HKP HLN HXN hlmd hlmn hl12 hp1 hp2;go_upto_region 33 with (go_at_call 47;refine (HMO.out _).mono ?_;rintro e w7 ⟨rfl,hw7⟩)
           have B11:=Lib.hid (B10.out.aft hw7);have HLK11:=Lib.hid (HLK9.out.aft hw7);have HXT2:=Lib.hid (HXT.out.trans hw7);clear c1 c2 c3 d1 d2 d3 d4 d5 hw7 tq HMO;have c1:w7.cell? ⟨b9,0,none⟩ = some (.int .i64 l1):=B11.out.cell 0;have c2:w7.cell? ⟨b9,1,none⟩ = some (.int .i64 l2):=B11.out.cell 1;have c3:=B11.out.lt;have d1:w7.cell? ⟨lb,0,none⟩ = some (.int .i64 q1):=HLK11.out.cell 0;have d2:w7.cell? ⟨lb,1,none⟩ = some (.int .i64 q2):=HLK11.out.cell 1;have d3:=HLK11.out.lt;have d4:=HLK11.out.frozen 0;have d5:=HLK11.out.frozen 1;have HXN:=Lib.hid ((HXT2.out.then_setCell (p:=⟨lb,0,none⟩) (by show wo.heap.size <= lb;rw [HLZ.out];exact Nat.le_refl _) (.int .i64 l1)).then_setCell (p:=⟨lb,1,none⟩) (by show wo.heap.size <= lb;rw [HLZ.out];exact Nat.le_refl _) (.int .i64 l2));have HLN:Hid (∃ q:Int × Int,Blk ((w7.setCell ⟨lb,0,none⟩ (.int .i64 l1)).setCell ⟨lb,1,none⟩ (.int .i64 l2)) lb 29 #[.int .i64 q.1,.int .i64 q.2] /\ Sheet.LmI n (fun i b=>Sheet.optW (V i b)) ca x (m + 1) q):=Lib.hid ⟨(l1,l2),(HLK11.out.store 0 (.int .i64 l1)).store 1 (.int .i64 l2),HT9.out⟩;go_wp2_with fail
           exact ⟨⟨m + 1,by go_num,by omega,HXN.out,HLN⟩,by simp [intOf];omega⟩
          ·rw [decide_eq_false hlt] at HMO;have HT9:=Lib.hid (HKP.out hq0 hlt);clear hlt hq0 HTK HKP HLN HXN hlmd hlmn hl12 hp1 hp2;go_wp2_with (go_at_call 47;refine (HMO.out _).mono ?_;rintro e w7 ⟨rfl,hw7⟩)
           exact ⟨⟨m + 1,by go_num,by omega,HXT.out.trans hw7,Lib.hid ⟨(q1,q2),HLK9.out.aft hw7,HT9.out⟩⟩,by simp [intOf];omega⟩
       ·have t1:decide (m < n) = false:=by simpa using hmn
        have em:m = n:=by omega
        subst em;obtain ⟨q1,q2⟩:=q9;obtain ⟨p1,p2⟩:=p;have hpn:=HBM.out.n0;have hpd:=HBM.out.d0;dsimp only at hpn hpd hlmd hlmn;have HBK9:=Lib.hid (HBK.out.aft HXR.out);have hp1:=prodb hlmn.1 hlmn.2 (show 0 <= p2 by omega) (show p2 <= 12 by omega);have hp2:=prodb (show -24000000 <= p1 by omega) hpn.2 hlmd.1 (show q2 <= 12 by omega);have HMO:Hid (∀ W,Calls Tryz.prog 47 #[.agg #[.int .i64 q1,.int .i64 q2],.agg #[.int .i64 p1,.int .i64 p2]] W fun e w'=>e = .returned (.bool (decide (p1 * q2 < q1 * p2))) /\ Aft W w'):=Lib.hid fun W=>more_any q1 q2 p1 p2 W (by omega) (by omega)
        have d1:wr.cell? ⟨lb,0,none⟩ = some (.int .i64 q1):=HLK.out.cell 0;have d2:wr.cell? ⟨lb,1,none⟩ = some (.int .i64 q2):=HLK.out.cell 1;have d3:=HLK.out.lt;have e1:wr.cell? ⟨bb,0,none⟩ = some (.int .i64 p1):=HBK9.out.cell 0;have e2:wr.cell? ⟨bb,1,none⟩ = some (.int .i64 p2):=HBK9.out.cell 1;have e3:=HBK9.out.lt;have HXT:=Lib.hid (HXO.out.trans HXR.out);by_cases hlt:p1 * q2 < q1 * p2
        ·rw [decide_eq_true hlt] at HMO;have HT9:=Lib.hid (HBM.out.take hn0 han h0.out (show (fun i b=>Sheet.optW (V i b)) m ca = some x from HXS.out) HLM.out hlt);clear hlt hlmd hlmn hp1 hp2 hpn hpd;go_upto_region 35 with (go_at_call 47;refine (HMO.out _).mono ?_;rintro e w7 ⟨rfl,hw7⟩)
         have HLK11:=Lib.hid (HLK.out.aft hw7);have HBK11:=Lib.hid (HBK9.out.aft hw7);have HXT2:=Lib.hid (HXT.out.trans hw7);clear d1 d2 d3 e1 e2 e3 hw7 HMO t1;have d1:w7.cell? ⟨lb,0,none⟩ = some (.int .i64 q1):=HLK11.out.cell 0;have d2:w7.cell? ⟨lb,1,none⟩ = some (.int .i64 q2):=HLK11.out.cell 1;have d3:=HLK11.out.lt;have e1:w7.cell? ⟨bb,0,none⟩ = some (.int .i64 p1):=HBK11.out.cell 0;have e2:w7.cell? ⟨bb,1,none⟩ = some (.int .i64 p2):=HBK11.out.cell 1;have e3:=HBK11.out.lt;have e4:=HBK11.out.frozen 0;have e5:=HBK11.out.frozen 1;have HXN:=Lib.hid ((HXT2.out.then_setCell (p:=⟨bb,0,none⟩) (by show wa.heap.size <= bb;rw [HBZ.out];exact Nat.le_refl _) (.int .i64 q1)).then_setCell (p:=⟨bb,1,none⟩) (by show wa.heap.size <= bb;rw [HBZ.out];exact Nat.le_refl _) (.int .i64 q2));have HLN:Hid (∃ p:Int × Int,Blk ((w7.setCell ⟨bb,0,none⟩ (.int .i64 q1)).setCell ⟨bb,1,none⟩ (.int .i64 q2)) bb 29 #[.int .i64 p.1,.int .i64 p.2] /\ Sheet.BmI m (fun i b=>Sheet.optW (V i b)) (ca + 1) p):=Lib.hid ⟨(q1,q2),(HBK11.out.store 0 (.int .i64 q1)).store 1 (.int .i64 q2),HT9.out⟩;go_wp2_with fail
         exact ⟨⟨ca + 1,by go_num,by omega,HXN.out,HLN⟩,by simp [intOf];omega⟩
        ·rw [decide_eq_false hlt] at HMO;have HT9:=Lib.hid (HBM.out.keep hn0 h0.out (show (fun i b=>Sheet.optW (V i b)) m ca = some x from HXS.out) HLM.out hlt);clear hlt hlmd hlmn hp1 hp2 hpn hpd;go_wp2_with (go_at_call 47;refine (HMO.out _).mono ?_;rintro e w7 ⟨rfl,hw7⟩)
         exact ⟨⟨ca + 1,by go_num,by omega,HXT.out.trans hw7,Lib.hid ⟨(p1,p2),HBK9.out.aft hw7,HT9.out⟩⟩,by simp [intOf];omega⟩
    ·have t1:decide (ca < n) = false:=by simpa using han
     have ea:ca = n:=by omega
     subst ea;have HR:=Lib.hid (HLP.out p HBM.out);have F9:=HF0.out.later (HXA.out.trans HXO.out);have e1:wo.cell? ⟨bb,0,none⟩ = some (.int .i64 p.1):=HBK.out.cell 0;have e2:wo.cell? ⟨bb,1,none⟩ = some (.int .i64 p.2):=HBK.out.cell 1;have e3:=HBK.out.lt;have z0:=(F9.nth 1 rfl).cell 0;have z1:=(F9.nth 1 rfl).cell 1;have z2:=(F9.nth 1 rfl).lt;have z3:=(F9.nth 1 rfl).frozen 0;have z4:=(F9.nth 1 rfl).frozen 1;simp only [List.getElem?_toArray,List.getElem?_cons_zero,List.getElem?_cons_succ] at z0 z1;have HF9:=Lib.hid F9;clear F9;go_wp2_with fail
     have B2:=((HF9.out.nth 1 rfl).store 0 (.int .i64 p.1)).store 1 (.int .i64 p.2);have A2:=(HF9.out.aft.then_setCell (p:=⟨s + 1,0,none⟩) (by show w.heap.size <= s + 1;rw [HS0.out];omega) (.int .i64 p.1)).then_setCell (p:=⟨s + 1,1,none⟩) (by show w.heap.size <= s + 1;rw [HS0.out];omega) (.int .i64 p.2);generalize (wo.setCell ⟨s + 1,0,none⟩ (.int .i64 p.1)).setCell ⟨s + 1,1,none⟩ (.int .i64 p.2) = X at *;have z0:X.cell? ⟨s + 1,0,none⟩ = some (.int .i64 p.1):=B2.cell 0;have z1:X.cell? ⟨s + 1,1,none⟩ = some (.int .i64 p.2):=B2.cell 1;exact bodyPost_ret (v:=.agg #[.int .i64 p.1,.int .i64 p.2]) (by simp [results,Tryz.results51,go_sem,z0,z1]) rfl ⟨p,rfl,HR.out,A2⟩
end Go.Proofs
end
