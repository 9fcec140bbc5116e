/- Own texts, merged: CtRj CtRk. -/
import Derived.Test.YtbchfakfdikkjaaGreatS16
set_option linter.unusedSimpArgs false
set_option linter.unusedVariables false
set_option linter.unnecessarySimpa false
section
/- Walks: the reference's full 76. -/
namespace Go.Proofs
open Go.RowKit
open Court (refL begF noS struckB strikeL standB coverB fullB)
attribute [local go_sem] Oper.semAt_some
theorem fullTo_le (p:List Int -> Bool) (N M:Nat):(fullTo p N M).length <= M:=by
 rw [(fullTo_perm p N M).length_eq];refine Nat.le_trans (List.length_filter_le _ _) ?_;rw [List.length_map,List.length_range];exact Nat.le_refl _
theorem fullTo_mem {p:List Int -> Bool} {N M:Nat} {l:List Int} (h:l ∈ fullTo p N M):∃ m,m < M /\ l = setL N m:=by
 have h2:=((fullTo_perm p N M).mem_iff).1 h;obtain ⟨h3,_⟩:=List.mem_filter.1 h2;obtain ⟨m,hm,e⟩:=List.mem_map.1 h3;exact ⟨m,List.mem_range.1 hm,e.symm⟩
theorem own_kept_own {w w':World} {base base':Nat} {e e':TypeId} {size size' n n':Nat} {v v':Value} {xs xs':List Value} (h:w.ownsRow base e size v n xs) (h':w.ownsRow base' e' size' v' n' xs') (hne:e ≠ e') (hg:w.grownBy w' v'.ownBlock):w'.ownsRow base e size v n xs:=by
 rcases h'.2 with ⟨rfl,_⟩ | ⟨k,cap,cur,rfl,_,hh,_⟩
 ·refine h.kept hg ?_
  cases hu:v.ownBlock with
  | none=>exact .inl rfl
  | some g=>exact .inr fun e=>by cases e
 ·exact own_kept_ty (g:=k) (cs:=cur) h hh hne hg
theorem info33':(Tryz.prog.info? 33).map (·.size) = some 1:=by kernel_rfl
set_option maxRecDepth 100000 in
set_option maxHeartbeats 16000000 in
theorem fullR_any (N:Nat) (S:List (Int × Int)) (T:List (List Int)) (a1 a2:Option Addr) (c1 c2:Nat) (R:List Int) (AR:Option Addr) (cR:Nat) (w:World) (hC:CRep w ⟨N,S,T⟩ a1 a2) (hN:1 <= N /\ N <= 14) (hS60:S.length <= 60) (hin:∀ s ∈ S,0 <= s.1 /\ s.1 < N) (hR:Ints w AR R) :
  Calls Tryz.prog 76 #[(.agg #[.int .i64 N,.slice a1 S.length c1,.slice a2 T.length c2]),.slice AR R.length cR] w fun e w'=>∃ v vs,e = .returned v /\ OutR w' w.heap.size v vs (fullTo (fullB S (refL R) N) N (2 ^ N)) /\ Aft w w':=by
 have H0:=Lib.hid (Aft.alloc w (.cells #[.int .i64 N,.slice a1 S.length c1,.slice a2 T.length c2] 31));have HB:=Lib.hid (Blk.new w 31 #[.int .i64 N,.slice a1 S.length c1,.slice a2 T.length c2]);have HC:=Lib.hid (hC.aft H0.out);have HR:=Lib.hid (hR.aft H0.out);obtain ⟨q,hq⟩:∃ q,2 ^ N = q:=⟨_,rfl⟩;have hq14:q <= 16384:=by rw [<- hq];exact Nat.le_trans (Nat.pow_le_pow_right (by omega) (show N <= 14 by omega)) (by decide)
 have q0:wrap64 ((2:Int) ^ N) = (q:Int):=by
  have e:(2:Int) ^ N = (q:Int):=by rw [<- hq];push_cast;rfl
  rw [e];unfold wrap64;omega
 rw [hq];obtain ⟨pp,hpp⟩:∃ pp,fullB S (refL R) N = pp:=⟨_,rfl⟩;obtain ⟨cov,hcov⟩:∃ cov:List Int -> Nat -> Bool,cov = fun l (n:Nat)=>hasB l (n:Int) || refL R n || strikeL S (refL l) n:=⟨_,rfl⟩
 have HCOV:Hid (∀ l n,cov l n = (hasB l (n:Int) || refL R n || strikeL S (refL l) n)):=Lib.hid fun l n=>by rw [hcov]
 have HPP:Hid (∀ l,pp l = (standB S (refL R) l && (List.range N).all (cov l))):=Lib.hid fun l=>by
  rw [<- hpp,<- Court.full_iff hin,hcov];rfl
 rw [hpp];clear hq hC hR hpp hcov;obtain ⟨bC,hbC⟩:∃ bC,w.heap.size = bC:=⟨_,rfl⟩;rw [hbC] at HB;have HBC:=Lib.hid hbC;have hw0:w.heap.size <= (w.alloc (.cells #[.int .i64 N,.slice a1 S.length c1,.slice a2 T.length c2] 31)).heap.size:=H0.out.size;rw [hbC] at hw0 ⊢;clear hbC;go_enter Tryz.func76,Tryz.ntmps76;go_upto_block 0 with fail
 rw [HBC.out];generalize w.alloc (.cells #[.int .i64 N,.slice a1 S.length c1,.slice a2 T.length c2] 31) = W0 at *;have HO00:Hid (OutR W0 W0.heap.size (.slice none 0 0) [] (fullTo pp N 0)):=Lib.hid OutR.nil;refine wp_block ?_;go_loopw [5,6] (fun v i wr=>∃ (m:Nat) (vs:List Value),i = .int .i64 m /\ m <= q /\ OutR wr W0.heap.size v vs (fullTo pp N m) /\ Aft W0 wr) (fun _ i _=>q - (intOf i).toNat)
 case atStart=>exact ⟨0,[],rfl,by omega,HO00.out,Aft.refl _⟩
 case round =>
  obtain ⟨m,vs,rfl,hm,hout,hy⟩:=hrel;have HOUT:=Lib.hid hout;have HY:=Lib.hid hy;clear hout hy;obtain ⟨W1,rfl⟩:∃ W1,W1 = wr:=⟨_,rfl⟩;obtain ⟨k0,k1,k2⟩:=box31 (HB.out.aft HY.out);have k3:=(HB.out.aft HY.out).lt;by_cases hmq:m < q
  ·have t2:decide (m < q) = true:=by simpa using hmq
   have HFS:=Lib.hid (fullTo_succ pp N m);have hfl:=fullTo_le pp N m
   have HFM:Hid (∀ x ∈ fullTo pp N m,x.length <= 14):=Lib.hid fun x hx=>by
    obtain ⟨m',_,e⟩:=fullTo_mem hx;rw [e];have:=idxL_len (fun i=>m'.testBit i) N;unfold setL;omega
   obtain ⟨ls,hls⟩:∃ ls,fullTo pp N m = ls:=⟨_,rfl⟩;rw [hls] at HFS hfl HFM HOUT;clear hls;obtain ⟨A5,c5,rfl,_,_⟩:=HOUT.out.lists (by omega) (fun x hx=>by have:=HFM.out x hx;omega);go_upto_block 2 with fail
   rw [q0];clear k0 k1 k2 k3;have HO0:=Lib.hid (World.ownsRow_nil W1 W1.heap.size 3 1);refine wp_block ?_;go_loopw [7,8] (fun v i wr=>∃ k:Nat,i = .int .i64 k /\ k <= N /\ wr.ownsRow W1.heap.size 3 1 v (idxL (fun i=>m.testBit i) k).length ((idxL (fun i=>m.testBit i) k).map (Value.int .i64)) /\ Aft W1 wr) (fun _ i _=>N - (intOf i).toNat)
   case atStart=>exact ⟨0,rfl,by omega,HO0.out,Aft.refl _⟩
   case round =>
    obtain ⟨k,rfl,hk,hown,hz⟩:=hrel;have HO:=Lib.hid hown;have HZ:=Lib.hid hz;clear hown hz;obtain ⟨k0,k1,k2⟩:=box31 (HB.out.aft (HY.out.trans HZ.out));have k3:=(HB.out.aft (HY.out.trans HZ.out)).lt;have hpl:=idxL_len (fun i=>m.testBit i) k;by_cases hkN:k < N
    ·have t3:decide (k < N) = true:=by simpa using hkN
     have ik64:(0:Int) <= (k:Int) /\ (k:Int) <= 64:=by omega
     have HP:=Lib.hid (idxL_succ (fun i=>m.testBit i) k);have hbit:=bits_big (m:=m) (k:=k) (by omega);cases hb:m.testBit k
     ·rw [hb] at hbit HP;clear hb;rw [if_neg (by decide),List.append_nil] at HP;go_wp2_with fail
      exact ⟨⟨k + 1,by go_num,by omega,by rw [HP.out];exact HO.out,HZ.out⟩,by simp [intOf];omega⟩
     ·rw [hb] at hbit HP;clear hb;rw [if_pos rfl] at HP;have HTA:=Lib.hid (own_aft HO.out (Aft.alloc wr (.cells #[.int .i64 k] 3)));have hbase:W1.heap.size <= (wr.alloc (.cells #[.int .i64 k] 3)).heap.size:=Nat.le_trans HZ.out.size (Aft.alloc _ _).size;have hge:=own_ge HO.out;go_wp2_with (at_builtin;refine wpList_push rfl _ _ rfl HTA.out hbase rfl rfl (cell_new1 _ _ _) (by omega) ?_;intro v6 w6 ho6 hg6;have HO6:=Lib.hid ho6;have HG6:=Lib.hid hg6;clear ho6 hg6)
      exact ⟨⟨k + 1,by go_num,by omega,by rw [HP.out];exact HO6.out,(HZ.out.then_alloc _).grown HG6.out hge⟩,by simp [intOf];omega⟩
    ·have t3:decide (k < N) = false:=by simpa using hkN
     obtain rfl:k = N:=by omega
     have HO2:Hid (wr.ownsRow W1.heap.size 3 1 u7 (setL k m).length ((setL k m).map (Value.int .i64))):=HO;have hpl2:(setL k m).length <= k:=hpl;obtain ⟨l,hl0⟩:∃ l,setL k m = l:=⟨_,rfl⟩;rw [hl0] at HFS HO2 hpl2;clear HO hpl hl0 hkN HO0;obtain ⟨A7,c7,rfl,_,hi7⟩:=own_ints HO2.out (by omega);have HI:=Lib.hid hi7;have HO:=Lib.hid (own_base HO2.out HY.out.size);obtain ⟨W2,rfl⟩:∃ W2,W2 = wr:=⟨_,rfl⟩;have HY2:=Lib.hid (HY.out.trans HZ.out)
     replace HOUT:=Lib.hid (HOUT.out.aft HZ.out)
     obtain ⟨st,hst⟩:∃ st,standB S (refL R) l = st:=⟨_,rfl⟩;have H73:=Lib.hid (standsR_any ⟨k,S,T⟩ a1 a2 c1 c2 R l AR A7 cR c7 W2 (HC.out.aft HY2.out) (HR.out.aft HY2.out) HI.out);have HPL:=Lib.hid (HPP.out l);dsimp only at H73;rw [hst] at H73 HPL;clear hi7 hst HO2 HZ HY;go_upto_block 4 with (go_at_call 73;refine H73.out.mono ?_;rintro e W3 ⟨rfl,ha⟩;have HA3:=Lib.hid ha;clear ha k0 k1 k2 k3)
     clear H73
     replace HOUT:=Lib.hid (HOUT.out.aft HA3.out)
     replace HI:=Lib.hid (HI.out.aft HA3.out)
     replace HO:=Lib.hid (own_aft HO.out HA3.out)
     replace HY2:=Lib.hid (HY2.out.trans HA3.out)
     clear HA3;refine wp_block ?_;go_loopw [9,10] (fun b i wr=>∃ (j:Nat) (bv:Bool),i = .int .i64 j /\ b = .bool bv /\ j <= k /\ Aft W3 wr /\ Hid (bv = (st && (List.range j).all (cov l)))) (fun _ i _=>k - (intOf i).toNat)
     case atStart=>exact ⟨0,st,rfl,rfl,by omega,Aft.refl _,Lib.hid (by simp)⟩
     case round =>
      obtain ⟨j,bv,rfl,rfl,hj,hz,HBV⟩:=hrel;have HZ:=Lib.hid hz;clear hz;obtain ⟨k0,k1,k2⟩:=box31 (HB.out.aft (HY2.out.trans HZ.out));have k3:=(HB.out.aft (HY2.out.trans HZ.out)).lt;go_upto_region 13 with fail
      go_cut [44] from 38 to 44 (fun s44 wx=>s44 = .bool (decide (j < k) && bv) /\ wx = wr)
      case first =>
       cases htj:decide (j < k)
       ·(repeat (first | go_big_skip | go_big_want | go_big_move | go_big_op | go_step | go_upon | go_back));go_meet;exact ⟨by rw [htj];rfl,rfl⟩
       ·(repeat (first | go_big_skip | go_big_want | go_big_move | go_big_op | go_step | go_upon | go_back));go_meet;exact ⟨by rw [htj];rfl,rfl⟩
      obtain ⟨rfl,rfl⟩:=hcut;obtain ⟨wr,rfl⟩:∃ wr,wr = wc:=⟨_,rfl⟩;cases hbg:(decide (j < k) && bv)
      ·have HBP:Hid (bv = pp l):=Lib.hid (by
        rw [HPL.out,HBV.out];by_cases hjk:j < k
        ·rw [decide_eq_true hjk,Bool.true_and] at hbg;have h:=HBV.out;rw [hbg] at h;cases hst:st
         ·rfl
         ·rw [hst,Bool.true_and] at h;rw [Bool.true_and,Bool.true_and,<- h]
          symm
          rw [Bool.eq_false_iff];intro h';have h2:=h.symm;rw [Bool.eq_false_iff] at h2;refine h2 (List.all_eq_true.2 fun x hx=>List.all_eq_true.1 h' x (List.mem_range.2 ?_));have:=List.mem_range.1 hx;omega
        ·obtain rfl:j = k:=by omega
         rfl)
       replace HOUT:=Lib.hid (HOUT.out.aft HZ.out)
       replace HI:=Lib.hid (HI.out.aft HZ.out)
       replace HO:=Lib.hid (own_aft HO.out HZ.out)
       replace HY2:=Lib.hid (HY2.out.trans HZ.out)
       rw [<- HBP.out] at HFS;clear HZ HBV hbg HPL k0 k1 k2 k3;cases bv
       ·rw [if_neg (by decide)] at HFS;go_wp2_with fail
        exact ⟨⟨m + 1,vs,by go_num,by omega,by rw [HFS.out];exact HOUT.out,HY2.out⟩,by simp [intOf];omega⟩
       ·rw [if_pos rfl] at HFS;obtain ⟨W4,rfl⟩:∃ W4,W4 = wr:=⟨_,rfl⟩;go_upto_block 6 with fail
        refine wp_block ?_;go_loopw [11] (fun i wr=>∃ p:Nat,i = .int .i64 p /\ p <= ls.length /\ Aft W4 wr /\ Hid (∀ i,(h:i < ls.length) -> i < p -> cmpZ ls[i] l < 0)) (fun i _=>ls.length - (intOf i).toNat)
        case atStart=>exact ⟨0,rfl,by omega,Aft.refl _,Lib.hid fun i _ h=>by omega⟩
        case round =>
         obtain ⟨p,rfl,hp,hz,HLT⟩:=hrel;have HZ:=Lib.hid hz;clear hz;obtain ⟨bz,hbz⟩:∃ bz,(if h:p < ls.length then decide (cmpZ ls[p] l < 0) else false) = bz:=⟨_,rfl⟩;have HBZ:=Lib.hid hbz;clear hbz;go_upto_region 18 with fail
         go_cut [74] from 63 to 74 (fun s74 wx=>s74 = .bool bz /\ Aft wr wx)
         case first =>
          by_cases hpl:p < ls.length
          ·have t4:decide (p < ls.length) = true:=by simpa using hpl
           have ip:(0:Int) <= (p:Int) /\ (p:Int) < (ls.length:Int):=by omega
           obtain ⟨A5',c5',e5,_,hls⟩:=(HOUT.out.aft HZ.out).lists (by omega) (fun x hx=>by have:=HFM.out x hx;omega);cases e5;obtain ⟨bt,ot,A',c',hbt,hltt,x1,hil⟩:=hls.row hpl;subst hbt;have h109:=beforeR_any ls[p] l A' A7 c' c7 wr hil (HI.out.aft HZ.out);have hbz:=HBZ.out;rw [dif_pos hpl] at hbz;rw [hbz] at h109;have H109:=Lib.hid h109;obtain ⟨r,hr⟩:∃ r,ls[p] = r:=⟨_,rfl⟩;rw [hr] at x1 H109;clear hls hil h109 hbz hr;(repeat (first | go_big_skip | go_big_want | go_big_move | go_big_op | go_step | go_upon | go_back));go_at_call 109;refine H109.out.mono ?_;rintro e wz ⟨rfl,ha⟩;dsimp only;have HAZ:=Lib.hid ha;clear ha;(repeat (first | go_big_skip | go_big_want | go_big_move | go_big_op | go_step | go_upon | go_back));go_meet;exact ⟨rfl,HAZ.out⟩
          ·have t4:decide (p < ls.length) = false:=by simpa using hpl
           have HBF:Hid (bz = false):=Lib.hid (by rw [<- HBZ.out,dif_neg hpl]);(repeat (first | go_big_skip | go_big_want | go_big_move | go_big_op | go_step | go_upon | go_back));go_meet;exact ⟨by rw [HBF.out],Aft.refl _⟩
         obtain ⟨rfl,hac⟩:=hcut;have HZ2:=Lib.hid (HZ.out.trans hac);clear hac HZ;cases bz
         ·have HGE:Hid (∀ h:p < ls.length,¬ cmpZ ls[p] l < 0):=Lib.hid fun h=>by
           have:=HBZ.out;rw [dif_pos h] at this;exact of_decide_eq_false this
          have HINS:=Lib.hid (insZ_at hp HLT.out HGE.out);rw [HINS.out] at HFS
          replace HOUT:=Lib.hid (HOUT.out.aft HZ2.out)
          replace HO:=Lib.hid (own_aft HO.out HZ2.out)
          replace HY2:=Lib.hid (HY2.out.trans HZ2.out)
          obtain ⟨W5,rfl⟩:∃ W5,W5 = wc:=⟨_,rfl⟩;clear HBZ HGE HLT HINS HZ2 HI;have HOA:=Lib.hid (HOUT.out.aft (Aft.alloc W5 (.cells #[.slice none 0 0] 33)));have HOL:=Lib.hid (own_aft HO.out (Aft.alloc W5 (.cells #[.slice none 0 0] 33)));have hvl:vs.length = ls.length:=HOUT.out.len;have hbase:W0.heap.size <= (W5.alloc (.cells #[.slice none 0 0] 33)).heap.size:=Nat.le_trans HY2.out.size (Aft.alloc _ _).size;have hge:=own_ge HOUT.out.own;obtain ⟨n1,hn1⟩:∃ n1,ls.length + 1 = n1:=⟨_,rfl⟩;have HN1:=Lib.hid hn1;go_upto_region 21 with (at_builtin;refine wpList_push_nil rfl _ _ rfl HOA.out.own hbase rfl rfl (cell_new1 _ _ _) (by omega) ?_;intro v6 W6 ho6 hg6;rw [hn1] at ho6;have HO6:=Lib.hid ho6;have HG6:=Lib.hid hg6;clear ho6 hg6)
          have HROWS:Hid (∀ i,(h:i < ls.length) -> (h':i < vs.length) -> W6.ownsRow W0.heap.size 3 1 vs[i] ls[i].length (ls[i].map (Value.int .i64))):=Lib.hid fun i h h'=>own_kept_own (HOA.out.rows i h h') HOA.out.own (by decide) HG6.out
          have HOL6:=Lib.hid (own_kept_own HOL.out HOA.out.own (by decide) HG6.out);have HY6:=Lib.hid ((HY2.out.then_alloc (.cells #[.slice none 0 0] 33)).grown HG6.out hge);clear HG6 HOA HOL HOUT HO HY2 hbase hge hn1
          obtain ⟨g,cap,cur,rfl,hbg,hh,hc,hm1,hs,ht⟩:∃ g cap cur,v6 = .slice (some ⟨g,0,none⟩) n1 cap /\ W0.heap.size <= g /\ W6.heap[g]? = some (.cells cur 33 (0,0)) /\ n1 <= cap /\ cap <= maxLen /\ cur.size = cap * 1 /\ cur.toList.take (n1 * 1) = vs ++ [.slice none 0 0]:=by
           rcases HO6.out.2 with ⟨_,h⟩ | h
           ·have:=HN1.out;omega
           ·exact h
          have HH:Hid (Blk W6 g 33 cur):=Lib.hid hh;have HT:=Lib.hid ht;have hn1:=HN1.out;have hml:maxLen = 9223372036854775807:=rfl
          have HCUR:Hid (∀ i,(h:i < vs.length) -> cur[i]? = some vs[i]):=Lib.hid fun i h=>by
           have h2:=congrArg (fun L=>L[i]?) HT.out;simp only [Nat.mul_one] at h2;rw [List.getElem?_take,if_pos (by omega),List.getElem?_append_left h,Array.getElem?_toList,List.getElem?_eq_getElem h] at h2;exact h2
          have HONE:Hid (∀ u ∈ vs,u.oneCell' = true):=Lib.hid fun u hu=>by
           obtain ⟨i,hi,rfl⟩:=List.mem_iff_getElem.1 hu;exact own_cell1 (HROWS.out i (by omega) hi)
          have HS:=Lib.hid hs;clear HO6 hh ht hs;have i82:IntKind.i64.wrap ((p:Int) + 1) = (p:Int) + 1:=by rw [IntWalk.i64_in _ (by omega)]
          have i83:(0:Int) <= (p:Int) + 1 /\ (p:Int) + 1 <= (n1:Int):=by omega
          have i86:(0:Int) <= (p:Int) /\ (p:Int) <= (n1:Int):=by omega
          have e83:((p:Int) + 1).toNat = p + 1:=by omega
          have c86:¬ cap = p:=by omega
          by_cases hpe:p < ls.length
          ·have c83:¬ cap = p + 1:=by omega
           refine wp_region_valsT (by kernel_rfl) 7 93 rfl (by kernel_rfl) (by kernel_rfl) (by kernel_rfl) [.slice (some ⟨g,0,none⟩) n1 cap,.int .i64 p,.int .i64 ((p:Int) + 1),.slice (some ⟨g,p + 1,none⟩) (n1 - (p + 1)) (cap - (p + 1)),.slice (some ⟨g,0,none⟩) n1 cap,.int .i64 p,.slice (some ⟨g,p,none⟩) (n1 - p) (cap - p)] rfl (fun done W=>Aft W6 W) (Aft.drew _) ?st1 ?fi1
           case st1 =>
            intro i o v ho hv
            match i,ho,hv with
            | 0,ho,hv =>
             cases ho;cases hv;refine .inl ⟨rfl,fun done a W hd hp hk hw K hK=>?_⟩;have e5:=hk.s 5;exact op_val (by simp [go_sem,ev' e5]) (hK _ hw)
            | 1,ho,hv =>
             cases ho;cases hv;refine .inl ⟨rfl,fun done a W hd hp hk hw K hK=>?_⟩;have e11:=hk.s 11;exact op_val (by simp [go_sem,ev' e11]) (hK _ hw)
            | 2,ho,hv =>
             cases ho;cases hv;refine .inl ⟨rfl,fun done a W hd hp hk hw K hK=>?_⟩;have e81:=hk.t 1;exact op_val (by simp [go_sem,ev' e81,i82]) (hK _ hw)
            | 3,ho,hv =>
             cases ho;cases hv;refine .inl ⟨rfl,fun done a W hd hp hk hw K hK=>?_⟩;have e80:=hk.t 0;have e82:=hk.t 2;exact op_val (by simp [go_sem,ev' e80,ev' e82,i83,e83,c83,sliced]) (hK _ hw)
            | 4,ho,hv =>
             cases ho;cases hv;refine .inl ⟨rfl,fun done a W hd hp hk hw K hK=>?_⟩;have e5:=hk.s 5;exact op_val (by simp [go_sem,ev' e5]) (hK _ hw)
            | 5,ho,hv =>
             cases ho;cases hv;refine .inl ⟨rfl,fun done a W hd hp hk hw K hK=>?_⟩;have e11:=hk.s 11;exact op_val (by simp [go_sem,ev' e11]) (hK _ hw)
            | 6,ho,hv =>
             cases ho;cases hv;refine .inl ⟨rfl,fun done a W hd hp hk hw K hK=>?_⟩;have e84:=hk.t 4;have e85:=hk.t 5;exact op_val (by simp [go_sem,ev' e84,ev' e85,i86,c86,sliced]) (hK _ hw)
            | _ + 7,_,hv=>cases hv
           intro done W hd hw;simp only [List.drop_succ_cons,List.drop_zero,List.zip_cons_cons,List.zip_nil_right,putAll];simp only [Act.put,List.setIfInBounds_toArray,List.set];have HHW:=Lib.hid (HH.out.aft hw);have HAW:=Lib.hid (HY6.out.trans hw);have HRW:Hid (∀ i,(h:i < ls.length) -> (h':i < vs.length) -> W.ownsRow W0.heap.size 3 1 vs[i] ls[i].length (ls[i].map (Value.int .i64))):=Lib.hid fun i h h'=>own_aft (HROWS.out i h h') hw
           have HXW:=Lib.hid (own_aft HOL6.out hw);clear hw HH HY6 HROWS HOL6 i82 i83 i86 e83 c83 c86;obtain ⟨arr,harr⟩:∃ arr,(cur.toList.take (p + 1) ++ (vs.drop p ++ cur.toList.drop (p + 1 + (vs.drop p).length))).toArray = arr:=⟨_,rfl⟩;have HARR:=Lib.hid harr;have hcs:cur.size = cap:=by have:=HS.out;omega
           have hlen2:(vs.drop p).length = Nat.min (n1 - p) (n1 - (p + 1)):=by rw [List.length_drop];show _ = min _ _;omega
           have hfit:p + 1 + (vs.drop p).length <= cur.size:=by rw [List.length_drop];omega
           have hsrc:∀ j v,(vs.drop p)[j]? = some v -> W.cell? ((⟨g,p,none⟩:Addr).add j) = some v:=fun j v hj=>by
            rw [Addr.add_lit,HHW.out.cell];rw [List.getElem?_drop] at hj;obtain ⟨hj1,hj2⟩:=List.getElem?_eq_some_iff.1 hj;rw [HCUR.out _ hj1,hj2]
           have h1c:∀ u ∈ vs.drop p,u.oneCell' = true:=fun u hu=>HONE.out u (List.mem_of_mem_drop hu)
           have HBA:Hid (Blk (W.setRow g arr) g 33 arr):=Lib.hid (setRow_heap W g cur arr 33 (0,0) HHW.out);have harl:p < arr.size:=by rw [<- HARR.out,List.size_toArray,List.length_append,List.length_take,Array.length_toList];omega
           obtain ⟨y,hy⟩:∃ y,arr[p]? = some y:=⟨_,Array.getElem?_eq_getElem harl⟩;have y0:(W.setRow g arr).cell? ⟨g,p,none⟩ = some y:=(HBA.out.cell p).trans hy;have y1:=HBA.out.frozen p;have y2:=HBA.out.lt;have hsr:=only_setRow W g arr;have HSR:=Lib.hid hsr;have H21:=Lib.hid hlen2;have HFT:=Lib.hid hfit;have HSC:=Lib.hid hsrc;have H1C:=Lib.hid h1c;have ip:(0:Int) <= (p:Int) /\ (p:Int) < (n1:Int):=by omega
           clear hlen2 hfit hsrc h1c hy harr hsr;refine wpList_copy_own rfl (.tmp 83) (.tmp 86) 23 23 rfl 33 Tryz.underlying23 info33' g (p + 1) (n1 - (p + 1)) (cap - (p + 1)) ⟨g,p,none⟩ (n1 - p) (cap - p) rfl rfl cur 33 HHW.out (vs.drop p) H21.out HSC.out HFT.out H1C.out ?_;rw [HARR.out];go_upto_region 22 with fail
           go_wp2_with fail
           have hset:(W.setRow g arr).grownBy ((W.setRow g arr).setCell ⟨g,p,none⟩ (.slice A7 l.length c7)) (some g):=only_setCell (only_refl _ (some g)) (p:=⟨g,p,none⟩) (.inl rfl) _;have hown:=own_ins (x:=.slice A7 l.length c7) hbg HHW.out (show ls.length + 1 <= cap by omega) hm1 HS.out (by rw [hn1];exact HT.out) hvl hpe;rw [HARR.out] at hown;rw [hn1] at hown;refine ⟨⟨m + 1,vs.take p ++ .slice A7 l.length c7 :: vs.drop p,by go_num,by omega,?_,(HAW.out.grown HSR.out (fun k e=>by cases e;exact hbg)).grown hset (fun k e=>by cases e;exact hbg)⟩,by simp [intOf];omega⟩;rw [HFS.out];exact OutR.ins hvl hp (by rw [hn1];exact hown) (fun i h h'=>own_kept_ty (own_kept_ty (HRW.out i h h') HHW.out (by decide) HSR.out) HBA.out (by decide) hset) (own_kept_ty (own_kept_ty HXW.out HHW.out (by decide) HSR.out) HBA.out (by decide) hset)
          ·obtain rfl:p = ls.length:=by omega
           obtain ⟨d83,hd83⟩:∃ d83:Option Addr,(if cap = ls.length + 1 then some (⟨g,0,none⟩:Addr) else some ⟨g,ls.length + 1,none⟩) = d83:=⟨_,rfl⟩;refine wp_region_valsT (by kernel_rfl) 7 93 rfl (by kernel_rfl) (by kernel_rfl) (by kernel_rfl) [.slice (some ⟨g,0,none⟩) n1 cap,.int .i64 ls.length,.int .i64 ((ls.length:Int) + 1),.slice d83 (n1 - (ls.length + 1)) (cap - (ls.length + 1)),.slice (some ⟨g,0,none⟩) n1 cap,.int .i64 ls.length,.slice (some ⟨g,ls.length,none⟩) (n1 - ls.length) (cap - ls.length)] rfl (fun done W=>Aft W6 W) (Aft.drew _) ?st2 ?fi2
           case st2 =>
            intro i o v ho hv
            match i,ho,hv with
            | 0,ho,hv =>
             cases ho;cases hv;refine .inl ⟨rfl,fun done a W hd hp hk hw K hK=>?_⟩;have e5:=hk.s 5;exact op_val (by simp [go_sem,ev' e5]) (hK _ hw)
            | 1,ho,hv =>
             cases ho;cases hv;refine .inl ⟨rfl,fun done a W hd hp hk hw K hK=>?_⟩;have e11:=hk.s 11;exact op_val (by simp [go_sem,ev' e11]) (hK _ hw)
            | 2,ho,hv =>
             cases ho;cases hv;refine .inl ⟨rfl,fun done a W hd hp hk hw K hK=>?_⟩;have e81:=hk.t 1;exact op_val (by simp [go_sem,ev' e81,i82]) (hK _ hw)
            | 3,ho,hv =>
             cases ho;cases hv;refine .inl ⟨rfl,fun done a W hd hp hk hw K hK=>?_⟩;have e80:=hk.t 0;have e82:=hk.t 2;exact op_val (by simp [go_sem,ev' e80,ev' e82,i83,e83,sliced,<- hd83]) (hK _ hw)
            | 4,ho,hv =>
             cases ho;cases hv;refine .inl ⟨rfl,fun done a W hd hp hk hw K hK=>?_⟩;have e5:=hk.s 5;exact op_val (by simp [go_sem,ev' e5]) (hK _ hw)
            | 5,ho,hv =>
             cases ho;cases hv;refine .inl ⟨rfl,fun done a W hd hp hk hw K hK=>?_⟩;have e11:=hk.s 11;exact op_val (by simp [go_sem,ev' e11]) (hK _ hw)
            | 6,ho,hv =>
             cases ho;cases hv;refine .inl ⟨rfl,fun done a W hd hp hk hw K hK=>?_⟩;have e84:=hk.t 4;have e85:=hk.t 5;exact op_val (by simp [go_sem,ev' e84,ev' e85,i86,c86,sliced]) (hK _ hw)
            | _ + 7,_,hv=>cases hv
           intro done W hd hw;simp only [List.drop_succ_cons,List.drop_zero,List.zip_cons_cons,List.zip_nil_right,putAll];simp only [Act.put,List.setIfInBounds_toArray,List.set];have HHW:=Lib.hid (HH.out.aft hw);have HAW:=Lib.hid (HY6.out.trans hw);have HRW:Hid (∀ i,(h:i < ls.length) -> (h':i < vs.length) -> W.ownsRow W0.heap.size 3 1 vs[i] ls[i].length (ls[i].map (Value.int .i64))):=Lib.hid fun i h h'=>own_aft (HROWS.out i h h') hw
           have HXW:=Lib.hid (own_aft HOL6.out hw);clear hw HH HY6 HROWS HOL6 i82 i83 i86 e83 c86 hd83;have hcs:cur.size = cap:=by have:=HS.out;omega
           have hmin:Nat.min (n1 - ls.length) (n1 - (ls.length + 1)) = 0:=by show min _ _ = 0;omega
           have HMIN:=Lib.hid hmin;obtain ⟨y,hy⟩:∃ y,cur[ls.length]? = some y:=⟨_,Array.getElem?_eq_getElem (by omega)⟩;have y0:W.cell? ⟨g,ls.length,none⟩ = some y:=(HHW.out.cell _).trans hy;have y1:=HHW.out.frozen ls.length;have y2:=HHW.out.lt;have ip:(0:Int) <= (ls.length:Int) /\ (ls.length:Int) < (n1:Int):=by omega
           clear hmin hy;refine wpList_copy_nothing rfl (.tmp 83) (.tmp 86) 23 23 rfl 33 Tryz.underlying23 info33' d83 (some ⟨g,ls.length,none⟩) (n1 - (ls.length + 1)) (cap - (ls.length + 1)) (n1 - ls.length) (cap - ls.length) rfl rfl HMIN.out ?_;go_upto_region 22 with fail
           go_wp2_with fail
           have hset:W.grownBy (W.setCell ⟨g,ls.length,none⟩ (.slice A7 l.length c7)) (some g):=only_setCell (only_refl _ (some g)) (p:=⟨g,ls.length,none⟩) (.inl rfl) _;have hown:=own_ins_end (x:=.slice A7 l.length c7) hbg HHW.out (show ls.length + 1 <= cap by omega) hm1 HS.out (by rw [hn1];exact HT.out) hvl;refine ⟨⟨m + 1,vs.take ls.length ++ .slice A7 l.length c7 :: vs.drop ls.length,by go_num,by omega,?_,HAW.out.grown hset (fun k e=>by cases e;exact hbg)⟩,by simp [intOf];omega⟩;rw [HFS.out];rw [hn1] at hown;exact OutR.ins hvl hp (by rw [hn1];exact hown) (fun i h h'=>own_kept_ty (HRW.out i h h') HHW.out (by decide) hset) (own_kept_ty HXW.out HHW.out (by decide) hset)
         ·have HPLT:Hid (p < ls.length /\ ∀ h:p < ls.length,cmpZ ls[p] l < 0):=Lib.hid (by
           have:=HBZ.out;by_cases h:p < ls.length
           ·rw [dif_pos h] at this;exact ⟨h,fun _=>of_decide_eq_true this⟩
           ·rw [dif_neg h] at this;cases this)
          have hpl:=HPLT.out.1
          have HLT2:Hid (∀ i,(h:i < ls.length) -> i < p + 1 -> cmpZ ls[i] l < 0):=Lib.hid fun i h h'=>by
           by_cases e:i = p
           ·subst e;exact HPLT.out.2 h
           ·exact HLT.out i h (by omega)
          clear HBZ HLT HPLT;go_wp2_with fail
          exact ⟨⟨p + 1,by go_num,by omega,HZ2.out,HLT2⟩,by simp [intOf];omega⟩
      ·obtain ⟨hjk,hbv⟩:=Bool.and_eq_true_iff.1 hbg;subst hbv;have hjk:=of_decide_eq_true hjk;obtain ⟨bl,hbl⟩:∃ bl,hasB l (j:Int) = bl:=⟨_,rfl⟩;obtain ⟨br,hbr⟩:∃ br,refL R j = br:=⟨_,rfl⟩;have hbr':hasB R (j:Int) = br:=hbr;obtain ⟨bs,hbs⟩:∃ bs,strikeL S (refL l) j = bs:=⟨_,rfl⟩;have H64:Hid (Calls Tryz.prog 64 #[.slice A7 l.length c7,.int .i64 j] wr fun e w'=>e = .returned (.bool bl) /\ wr = w'):=Lib.hid (by rw [<- hbl];exact hasR_any A7 l c7 j wr (HI.out.aft HZ.out));have H65:Hid (Calls Tryz.prog 64 #[.slice AR R.length cR,.int .i64 j] wr fun e w'=>e = .returned (.bool br) /\ wr = w'):=Lib.hid (by rw [<- hbr'];exact hasR_any AR R cR j wr (HR.out.aft (HY2.out.trans HZ.out)));have H104:Hid (Calls Tryz.prog 104 #[.agg #[.int .i64 k,.slice a1 S.length c1,.slice a2 T.length c2],.slice A7 l.length c7,.int .i64 j] wr fun e w'=>e = .returned (.bool bs) /\ Aft wr w'):=Lib.hid (by rw [<- hbs];exact strikesR_any ⟨k,S,T⟩ a1 a2 c1 c2 l A7 c7 j wr (HC.out.aft (HY2.out.trans HZ.out)) (HI.out.aft HZ.out));have HCJ:=Lib.hid (HCOV.out l j);rw [hbl,hbr,hbs] at HCJ;have HBV2:Hid ((st && (List.range (j + 1)).all (cov l)) = cov l j):=Lib.hid (by
        rw [all_range_succ,<- Bool.and_assoc,<- HBV.out,Bool.true_and])
       clear hbl hbr hbr' hbs HBV hbg;go_upto_block 5 with fail
       go_cut [9] from 47 to 60 (fun s9 wx=>s9 = .bool (cov l j) /\ Aft wr wx)
       case first =>
        refine wp_block ?_;cases bl
        ·cases br
         ·(repeat (first | go_big_skip | go_big_want | go_big_move | go_big_op | go_step | go_upon | go_back));go_at_call 64;refine H64.out.mono ?_;rintro e wz ⟨rfl,rfl⟩;dsimp only;(repeat (first | go_big_skip | go_big_want | go_big_move | go_big_op | go_step | go_upon | go_back));go_at_call 64;refine H65.out.mono ?_;rintro e wz ⟨rfl,rfl⟩;dsimp only;(repeat (first | go_big_skip | go_big_want | go_big_move | go_big_op | go_step | go_upon | go_back));go_at_call 104;refine H104.out.mono ?_;rintro e wz ⟨rfl,ha⟩;dsimp only;have HAZ:=Lib.hid ha;clear ha;(repeat (first | go_big_skip | go_big_want | go_big_move | go_big_op | go_step | go_upon | go_back));go_meet;exact ⟨by rw [HCJ.out];rfl,HAZ.out⟩
         ·(repeat (first | go_big_skip | go_big_want | go_big_move | go_big_op | go_step | go_upon | go_back));go_at_call 64;refine H64.out.mono ?_;rintro e wz ⟨rfl,rfl⟩;dsimp only;(repeat (first | go_big_skip | go_big_want | go_big_move | go_big_op | go_step | go_upon | go_back));go_at_call 64;refine H65.out.mono ?_;rintro e wz ⟨rfl,rfl⟩;dsimp only;(repeat (first | go_big_skip | go_big_want | go_big_move | go_big_op | go_step | go_upon | go_back));go_meet;exact ⟨by rw [HCJ.out];rfl,Aft.refl _⟩
        ·(repeat (first | go_big_skip | go_big_want | go_big_move | go_big_op | go_step | go_upon | go_back));go_at_call 64;refine H64.out.mono ?_;rintro e wz ⟨rfl,rfl⟩;dsimp only;(repeat (first | go_big_skip | go_big_want | go_big_move | go_big_op | go_step | go_upon | go_back));go_meet;exact ⟨by rw [HCJ.out];rfl,Aft.refl _⟩
       obtain ⟨rfl,hac⟩:=hcut;have HZ2:=Lib.hid (HZ.out.trans hac);clear hac HZ H64 H65 H104 HCJ k0 k1 k2 k3;go_wp2_with fail
       exact ⟨⟨j + 1,cov l j,by go_num,rfl,by omega,HZ2.out,Lib.hid HBV2.out.symm⟩,by simp [intOf];omega⟩
  ·have t2:decide (m < q) = false:=by simpa using hmq
   obtain rfl:m = q:=by omega
   go_wp2_with fail
   go_ret;exact ⟨_,vs,rfl,⟨own_base HOUT.out.own hw0,fun i h h'=>own_base (HOUT.out.rows i h h') hw0⟩,H0.out.trans HY.out⟩
end Go.Proofs
end
section
/- Walks: the reference's Full 28,Always 31;the program and its reference answer alike. -/
namespace Go.Proofs
open Go.RowKit
open Court (refL begF noS struckB strikeL standB coverB fullB)
attribute [local go_sem] Oper.semAt_some
def FullP (F:List (List Int)) (E:Int) (w:World) (e:Ending) (w':World):Prop:=∃ A c,e = .returned (.tuple #[.slice A F.length c,.int .i64 E]) /\ Lists w' A F /\ Aft w w'
def fullsR (S:List (Int × Int)) (R:List Int) (N:Nat):List (List Int):=fullTo (fullB S (refL R) N) N (2 ^ N)
set_option maxRecDepth 100000 in
set_option maxHeartbeats 4000000 in
theorem fullTop_bad (C:CaseL) (a1 a2:Option Addr) (c1 c2:Nat) (R:List Int) (A:Option Addr) (c:Nat) (w:World) (hC:CRep w C a1 a2) (hA:Ints w A R) (he:openE C R ≠ 0) :
  Calls Tryz.prog 28 #[(.agg #[.int .i64 C.claims,.slice a1 C.strikes.length c1,.slice a2 C.surveys.length c2]),.slice A R.length c] w (FullP [] (openE C R) w):=by
 have H0:=Lib.hid (Aft.alloc w (.cells #[.int .i64 C.claims,.slice a1 C.strikes.length c1,.slice a2 C.surveys.length c2] 31));have HB:=Lib.hid (Blk.new w 31 #[.int .i64 C.claims,.slice a1 C.strikes.length c1,.slice a2 C.surveys.length c2]);have H1:=Lib.hid (refutedR_any C a1 a2 c1 c2 R A c _ (hC.aft H0.out) (hA.aft H0.out));have t1:(openE C R != 0) = true:=by simpa using he
 obtain ⟨k0,k1,k2⟩:=box31 HB.out;have hlt:=HB.out.lt;unfold FullP;clear hC hA he;generalize openE C R = E at *;go_enter Tryz.func28,Tryz.ntmps28;go_wp2_with (go_at_call 66;refine H1.out.mono ?_;rintro e w1 ⟨rfl,ha1⟩;have HA1:=Lib.hid ha1;clear ha1)
 go_ret2;exact ⟨none,0,rfl,⟨by simp,.inl rfl⟩,H0.out.trans HA1.out⟩
set_option maxRecDepth 100000 in
set_option maxHeartbeats 4000000 in
theorem fullTop_good (N:Nat) (S:List (Int × Int)) (T:List (List Int)) (a1 a2:Option Addr) (c1 c2:Nat) (R:List Int) (A:Option Addr) (c:Nat) (w:World) (hC:CRep w ⟨N,S,T⟩ a1 a2) (hA:Ints w A R) (he:openE ⟨N,S,T⟩ R = 0) :
  Calls Tryz.prog 28 #[(.agg #[.int .i64 N,.slice a1 S.length c1,.slice a2 T.length c2]),.slice A R.length c] w (FullP (if 50 < (fullsR S R N).length then [] else fullsR S R N) (if 50 < (fullsR S R N).length then 11 else 0) w):=by
 have H0:=Lib.hid (Aft.alloc w (.cells #[.int .i64 N,.slice a1 S.length c1,.slice a2 T.length c2] 31));have HB:=Lib.hid (Blk.new w 31 #[.int .i64 N,.slice a1 S.length c1,.slice a2 T.length c2]);have H1:Hid (Calls Tryz.prog 66 #[(.agg #[.int .i64 N,.slice a1 S.length c1,.slice a2 T.length c2]),.slice A R.length c] (w.alloc (.cells #[.int .i64 N,.slice a1 S.length c1,.slice a2 T.length c2] 31)) fun e w'=>e = .returned (.int .i64 0) /\ Aft (w.alloc (.cells #[.int .i64 N,.slice a1 S.length c1,.slice a2 T.length c2] 31)) w'):=Lib.hid (by rw [<- he];exact refutedR_any ⟨N,S,T⟩ a1 a2 c1 c2 R A c _ (hC.aft H0.out) (hA.aft H0.out));have hok:=caseE_ok (openE_ok he).1;have hn1:=hok.n1;have hn2:=hok.n2;have hss:=hok.few;have hin:=hok.ins;dsimp only at hn1 hn2 hin hss;have H2:Hid (∀ W,Aft w W -> Calls Tryz.prog 76 #[(.agg #[.int .i64 N,.slice a1 S.length c1,.slice a2 T.length c2]),.slice A R.length c] W fun e w'=>∃ v vs,e = .returned v /\ OutR w' W.heap.size v vs (fullsR S R N) /\ Aft W w'):=Lib.hid fun W h=>fullR_any N S T a1 a2 c1 c2 R A c W (hC.aft h) (by omega) hss (fun s hs=>(hin s hs).1) (hA.aft h)
 have hfl:(fullsR S R N).length <= 16384:=Nat.le_trans (fullTo_le _ _ _) (Nat.le_trans (Nat.pow_le_pow_right (by omega) (show N <= 14 by omega)) (by decide))
 have HFM:Hid (∀ x ∈ fullsR S R N,x.length <= 14):=Lib.hid fun x hx=>by
  obtain ⟨m',_,e⟩:=fullTo_mem hx;rw [e];have:=idxL_len (fun i=>m'.testBit i) N;unfold setL;omega
 obtain ⟨k0,k1,k2⟩:=box31 HB.out;have hlt:=HB.out.lt;unfold FullP;clear hC hA he hok hin;generalize fullsR S R N = F at *;by_cases h50:50 < F.length
 ·rw [if_pos h50,if_pos h50];have t5:decide ((50:Int) < (F.length:Int)) = true:=decide_eq_true (by omega);clear h50;go_enter Tryz.func28,Tryz.ntmps28;go_wp2_with (first | (go_at_call 66;refine H1.out.mono ?_;rintro e w1 ⟨rfl,ha1⟩;have HA1:=Lib.hid (H0.out.trans ha1);obtain ⟨j0,j1,j2⟩:=box31 (HB.out.aft ha1);have hlt1:=(HB.out.aft ha1).lt;clear ha1) | (go_at_call 76;refine (H2.out _ HA1.out).mono ?_;rintro e w2 ⟨v,vs,rfl,ho,ha⟩;obtain ⟨A9,c9,rfl,_,hls⟩:=ho.lists (by omega) (fun x hx=>by have:=HFM.out x hx;omega);have HLS:=Lib.hid hls;have HA2:=Lib.hid (HA1.out.trans ha);clear ho ha hls))
  go_ret2;exact ⟨none,0,rfl,⟨by simp,.inl rfl⟩,HA2.out⟩
 ·rw [if_neg h50,if_neg h50];have t5:decide ((50:Int) < (F.length:Int)) = false:=decide_eq_false (by omega);clear h50;go_enter Tryz.func28,Tryz.ntmps28;go_wp2_with (first | (go_at_call 66;refine H1.out.mono ?_;rintro e w1 ⟨rfl,ha1⟩;have HA1:=Lib.hid (H0.out.trans ha1);obtain ⟨j0,j1,j2⟩:=box31 (HB.out.aft ha1);have hlt1:=(HB.out.aft ha1).lt;clear ha1) | (go_at_call 76;refine (H2.out _ HA1.out).mono ?_;rintro e w2 ⟨v,vs,rfl,ho,ha⟩;obtain ⟨A9,c9,rfl,_,hls⟩:=ho.lists (by omega) (fun x hx=>by have:=HFM.out x hx;omega);have HLS:=Lib.hid hls;have HA2:=Lib.hid (HA1.out.trans ha);clear ho ha hls))
  go_ret2;exact ⟨A9,c9,rfl,HLS.out,HA2.out⟩
set_option maxRecDepth 100000 in
set_option maxHeartbeats 4000000 in
theorem alwaysTop_bad (C:CaseL) (a1 a2:Option Addr) (c1 c2:Nat) (R:List Int) (A:Option Addr) (c:Nat) (w:World) (hC:CRep w C a1 a2) (hA:Ints w A R) (he:openE C R ≠ 0) :
  Calls Tryz.prog 31 #[(.agg #[.int .i64 C.claims,.slice a1 C.strikes.length c1,.slice a2 C.surveys.length c2]),.slice A R.length c] w (BadS (openE C R) w):=by
 have H0:=Lib.hid (Aft.alloc w (.cells #[.int .i64 C.claims,.slice a1 C.strikes.length c1,.slice a2 C.surveys.length c2] 31));have HB:=Lib.hid (Blk.new w 31 #[.int .i64 C.claims,.slice a1 C.strikes.length c1,.slice a2 C.surveys.length c2]);have H1:=Lib.hid (refutedR_any C a1 a2 c1 c2 R A c _ (hC.aft H0.out) (hA.aft H0.out));have t1:(openE C R != 0) = true:=by simpa using he
 obtain ⟨k0,k1,k2⟩:=box31 HB.out;have hlt:=HB.out.lt;unfold BadS;clear hC hA he;generalize openE C R = E at *;go_enter Tryz.func31,Tryz.ntmps31;go_wp2_with (go_at_call 66;refine H1.out.mono ?_;rintro e w1 ⟨rfl,ha1⟩;have HA1:=Lib.hid ha1;clear ha1)
 go_ret2;exact ⟨rfl,H0.out.trans HA1.out⟩
set_option maxRecDepth 100000 in
set_option maxHeartbeats 8000000 in
theorem alwaysTop_good (N:Nat) (S:List (Int × Int)) (T:List (List Int)) (a1 a2:Option Addr) (c1 c2:Nat) (R:List Int) (A:Option Addr) (c:Nat) (w:World) (hC:CRep w ⟨N,S,T⟩ a1 a2) (hA:Ints w A R) (he:openE ⟨N,S,T⟩ R = 0) (F:List (List Int)) (hF:fullsR S R N = F) :
  Calls Tryz.prog 31 #[(.agg #[.int .i64 N,.slice a1 S.length c1,.slice a2 T.length c2]),.slice A R.length c] w fun e w'=>(F = [] -> BadS 7 w e w') /\ (F ≠ [] -> PairR (everyL F N) 0 w e w'):=by
 have H0:=Lib.hid (Aft.alloc w (.cells #[.int .i64 N,.slice a1 S.length c1,.slice a2 T.length c2] 31));have HB:=Lib.hid (Blk.new w 31 #[.int .i64 N,.slice a1 S.length c1,.slice a2 T.length c2]);have H1:Hid (Calls Tryz.prog 66 #[(.agg #[.int .i64 N,.slice a1 S.length c1,.slice a2 T.length c2]),.slice A R.length c] (w.alloc (.cells #[.int .i64 N,.slice a1 S.length c1,.slice a2 T.length c2] 31)) fun e w'=>e = .returned (.int .i64 0) /\ Aft (w.alloc (.cells #[.int .i64 N,.slice a1 S.length c1,.slice a2 T.length c2] 31)) w'):=Lib.hid (by rw [<- he];exact refutedR_any ⟨N,S,T⟩ a1 a2 c1 c2 R A c _ (hC.aft H0.out) (hA.aft H0.out));have hok:=caseE_ok (openE_ok he).1;have hn1:=hok.n1;have hn2:=hok.n2;have hss:=hok.few;have hin:=hok.ins;dsimp only at hn1 hn2 hin hss
 have H2:Hid (∀ W,Aft w W -> Calls Tryz.prog 76 #[(.agg #[.int .i64 N,.slice a1 S.length c1,.slice a2 T.length c2]),.slice A R.length c] W fun e w'=>∃ v vs,e = .returned v /\ OutR w' W.heap.size v vs F /\ Aft W w'):=Lib.hid fun W h=>by
  have:=fullR_any N S T a1 a2 c1 c2 R A c W (hC.aft h) (by omega) hss (fun s hs=>(hin s hs).1) (hA.aft h);rw [show fullTo (fullB S (refL R) N) N (2 ^ N) = F from hF] at this;exact this
 have hfl:F.length <= 16384:=by
  rw [<- hF];exact Nat.le_trans (fullTo_le _ _ _) (Nat.le_trans (Nat.pow_le_pow_right (by omega) (show N <= 14 by omega)) (by decide))
 have HFM:Hid (∀ x ∈ F,x.length <= 14):=Lib.hid fun x hx=>by
  rw [<- hF] at hx;obtain ⟨m',_,e⟩:=fullTo_mem hx;rw [e];have:=idxL_len (fun i=>m'.testBit i) N;unfold setL;omega
 obtain ⟨bC,hbC⟩:∃ bC,w.heap.size = bC:=⟨_,rfl⟩;rw [hbC] at HB;have HBC:=Lib.hid hbC;clear hC hA he hok hin hF hbC;obtain ⟨PF,hPF⟩:∃ PF:Nat -> Bool,PF = fun (n:Nat)=>F.all fun l=>hasB l (n:Int):=⟨_,rfl⟩
 have HPF:Hid (∀ n:Nat,PF n = F.all fun l=>hasB l (n:Int)):=Lib.hid fun n=>by rw [hPF]
 rw [show everyL F N = idxL PF N by rw [hPF];rfl];clear hPF;unfold PairR BadS;go_enter Tryz.func31,Tryz.ntmps31;go_upto_region 1 with fail
 rw [HBC.out];generalize w.alloc (.cells #[.int .i64 N,.slice a1 S.length c1,.slice a2 T.length c2] 31) = W0 at *;obtain ⟨k0,k1,k2⟩:=box31 HB.out;have k3:=HB.out.lt;go_upto_region 5 with (first | (go_at_call 66;refine H1.out.mono ?_;rintro e w1 ⟨rfl,ha1⟩;have HA1:=Lib.hid ha1;have HB1:=Lib.hid (HB.out.aft ha1);obtain ⟨j0,j1,j2⟩:=box31 HB1.out;have hlt1:=HB1.out.lt;clear ha1) | (go_at_call 76;refine (H2.out _ (H0.out.trans HA1.out)).mono ?_;rintro e W2 ⟨v,vs,rfl,ho,ha⟩;obtain ⟨A9,c9,rfl,_,hls⟩:=ho.lists (by omega) (fun x hx=>by have:=HFM.out x hx;omega);have HLS:=Lib.hid hls;have HA2:=Lib.hid (HA1.out.trans ha);clear ho ha hls))
 clear k0 k1 k2 k3 j0 j1 j2 hlt1 H1 H2 HB1;by_cases h0:F.length = 0
 ·have t5:((F.length:Int) == 0) = true:=by rw [h0];rfl
  have HF0:Hid (F = []):=Lib.hid (List.eq_nil_of_length_eq_zero h0);clear h0;go_wp2_with fail
  go_ret2;exact ⟨fun _=>⟨rfl,H0.out.trans HA2.out⟩,fun h=>absurd HF0.out h⟩
 ·have t5:((F.length:Int) == 0) = false:=by rw [beq_eq_false_iff_ne];omega
  have HF0:Hid (F ≠ []):=Lib.hid fun e=>h0 (by rw [e];rfl)
  go_upto_block 0 with fail
  clear t5 h0;have HO0:=Lib.hid (World.ownsRow_nil W2 W2.heap.size 3 1);refine wp_block ?_;go_loopw [8,9] (fun v i wr=>∃ k:Nat,i = .int .i64 k /\ k <= N /\ wr.ownsRow W2.heap.size 3 1 v (idxL PF k).length ((idxL PF k).map (Value.int .i64)) /\ Aft W2 wr) (fun _ i _=>N - (intOf i).toNat)
  case atStart=>exact ⟨0,rfl,by omega,HO0.out,Aft.refl _⟩
  case round =>
   obtain ⟨k,rfl,hk,hown,hz⟩:=hrel;have HO:=Lib.hid hown;have HZ:=Lib.hid hz;clear hown hz;obtain ⟨k0,k1,k2⟩:=box31 (HB.out.aft (HA2.out.trans HZ.out));have k3:=(HB.out.aft (HA2.out.trans HZ.out)).lt;by_cases hkN:k < N
   ·have t2:decide (k < N) = true:=by simpa using hkN
    have HP:=Lib.hid (idxL_succ PF k);have hpl:=idxL_len PF k;obtain ⟨W3,rfl⟩:∃ W3,W3 = wr:=⟨_,rfl⟩;go_upto_block 2 with fail
    clear k0 k1 k2 k3;refine wp_block ?_;go_loopw [10,11] (fun b i wr=>∃ (j:Nat) (bv:Bool),i = .int .i64 j /\ b = .bool bv /\ j <= F.length /\ Aft W3 wr /\ Hid (bv = (F.take j).all fun l=>hasB l (k:Int))) (fun _ i _=>F.length - (intOf i).toNat)
    case atStart=>exact ⟨0,true,rfl,rfl,by omega,Aft.refl _,Lib.hid (by simp)⟩
    case round =>
     obtain ⟨j,bv,rfl,rfl,hj,hy,HBV⟩:=hrel;have HY:=Lib.hid hy;clear hy;by_cases hjl:j < F.length
     ·have t3:decide (j < F.length) = true:=by simpa using hjl
      have ij:(0:Int) <= (j:Int) /\ (j:Int) < (F.length:Int):=by omega
      obtain ⟨bt,ot,A',c',hbt,hltt,x1,hil⟩:=(HLS.out.aft (HZ.out.trans HY.out)).row hjl;subst hbt;have HTS:Hid (((F.take (j + 1)).all fun l=>hasB l (k:Int)) = (((F.take j).all fun l=>hasB l (k:Int)) && hasB F[j] (k:Int))):=Lib.hid (by
       rw [List.take_succ_eq_append_getElem hjl,List.all_append]
       simp)
      rw [<- HBV.out] at HTS;have h64:=hasR_any A' F[j] c' k wr hil;obtain ⟨r,hr⟩:∃ r,F[j] = r:=⟨_,rfl⟩;rw [hr] at x1 h64 HTS;obtain ⟨bh,hbh⟩:∃ bh,hasB r (k:Int) = bh:=⟨_,rfl⟩;rw [hbh] at h64 HTS;have H64:=Lib.hid h64;clear hil h64 hr hbh HBV;cases bv
      ·go_wp2_with fail
       exact ⟨⟨j + 1,false,by go_num,rfl,by omega,HY.out,Lib.hid (by rw [HTS.out];rfl)⟩,by simp [intOf];omega⟩
      ·go_wp2_with (go_at_call 64;refine H64.out.mono ?_;rintro e wz ⟨rfl,rfl⟩)
       exact ⟨⟨j + 1,bh,by go_num,rfl,by omega,HY.out,Lib.hid (by rw [HTS.out,Bool.true_and])⟩,by simp [intOf];omega⟩
     ·have t3:decide (j < F.length) = false:=by simpa using hjl
      have HBP:Hid (PF k = bv):=Lib.hid (by
       have:=HBV.out;rw [List.take_of_length_le (by omega)] at this;rw [HPF.out,this])
      rw [HBP.out] at HP;clear HBV hjl;cases bv
      ·rw [if_neg (by decide),List.append_nil] at HP;go_wp2_with fail
       exact ⟨⟨k + 1,by go_num,by omega,by rw [HP.out];exact own_aft HO.out HY.out,HZ.out.trans HY.out⟩,by simp [intOf];omega⟩
      ·rw [if_pos rfl] at HP;have HTA:=Lib.hid (own_aft (own_aft HO.out HY.out) (Aft.alloc wr (.cells #[.int .i64 k] 3)));have hbase:W2.heap.size <= (wr.alloc (.cells #[.int .i64 k] 3)).heap.size:=Nat.le_trans (HZ.out.trans HY.out).size (Aft.alloc _ _).size;have hge:=own_ge HO.out;go_wp2_with (at_builtin;refine wpList_push rfl _ _ rfl HTA.out hbase rfl rfl (cell_new1 _ _ _) (by omega) ?_;intro v6 w6 ho6 hg6;have HO6:=Lib.hid ho6;have HG6:=Lib.hid hg6;clear ho6 hg6)
       exact ⟨⟨k + 1,by go_num,by omega,by rw [HP.out];exact HO6.out,((HZ.out.trans HY.out).then_alloc _).grown HG6.out hge⟩,by simp [intOf];omega⟩
   ·have t2:decide (k < N) = false:=by simpa using hkN
    obtain rfl:k = N:=by omega
    have hpl:=idxL_len PF k;obtain ⟨A8,c8,rfl,_,hi8⟩:=own_ints HO.out (by omega);have HI8:=Lib.hid hi8;clear hi8 HO;go_wp2_with fail
    go_ret2;exact ⟨fun h=>absurd h HF0.out,fun _=>⟨A8,c8,rfl,HI8.out,H0.out.trans (HA2.out.trans HZ.out)⟩⟩
theorem full_pair (C:CaseL) (R:List Int):∃ (F:List (List Int)) (E:Int),
  (∀ A1 A2 k1 k2 A c X,CRep X C A1 A2 -> Ints X A R -> Calls Tryz.prog 27 #[.agg #[.int .i64 C.claims,.slice A1 C.strikes.length k1,.slice A2 C.surveys.length k2],.slice A R.length c] X (FullP F E X)) /\
  (∀ A1 A2 k1 k2 A c X,CRep X C A1 A2 -> Ints X A R -> Calls Tryz.prog 28 #[.agg #[.int .i64 C.claims,.slice A1 C.strikes.length k1,.slice A2 C.surveys.length k2],.slice A R.length c] X (FullP F E X)):=by
 by_cases he:openE C R = 0
 ·obtain ⟨N,S,T,rfl,hN1,hN14⟩:=case_nat (openE_ok he).1
  have hlen:(fullsL ⟨N,S,T⟩ R).length = (fullsR S R N).length:=by
   unfold fullsR;rw [fullTo_len];rfl
  refine ⟨if 50 < (fullsR S R N).length then [] else fullsR S R N,if 50 < (fullsR S R N).length then 11 else 0,fun A1 A2 k1 k2 A c X hX hA=>?_,fun A1 A2 k1 k2 A c X hX hA=>fullTop_good N S T A1 A2 k1 k2 R A c X hX hA he⟩;by_cases h:50 < (fullsR S R N).length
  ·have hf:fullE ⟨N,S,T⟩ R = 11:=by unfold fullE;rw [if_pos he,if_pos (by rw [hlen];exact h)]
   rw [if_pos h,if_pos h];refine (full27_bad ⟨N,S,T⟩ A1 A2 k1 k2 R A c X hX hA (by rw [hf];decide)).mono fun e w' h=>?_
   obtain ⟨rfl,ha⟩:=h;exact ⟨none,0,by rw [hf];rfl,⟨by simp,.inl rfl⟩,ha⟩
  ·have hf:fullE ⟨N,S,T⟩ R = 0:=by unfold fullE;rw [if_pos he,if_neg (by rw [hlen];exact h)]
   rw [if_neg h,if_neg h];refine (full27_good ⟨N,S,T⟩ A1 A2 k1 k2 R A c X hX hA hf).mono fun e w' h=>?_
   obtain ⟨A',c',L,rfl,hL,hp,hs,ha⟩:=h;have e2:L = fullsR S R N:=fullTo_eq S (refL R) N hp hs;rw [e2] at hL;exact ⟨A',c',by rw [e2],hL,ha⟩
 ·have hf:fullE C R = openE C R:=by unfold fullE;rw [if_neg he]
  refine ⟨[],openE C R,fun A1 A2 k1 k2 A c X hX hA=>?_,fun A1 A2 k1 k2 A c X hX hA=>fullTop_bad C A1 A2 k1 k2 R A c X hX hA he⟩;refine (full27_bad C A1 A2 k1 k2 R A c X hX hA (by rw [hf];exact he)).mono fun e w' h=>?_
  obtain ⟨rfl,ha⟩:=h;exact ⟨none,0,by rw [hf];rfl,⟨by simp,.inl rfl⟩,ha⟩
theorem always_pair (C:CaseL) (R:List Int):∃ (L:List Int) (E:Int),
  (∀ A1 A2 k1 k2 A c X,CRep X C A1 A2 -> Ints X A R -> Calls Tryz.prog 30 #[.agg #[.int .i64 C.claims,.slice A1 C.strikes.length k1,.slice A2 C.surveys.length k2],.slice A R.length c] X (PairR L E X)) /\
  (∀ A1 A2 k1 k2 A c X,CRep X C A1 A2 -> Ints X A R -> Calls Tryz.prog 31 #[.agg #[.int .i64 C.claims,.slice A1 C.strikes.length k1,.slice A2 C.surveys.length k2],.slice A R.length c] X (PairR L E X)):=by
 by_cases he:openE C R = 0
 ·obtain ⟨N,S,T,rfl,hN1,hN14⟩:=case_nat (openE_ok he).1;have hp:(fullsR S R N).Perm (fullsA ⟨N,S,T⟩ R):=fullTo_full S (refL R) N;by_cases hF:fullsA ⟨N,S,T⟩ R = []
  ·have hE:alwaysE ⟨N,S,T⟩ R = 7:=by unfold alwaysE;rw [if_pos he,if_pos hF]
   have hR0:fullsR S R N = []:=by rw [hF] at hp;exact hp.eq_nil
   refine ⟨[],7,fun A1 A2 k1 k2 A c X hX hA=>?_,fun A1 A2 k1 k2 A c X hX hA=>?_⟩
   ·refine (always_bad ⟨N,S,T⟩ A1 A2 k1 k2 R A c X hX hA (by rw [hE];decide)).mono fun e w' h=>?_
    obtain ⟨rfl,ha⟩:=h;exact ⟨none,0,by rw [hE];rfl,ints_none w',ha⟩
   ·exact (alwaysTop_good N S T A1 A2 k1 k2 R A c X hX hA he _ hR0).mono fun e w' h=>PairR.bad (h.1 rfl)
  ·have hE:alwaysE ⟨N,S,T⟩ R = 0:=by unfold alwaysE;rw [if_pos he,if_neg hF]
   have hR0:fullsR S R N ≠ []:=fun e=>hF (by rw [e] at hp;exact hp.symm.eq_nil)
   have hev:=every_always ⟨N,S,T⟩ R (F:=fullsR S R N) (N:=N) rfl hp hF;refine ⟨alwaysL ⟨N,S,T⟩ R,0,fun A1 A2 k1 k2 A c X hX hA=>?_,fun A1 A2 k1 k2 A c X hX hA=>?_⟩
   ·exact (always_good ⟨N,S,T⟩ A1 A2 k1 k2 R A c X hX hA hE).mono fun e w' h=>PairR.goodI h
   ·refine (alwaysTop_good N S T A1 A2 k1 k2 R A c X hX hA he _ rfl).mono fun e w' h=>?_
    rw [<- hev];exact h.2 hR0
 ·have hE:alwaysE C R = openE C R:=by unfold alwaysE;rw [if_neg he]
  refine ⟨[],openE C R,fun A1 A2 k1 k2 A c X hX hA=>?_,fun A1 A2 k1 k2 A c X hX hA=>(alwaysTop_bad C A1 A2 k1 k2 R A c X hX hA he).mono fun e w' h=>PairR.bad h⟩;refine (always_bad C A1 A2 k1 k2 R A c X hX hA (by rw [hE];exact he)).mono fun e w' h=>?_
  obtain ⟨rfl,ha⟩:=h;exact ⟨none,0,by rw [hE];rfl,ints_none w',ha⟩
end Go.Proofs
end
