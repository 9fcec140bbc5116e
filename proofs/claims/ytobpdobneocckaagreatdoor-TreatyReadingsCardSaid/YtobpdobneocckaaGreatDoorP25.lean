/- Own texts, merged: Rcm Cut Rxe0. -/
import Derived.Test.YtobpdobneocckaaGreatDoorP22
section
/- Walks: the reference's comes. -/
namespace Go.Proofs
open Go.RowKit
attribute [local go_sem] Oper.semAt_some
set_option maxRecDepth 100000 in
set_option maxHeartbeats 8000000 in
theorem comesRef_any (w:World) (T:Treaty) (a1 a2 a3 a4:Option Addr) (c1 c2 c3 c4:Nat) (R:List Int) (AR:Option Addr) (cR:Nat) (hT:TRep w T a1 a2 a3 a4) (hR:Ints w AR R) (ok:TOk T) (hro:ReadOk T R) (pl:Nat) (hpl:pl < T.places.toNat) :
  Calls Tryz.prog 62 #[.agg #[.int .i64 T.places,.slice a1 T.ways.length c1,.slice a2 T.words.length c2,.slice a3 T.starts.length c3,.slice a4 T.legs.length c4],.slice AR R.length cR,.int .i64 pl] w fun e w'=>e = .returned (.bool (nowF T (leadsF T R) (fun _=>false) T.legs.length pl)) /\ Aft w w':=by
 have HLG:=Lib.hid (fun (y:World) (hy:Aft w y)=>legsRef_any y T a1 a2 a3 a4 c1 c2 c3 c4 R AR cR (hT.aft hy) (hR.aft hy) ok hro);obtain ⟨P,hP⟩:=Int.eq_ofNat_of_zero_le (show 0 <= T.places from by have:=ok.p1;omega);have hP1:1 <= P:=by have:=ok.p1;omega
 have hP2:P <= 12:=by have:=ok.p2;omega
 have hplP:pl < P:=by rw [hP] at hpl;exact hpl
 have HPN:Hid (T.places.toNat = P):=Lib.hid (by rw [hP];rfl);have hln:=ok.nlegs;have HST:=Lib.hid hT.starts;have hsl:=hT.starts.len;have HSR:Hid (∀ x ∈ T.starts,∃ n:Nat,x = n /\ n < P):=Lib.hid fun x hx=>by have:=ok.starts x hx;exact ⟨x.toNat,by omega,by omega⟩
 rw [hP] at HLG;rw [hP];clear hT hR ok hro hP hpl;go_enter Tryz.func62,Tryz.ntmps62;go_upto_region 1 with fail
 have hb:=Blk.new w 35 #[.int .i64 P,.slice a1 T.ways.length c1,.slice a2 T.words.length c2,.slice a3 T.starts.length c3,.slice a4 T.legs.length c4];have ha:=Aft.alloc w (.cells #[.int .i64 P,.slice a1 T.ways.length c1,.slice a2 T.words.length c2,.slice a3 T.starts.length c3,.slice a4 T.legs.length c4] 35);generalize w.alloc (.cells #[.int .i64 P,.slice a1 T.ways.length c1,.slice a2 T.words.length c2,.slice a3 T.starts.length c3,.slice a4 T.legs.length c4] 35) = X at *;generalize w.heap.size = B0 at *;have HB:=Lib.hid hb;have HA:=Lib.hid ha;obtain ⟨k0,k1,k2',k3,k4⟩:=boxC hb;clear hb ha;(repeat (first | go_big_skip | go_big_want | go_big_move | go_big_op | go_step | go_upon | go_back));go_at_call 115;refine (HLG.out X HA.out).mono ?_;rintro e Y ⟨v,rfl,haY,hL⟩;obtain ⟨vs,hown,-⟩:=hL.ex;obtain ⟨vA,vc,rfl⟩:=own_slice2 hown;dsimp only;rw [Int.toNat_natCast] at hL;have HL:=Lib.hid hL;have HAY:=Lib.hid (HA.out.trans haY);have HBY:=Lib.hid (HB.out.aft haY);clear k0 k1 k2' k3 k4 haY hL hown HB HA HLG;obtain ⟨k0,k1,k2',k3,k4⟩:=boxC HBY.out;go_upto_region 3 with (at_make;refine wpList_make_bools rfl _ _ rfl rfl rfl (by omega) ?_)
 have HN0:Hid (NRow Y Y.heap.size P (fun c=>hasB (T.starts.take 0) c) (Y.alloc (.cells (madeCells #[.bool false] P) 4))):=Lib.hid ⟨Aft.alloc _ _,Nat.le_refl _,(BRow.made _ _).congr fun _ _=>rfl⟩;generalize Y.alloc (.cells (madeCells #[.bool false] P) 4) = Y1 at *;generalize hbn:Y.heap.size = bn at *;clear k0 k1 k2' k3 k4 hbn;(repeat (first | go_big_skip | go_big_want | go_big_move | go_big_op | go_step | go_upon | go_back));go_loopw [9] (fun i wr=>∃ k:Nat,i = .int .i64 k /\ k <= T.starts.length /\ NRow Y bn P (fun c=>hasB (T.starts.take k) c) wr) (fun i _=>T.starts.length - (intOf i).toNat)
 case atStart=>exact ⟨0,rfl,by omega,HN0.out⟩
 case round =>
  obtain ⟨k,rfl,hk,hn⟩:=hrel;have HN:=Lib.hid hn;obtain ⟨k0,k1,k2',k3,k4⟩:=boxC (HBY.out.aft hn.1);clear hn HN0;by_cases hkn:k < T.starts.length
  ·have hdec:decide (k < T.starts.length) = true:=decide_eq_true hkn;have i1:(0:Int) <= (k:Int) /\ (k:Int) < (T.starts.length:Int):=by omega
   obtain ⟨b3,o3,rfl,hb3,hc3⟩:=(HST.out.aft (HAY.out.trans HN.out.1)).at hkn;have x0:=hc3 k hkn;obtain ⟨s,hs,hsP⟩:=HSR.out _ (List.getElem_mem hkn);rw [hs] at x0;have i2:(0:Int) <= (s:Int) /\ (s:Int) < (P:Int):=by omega
   have y0:=HN.out.2.2.cell hsP;have y1:=HN.out.2.2.frozen s;have hlt:=HN.out.2.2.lt
   have HN':Hid (NRow Y bn P (fun c=>hasB (T.starts.take (k + 1)) c) (wr.setCell ⟨bn,s,none⟩ (.bool true))):=Lib.hid (HN.out.set hsP true fun d _=>by
    rw [List.take_succ_eq_append_getElem hkn,hs];unfold hasB;rw [List.contains_eq_mem,List.contains_eq_mem];by_cases e:d = s
    ·subst e;simp
    ·have:¬ ((d:Int) = (s:Int)):=by omega
     simp [e,this])
   clear hc3 hs;(repeat (first | go_big_skip | go_big_want | go_big_move | go_big_op | go_step | go_upon | go_back));exact ⟨⟨k + 1,by go_num,by omega,HN'.out⟩,by simp [intOf];omega⟩
  ·have hdec:decide (k < T.starts.length) = false:=decide_eq_false hkn;have HN1:Hid (NRow Y bn P (nowF T (leadsF T R) (fun _=>false) 0) wr):=Lib.hid (by have:=HN.out;rw [List.take_of_length_le (by omega)] at this;exact this);clear HN;(repeat (first | go_big_skip | go_big_want | go_big_move | go_big_op | go_step | go_upon | go_back));go_loopw [8,10] (fun v i wr=>∃ k b:Nat,i = .int .i64 k /\ v = .slice (some ⟨b,0,none⟩) P P /\ k <= T.legs.length /\ NRow Y b P (nowF T (leadsF T R) (fun _=>false) k) wr) (fun _ i _=>T.legs.length - (intOf i).toNat)
   case atStart=>exact ⟨0,bn,rfl,rfl,by omega,HN1.out⟩
   case round =>
    obtain ⟨k,b,rfl,rfl,hk,hn⟩:=hrel;have HN:=Lib.hid hn;obtain ⟨k0,k1,k2',k3,k4⟩:=boxC (HBY.out.aft hn.1);clear hn HN1;by_cases hkn:k < T.legs.length
    ·have hdec:decide (k < T.legs.length) = true:=decide_eq_true hkn;go_upto_region 11 with (at_make;refine wpList_make_bools rfl _ _ rfl rfl rfl (by omega) ?_)
     have HM0:Hid (NRow wr wr.heap.size P (fun c=>nextF T (leadsF T R) (fun _=>false) k 0 c) (wr.alloc (.cells (madeCells #[.bool false] P) 4))):=Lib.hid ⟨Aft.alloc _ _,Nat.le_refl _,(BRow.made _ _).congr fun _ _=>rfl⟩;generalize wr.alloc (.cells (madeCells #[.bool false] P) 4) = Y1 at *;generalize wr = y at *;generalize hbx:y.heap.size = bx at *;clear k0 k1 k2' k3 k4 hbx;(repeat (first | go_big_skip | go_big_want | go_big_move | go_big_op | go_step | go_upon | go_back));go_loopw [12] (fun i wr=>∃ k3:Nat,i = .int .i64 k3 /\ k3 <= P /\ NRow y bx P (fun c=>nextF T (leadsF T R) (fun _=>false) k k3 c) wr) (fun i _=>P - (intOf i).toNat)
     case atStart=>exact ⟨0,rfl,by omega,HM0.out⟩
     case round =>
      obtain ⟨k3,rfl,hk3,hm⟩:=hrel;have HM:=Lib.hid hm;obtain ⟨k0,k1,k2',m3,k4⟩:=boxC (HBY.out.aft (HN.out.1.trans hm.1));clear hm HM0;by_cases hkP:k3 < P
      ·have hdec3:decide (k3 < P) = true:=decide_eq_true hkP;have HJ0:Hid (NRow y bx P (fun c=>if c < 0 then nextF T (leadsF T R) (fun _=>false) k (k3 + 1) c else nextF T (leadsF T R) (fun _=>false) k k3 c) wr):=Lib.hid HM.out;(repeat (first | go_big_skip | go_big_want | go_big_move | go_big_op | go_step | go_upon | go_back));clear k0 k1 k2' m3 k4;go_loopw [13] (fun i wr=>∃ j:Nat,i = .int .i64 j /\ j <= P /\ NRow y bx P (fun c=>if c < j then nextF T (leadsF T R) (fun _=>false) k (k3 + 1) c else nextF T (leadsF T R) (fun _=>false) k k3 c) wr) (fun i _=>P - (intOf i).toNat)
       case atStart=>exact ⟨0,rfl,by omega,HJ0.out⟩
       case round =>
        obtain ⟨j,rfl,hj,hm⟩:=hrel;have HJ:=Lib.hid hm;obtain ⟨k0,k1,k2',m3,k4⟩:=boxC (HBY.out.aft (HN.out.1.trans hm.1));clear hm HJ0;by_cases hjP:j < P
        ·have hdecj:decide (j < P) = true:=decide_eq_true hjP;have y0:wr.cell? ⟨bx,j,none⟩ = some (.bool (nextF T (leadsF T R) (fun _=>false) k k3 j)):=by have:=HJ.out.2.2.cell hjP;rw [if_neg (by omega)] at this;exact this
         have y1:=HJ.out.2.2.frozen j;have hlt:=HJ.out.2.2.lt;have n0:wr.cell? ⟨b,k3,none⟩ = some (.bool (nowF T (leadsF T R) (fun _=>false) k k3)):=(HN.out.2.2.aft HJ.out.1).cell hkP;obtain ⟨bv,cv,bt,ct,ev,cT,hrows⟩:=(HL.out.aft (HN.out.1.trans HJ.out.1)).cells hkn;cases ev;obtain ⟨br,r1,hr2⟩:=hrows k3 hkP;have r2:=hr2 j hjP;have i1:(0:Int) <= (k:Int) /\ (k:Int) < (T.legs.length:Int):=by omega
         have i2:(0:Int) <= (k3:Int) /\ (k3:Int) < (P:Int):=by omega
         have i3:(0:Int) <= (j:Int) /\ (j:Int) < (P:Int):=by omega
         have HJ':Hid (NRow y bx P (fun c=>if c < j + 1 then nextF T (leadsF T R) (fun _=>false) k (k3 + 1) c else nextF T (leadsF T R) (fun _=>false) k k3 c) (wr.setCell ⟨bx,j,none⟩ (.bool (nextF T (leadsF T R) (fun _=>false) k k3 j || nowF T (leadsF T R) (fun _=>false) k k3 && leadsF T R k k3 j)))):=Lib.hid (HJ.out.set hjP _ fun d _=>by
          by_cases e:d = j
          ·subst e;rw [if_pos rfl,if_pos (by omega),nextF_succ,Bool.false_or]
          ·rw [if_neg e];by_cases h2:d < j
           ·rw [if_pos h2,if_pos (by omega)]
           ·rw [if_neg h2,if_neg (by omega)])
         clear hrows hr2;generalize nextF T (leadsF T R) (fun _=>false) k k3 j = q1 at *;generalize nowF T (leadsF T R) (fun _=>false) k k3 = q2 at *
         cases q1 with
         | true =>
          simp only [Bool.true_or] at HJ';(repeat (first | go_big_skip | go_big_want | go_big_move | go_big_op | go_step | go_upon | go_back));exact ⟨⟨j + 1,by go_num,by omega,HJ'.out⟩,by simp [intOf];omega⟩
         | false =>
          cases q2 with
          | false =>
           simp only [Bool.false_or,Bool.false_and] at HJ';(repeat (first | go_big_skip | go_big_want | go_big_move | go_big_op | go_step | go_upon | go_back));exact ⟨⟨j + 1,by go_num,by omega,HJ'.out⟩,by simp [intOf];omega⟩
          | true =>
           simp only [Bool.false_or,Bool.true_and] at HJ';generalize leadsF T R k k3 j = ld at *;(repeat (first | go_big_skip | go_big_want | go_big_move | go_big_op | go_step | go_upon | go_back));exact ⟨⟨j + 1,by go_num,by omega,HJ'.out⟩,by simp [intOf];omega⟩
        ·have hdecj:decide (j < P) = false:=decide_eq_false hjP;have HM':Hid (NRow y bx P (fun c=>nextF T (leadsF T R) (fun _=>false) k (k3 + 1) c) wr):=Lib.hid ⟨HJ.out.1,HJ.out.2.1,HJ.out.2.2.congr fun c hc=>by rw [if_pos (by omega)]⟩;(repeat (first | go_big_skip | go_big_want | go_big_move | go_big_op | go_step | go_upon | go_back));exact ⟨⟨k3 + 1,by go_num,by omega,HM'.out⟩,by simp [intOf];omega⟩
      ·have hdec3:decide (k3 < P) = false:=decide_eq_false hkP;have HN':Hid (NRow Y bx P (nowF T (leadsF T R) (fun _=>false) (k + 1)) wr):=Lib.hid ⟨HN.out.1.trans HM.out.1,Nat.le_trans HN.out.1.size HM.out.2.1,HM.out.2.2.congr fun c _=>by rw [show k3 = T.places.toNat by have:=HPN.out;omega,nextF_all]⟩;(repeat (first | go_big_skip | go_big_want | go_big_move | go_big_op | go_step | go_upon | go_back));exact ⟨⟨k + 1,bx,by go_num,rfl,by omega,HN'.out⟩,by simp [intOf];omega⟩
    ·have hdec:decide (k < T.legs.length) = false:=decide_eq_false hkn;obtain rfl:k = T.legs.length:=by omega
     have n0:wr.cell? ⟨b,pl,none⟩ = some (.bool (nowF T (leadsF T R) (fun _=>false) T.legs.length pl)):=HN.out.2.2.cell hplP;have i2:(0:Int) <= (pl:Int) /\ (pl:Int) < (P:Int):=by omega
     obtain ⟨q,hq⟩:∃ q,nowF T (leadsF T R) (fun _=>false) T.legs.length pl = q:=⟨_,rfl⟩;have HQ:=Lib.hid hq;rw [hq] at n0;clear hq;(repeat (first | go_big_skip | go_big_want | go_big_move | go_big_op | go_step | go_upon | go_back));go_ret;exact ⟨by rw [HQ.out];rfl,HAY.out.trans HN.out.1⟩
end Go.Proofs
end
section
/- Plain: treaties with their first or last legs alone. -/
namespace Go.Proofs
def cutA (T:Treaty) (i:Nat):Treaty:={ T with legs:=T.legs.take i }
def cutZ (T:Treaty) (i b:Nat):Treaty:={ T with legs:=T.legs.drop i,starts:=[(b:Int)] }
theorem leadsP_cutA {T:Treaty} {R:List Int} {i j a b:Nat} (hj:j < i):LeadsP (cutA T i) R j a b ↔ LeadsP T R j a b:=by
 unfold LeadsP;constructor
 ·rintro ⟨h,h1,h2,h3⟩;have h':j < T.legs.length:=by have:j < (T.legs.take i).length:=h;rw [List.length_take] at this;omega
  have e:(cutA T i).legs[j] = T.legs[j]:=List.getElem_take;rw [e] at h2 h3;exact ⟨h',h1,h2,h3⟩
 ·rintro ⟨h,h1,h2,h3⟩;have h':j < (cutA T i).legs.length:=by show j < (T.legs.take i).length;rw [List.length_take];omega
  have e:(cutA T i).legs[j] = T.legs[j]:=List.getElem_take;refine ⟨h',h1,?_,?_⟩
  ·rw [e];exact h2
  ·rw [e];exact h3
theorem leadsP_cutZ {T:Treaty} {R:List Int} {i b0 j a b:Nat}:LeadsP (cutZ T i b0) R j a b ↔ LeadsP T R (i + j) a b:=by
 unfold LeadsP;constructor
 ·rintro ⟨h,h1,h2,h3⟩;have h':i + j < T.legs.length:=by have:j < (T.legs.drop i).length:=h;rw [List.length_drop] at this;omega
  have e:(cutZ T i b0).legs[j] = T.legs[i + j]:=List.getElem_drop;rw [e] at h2 h3;exact ⟨h',h1,h2,h3⟩
 ·rintro ⟨h,h1,h2,h3⟩;have h':j < (cutZ T i b0).legs.length:=by show j < (T.legs.drop i).length;rw [List.length_drop];omega
  have e:(cutZ T i b0).legs[j] = T.legs[i + j]:=List.getElem_drop;refine ⟨h',h1,?_,?_⟩
  ·rw [e];exact h2
  ·rw [e];exact h3
theorem leadsF_cutA {T:Treaty} {R:List Int} {i j a b:Nat} (hj:j < i):leadsF (cutA T i) R j a b = leadsF T R j a b:=by
 unfold leadsF;rw [decide_eq_decide];exact leadsP_cutA hj
theorem leadsF_cutZ {T:Treaty} {R:List Int} {i b0 j a b:Nat}:leadsF (cutZ T i b0) R j a b = leadsF T R (i + j) a b:=by
 unfold leadsF;rw [decide_eq_decide];exact leadsP_cutZ
theorem cutA_ok {T:Treaty} (ok:TOk T) (i:Nat):TOk (cutA T i) :=
 { ok with
  nlegs:=by show (T.legs.take i).length <= 10;rw [List.length_take];have:=ok.nlegs;omega
  legs:=fun l hl=>ok.legs l (List.mem_of_mem_take hl) }
theorem cutZ_ok {T:Treaty} (ok:TOk T) (i b:Nat) (hb:b < T.places.toNat):TOk (cutZ T i b) :=
 { ok with
  nstarts:=by show 1 <= [(b:Int)].length;simp
  nlegs:=by show (T.legs.drop i).length <= 10;rw [List.length_drop];have:=ok.nlegs;omega
  starts:=fun x hx=>by
   have:x = (b:Int):=List.mem_singleton.1 hx;subst this;show 0 <= (b:Int) /\ (b:Int) < T.places;omega
  legs:=fun l hl=>ok.legs l (List.mem_of_mem_drop hl)
  rstarts:=rfl }
theorem cut_now {T:Treaty} {R:List Int} {i:Nat}:∀ k,k <= i -> ∀ b,nowF (cutA T i) (leadsF (cutA T i) R) (fun _=>false) k b = comeF T (leadsF T R) k b
 | 0,_,b=>rfl
 | k + 1,hk,b=>by
  unfold nowF comeF;show ((List.range T.places.toNat).any fun a=>nowF (cutA T i) (leadsF (cutA T i) R) (fun _=>false) k a && (false || leadsF (cutA T i) R k a b)) = _
  congr 1
  funext a
  rw [cut_now k (by omega) a,Bool.false_or,leadsF_cutA (by omega)]
theorem cut_ahd {T:Treaty} {R:List Int} {i b0:Nat} {f':Nat -> Nat -> Nat -> Bool} (hf:f' = leadsF (cutZ T i b0) R):∀ k j a,ahd (cutZ T i b0) f' k j a = ahd T (leadsF T R) k (i + j) a
 | 0,_,_=>rfl
 | k + 1,j,a=>by
  unfold ahd;show ((List.range T.places.toNat).any fun b=>f' j a b && ahd (cutZ T i b0) f' k (j + 1) b) = _
  congr 1
  funext b
  rw [cut_ahd hf k (j + 1) b,hf,leadsF_cutZ];rfl
theorem cut_enough {T:Treaty} (ok:TOk T) {R:List Int} {i b:Nat} (hb:b < T.places.toNat):enB (cutZ T i b) (leadsF (cutZ T i b) R) (fun _=>false) = ahd T (leadsF T R) (T.legs.length - i) i b:=by
 rw [enB_opens (cutZ_ok ok i b hb) (f':=leadsF (cutZ T i b) R) (fun _ _ _ _ _ _=>by simp)];unfold opens;show [(b:Int)].any _ = _;rw [List.any_cons,List.any_nil,Bool.or_false];show ahd (cutZ T i b) (leadsF (cutZ T i b) R) (T.legs.drop i).length 0 ((b:Int).toNat) = _;rw [cut_ahd rfl,List.length_drop];rfl
end Go.Proofs
end
section
/- For the reference's Ends: regions by facts with their slots spelled;the state of its table. -/
namespace Go
section
variable {P:Program} {Q:Exit -> Act -> World -> Prop} {a0:Act}
theorem heldG_putAll {xs:List Oper} {Fact:(Nat -> Bool) -> Nat -> Value -> World -> Prop} {Wd:(Nat -> Bool) -> Act -> World -> Prop} {done:Nat -> Bool} {a:Act} {w:World} (hn:(xs.filterMap (·.dst)).Nodup) (hin:∀ o ∈ xs,∀ s,o.dst = some s -> s < a0.tmps.size)
  (hd:∀ i,i < xs.length -> done i = true) (h:HeldG xs.toArray Fact Wd a0 done a w):∃ vals:List Value,vals.length = xs.length /\ a = putAll a0 (xs.zip vals) /\ ∀ (i:Nat) (o:Oper) (s:Nat),xs[i]? = some o -> o.dst = some s -> ∃ v,vals[i]? = some v /\ Fact done i v w:=by
 let vals:List Value:=xs.map fun o=>match o.dst with | some s=>a.eval (.tmp s) | none=>undef
 have hl:xs.length = vals.length:=by simp [vals]
 have hv:∀ (i:Nat) (o:Oper) (s:Nat),xs[i]? = some o -> o.dst = some s -> vals[i]? = some (a.eval (.tmp s)):=fun i o s ho hs=>by
  simp only [vals,List.getElem?_map,ho,Option.map_some,hs]
 refine ⟨vals,hl.symm,?_,fun i o s ho hs=>⟨_,hv i o s ho hs,?_⟩⟩
 ·have hH:Held xs.toArray (fun i v _=>vals[i]? = some v) (fun _ _=>True) a0 done a w:=⟨trivial,h.size,h.defers,h.closed,h.old,fun i o s ho hs _=>hv i o s (by simpa using ho) hs⟩;exact held_putAll hl hn hin hd hH
 ·exact h.fact i o s (by simpa using ho) hs (hd i (List.getElem?_eq_some_iff.1 ho).1)
theorem wp_region_factsV {id:Nat} {xs:List Oper} {w:World} (hm:P.follows .mixedOrders = true) (n:Nat) (hn:a0.tmps.size = n) (hB:factsGB xs n = true)
  (Fact:(Nat -> Bool) -> Nat -> Value -> World -> Prop) (Wd:(Nat -> Bool) -> Act -> World -> Prop) (h0:Wd (fun _=>false) a0 w.drew)
  (step:∀ (i:Nat) (o:Oper),xs[i]? = some o -> ∀ (done:Nat -> Bool) (a:Act) (w:World),HeldG xs.toArray Fact Wd a0 done a w -> done i = false -> (∀ j ∈ Region.preds o,done j = true) -> ∀ K:Act -> World -> Prop,
   (∀ (v:Value) (w':World),Fact (upd done i) i v w' -> Wd (upd done i) (a.put o.dst v) w' -> (∀ (j:Nat) (oj:Oper) (s:Nat),xs[j]? = some oj -> oj.dst = some s -> done j = true -> Fact done j (a.eval (.tmp s)) w -> Fact (upd done i) j (a.eval (.tmp s)) w') -> K (a.put o.dst v) w') -> if Region.wanted o (yielded xs.toArray a.tmps) = true then Oper.wp P o a w K Q else K (a.put o.dst undef) w)
  (fin:∀ (done:Nat -> Bool) (vals:List Value) (w:World),(∀ i,i < xs.length -> done i = true) -> vals.length = xs.length -> (∀ (i:Nat) (o:Oper) (s:Nat),xs[i]? = some o -> o.dst = some s -> ∃ v,vals[i]? = some v /\ Fact done i v w) -> Wd done (putAll a0 (xs.zip vals)) w -> Q .normal (putAll a0 (xs.zip vals)) w):(Code.region id xs.toArray true).wp P Q a0 w:=by
 have hB':=hB;unfold factsGB at hB';rw [Bool.and_eq_true,Bool.and_eq_true] at hB';obtain ⟨⟨h2,h3⟩,h4⟩:=hB'
 have hin:∀ o ∈ xs,∀ s,o.dst = some s -> s < a0.tmps.size:=fun o ho s hs=>by
  have:=List.all_eq_true.1 h3 o ho;rw [hs] at this;rw [hn];simpa using this
 refine wp_region_factsG hm n hn hB Fact Wd h0 step fun done a w hd hH=>?_
 obtain ⟨vals,hl,e,hf⟩:=heldG_putAll (of_decide_eq_true h2) hin hd hH;have hw:=hH.wd;rw [e] at hw ⊢;exact fin done vals w hd hl hf hw
theorem wp_region_valsD {id:Nat} {xs:List Oper} {w:World} (hm:P.follows .mixedOrders = true) (n:Nat) (hn:a0.tmps.size = n) (hB:factsGB xs n = true) (hG:guardsB xs = true) (vals:List Value) (hl:xs.length = vals.length) (Wd:(Nat -> Bool) -> World -> Prop) (h0:Wd (fun _=>false) w.drew)
  (step:∀ (i:Nat) (o:Oper) (v:Value),xs[i]? = some o -> vals[i]? = some v -> wantedV vals o = true /\ (∀ (done:Nat -> Bool) (a:Act) (w:World),Knows xs vals a0 i a -> Wd done w -> done i = false -> (∀ j ∈ Region.preds o,done j = true) -> (∀ j o',xs[j]? = some o' -> done j = true -> i ∉ Region.preds o') -> ∀ K:Act -> World -> Prop,(∀ w',Wd (upd done i) w' -> K (a.put o.dst v) w') -> Oper.wp P o a w K Q) \/ wantedV vals o = false /\ v = undef /\ ∀ done w,Wd done w -> Wd (upd done i) w)
  (fin:∀ done w,(∀ i,i < xs.length -> done i = true) -> Wd done w -> Q .normal (putAll a0 (xs.zip vals)) w):(Code.region id xs.toArray true).wp P Q a0 w:=by
 have hB':=hB;unfold factsGB at hB';rw [Bool.and_eq_true,Bool.and_eq_true] at hB';obtain ⟨⟨h2,h3⟩,h4⟩:=hB'
 have hin:∀ o ∈ xs,∀ s,o.dst = some s -> s < a0.tmps.size:=fun o ho s hs=>by
  have:=List.all_eq_true.1 h3 o ho;rw [hs] at this;rw [hn];simpa using this
 refine wp_region_factsG hm n hn hB (fun _ i v _=>vals[i]? = some v) (fun d _ w=>Wd d w) h0 (fun i o ho done a w hH hd hp K hK=>?_) (fun done a w hd hH=>?_)
 ·have hi:=(List.getElem?_eq_some_iff.1 ho).1;have hv:vals[i]? = some vals[i]:=List.getElem?_eq_getElem (by omega)
  have hk:Knows xs vals a0 i a:=⟨fun j o' s v hx hj oj hoj hs hvj=>by
   rw [ho] at hx;cases hx;have:=hH.fact j oj s (by simpa using hoj) hs (hp j hj);rw [hvj] at this;exact (Option.some.inj this).symm,fun s hs=>hH.same (by simpa using hs)⟩
  rw [wanted_eq hin hH (List.mem_of_getElem? ho) hp hG];rcases step i o _ ho hv with ⟨hw,hs⟩ | ⟨hw,hs,hu⟩
  ·rw [if_pos hw];exact hs done a w hk hH.wd hd hp (fun j o' hj hdj hi=>by have:=hH.closed j o' (by simpa using hj) hdj i hi;rw [hd] at this;cases this) K fun w' hw'=>hK _ w' hv hw' fun _ _ _ _ _ _ h=>h
  ·rw [if_neg (by rw [hw];decide)];rw [hs] at hv;exact hK _ w hv (hu _ _ hH.wd) fun _ _ _ _ _ _ h=>h
 ·have hH':Held xs.toArray (fun i v _=>vals[i]? = some v) (fun d w=>Wd d w) a0 done a w:=⟨hH.wd,hH.size,hH.defers,hH.closed,hH.old,hH.fact⟩;rw [held_putAll hl (of_decide_eq_true h2) hin hd hH'];exact fin done w hd hH.wd
theorem step_on {o:Oper} {y:Nat -> Option Bool} {A B:Prop} (h:o.guard = none) (hw:A):if Region.wanted o y = true then A else B:=by
 have:Region.wanted o y = true:=by unfold Region.wanted;rw [h]
 rw [if_pos this];exact hw
theorem wantedG {xs:List Oper} {Fact:(Nat -> Bool) -> Nat -> Value -> World -> Prop} {Wd:(Nat -> Bool) -> Act -> World -> Prop} {done:Nat -> Bool} {a:Act} {w:World} (h:HeldG xs.toArray Fact Wd a0 done a w) {o oj:Oper} {j s:Nat} {b x:Bool} (hgd:o.guard = some (j,b)) (hoj:xs[j]? = some oj) (hs:oj.dst = some s) {n:Nat} (hn:a.tmps.size = n) (hlt:s < n) (hv:a.eval (.tmp s) = .bool x) :
  Region.wanted o (yielded xs.toArray a.tmps) = (x == b):=by
 have hlt':s < a.tmps.size:=by rw [hn];exact hlt
 have hy:yielded xs.toArray a.tmps j = some x:=by
  unfold yielded
  have:((xs.toArray[j]?).bind (·.dst)).bind (a.tmps[·]?) = some (a.eval (.tmp s)):=by
   rw [List.getElem?_toArray,hoj,Option.bind_some,hs];simp only [Option.bind_some,Act.eval,Array.getD_eq_getD_getElem?];rw [Array.getElem?_eq_getElem hlt'];rfl
  rw [this,hv]
 unfold Region.wanted;rw [hgd];simp only [hy];cases x <;> cases b <;> rfl
theorem step_yes {o:Oper} {y:Nat -> Option Bool} {A B:Prop} {x:Bool} (h:Region.wanted o y = x) (hx:x = true) (hw:A):if Region.wanted o y = true then A else B:=by
 rw [if_pos (h.trans hx)];exact hw
end
end Go
namespace Go.Proofs
open Go.RowKit
theorem list_cons_of {α:Type} {l:List α} {n:Nat} (h:l.length = n + 1):∃ a r,l = a :: r /\ r.length = n:=by
 cases l with
 | nil=>cases h
 | cons a r=>exact ⟨a,r,rfl,by simpa using h⟩
theorem op_make_bools {w:World} {o:Oper} {a:Act} {K:Act -> World -> Prop} {Q:Exit -> Act -> World -> Prop} (l c:Operand) (ho:o.op = .makeSlice 50 l c) {P:Nat} (hl:a.eval l = .int .i64 P) (hc:a.eval c = .int .i64 P) (hP:P <= 100)
  (hn:K (a.put o.dst (.slice (some ⟨w.heap.size,0,none⟩) P P)) (w.alloc (.cells (madeCells #[.bool false] P) 4))):Oper.wp Tryz.prog o a w K Q:=by
 obtain ⟨i,hi,hz0,hz1,hz2⟩:=info_parts info4;have hrun:=run_make_row (P:=Tryz.prog) 50 4 i (.bool false) Tryz.underlying50 hi hz0 hz1 rfl .i64 .i64 P (by rw [hz2];omega) (by omega) w;unfold Oper.wp;simp [execOp,ho,hl,hc,hrun,Result.andThen];exact hn
structure EW (T:Treaty) (X W:World) (lo hi:Nat) (v:Value) (B:Nat -> Nat) (n P:Nat) (g:Nat -> Nat -> Bool) (vL:Value) (vs:List Value):Prop where
 aft:Aft X W
 tab:BTab W lo v B n P g
 far:∀ i,i < n -> B i < hi
 ls:OwnLs W hi vL vs (readingsL T)
section
variable {T:Treaty} {X W W':World} {lo hi:Nat} {v:Value} {B:Nat -> Nat} {n P:Nat} {g:Nat -> Nat -> Bool} {vL:Value} {vs:List Value}
theorem EW.later (h:EW T X W lo hi v B n P g vL vs) (ha:Aft W W'):EW T X W' lo hi v B n P g vL vs:=⟨h.aft.trans ha,h.tab.aft ha,h.far,h.ls.aft ha⟩
theorem EW.set (h:EW T X W lo hi v B n P g vL vs) (hX:X.heap.size <= lo) {a c:Nat} (ha:a < n) (hc:c < P) (x:Bool):EW T X (W.setCell ⟨B a,c,none⟩ (.bool x)) lo hi v B n P (upd2 g a c x) vL vs :=
 ⟨h.aft.then_setCell (by have:=h.tab.far a ha;show X.heap.size <= B a;omega) _,h.tab.set ha hc x,h.far,h.ls.keptb (only_setCell (p:=⟨B a,c,none⟩) (only_refl W (some (B a))) (.inl rfl) _) fun k e=>by cases e;exact h.far a ha⟩
theorem EW.congr (h:EW T X W lo hi v B n P g vL vs) {g':Nat -> Nat -> Bool} (he:∀ a c,a < n -> c < P -> g a c = g' a c):EW T X W lo hi v B n P g' vL vs:=⟨h.aft,h.tab.congr he,h.far,h.ls⟩
end
theorem thereK_zero (T:Treaty) (a c:Nat):thereK T 0 a c = false:=by unfold thereK;rw [List.take_zero,List.any_nil]
noncomputable def midE (T:Treaty) (k i b:Nat):Nat -> Nat -> Bool:=fun a c=>if a < i \/ a = i /\ c < b then thereK T (k + 1) a c else thereK T k a c
theorem midE_start (T:Treaty) (k:Nat) (a c:Nat):thereK T k a c = midE T k 0 0 a c:=by
 unfold midE;rw [if_neg (by omega)]
theorem midE_row (T:Treaty) {k i P:Nat} {a c:Nat} (hc:c < P):midE T k i P a c = midE T k (i + 1) 0 a c:=by
 unfold midE;by_cases h:a < i \/ a = i /\ c < P
 ·rw [if_pos h,if_pos (by omega)]
 ·rw [if_neg h,if_neg (by omega)]
theorem midE_end (T:Treaty) {k n:Nat} {a:Nat} (ha:a < n) (c:Nat):midE T k n 0 a c = thereK T (k + 1) a c:=by
 unfold midE;rw [if_pos (by omega)]
theorem midE_at (T:Treaty) (k i b:Nat):midE T k i b i b = thereK T k i b:=by
 unfold midE;rw [if_neg (by omega)]
theorem midE_put (T:Treaty) {k i b:Nat} (z:Bool) (hz:z = thereK T (k + 1) i b) (a c:Nat):upd2 (midE T k i b) i b z a c = midE T k i (b + 1) a c:=by
 unfold upd2;by_cases e:a = i /\ c = b
 ·obtain ⟨rfl,rfl⟩:=e;rw [if_pos ⟨rfl,rfl⟩,hz];unfold midE;rw [if_pos (by omega)]
 ·rw [if_neg e];unfold midE;by_cases h:a < i \/ a = i /\ c < b
  ·rw [if_pos h,if_pos (by omega)]
  ·rw [if_neg h,if_neg (by omega)]
theorem rows_take {α:Type} {w:World} {A:Option Addr} {sz:Nat} {R:World -> α -> List Value -> Prop} {l:List α} (h:RowsP w A sz R l) (i:Nat):RowsP w A sz R (l.take i):=by
 refine ⟨Nat.le_trans (Nat.mul_le_mul_right sz (by rw [List.length_take];omega)) h.1,?_⟩;rcases h.2 with h | ⟨b,o,rfl,hb,hc⟩
 ·subst h;left;simp
 ·refine .inr ⟨b,o,rfl,hb,fun j hj=>?_⟩;have hj':j < l.length:=by rw [List.length_take] at hj;omega
  obtain ⟨vs,h1,h2,h3⟩:=hc j hj';exact ⟨vs,h1,by rw [List.getElem_take];exact h2,h3⟩
theorem rows_drop {α:Type} {w:World} {b o:Nat} {sz:Nat} {R:World -> α -> List Value -> Prop} {l:List α} (h:RowsP w (some ⟨b,o,none⟩) sz R l) (i:Nat):RowsP w (some ⟨b,o + i * sz,none⟩) sz R (l.drop i):=by
 refine ⟨Nat.le_trans (Nat.mul_le_mul_right sz (by rw [List.length_drop];omega)) h.1,?_⟩;rcases h.2 with h | ⟨b',o',e,hb,hc⟩
 ·subst h;left;simp
 ·cases e;refine .inr ⟨b,o + i * sz,rfl,hb,fun j hj=>?_⟩;have hj':i + j < l.length:=by rw [List.length_drop] at hj;omega
  obtain ⟨vs,h1,h2,h3⟩:=hc (i + j) hj';refine ⟨vs,h1,by rw [List.getElem_drop];exact h2,fun q hq=>?_⟩;rw [show o + i * sz + j * sz + q = o + (i + j) * sz + q by rw [Nat.add_mul];omega];exact h3 q hq
theorem cutA_slice {T:Treaty} {a4:Option Addr} {i:Nat} (hi:i <= T.legs.length):(cutA T i).legs.length = i /\ ∀ W,RowsP W a4 2 LegR T.legs -> RowsP W a4 2 LegR (cutA T i).legs :=
 ⟨by show (T.legs.take i).length = i;rw [List.length_take];omega,fun W h=>rows_take h i⟩
theorem cutZ_slice {T:Treaty} {w:World} {a4:Option Addr} {c4 i b:Nat} (h0:RowsP w a4 2 LegR T.legs) (hi:i <= T.legs.length) (hc:T.legs.length <= c4):(cutZ T i b).legs.length = T.legs.length - i /\ ∃ A,(if c4 = i then a4 else a4.map fun x=>x.add (i * 2)) = A /\ ∀ W,RowsP W a4 2 LegR T.legs -> RowsP W A 2 LegR (cutZ T i b).legs:=by
 refine ⟨by show (T.legs.drop i).length = _;rw [List.length_drop],_,rfl,fun W h=>?_⟩;by_cases e:i = T.legs.length
 ·have:(cutZ T i b).legs = []:=by show T.legs.drop i = [];rw [e];simp
  rw [this];exact RowsP.nil
 ·rcases h0.2 with h' | ⟨bb,o,rfl,-,-⟩
  ·rw [h'] at hi e;simp at hi e;omega
  ·rw [if_neg (by omega),Option.map_some,Addr.add_lit];exact rows_drop h i
def zeroT:Array Value:=#[.int .i64 0,.slice none 0 0,.slice none 0 0,.slice none 0 0,.slice none 0 0]
def FactD (W8:World) (tc:Array Value) (done:Nat -> Bool):Nat -> Value -> World -> Prop
 | 0,v,_=>v = .agg tc
 | 1,v,_=>v = .agg tc
 | 2,v,w=>∃ b,v = .pointer (some ⟨b,0,none⟩) /\ W8.heap.size <= b /\ Blk w b 35 (if done 4 = true then tc else zeroT)
 | 3,v,w=>∃ b,v = .pointer (some ⟨b,0,none⟩) /\ W8.heap.size <= b /\ Blk w b 35 (if done 5 = true then tc else zeroT)
 | _,_,_=>True
def WdD (W8:World) (done:Nat -> Bool) (a:Act) (w:World):Prop:=Aft W8 w /\ (done 2 = true -> done 3 = true -> a.eval (.tmp 11) ≠ a.eval (.tmp 12))
section
variable {W8 w w':World} {tc:Array Value} {done:Nat -> Bool} {i j:Nat} {v:Value} {a:Act}
theorem FactD.plain (h4:i ≠ 4) (h5:i ≠ 5) (ha:Aft w w') (h:FactD W8 tc done j v w):FactD W8 tc (Go.upd done i) j v w':=by
 have e4:Go.upd done i 4 = done 4:=by unfold Go.upd;rw [if_neg (Ne.symm h4)]
 have e5:Go.upd done i 5 = done 5:=by unfold Go.upd;rw [if_neg (Ne.symm h5)]
 unfold FactD at h ⊢
 split at h <;> first
  | exact h
  | (obtain ⟨b,e,h1,h2⟩:=h;rw [e4];exact ⟨b,e,h1,h2.aft ha⟩)
  | (obtain ⟨b,e,h1,h2⟩:=h;rw [e5];exact ⟨b,e,h1,h2.aft ha⟩)
theorem WdD.plain (h:WdD W8 done a w) (h2:i ≠ 2) (h3:i ≠ 3) (ha:Aft W8 w') {d:Option Tmp} (hd:∀ s,d = some s -> s ≠ 11 /\ s ≠ 12):WdD W8 (Go.upd done i) (a.put d v) w':=by
 have e2:Go.upd done i 2 = done 2:=by unfold Go.upd;rw [if_neg (Ne.symm h2)]
 have e3:Go.upd done i 3 = done 3:=by unfold Go.upd;rw [if_neg (Ne.symm h3)]
 refine ⟨ha,fun k2 k3=>?_⟩;rw [Act.eval_put fun s hs e=>by cases e;exact (hd _ hs).1 rfl,Act.eval_put fun s hs e=>by cases e;exact (hd _ hs).2 rfl];exact h.2 (by rw [<- e2];exact k2) (by rw [<- e3];exact k3)
theorem FactD.stored4 {b:Nat} (hg:w.grownBy w' (some b)) (hb:W8.heap.size <= b) (hbl:Blk w' b 35 tc) (hv:a.eval (.tmp 11) = .pointer (some ⟨b,0,none⟩)) (h2:done 2 = true) (hW:WdD W8 done a w) {s:Nat} (hs2:j = 2 -> s = 11) (hs3:j = 3 -> s = 12) (hj:done j = true) (h:FactD W8 tc done j (a.eval (.tmp s)) w):FactD W8 tc (Go.upd done 4) j (a.eval (.tmp s)) w':=by
 match j,h with
 | 0,h=>exact h
 | 1,h=>exact h
 | 2,_=>rw [hs2 rfl];exact ⟨b,hv,hb,hbl⟩
 | 3,h =>
  obtain ⟨b',e,h1,h3⟩:=h;have hne:=hW.2 h2 hj;rw [hs3 rfl] at e;refine ⟨b',by rw [hs3 rfl];exact e,h1,h3.grown hg fun e'=>hne ?_⟩;cases e';rw [hv,e]
 | _ + 4,_=>trivial
theorem FactD.stored5 {b:Nat} (hg:w.grownBy w' (some b)) (hb:W8.heap.size <= b) (hbl:Blk w' b 35 tc) (hv:a.eval (.tmp 12) = .pointer (some ⟨b,0,none⟩)) (h3:done 3 = true) (hW:WdD W8 done a w) {s:Nat} (hs2:j = 2 -> s = 11) (hs3:j = 3 -> s = 12) (hj:done j = true) (h:FactD W8 tc done j (a.eval (.tmp s)) w):FactD W8 tc (Go.upd done 5) j (a.eval (.tmp s)) w':=by
 match j,h with
 | 0,h=>exact h
 | 1,h=>exact h
 | 3,_=>rw [hs3 rfl];exact ⟨b,hv,hb,hbl⟩
 | 2,h =>
  obtain ⟨b',e,h1,h4⟩:=h;have hne:=hW.2 hj h3;rw [hs2 rfl] at e;refine ⟨b',by rw [hs2 rfl];exact e,h1,h4.grown hg fun e'=>hne ?_⟩;cases e';rw [hv,e]
 | _ + 4,_=>trivial
end
structure WdC (wr:World) (b2 b3 S:Nat) (x0 x1 x2 x3 SA SB SZ:Value) (b:Int) (done:Nat -> Bool) (w:World):Prop where
 aft:Aft wr w
 first:∃ z,Blk w b2 35 #[x0,x1,x2,x3,z] /\ (done 11 = true -> z = SA)
 last:∃ y z,Blk w b3 35 #[x0,x1,x2,y,z] /\ (done 15 = true -> y = SB) /\ (done 13 = true -> z = SZ)
 size:done 9 = false -> w.heap.size = S
 one:done 9 = true -> Blk w S 3 #[.int .i64 b]
section
variable {wr w w':World} {b2 b3 S:Nat} {x0 x1 x2 x3 SA SB SZ:Value} {b:Int} {done:Nat -> Bool} {i:Nat}
theorem upd_ne {done:Nat -> Bool} {i j:Nat} (h:j ≠ i):Go.upd done i j = done j:=by unfold Go.upd;rw [if_neg h]
theorem WdC.plain (h:WdC wr b2 b3 S x0 x1 x2 x3 SA SB SZ b done w) (h9:9 ≠ i) (h11:11 ≠ i) (h13:13 ≠ i) (h15:15 ≠ i):WdC wr b2 b3 S x0 x1 x2 x3 SA SB SZ b (Go.upd done i) w :=
 ⟨h.aft,by rw [upd_ne h11];exact h.first,by rw [upd_ne h13,upd_ne h15];exact h.last,by rw [upd_ne h9];exact h.size,by rw [upd_ne h9];exact h.one⟩
theorem WdC.made (h:WdC wr b2 b3 S x0 x1 x2 x3 SA SB SZ b done w) (hd:done 9 = false):WdC wr b2 b3 S x0 x1 x2 x3 SA SB SZ b (Go.upd done 9) (w.alloc (.cells #[.int .i64 b] 3)):=by
 obtain ⟨z,f1,f2⟩:=h.first;obtain ⟨y,z',l1,l2,l3⟩:=h.last;exact ⟨h.aft.then_alloc _,⟨z,f1.alloc _,fun k=>f2 (by rwa [upd_ne (by decide)] at k)⟩,⟨y,z',l1.alloc _,fun k=>l2 (by rwa [upd_ne (by decide)] at k),fun k=>l3 (by rwa [upd_ne (by decide)] at k)⟩,(fun k=>by cases k),fun _=>by rw [<- h.size hd];exact Blk.new _ _ _⟩
theorem WdC.set11 (h:WdC wr b2 b3 S x0 x1 x2 x3 SA SB SZ b done w) (hne:b2 ≠ b3) (h2:wr.heap.size <= b2) (hS:b2 < S):WdC wr b2 b3 S x0 x1 x2 x3 SA SB SZ b (Go.upd done 11) (w.setCell ⟨b2,4,none⟩ SA):=by
 obtain ⟨z,f1,f2⟩:=h.first;obtain ⟨y,z',l1,l2,l3⟩:=h.last;refine ⟨h.aft.then_setCell h2 _,⟨SA,f1.store 4 SA,fun _=>rfl⟩,⟨y,z',l1.far (Ne.symm hne) _,fun k=>l2 (by rwa [upd_ne (by decide)] at k),fun k=>l3 (by rwa [upd_ne (by decide)] at k)⟩,fun k=>by simpa [World.setCell] using h.size (by rwa [upd_ne (by decide)] at k),fun k=>(h.one (by rwa [upd_ne (by decide)] at k)).far (by show S ≠ b2;omega) _⟩
theorem WdC.set13 (h:WdC wr b2 b3 S x0 x1 x2 x3 SA SB SZ b done w) (hne:b2 ≠ b3) (h3:wr.heap.size <= b3) (hS:b3 < S):WdC wr b2 b3 S x0 x1 x2 x3 SA SB SZ b (Go.upd done 13) (w.setCell ⟨b3,4,none⟩ SZ):=by
 obtain ⟨z,f1,f2⟩:=h.first;obtain ⟨y,z',l1,l2,l3⟩:=h.last;refine ⟨h.aft.then_setCell h3 _,⟨z,f1.far hne _,fun k=>f2 (by rwa [upd_ne (by decide)] at k)⟩,⟨y,SZ,l1.store 4 SZ,fun k=>l2 (by rwa [upd_ne (by decide)] at k),fun _=>rfl⟩,fun k=>by simpa [World.setCell] using h.size (by rwa [upd_ne (by decide)] at k),fun k=>(h.one (by rwa [upd_ne (by decide)] at k)).far (by show S ≠ b3;omega) _⟩
theorem WdC.set15 (h:WdC wr b2 b3 S x0 x1 x2 x3 SA SB SZ b done w) (hne:b2 ≠ b3) (h3:wr.heap.size <= b3) (hS:b3 < S):WdC wr b2 b3 S x0 x1 x2 x3 SA SB SZ b (Go.upd done 15) (w.setCell ⟨b3,3,none⟩ SB):=by
 obtain ⟨z,f1,f2⟩:=h.first;obtain ⟨y,z',l1,l2,l3⟩:=h.last;refine ⟨h.aft.then_setCell h3 _,⟨z,f1.far hne _,fun k=>f2 (by rwa [upd_ne (by decide)] at k)⟩,⟨SB,z',l1.store 3 SB,fun _=>rfl,fun k=>l3 (by rwa [upd_ne (by decide)] at k)⟩,fun k=>by simpa [World.setCell] using h.size (by rwa [upd_ne (by decide)] at k),fun k=>(h.one (by rwa [upd_ne (by decide)] at k)).far (by show S ≠ b3;omega) _⟩
end
theorem EW.slot {T:Treaty} {X W:World} {lo hi bv N cv:Nat} {B:Nat -> Nat} {n P:Nat} {g:Nat -> Nat -> Bool} {vL:Value} {vs:List Value} (h:EW T X W lo hi (.slice (some ⟨bv,0,none⟩) N cv) B n P g vL vs) {i:Nat} (hin:i < n):W.cell? ⟨bv,i,none⟩ = some (.slice (some ⟨B i,0,none⟩) P P):=by
 obtain ⟨bv',c,e,_,_,hc⟩:=h.tab.slot hin;cases e;exact hc i hin
theorem EW.read {T:Treaty} {X W:World} {lo hi:Nat} {v:Value} {B:Nat -> Nat} {n P:Nat} {g:Nat -> Nat -> Bool} {vL:Value} {vs:List Value} (h:EW T X W lo hi v B n P g vL vs) {k:Nat} (hk:k < (readingsL T).length) {R:List Int} (hR:(readingsL T)[k] = R) (hl:R.length <= 17592186043904) :
  ∃ gl cL Ak ck,vL = .slice (some ⟨gl,0,none⟩) (readingsL T).length cL /\ vs[k]? = some (.slice Ak R.length ck) /\ W.cell? ⟨gl,k,none⟩ = some (.slice Ak R.length ck) /\ Ints W Ak R:=by
 have hvl:k < vs.length:=by have:=h.ls.len;omega
 have hrow:=h.ls.rows k hk hvl;rw [hR] at hrow;obtain ⟨Ak,ck,e,-,hi⟩:=own_ints hrow hl;rcases h.ls.own.2 with ⟨_,h0⟩ | ⟨g',cap,cur,e1,_⟩
 ·omega
 ·refine ⟨g',cap,Ak,ck,e1,by rw [List.getElem?_eq_getElem hvl,e],?_,hi⟩;have:=h.ls.own.cells (g:=g') (by rw [e1];rfl) k vs[k] (List.getElem?_eq_getElem hvl);rw [Addr.add_lit,e] at this;simpa using this
structure WdR (T:Treaty) (Y0 W20:World) (lo hi:Nat) (v:Value) (B:Nat -> Nat) (n P:Nat) (g g2:Nat -> Nat -> Bool) (vL:Value) (vs:List Value) (b2 b3 S:Nat) (C2 C3:Array Value) (b:Int) (done:Nat -> Bool) (w:World):Prop where
 ew:EW T Y0 w lo hi v B n P (if done 34 = true then g2 else g) vL vs
 first:Blk w b2 35 C2
 last:Blk w b3 35 C3
 one:Blk w S 3 #[.int .i64 b]
 a20:done 34 = false -> Aft W20 w
section
variable {T:Treaty} {Y0 W20 w w':World} {lo hi:Nat} {v:Value} {B:Nat -> Nat} {n P:Nat} {g g2:Nat -> Nat -> Bool} {vL:Value} {vs:List Value} {b2 b3 S:Nat} {C2 C3:Array Value} {b:Int} {done:Nat -> Bool} {i:Nat}
theorem WdR.plain (h:WdR T Y0 W20 lo hi v B n P g g2 vL vs b2 b3 S C2 C3 b done w) (h34:34 ≠ i) (ha:Aft w w'):WdR T Y0 W20 lo hi v B n P g g2 vL vs b2 b3 S C2 C3 b (Go.upd done i) w' :=
 ⟨by rw [upd_ne h34];exact h.ew.later ha,h.first.aft ha,h.last.aft ha,h.one.aft ha,fun k=>(h.a20 (by rwa [upd_ne h34] at k)).trans ha⟩
theorem WdR.set (h:WdR T Y0 W20 lo hi v B n P g g2 vL vs b2 b3 S C2 C3 b done w) (hd:done 34 = false) (hY:Y0.heap.size <= lo) {a c:Nat} (ha:a < n) (hc:c < P) (x:Bool) (hg:∀ a' c',upd2 g a c x a' c' = g2 a' c') (h2:B a < b2) (h3:B a < b3) (hS:B a < S):WdR T Y0 W20 lo hi v B n P g g2 vL vs b2 b3 S C2 C3 b (Go.upd done 34) (w.setCell ⟨B a,c,none⟩ (.bool x)):=by
 have he:=h.ew;rw [if_neg (by rw [hd];decide)] at he;exact ⟨by rw [if_pos (by unfold Go.upd;rw [if_pos rfl])];exact (he.set hY ha hc x).congr fun a' c' _ _=>hg a' c',h.first.far (by show b2 ≠ B a;omega) _,h.last.far (by show b3 ≠ B a;omega) _,h.one.far (by show S ≠ B a;omega) _,fun k=>by unfold Go.upd at k;rw [if_pos rfl] at k;cases k⟩
theorem WdR.now (h:WdR T Y0 W20 lo hi v B n P g g2 vL vs b2 b3 S C2 C3 b done w) (hd:done 34 = false):EW T Y0 w lo hi v B n P g vL vs:=by
 have he:=h.ew
 rwa [if_neg (by rw [hd];decide)] at he
def FactR (W20:World) (vals:List Value) (m:Nat) (_:Nat -> Bool) (i:Nat) (v:Value) (w:World):Prop :=
 if i = 29 then ∃ bs,v = .slice (some ⟨bs,0,none⟩) m m /\ BRow w bs m (fun _=>false) /\ W20.heap.size <= bs else vals[i]? = some v
theorem FactR.get {vals:List Value} {m j:Nat} {v u:Value} (h:FactR W20 vals m done j v w) (hj:j ≠ 29) (hv:vals[j]? = some u):v = u:=by
 unfold FactR at h;rw [if_neg hj,hv] at h;exact (Option.some.inj h).symm
theorem FactR.mk {vals:List Value} {m j:Nat} {u:Value} (hj:j ≠ 29) (hv:vals[j]? = some u):FactR W20 vals m done j u w:=by
 unfold FactR;rw [if_neg hj];exact hv
theorem FactR.later {vals:List Value} {m j:Nat} {v:Value} {done':Nat -> Bool} (h:FactR W20 vals m done j v w) (ha:Aft w w'):FactR W20 vals m done' j v w':=by
 unfold FactR at h ⊢;split at h
 ·rename_i e;rw [if_pos e];obtain ⟨bs,h1,h2,h3⟩:=h;exact ⟨bs,h1,h2.aft ha,h3⟩
 ·rename_i e;rw [if_neg e];exact h
theorem FactR.set {vals:List Value} {m j:Nat} {v:Value} {done':Nat -> Bool} (h:FactR W20 vals m done j v w) {p:Addr} {x:Value} (hp:p.block < W20.heap.size):FactR W20 vals m done' j v (w.setCell p x):=by
 unfold FactR at h ⊢;split at h
 ·rename_i e;rw [if_pos e];obtain ⟨bs,h1,h2,h3⟩:=h;exact ⟨bs,h1,h2.grown (only_setCell (p:=p) (only_refl w (some p.block)) (.inl rfl) x) (fun e=>by cases e;omega),h3⟩
 ·rename_i e;rw [if_neg e];exact h
end
theorem ints_blk1 {W:World} {S:Nat} {y:Int} (h:Blk W S 3 #[.int .i64 y]):Ints W (some ⟨S,0,none⟩) [y]:=by
 refine ⟨by simp,.inr ⟨S,0,rfl,h.lt,fun i hi=>?_⟩⟩;have:i = 0:=by simpa using hi
 subst this;refine ⟨[.int .i64 y],rfl,rfl,fun j hj=>?_⟩;have:j = 0:=by simpa using hj
 subst this;exact h.cell 0
end Go.Proofs
end
