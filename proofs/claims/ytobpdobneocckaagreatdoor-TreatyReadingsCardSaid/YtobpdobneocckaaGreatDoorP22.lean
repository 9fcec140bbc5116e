/- Own texts, merged: Ren Tol Mps Pal0 Ral0 Pal1 Srt0 Cmq. -/
import Derived.Test.YtobpdobneocckaaGreatDoorP19
import Derived.Test.YtobpdobneocckaaGreatDoorP21
import Derived.BigGuard
import Derived.Maps.OwnSet
import Derived.StringKeys
import Derived.Laws.CopyOwn
import Derived.Shelf.SlLaysF
import Derived.Lib.Small
section
/- Walks: the reference's enough. -/
namespace Go.Proofs
open Go.RowKit
attribute [local go_sem] Oper.semAt_some
theorem boxC {X:World} {g:Nat} {t:TypeId} {p v1 v2 v3 v4:Value} (h:Blk X g t #[p,v1,v2,v3,v4]):X.cell? ⟨g,0,none⟩ = some p /\ X.cell? ⟨g,1,none⟩ = some v1 /\ X.cell? ⟨g,2,none⟩ = some v2 /\ X.cell? ⟨g,3,none⟩ = some v3 /\ X.cell? ⟨g,4,none⟩ = some v4 :=
 ⟨h.cell 0,h.cell 1,h.cell 2,h.cell 3,h.cell 4⟩
def NRow (Y:World) (b P:Nat) (g:Nat -> Bool) (W:World):Prop:=Aft Y W /\ Y.heap.size <= b /\ BRow W b P g
theorem NRow.set {Y W:World} {b P:Nat} {g:Nat -> Bool} (h:NRow Y b P g W) {c:Nat} (hc:c < P) (x:Bool) {g':Nat -> Bool} (he:∀ d,d < P -> (if d = c then x else g d) = g' d):NRow Y b P g' (W.setCell ⟨b,c,none⟩ (.bool x)) :=
 ⟨h.1.then_setCell h.2.1 _,h.2.1,(h.2.2.set hc x).congr he⟩
set_option maxRecDepth 100000 in
set_option maxHeartbeats 8000000 in
theorem enoughRef_any (w:World) (T:Treaty) (a1 a2 a3 a4:Option Addr) (c1 c2 c3 c4:Nat) (R:List Int) (AR:Option Addr) (cR:Nat) (hT:TRep w T a1 a2 a3 a4) (hR:Ints w AR R) (ok:TOk T) (hro:ReadOk T R) (S:Nat -> Bool) (bs:Nat) (hS:BRow w bs T.legs.length S) :
  Calls Tryz.prog 63 #[.agg #[.int .i64 T.places,.slice a1 T.ways.length c1,.slice a2 T.words.length c2,.slice a3 T.starts.length c3,.slice a4 T.legs.length c4],.slice AR R.length cR,.slice (some ⟨bs,0,none⟩) T.legs.length T.legs.length] w fun e w'=>e = .returned (.bool (enB T (leadsF T R) S)) /\ Aft w w':=by
 have HLG:=Lib.hid (fun (y:World) (hy:Aft w y)=>legsRef_any y T a1 a2 a3 a4 c1 c2 c3 c4 R AR cR (hT.aft hy) (hR.aft hy) ok hro);obtain ⟨P,hP⟩:=Int.eq_ofNat_of_zero_le (show 0 <= T.places from by have:=ok.p1;omega);have hP1:1 <= P:=by have:=ok.p1;omega
 have hP2:P <= 12:=by have:=ok.p2;omega
 have HPN:Hid (T.places.toNat = P):=Lib.hid (by rw [hP];rfl);have hln:=ok.nlegs;have HST:=Lib.hid hT.starts;have hsl:=hT.starts.len;have HSR:Hid (∀ x ∈ T.starts,∃ n:Nat,x = n /\ n < P):=Lib.hid fun x hx=>by have:=ok.starts x hx;exact ⟨x.toNat,by omega,by omega⟩
 have HS:=Lib.hid hS;rw [hP] at HLG;rw [hP];clear hT hR ok hro hS hP;go_enter Tryz.func63,Tryz.ntmps63;go_upto_region 1 with fail
 have hb:=Blk.new w 35 #[.int .i64 P,.slice a1 T.ways.length c1,.slice a2 T.words.length c2,.slice a3 T.starts.length c3,.slice a4 T.legs.length c4];have ha:=Aft.alloc w (.cells #[.int .i64 P,.slice a1 T.ways.length c1,.slice a2 T.words.length c2,.slice a3 T.starts.length c3,.slice a4 T.legs.length c4] 35);generalize w.alloc (.cells #[.int .i64 P,.slice a1 T.ways.length c1,.slice a2 T.words.length c2,.slice a3 T.starts.length c3,.slice a4 T.legs.length c4] 35) = X at *;generalize w.heap.size = B0 at *;have HB:=Lib.hid hb;have HA:=Lib.hid ha;obtain ⟨k0,k1,k2',k3,k4⟩:=boxC hb;clear hb ha;(repeat (first | go_big_skip | go_big_want | go_big_move | go_big_op | go_step | go_upon | go_back));go_at_call 115;refine (HLG.out X HA.out).mono ?_;rintro e Y ⟨v,rfl,haY,hL⟩;obtain ⟨vs,hown,-⟩:=hL.ex;obtain ⟨vA,vc,rfl⟩:=own_slice2 hown;dsimp only;rw [Int.toNat_natCast] at hL;have HL:=Lib.hid hL;have HAY:=Lib.hid (HA.out.trans haY);have HBY:=Lib.hid (HB.out.aft haY);clear k0 k1 k2' k3 k4 haY hL hown HB HA HLG;obtain ⟨k0,k1,k2',k3,k4⟩:=boxC HBY.out;go_upto_region 3 with (at_make;refine wpList_make_bools rfl _ _ rfl rfl rfl (by omega) ?_)
 have HN0:Hid (NRow Y Y.heap.size P (fun c=>hasB (T.starts.take 0) c) (Y.alloc (.cells (madeCells #[.bool false] P) 4))):=Lib.hid ⟨Aft.alloc _ _,Nat.le_refl _,(BRow.made _ _).congr fun _ _=>rfl⟩;generalize Y.alloc (.cells (madeCells #[.bool false] P) 4) = Y1 at *;generalize hbn:Y.heap.size = bn at *;clear k0 k1 k2' k3 k4 hbn;(repeat (first | go_big_skip | go_big_want | go_big_move | go_big_op | go_step | go_upon | go_back));go_loopw [9] (fun i wr=>∃ k:Nat,i = .int .i64 k /\ k <= T.starts.length /\ NRow Y bn P (fun c=>hasB (T.starts.take k) c) wr) (fun i _=>T.starts.length - (intOf i).toNat)
 case atStart=>exact ⟨0,rfl,by omega,HN0.out⟩
 case round =>
  obtain ⟨k,rfl,hk,hn⟩:=hrel;have HN:=Lib.hid hn;obtain ⟨k0,k1,k2',k3,k4⟩:=boxC (HBY.out.aft hn.1);clear hn HN0;by_cases hkn:k < T.starts.length
  ·have hdec:decide (k < T.starts.length) = true:=decide_eq_true hkn;have i1:(0:Int) <= (k:Int) /\ (k:Int) < (T.starts.length:Int):=by omega
   obtain ⟨b3,o3,rfl,hb3,hc3⟩:=(HST.out.aft (HAY.out.trans HN.out.1)).at hkn;have x0:=hc3 k hkn;obtain ⟨s,hs,hsP⟩:=HSR.out _ (List.getElem_mem hkn);rw [hs] at x0;have i2:(0:Int) <= (s:Int) /\ (s:Int) < (P:Int):=by omega
   have y0:=HN.out.2.2.cell hsP;have y1:=HN.out.2.2.frozen s;have hlt:=HN.out.2.2.lt
   have HN':Hid (NRow Y bn P (fun c=>hasB (T.starts.take (k + 1)) c) (wr.setCell ⟨bn,s,none⟩ (.bool true))):=Lib.hid (HN.out.set hsP true fun d _=>by
    rw [List.take_succ_eq_append_getElem hkn,hs];unfold hasB;rw [List.contains_eq_mem,List.contains_eq_mem];by_cases e:d = s
    ·subst e;simp
    ·have:¬ ((d:Int) = (s:Int)):=by omega
     simp [e,this])
   clear hc3 hs;(repeat (first | go_big_skip | go_big_want | go_big_move | go_big_op | go_step | go_upon | go_back));exact ⟨⟨k + 1,by go_num,by omega,HN'.out⟩,by simp [intOf];omega⟩
  ·have hdec:decide (k < T.starts.length) = false:=decide_eq_false hkn;have HN1:Hid (NRow Y bn P (nowF T (leadsF T R) S 0) wr):=Lib.hid (by have:=HN.out;rw [List.take_of_length_le (by omega)] at this;exact this);clear HN;(repeat (first | go_big_skip | go_big_want | go_big_move | go_big_op | go_step | go_upon | go_back));go_loopw [8,10] (fun v i wr=>∃ k b:Nat,i = .int .i64 k /\ v = .slice (some ⟨b,0,none⟩) P P /\ k <= T.legs.length /\ NRow Y b P (nowF T (leadsF T R) S k) wr) (fun _ i _=>T.legs.length - (intOf i).toNat)
   case atStart=>exact ⟨0,bn,rfl,rfl,by omega,HN1.out⟩
   case round =>
    obtain ⟨k,b,rfl,rfl,hk,hn⟩:=hrel;have HN:=Lib.hid hn;obtain ⟨k0,k1,k2',k3,k4⟩:=boxC (HBY.out.aft hn.1);clear hn HN1;by_cases hkn:k < T.legs.length
    ·have hdec:decide (k < T.legs.length) = true:=decide_eq_true hkn;go_upto_region 11 with (at_make;refine wpList_make_bools rfl _ _ rfl rfl rfl (by omega) ?_)
     have HM0:Hid (NRow wr wr.heap.size P (fun c=>nextF T (leadsF T R) S k 0 c) (wr.alloc (.cells (madeCells #[.bool false] P) 4))):=Lib.hid ⟨Aft.alloc _ _,Nat.le_refl _,(BRow.made _ _).congr fun _ _=>rfl⟩;generalize wr.alloc (.cells (madeCells #[.bool false] P) 4) = Y1 at *;generalize wr = y at *;generalize hbx:y.heap.size = bx at *;clear k0 k1 k2' k3 k4 hbx;(repeat (first | go_big_skip | go_big_want | go_big_move | go_big_op | go_step | go_upon | go_back));go_loopw [12] (fun i wr=>∃ k3:Nat,i = .int .i64 k3 /\ k3 <= P /\ NRow y bx P (fun c=>nextF T (leadsF T R) S k k3 c) wr) (fun i _=>P - (intOf i).toNat)
     case atStart=>exact ⟨0,rfl,by omega,HM0.out⟩
     case round =>
      obtain ⟨k3,rfl,hk3,hm⟩:=hrel;have HM:=Lib.hid hm;obtain ⟨k0,k1,k2',m3,k4⟩:=boxC (HBY.out.aft (HN.out.1.trans hm.1));clear hm HM0;by_cases hkP:k3 < P
      ·have hdec3:decide (k3 < P) = true:=decide_eq_true hkP;have HJ0:Hid (NRow y bx P (fun c=>if c < 0 then nextF T (leadsF T R) S k (k3 + 1) c else nextF T (leadsF T R) S k k3 c) wr):=Lib.hid HM.out;(repeat (first | go_big_skip | go_big_want | go_big_move | go_big_op | go_step | go_upon | go_back));clear k0 k1 k2' m3 k4;go_loopw [13] (fun i wr=>∃ j:Nat,i = .int .i64 j /\ j <= P /\ NRow y bx P (fun c=>if c < j then nextF T (leadsF T R) S k (k3 + 1) c else nextF T (leadsF T R) S k k3 c) wr) (fun i _=>P - (intOf i).toNat)
       case atStart=>exact ⟨0,rfl,by omega,HJ0.out⟩
       case round =>
        obtain ⟨j,rfl,hj,hm⟩:=hrel;have HJ:=Lib.hid hm;obtain ⟨k0,k1,k2',m3,k4⟩:=boxC (HBY.out.aft (HN.out.1.trans hm.1));clear hm HJ0;by_cases hjP:j < P
        ·have hdecj:decide (j < P) = true:=decide_eq_true hjP;have y0:wr.cell? ⟨bx,j,none⟩ = some (.bool (nextF T (leadsF T R) S k k3 j)):=by have:=HJ.out.2.2.cell hjP;rw [if_neg (by omega)] at this;exact this
         have y1:=HJ.out.2.2.frozen j;have hlt:=HJ.out.2.2.lt;have n0:wr.cell? ⟨b,k3,none⟩ = some (.bool (nowF T (leadsF T R) S k k3)):=(HN.out.2.2.aft HJ.out.1).cell hkP;have s0:wr.cell? ⟨bs,k,none⟩ = some (.bool (S k)):=(HS.out.aft (HAY.out.trans (HN.out.1.trans HJ.out.1))).cell hkn;obtain ⟨bv,cv,bt,ct,ev,cT,hrows⟩:=(HL.out.aft (HN.out.1.trans HJ.out.1)).cells hkn;cases ev;obtain ⟨br,r1,hr2⟩:=hrows k3 hkP;have r2:=hr2 j hjP;have i1:(0:Int) <= (k:Int) /\ (k:Int) < (T.legs.length:Int):=by omega
         have i2:(0:Int) <= (k3:Int) /\ (k3:Int) < (P:Int):=by omega
         have i3:(0:Int) <= (j:Int) /\ (j:Int) < (P:Int):=by omega
         have HJ':Hid (NRow y bx P (fun c=>if c < j + 1 then nextF T (leadsF T R) S k (k3 + 1) c else nextF T (leadsF T R) S k k3 c) (wr.setCell ⟨bx,j,none⟩ (.bool (nextF T (leadsF T R) S k k3 j || nowF T (leadsF T R) S k k3 && (S k || leadsF T R k k3 j))))):=Lib.hid (HJ.out.set hjP _ fun d _=>by
          by_cases e:d = j
          ·subst e;rw [if_pos rfl,if_pos (by omega),nextF_succ]
          ·rw [if_neg e];by_cases h2:d < j
           ·rw [if_pos h2,if_pos (by omega)]
           ·rw [if_neg h2,if_neg (by omega)])
         clear hrows hr2;generalize nextF T (leadsF T R) S k k3 j = q1 at *;generalize nowF T (leadsF T R) S k k3 = q2 at *;generalize S k = q3 at *
         cases q1 with
         | true =>
          simp only [Bool.true_or] at HJ';(repeat (first | go_big_skip | go_big_want | go_big_move | go_big_op | go_step | go_upon | go_back));exact ⟨⟨j + 1,by go_num,by omega,HJ'.out⟩,by simp [intOf];omega⟩
         | false =>
          cases q2 with
          | false =>
           simp only [Bool.false_or,Bool.false_and] at HJ';(repeat (first | go_big_skip | go_big_want | go_big_move | go_big_op | go_step | go_upon | go_back));exact ⟨⟨j + 1,by go_num,by omega,HJ'.out⟩,by simp [intOf];omega⟩
          | true =>
           cases q3 with
           | true =>
            simp only [Bool.false_or,Bool.true_and,Bool.true_or] at HJ';(repeat (first | go_big_skip | go_big_want | go_big_move | go_big_op | go_step | go_upon | go_back));exact ⟨⟨j + 1,by go_num,by omega,HJ'.out⟩,by simp [intOf];omega⟩
           | false =>
            simp only [Bool.false_or,Bool.true_and] at HJ';generalize leadsF T R k k3 j = ld at *;(repeat (first | go_big_skip | go_big_want | go_big_move | go_big_op | go_step | go_upon | go_back));exact ⟨⟨j + 1,by go_num,by omega,HJ'.out⟩,by simp [intOf];omega⟩
        ·have hdecj:decide (j < P) = false:=decide_eq_false hjP;have HM':Hid (NRow y bx P (fun c=>nextF T (leadsF T R) S k (k3 + 1) c) wr):=Lib.hid ⟨HJ.out.1,HJ.out.2.1,HJ.out.2.2.congr fun c hc=>by rw [if_pos (by omega)]⟩;(repeat (first | go_big_skip | go_big_want | go_big_move | go_big_op | go_step | go_upon | go_back));exact ⟨⟨k3 + 1,by go_num,by omega,HM'.out⟩,by simp [intOf];omega⟩
      ·have hdec3:decide (k3 < P) = false:=decide_eq_false hkP;have HN':Hid (NRow Y bx P (nowF T (leadsF T R) S (k + 1)) wr):=Lib.hid ⟨HN.out.1.trans HM.out.1,Nat.le_trans HN.out.1.size HM.out.2.1,HM.out.2.2.congr fun c _=>by rw [show k3 = T.places.toNat by have:=HPN.out;omega,nextF_all]⟩;(repeat (first | go_big_skip | go_big_want | go_big_move | go_big_op | go_step | go_upon | go_back));exact ⟨⟨k + 1,bx,by go_num,rfl,by omega,HN'.out⟩,by simp [intOf];omega⟩
    ·have hdec:decide (k < T.legs.length) = false:=decide_eq_false hkn;obtain rfl:k = T.legs.length:=by omega
     (repeat (first | go_big_skip | go_big_want | go_big_move | go_big_op | go_step | go_upon | go_back));generalize wr = y at *;clear k0 k1 k2' k3 k4;go_loopw [14] (fun i wr=>∃ k3:Nat,i = .int .i64 k3 /\ k3 <= P /\ wr = y /\ ∀ a,a < k3 -> nowF T (leadsF T R) S T.legs.length a = false) (fun i _=>P - (intOf i).toNat)
     case atStart=>exact ⟨0,rfl,by omega,rfl,fun a ha=>absurd ha (Nat.not_lt_zero _)⟩
     case round =>
      obtain ⟨k3,rfl,hk3,rfl,hz⟩:=hrel;have HZ:=Lib.hid hz;obtain ⟨k0,k1,k2',m3,k4⟩:=boxC (HBY.out.aft HN.out.1);clear hz;by_cases hkP:k3 < P
      ·have hdec3:decide (k3 < P) = true:=decide_eq_true hkP;have n0:wr.cell? ⟨b,k3,none⟩ = some (.bool (nowF T (leadsF T R) S T.legs.length k3)):=HN.out.2.2.cell hkP;have i2:(0:Int) <= (k3:Int) /\ (k3:Int) < (P:Int):=by omega
       cases hq:nowF T (leadsF T R) S T.legs.length k3 with
       | true =>
        rw [hq] at n0;have HQ:=Lib.hid hq;clear hq;(repeat (first | go_big_skip | go_big_want | go_big_move | go_big_op | go_step | go_upon | go_back));go_ret;refine ⟨?_,HAY.out.trans HN.out.1⟩
        have:enB T (leadsF T R) S = true:=by
         unfold enB;rw [List.any_eq_true];exact ⟨k3,List.mem_range.2 (by have:=HPN.out;omega),HQ.out⟩
        rw [this];rfl
       | false =>
        rw [hq] at n0
        have HZ':Hid (∀ a,a < k3 + 1 -> nowF T (leadsF T R) S T.legs.length a = false):=Lib.hid fun a ha=>by
         by_cases e:a = k3
         ·rw [e];exact hq
         ·exact HZ.out a (by omega)
        clear hq;(repeat (first | go_big_skip | go_big_want | go_big_move | go_big_op | go_step | go_upon | go_back));exact ⟨⟨k3 + 1,by go_num,by omega,by trivial,HZ'.out⟩,by simp [intOf];omega⟩
      ·have hdec3:decide (k3 < P) = false:=decide_eq_false hkP;(repeat (first | go_big_skip | go_big_want | go_big_move | go_big_op | go_step | go_upon | go_back));go_ret;refine ⟨?_,HAY.out.trans HN.out.1⟩
       have:enB T (leadsF T R) S = false:=by
        unfold enB;rw [List.any_eq_false];intro a ha;have:=HZ.out a (by have:=List.mem_range.1 ha;have:=HPN.out;omega);rw [this];decide
       rw [this];rfl
end Go.Proofs
end
section
/- Walks: told. -/
namespace Go.Proofs
open Go.RowKit
attribute [local go_sem] Oper.semAt_some
theorem ty161:SliceTy Tryz.prog 161 9 1 16:=.mk' (z:=.string ⟨#[]⟩) Tryz.underlying161 (by kernel_rfl) rfl (by decide)
def strOf (x:Int):Value:=.string ⟨(Lib.decDigits x.toNat).toArray⟩
theorem itoa_any (W:World) (x:Int) (h0:0 <= x) (h1:x < 100):Calls Tryz.prog 117 #[.int .i64 x] W fun e w'=>e = .returned (strOf x) /\ w' = W:=by
 obtain ⟨i,rfl⟩:=Int.eq_ofNat_of_zero_le h0;exact Any.strconv_Itoa_small layItoa i (by omega) W
theorem join_any (W:World) (b:Nat) {v:Value} {l:List Int} (hv:W.ownsRow b 9 1 v l.length (l.map strOf)) (h0:l ≠ []) (hl:l.length <= 100) (hx:∀ x ∈ l,0 <= x /\ x < 100):Calls Tryz.prog 118 #[v,.string ⟨#[32]⟩] W fun e w'=>e = .returned (.string ⟨(toldL l).toArray⟩) /\ Aft W w':=by
 rcases hv.2 with ⟨_,h⟩ | ⟨g,cap,cur,rfl,hg,hh,hc,hm,hs,ht⟩
 ·exact absurd (List.eq_nil_of_length_eq_zero h) h0
 ·have e1:(l.map fun x=>(⟨(Lib.decDigits x.toNat).toArray⟩:ByteArray)).map (·.data.toList) = l.map fun x=>Lib.decDigits x.toNat:=by
   rw [List.map_map];exact List.map_congr_left fun x _=>by simp
  have hlt:g < W.heap.size:=(Array.getElem?_eq_some_iff.1 hh).1
  have:=Any.strings_Join layJoin extraJoin g 0 cap (l.map fun x=>(⟨(Lib.decDigits x.toNat).toArray⟩:ByteArray)) ⟨#[32]⟩ W (fun j x hj=>by
   have hj':(l.map strOf)[j]? = some (.string x):=by
    rw [List.getElem?_map] at hj ⊢;obtain ⟨y,hy,rfl⟩:=Option.map_eq_some_iff.1 hj;rw [hy];rfl
   have:=hv.cells (g:=g) rfl j _ hj';rw [Addr.add_lit] at this;exact this) hlt (by rw [List.length_map];omega) (by rw [List.length_map];omega) (by
    rw [e1];have:=told_len hx;unfold toldL at this;show (Lib.join _ [32]).length <= _;omega)
  rw [e1,List.length_map] at this;exact this.mono fun e w' ⟨h1,h2⟩=>⟨h1,Aft.of_below h2⟩
set_option maxRecDepth 100000 in
set_option maxHeartbeats 4000000 in
theorem told_any (w:World) (l:List Int) (A:Option Addr) (c:Nat) (hA:Ints w A l) (h0:l ≠ []) (hl:l.length <= 100) (hx:∀ x ∈ l,0 <= x /\ x < 100) :
  Calls Tryz.prog 57 #[.slice A l.length c] w fun e w'=>e = .returned (.string ⟨(toldL l).toArray⟩) /\ Aft w w':=by
 have HA:=Lib.hid hA;have HX:=Lib.hid hx;have H0:=Lib.hid h0;have HTK:Hid (∀ k,(hk:k < l.length) -> (l.take (k + 1)).map strOf = (l.take k).map strOf ++ [strOf l[k]]):=Lib.hid fun k hk=>by rw [List.take_succ_eq_append_getElem hk,List.map_append];rfl
 have HS0:Hid (w.ownsRow w.heap.size 9 1 (.slice none 0 0) 0 ((l.take 0).map strOf)):=Lib.hid (World.ownsRow_nil _ _ 9 1);clear hA hx h0;go_enter Tryz.func57,Tryz.ntmps57;(repeat (first | go_big_skip | go_big_want | go_big_move | go_big_op | go_step | go_upon | go_back));go_loopw [3,8] (fun v i wr=>∃ k:Nat,i = .int .i64 k /\ k <= l.length /\ Aft w wr /\ wr.ownsRow w.heap.size 9 1 v k ((l.take k).map strOf)) (fun _ i _=>l.length - (intOf i).toNat)
 case atStart=>exact ⟨0,rfl,by omega,Aft.refl _,HS0.out⟩
 case round =>
  obtain ⟨k,rfl,hk,ha,hown⟩:=hrel;have HW:=Lib.hid ha;have HO:=Lib.hid hown;obtain ⟨sA,sc,rfl⟩:=own_slice2 hown;have hsz:=ha.size;clear ha hown HS0;by_cases hkn:k < l.length
  ·have hdec:decide (k < l.length) = true:=decide_eq_true hkn;obtain ⟨b,o,e1,hb,hc⟩:=(HA.out.aft HW.out).at hkn;subst e1;have hc1:=hc k hkn;clear hc;have ik:(0:Int) <= (k:Int) /\ (k:Int) < (l.length:Int):=by omega
   have hlk:=HX.out l[k] (List.getElem_mem hkn);have HT:=HTK.out k hkn;obtain ⟨y,hy⟩:∃ y,l[k] = y:=⟨_,rfl⟩;rw [hy] at hc1 hlk HT;have hit:=itoa_any wr y hlk.1 hlk.2;obtain ⟨s,hs⟩:∃ s,strOf y = .string s:=⟨_,rfl⟩;rw [hs] at HT hit;have HIT:=Lib.hid hit;have HTT:=Lib.hid HT;clear HT hy HTK hs hit;(repeat (first | go_big_skip | go_big_want | go_big_move | go_big_op | go_step | go_upon | go_back));go_at_call 117;refine HIT.out.mono ?_;rintro e w5 ⟨rfl,rfl⟩;dsimp only;go_upto_region 6 with (at_builtin;go_loud (refine wpList_app1 ty161 rfl _ _ rfl (Nat.le_trans hsz (Aft.alloc _ _).size) rfl (own_aft HO.out (Aft.alloc _ _)) rfl (Blk.new _ _ _) rfl (fun u hu=>by rw [List.mem_singleton] at hu;subst hu;rfl) (by omega) (by decide) ?_;intro v' w6 hown6 hg6 hat6;have HA6:=Lib.hid ((HW.out.then_alloc _).grown hg6 (fun q e=>(HO.out.lt q e).1));have HO6:=Lib.hid hown6;clear hown6 hg6 hat6))
   (repeat (first | go_big_skip | go_big_want | go_big_move | go_big_op | go_step | go_upon | go_back));exact ⟨⟨k + 1,by go_num,by omega,HA6.out,by rw [HTT.out];exact HO6.out⟩,by simp [intOf];omega⟩
  ·have hdec:decide (k < l.length) = false:=decide_eq_false hkn;obtain rfl:k = l.length:=by omega
   have HJ:=Lib.hid (join_any wr w.heap.size (l:=l) (by have:=HO.out;rwa [List.take_length] at this) H0.out hl HX.out);(repeat (first | go_big_skip | go_big_want | go_big_move | go_big_op | go_step | go_upon | go_back));go_at_call 118;refine HJ.out.mono ?_;rintro e w5 ⟨rfl,ha5⟩;dsimp only;(repeat (first | go_big_skip | go_big_want | go_big_move | go_big_op | go_step | go_upon | go_back));go_ret;exact ⟨rfl,HW.out.trans ha5⟩
end Go.Proofs
end
section
/- A set of lines in a map of the call's own,keyed by their told text. -/
namespace Go.Proofs
open Go.RowKit Go.Maps Go.WideMaps
def LineN (l:List Int):Prop:=l ≠ [] /\ l.length <= 100 /\ ∀ x ∈ l,0 <= x /\ x < 100
def toldV (l:List Int):Value:=.string ⟨(toldL l).toArray⟩
theorem LineN.inj {l l':List Int} (h:LineN l) (h':LineN l') (e:toldL l = toldL l'):l = l':=told_inj h.2.2 h'.2.2 h.1 h'.1 e
theorem LineN.key {l:List Int} (h:LineN l):keyOf Tryz.prog 9 (toldV l) = some (.string (toldL l)):=by
 have:=told_len h.2.2;have h2:=h.2.1;have:=keyOf_string_mk (P:=Tryz.prog) (k:=9) Tryz.underlying9 (s:=⟨(toldL l).toArray⟩) (by show (toldL l).toArray.size <= maxLen;rw [List.size_toArray];unfold maxLen;omega);exact this
def SetM (W:World) (b n:Nat) (S:List (List Int)):Prop :=
 ∃ D:DataW Unit,W.ownsMap Tryz.prog 9 (plainElem Tryz.prog 4) b n D /\ ∀ l,LineN l -> D.atKey (.string (toldL l)) (.lit (.bool false)) = .lit (.bool (decide (l ∈ S)))
theorem SetM.made (W:World):SetM (W.alloc (.map #[] 0)) W.heap.size 0 []:=⟨_,World.ownsMap_made _ _ _ _,fun l _=>by simp [WideAt.atKey_nil,DataW.atKey]⟩
theorem SetM.kept {W W':World} {b n:Nat} {S:List (List Int)} (h:SetM W b n S) {row:Option Nat} (hg:W.grownBy W' row) (hne:some b ≠ row):SetM W' b n S:=let ⟨D,h1,h2⟩:=h;⟨D,h1.kept hg hne,h2⟩
theorem SetM.aft {W W':World} {b n:Nat} {S:List (List Int)} (h:SetM W b n S) (ha:Aft W W'):SetM W' b n S:=h.kept (only_aft (only_refl W none) ha) (by simp)
theorem SetM.look {W:World} {b n:Nat} {S:List (List Int)} (h:SetM W b n S) {l:List Int} (hl:LineN l):(Instr.lookup 104 (.map (some b)) (toldV l) false).run Tryz.prog W = .ok (.bool (decide (l ∈ S))) W:=by
 obtain ⟨D,h1,h2⟩:=h;obtain ⟨v,ps,hrun,hv⟩:=h1.lookup (string_keyed Tryz.underlying9) (e:=4) (t:=104) Tryz.underlying104 (Tryz.zeroValue4 W) (plainElem_bool Tryz.underlying4 false) hl.key;rw [h2 l hl] at hv
 have hv':v = .bool (decide (l ∈ S)):=by
  unfold plainElem at hv;cases v <;> simp_all [Tryz.underlying4]
 rw [hrun,hv']
theorem SetM.put {W:World} {b n:Nat} {S:List (List Int)} (h:SetM W b n S) {l:List Int} (hl:LineN l) (hn:n < 1000000):∃ w',(Instr.mapUpdate 104 (.map (some b)) (toldV l) (.bool true)).run Tryz.prog W = .ok () w' /\ SetM w' b (n + 1) (S ++ [l]) /\ W.grownBy w' (some b):=by
 obtain ⟨D,h1,h2⟩:=h;obtain ⟨w',hrun,h3,h4⟩:=h1.update (string_keyed Tryz.underlying9) (e:=4) (t:=104) Tryz.underlying104 (by unfold maxLen;omega) hl.key (plainElem_bool Tryz.underlying4 true);refine ⟨w',hrun,⟨_,h3,fun l' hl'=>?_⟩,h4⟩;by_cases e:l' = l
 ·subst e;rw [atKey_put_same h1.isMap (by trivial)]
  simp
 ·rw [atKey_put_other (fun e'=>e (hl'.inj hl (by injection e'))),h2 l' hl'];have:decide (l' ∈ S ++ [l]) = decide (l' ∈ S):=by simp [e]
  rw [this]
end Go.Proofs
end
section
/- Plain: the program's All: each line once,as they come,then in order. -/
namespace Go.Proofs
open Go
structure AMI (T:Treaty) (k:Nat) (M:List (List Int)) (k2:Nat) (S:List (List Int)):Prop where
 nd:S.Nodup
 few:S.length <= 200 + k2
 sub:∀ y ∈ S,y ∈ unionL T
 done:∀ i,i < k -> ∀ y ∈ linesL T (leadsF T ((readingsL T).getD i [])),y ∈ S
 here:∀ j,j < k2 -> M.getD j [] ∈ S
theorem AMI.start (T:Treaty):AMI T 0 [] 0 []:=⟨List.Pairwise.nil,by simp,by simp,fun i hi=>absurd hi (Nat.not_lt_zero _),fun i hi=>absurd hi (Nat.not_lt_zero _)⟩
theorem AMI.into {T:Treaty} {k:Nat} {M S:List (List Int)} (h:AMI T k M 0 S) (M':List (List Int)):AMI T k M' 0 S:=⟨h.nd,h.few,h.sub,h.done,fun i hi=>absurd hi (Nat.not_lt_zero _)⟩
theorem AMI.has {T:Treaty} {k k2:Nat} {M S:List (List Int)} (h:AMI T k M k2 S) {l:List Int} (hl:M.getD k2 [] = l) (hm:l ∈ S):AMI T k M (k2 + 1) S :=
 ⟨h.nd,by have:=h.few;omega,h.sub,h.done,fun j hj=>by
  by_cases e:j = k2
  ·rw [e,hl];exact hm
  ·exact h.here j (by omega)⟩
theorem AMI.put {T:Treaty} {k k2:Nat} {M S:List (List Int)} (h:AMI T k M k2 S) {l:List Int} (hl:M.getD k2 [] = l) (hm:l ∉ S) (hu:l ∈ unionL T):AMI T k M (k2 + 1) (S ++ [l]):=by
 refine ⟨?_,?_,fun y hy=>?_,fun i hi y hy=>List.mem_append.2 (.inl (h.done i hi y hy)),fun j hj=>?_⟩
 ·rw [List.nodup_append];exact ⟨h.nd,List.pairwise_singleton _ _,fun a ha b hb e=>hm (by rw [List.mem_singleton] at hb;rw [<- hb,<- e];exact ha)⟩
 ·have:=h.few;simp;omega
 ·rcases List.mem_append.1 hy with hy | hy
  ·exact h.sub y hy
  ·rw [List.mem_singleton.1 hy];exact hu
 ·by_cases e:j = k2
  ·rw [e,hl];simp
  ·exact List.mem_append.2 (.inl (h.here j (by omega)))
theorem AMI.next {T:Treaty} (ok:TOk T) {k:Nat} {M S:List (List Int)} (h:AMI T k M M.length S) (hM:M = (linesL T (leadsF T ((readingsL T).getD k []))).take 201) (hS:S.length <= 200):AMI T (k + 1) [] 0 S:=by
 have hnd:M.Nodup:=by
  rw [hM];exact (linesL_ok ok _).nodup.sublist (List.take_sublist _ _)
 have hin:∀ y ∈ M,y ∈ S:=fun y hy=>by
  obtain ⟨j,hj,rfl⟩:=List.getElem_of_mem hy;have:=h.here j hj
  rwa [List.getD_eq_getElem?_getD,List.getElem?_eq_getElem hj] at this
 have hle:M.length <= 200:=Nat.le_trans (hnd.length_le_of_subset hin) hS
 have hall:(linesL T (leadsF T ((readingsL T).getD k []))).take 201 = linesL T (leadsF T ((readingsL T).getD k [])):=by
  rw [hM,List.length_take] at hle;exact List.take_of_length_le (by omega)
 refine ⟨h.nd,by omega,h.sub,fun i hi y hy=>?_,fun i hi=>absurd hi (Nat.not_lt_zero _)⟩;by_cases e:i = k
 ·subst e;rw [<- hall,<- hM] at hy;exact hin y hy
 ·exact h.done i (by omega) y hy
theorem AMI.all {T:Treaty} {M S L:List (List Int)} {k2:Nat} (h:AMI T (readingsL T).length M k2 S) (hp:L.Perm S) (hs:SortedL L):allL T = L:=by
 refine sorted_unique (allL_spec T).1 hs fun y=>?_
 rw [(allL_spec T).2,hp.mem_iff];refine ⟨fun hy=>?_,h.sub y⟩;unfold unionL at hy;obtain ⟨R,hR,hy⟩:=List.mem_flatMap.1 hy;obtain ⟨i,hi,rfl⟩:=List.getElem_of_mem hR;refine h.done i hi y ?_;rw [List.getD_eq_getElem?_getD,List.getElem?_eq_getElem hi];exact hy
theorem unionL_n {T:Treaty} (ok:TOk T) {l:List Int} (h:l ∈ unionL T):LineN l:=by
 unfold unionL at h;obtain ⟨R,_,hl⟩:=List.mem_flatMap.1 h;have hlin:=((mem_linesL ok.starts).1 hl).1;obtain ⟨hlen,hx⟩:=linedB_iff.1 hlin;have hn:=ok.nlegs;have hp:=ok.p2;refine ⟨fun e=>by rw [e] at hlen;simp at hlen,by omega,fun x hx'=>?_⟩;have:=hx x hx';omega
end Go.Proofs
end
section
/- For the reference's All: a line is put into a list of lines of the call's own. -/
namespace Go.Proofs
open Go.RowKit
theorem insL_at {l:List Int}:∀ {L:List (List Int)} {p:Nat},p <= L.length -> (∀ i,i < p -> lexB (L.getD i []) l = true) -> (p < L.length -> lexB (L.getD p []) l = false) ->
  insL l L = if p = L.length \/ lexB l (L.getD p []) = true then L.take p ++ l :: L.drop p else L
 | [],p,hp,_,_=>by
  have:p = 0:=by simpa using hp
  subst this;simp [insL]
 | x :: r,0,_,_,h2=>by
  have h:=h2 (by simp);have h':lexB x l = false:=by simpa using h
  unfold insL;rw [h']
  simp
 | x :: r,p + 1,hp,h1,h2=>by
  have h0:lexB x l = true:=by have:=h1 0 (by omega);simpa using this
  have ih:=insL_at (l:=l) (L:=r) (p:=p) (by simpa using hp) (fun i hi=>by have:=h1 (i + 1) (by omega);simpa using this) (fun hlt=>by have:=h2 (by simpa using hlt);simpa using this);unfold insL;rw [if_pos h0,ih];simp only [List.length_cons,Nat.add_right_cancel_iff,List.getD_cons_succ,List.take_succ_cons,List.drop_succ_cons,List.cons_append];split <;> rfl
structure OutI (Y:World) (L:List (List Int)) (v:Value) (W:World):Prop where
 aft:Aft Y W
 ex:∃ vs,W.ownsRow Y.heap.size 24 1 v L.length vs /\ ∀ i,(hi:i < L.length) -> ∃ A c,vs[i]? = some (.slice A L[i].length c) /\ Ints W A L[i] /\ ∀ b o,A = some ⟨b,o,none⟩ -> v.ownBlock ≠ some b
theorem OutI.nil (Y:World):OutI Y [] (.slice none 0 0) Y:=⟨Aft.refl _,[],World.ownsRow_nil _ _ 24 1,fun i hi=>absurd hi (Nat.not_lt_zero _)⟩
theorem OutI.later {Y:World} {L:List (List Int)} {v:Value} {W W':World} (h:OutI Y L v W) (ha:Aft W W'):OutI Y L v W':=by
 obtain ⟨h1,vs,h2,h3⟩:=h;exact ⟨h1.trans ha,vs,own_aft h2 ha,fun i hi=>let ⟨A,c,e1,e2,e3⟩:=h3 i hi;⟨A,c,e1,e2.aft ha,e3⟩⟩
theorem OutI.slice {Y:World} {L:List (List Int)} {v:Value} {W:World} (h:OutI Y L v W):∃ A c,v = .slice A L.length c:=by
 obtain ⟨_,vs,h2,_⟩:=h;exact own_slice2 h2
theorem OutI.at {Y:World} {L:List (List Int)} {v:Value} {W:World} (h:OutI Y L v W) {i:Nat} (hi:i < L.length):∃ g c A d,v = .slice (some ⟨g,0,none⟩) L.length c /\ W.cell? ⟨g,i,none⟩ = some (.slice A L[i].length d) /\ Ints W A L[i]:=by
 obtain ⟨_,vs,h2,h3⟩:=h;obtain ⟨A,d,e1,e2,-⟩:=h3 i hi;rcases h2.2 with ⟨rfl,h0⟩ | ⟨g,cap,cur,rfl,hg,hh,hc,hm,hs,ht⟩
 ·omega
 ·refine ⟨g,cap,A,d,rfl,?_,e2⟩;have:=h2.cells (g:=g) rfl i _ e1;rw [Addr.add_lit] at this;simpa using this
theorem OutI.lists {Y:World} {L:List (List Int)} {v:Value} {W:World} (h:OutI Y L v W) (hl:L.length <= 17592186043904):∃ A c,v = .slice A L.length c /\ Lists W A L:=by
 obtain ⟨h1,vs,h2,h3⟩:=h;exact own_lists h2 ⟨by simpa using h2.1,fun i hi=>let ⟨A,c,e1,e2,_⟩:=h3 i hi;⟨A,c,e1,e2⟩⟩ hl
theorem grownBy_setRow (w:World) (g:Nat) (cs:Array Value):w.grownBy (w.setRow g cs) (some g) :=
 ⟨rfl,rfl,rfl,by simp [World.setRow],fun k _ hne=>setRow_other w g k cs (fun e=>hne (by rw [e]))⟩
theorem own_set {W:World} {base e n c g p:Nat} {xs:List Value} (h:W.ownsRow base e 1 (.slice (some ⟨g,0,none⟩) n c) n xs) (hp:p < n) (x:Value) :
  (W.setCell ⟨g,p,none⟩ x).ownsRow base e 1 (.slice (some ⟨g,0,none⟩) n c) n (xs.set p x) /\ W.cell? ⟨g,p,none⟩ ≠ none /\ W.frozen? ⟨g,p,none⟩ = false /\ g < W.heap.size:=by
 rcases h.2 with ⟨h0,_⟩ | ⟨g',cap,cur,e1,hg,hh,hc,hm,hs,ht⟩
 ·cases h0
 ·cases e1;have hb:Blk W g e cur:=hh;have hl:=h.1;refine ⟨⟨by simpa using hl,.inr ⟨g,c,cur.setIfInBounds p x,rfl,hg,hb.store p x,hc,hm,by simpa using hs,?_⟩⟩,?_,hb.frozen p,hb.lt⟩
  ·rw [Array.toList_setIfInBounds,List.take_set,ht]
  ·rw [hb.cell p,Array.getElem?_eq_getElem (by omega)];simp
theorem own_shift {W:World} {base e n c g p:Nat} {vs:List Value} {z:Value} (h:W.ownsRow base e 1 (.slice (some ⟨g,0,none⟩) (n + 1) c) (n + 1) (vs ++ [z])) (hp:p < n) :
  ∃ cur,W.heap[g]? = some (.cells cur e (0,0)) /\ p + 1 + (vs.drop p).length <= cur.size /\ (vs.drop p).length = n - p /\ (∀ j v,(vs.drop p)[j]? = some v -> W.cell? ⟨g,p + j,none⟩ = some v) /\
   (W.setRow g (cur.toList.take (p + 1) ++ (vs.drop p ++ cur.toList.drop (p + 1 + (vs.drop p).length))).toArray).ownsRow base e 1 (.slice (some ⟨g,0,none⟩) (n + 1) c) (n + 1) (vs.take (p + 1) ++ vs.drop p):=by
 rcases h.2 with ⟨h0,_⟩ | ⟨g',cap,cur,e1,hg,hh,hc,hm,hs,ht⟩
 ·cases h0
 ·cases e1;have hl:vs.length = n:=by have:=h.1;simp at this;omega
  have hsz:cur.toList.length = c:=by
   have:cur.size = c:=by omega
   simpa using this
  have hcl:cur.size = c:=by omega
  rw [Nat.mul_one] at ht;refine ⟨cur,hh,by rw [List.length_drop];omega,by rw [List.length_drop,hl],fun j v hj=>?_,?_,.inr ⟨g,c,_,rfl,hg,setRow_heap W g cur _ e (0,0) hh,hc,hm,?_,?_⟩⟩
  ·have hb:Blk W g e cur:=hh;rw [hb.cell,<- Array.getElem?_toList];rw [List.getElem?_drop] at hj
   have hjl:p + j < vs.length:=by
    rcases Nat.lt_or_ge (p + j) vs.length with h | h
    ·exact h
    ·rw [List.getElem?_eq_none h] at hj;cases hj
   have:(cur.toList.take (n + 1))[p + j]? = some v:=by rw [ht,List.getElem?_append_left hjl];exact hj
   rw [List.getElem?_take] at this;split at this
   ·exact this
   ·cases this
  ·simp only [List.length_append,List.length_take,List.length_drop];omega
  ·simp only [List.size_toArray,List.length_append,List.length_take,List.length_drop,hsz];omega
  ·rw [Nat.mul_one]
   have h1:cur.toList.take (p + 1) = vs.take (p + 1):=by
    have:(cur.toList.take (n + 1)).take (p + 1) = (vs ++ [z]).take (p + 1):=by rw [ht]
    rw [List.take_take,Nat.min_eq_left (by omega),List.take_append_of_le_length (by omega)] at this;exact this
   rw [h1];show (vs.take (p + 1) ++ (vs.drop p ++ _)).take (n + 1) = _;rw [<- List.append_assoc,List.take_append_of_le_length (by simp only [List.length_append,List.length_take,List.length_drop];omega),List.take_of_length_le (by simp only [List.length_append,List.length_take,List.length_drop];omega)]
theorem own_pos {W:World} {base e sz n:Nat} {v:Value} {vs:List Value} (h:W.ownsRow base e sz v (n + 1) vs):∃ g c,v = .slice (some ⟨g,0,none⟩) (n + 1) c:=by
 rcases h.2 with ⟨_,h0⟩ | ⟨g,cap,cur,e1,_⟩
 ·cases h0
 ·exact ⟨g,cap,e1⟩
theorem ints_grown {w w':World} {A:Option Addr} {l:List Int} {row:Option Nat} (h:Ints w A l) (hg:w.grownBy w' row) (hr:∀ b o,A = some ⟨b,o,none⟩ -> some b ≠ row):Ints w' A l:=by
 refine ⟨h.1,?_⟩;rcases h.2 with h | ⟨b,o,rfl,hb,hc⟩
 ·exact .inl h
 ·refine .inr ⟨b,o,rfl,Nat.lt_of_lt_of_le hb hg.size,fun i hi=>?_⟩;obtain ⟨vs,h1,h2,h3⟩:=hc i hi;exact ⟨vs,h1,h2,fun j hj=>(World.cell?_of_block (hg.block b hb (hr b o rfl))).trans (h3 j hj)⟩
theorem OutI.put {Y W w6 w8:World} {L:List (List Int)} {v v' lv:Value} {vs:List Value} {l:List Int} {Al:Option Addr} {cl g p:Nat} (haft:Aft Y W) (hown:W.ownsRow Y.heap.size 24 1 v L.length vs)
  (hrows:∀ i,(hi:i < L.length) -> ∃ A c,vs[i]? = some (.slice A L[i].length c) /\ Ints W A L[i] /\ ∀ b o,A = some ⟨b,o,none⟩ -> v.ownBlock ≠ some b) (hne:∀ x ∈ L,x ≠ []) (hl:l ≠ []) (hlv:lv = .slice Al l.length cl) (hil:Ints W Al l) (hlb:∀ b o,Al = some ⟨b,o,none⟩ -> v.ownBlock ≠ some b)
  (hp:p <= L.length) (hv':v'.ownBlock = some g) (hg6:W.grownBy w6 v.ownBlock) (hat:v'.ownBlock = v.ownBlock \/ v'.ownBlock = some W.heap.size) (hg8:w6.grownBy w8 (some g)) (hown8:w8.ownsRow Y.heap.size 24 1 v' (L.length + 1) (vs.take p ++ lv :: vs.drop p)) :
  OutI Y (L.take p ++ l :: L.drop p) v' w8:=by
 have hvl:vs.length = L.length:=by simpa using hown.1
 have hgY:Y.heap.size <= g:=(hown8.lt g hv').1
 have keep:∀ (A:Option Addr) (x:List Int),x ≠ [] -> Ints W A x -> (∀ b o,A = some ⟨b,o,none⟩ -> v.ownBlock ≠ some b) -> Ints w8 A x /\ ∀ b o,A = some ⟨b,o,none⟩ -> v'.ownBlock ≠ some b:=fun A x hx hi hb=>by
  have hbg:∀ b o,A = some ⟨b,o,none⟩ -> b ≠ g:=fun b o e hbg=>by
   subst e;subst hbg;rcases hat with h | h
   ·rw [hv'] at h;exact hb _ o rfl h.symm
   ·rw [hv'] at h;injection h with h
    obtain ⟨b',o',e',hlt,-⟩:=hi.at (k:=0) (by rcases x with _ | ⟨a,x⟩;exact absurd rfl hx;simp);cases e';omega
  refine ⟨ints_grown (ints_grown hi hg6 fun b o e=>fun h=>hb b o e h.symm) hg8 fun b o e h=>?_,fun b o e h=>?_⟩
  ·injection h with h;exact hbg b o e h
  ·rw [hv'] at h;injection h with h;exact hbg b o e h.symm
 have hlen:(L.take p ++ l :: L.drop p).length = L.length + 1:=by simp only [List.length_append,List.length_take,List.length_cons,List.length_drop];omega
 refine ⟨((haft.grown hg6 (fun k e=>(hown.lt k e).1)).grown hg8 (fun k e=>by cases e;exact hgY)),vs.take p ++ lv :: vs.drop p,by rw [hlen];exact hown8,fun i hi=>?_⟩;have hpt:(L.take p).length = p:=by rw [List.length_take];omega
 have hpv:(vs.take p).length = p:=by rw [List.length_take];omega
 rcases Nat.lt_trichotomy i p with h | h | h
 ·obtain ⟨A,c,e1,e2,e3⟩:=hrows i (by omega);have eL:(L.take p ++ l :: L.drop p)[i] = L[i]:=by rw [List.getElem_append_left (by omega),List.getElem_take]
  have hk:=keep A L[i] (hne _ (List.getElem_mem _)) e2 e3;rw [eL];refine ⟨A,c,?_,hk.1,hk.2⟩;rw [List.getElem?_append_left (by omega),List.getElem?_take,if_pos h];exact e1
 ·subst h;have eL:(L.take i ++ l :: L.drop i)[i] = l:=by rw [List.getElem_append_right (by omega)];simp [hpt]
  have hk:=keep Al l hl hil hlb;rw [eL];refine ⟨Al,cl,?_,hk.1,hk.2⟩;rw [List.getElem?_append_right (by omega),hpv,Nat.sub_self,List.getElem?_cons_zero,hlv]
 ·obtain ⟨d,rfl⟩:∃ d,i = p + 1 + d:=⟨i - (p + 1),by omega⟩;have hpd:p + d < L.length:=by omega
  obtain ⟨A,c,e1,e2,e3⟩:=hrows (p + d) hpd
  have eL:(L.take p ++ l :: L.drop p)[p + 1 + d] = L[p + d]:=by
   rw [List.getElem_append_right (by omega)];simp only [hpt,show p + 1 + d - p = d + 1 by omega,List.getElem_cons_succ,List.getElem_drop]
  have hk:=keep A L[p + d] (hne _ (List.getElem_mem _)) e2 e3;rw [eL];refine ⟨A,c,?_,hk.1,hk.2⟩;rw [List.getElem?_append_right (by omega),hpv,show p + 1 + d - p = d + 1 by omega,List.getElem?_cons_succ,List.getElem?_drop];exact e1
theorem OwnLs.keptb {W W':World} {base:Nat} {v:Value} {vs:List Value} {ls:List (List Int)} (h:OwnLs W base v vs ls) {row:Option Nat} (hg:W.grownBy W' row) (hr:∀ k,row = some k -> k < base):OwnLs W' base v vs ls :=
 ⟨own_kept' h.own hg hr,fun i hi hi'=>own_kept' (h.rows i hi hi') hg hr,h.apart⟩
theorem grown_far {Z W W':World} {r r':Option Nat} (h:Z.grownBy W r) (h':W.grownBy W' r') (hr:r' = r \/ ∀ g,r' = some g -> Z.heap.size <= g):Z.grownBy W' r :=
 ⟨h'.os.trans h.os,h'.tape.trans h.tape,h'.output.trans h.output,Nat.le_trans h.size h'.size,fun i hi hne=>(h'.block i (Nat.lt_of_lt_of_le hi h.size) (by
  rcases hr with rfl | hr
  ·exact hne
  ·intro e;have:=hr i e.symm;omega)).trans (h.block i hi hne)⟩
theorem set_shift {α:Type} {vs:List α} {p:Nat} {x:α} (hp:p < vs.length):(vs.take (p + 1) ++ vs.drop p).set p x = vs.take p ++ x :: vs.drop p:=by
 have hl:(vs.take (p + 1)).length = p + 1:=by rw [List.length_take];omega
 rw [List.set_append_left _ _ (by omega),List.take_succ_eq_append_getElem hp,List.set_append_right _ _ (by rw [List.length_take];omega)];have:p - (vs.take p).length = 0:=by rw [List.length_take];omega
 rw [this]
 simp
theorem set_end {α:Type} {vs:List α} {p:Nat} {x z:α} (hp:p = vs.length):(vs ++ [z]).set p x = vs.take p ++ x :: vs.drop p:=by
 subst hp
 simp
theorem grown_cell {W W':World} {r:Option Nat} (h:W.grownBy W' r) {g o:Nat} (hg:g < W.heap.size) (hr:r ≠ some g):W'.cell? ⟨g,o,none⟩ = W.cell? ⟨g,o,none⟩ :=
 World.cell?_of_block (h.block g hg (fun e=>hr e.symm))
end Go.Proofs
end
section
/- For the program's All: the list under way,and a row of the list of a reading's lines. -/
namespace Go.Proofs
open Go.RowKit
structure OutB (W:World) (base:Nat) (L:List (List Int)) (v:Value):Prop where
 ex:∃ vs,W.ownsRow base 24 1 v L.length vs /\ ∀ i,(hi:i < L.length) -> ∃ A c,vs[i]? = some (.slice A L[i].length c) /\ Ints W A L[i] /\ ∀ b o,A = some ⟨b,o,none⟩ -> base <= b /\ v.ownBlock ≠ some b
theorem OutB.nil (W:World) (base:Nat):OutB W base [] (.slice none 0 0):=⟨[],World.ownsRow_nil _ _ 24 1,fun i hi=>absurd hi (Nat.not_lt_zero _)⟩
theorem OutB.kept {W W':World} {base:Nat} {L:List (List Int)} {v:Value} (h:OutB W base L v) {row:Option Nat} (hg:W.grownBy W' row) (hr:∀ k,row = some k -> k < base):OutB W' base L v:=by
 obtain ⟨vs,h1,h2⟩:=h;refine ⟨vs,own_kept' h1 hg hr,fun i hi=>?_⟩;obtain ⟨A,c,e1,e2,e3⟩:=h2 i hi;exact ⟨A,c,e1,ints_grown e2 hg (fun b o e h=>by have:=(e3 b o e).1;have:=hr b h.symm;omega),e3⟩
theorem OutB.aft {W W':World} {base:Nat} {L:List (List Int)} {v:Value} (h:OutB W base L v) (ha:Aft W W'):OutB W' base L v:=h.kept (only_aft (only_refl W none) ha) (fun _ e=>by cases e)
theorem OutB.slice {W:World} {base:Nat} {L:List (List Int)} {v:Value} (h:OutB W base L v):∃ A c,v = .slice A L.length c:=let ⟨_,h1,_⟩:=h;own_slice2 h1
theorem OutB.ge {W:World} {base:Nat} {L:List (List Int)} {v:Value} (h:OutB W base L v):∀ g,v.ownBlock = some g -> base <= g /\ g < W.heap.size:=fun g hg=>let ⟨_,h1,_⟩:=h;h1.lt g hg
theorem OutB.push {W w6:World} {base:Nat} {L:List (List Int)} {v v':Value} {vs:List Value} {l:List Int} {Al:Option Addr} {cl:Nat} (h1:W.ownsRow base 24 1 v L.length vs)
  (h2:∀ i,(hi:i < L.length) -> ∃ A c,vs[i]? = some (.slice A L[i].length c) /\ Ints W A L[i] /\ ∀ b o,A = some ⟨b,o,none⟩ -> base <= b /\ v.ownBlock ≠ some b) (hne:∀ x ∈ L,x ≠ []) (hl:l ≠ []) (hil:Ints W Al l)
  (hlb:∀ b o,Al = some ⟨b,o,none⟩ -> base <= b /\ v.ownBlock ≠ some b) (hg6:W.grownBy w6 v.ownBlock) (hat:v'.ownBlock = v.ownBlock \/ v'.ownBlock = some W.heap.size)
  (hown6:w6.ownsRow base 24 1 v' (L.length + 1) (vs ++ [.slice Al l.length cl])):OutB w6 base (L ++ [l]) v':=by
 have hvl:vs.length = L.length:=by simpa using h1.1
 have keep:∀ (A:Option Addr) (x:List Int),x ≠ [] -> Ints W A x -> (∀ b o,A = some ⟨b,o,none⟩ -> base <= b /\ v.ownBlock ≠ some b) -> Ints w6 A x /\ ∀ b o,A = some ⟨b,o,none⟩ -> base <= b /\ v'.ownBlock ≠ some b:=fun A x hx hi hb=>by
  refine ⟨ints_grown hi hg6 fun b o e h=>(hb b o e).2 h.symm,fun b o e=>⟨(hb b o e).1,fun hv=>?_⟩⟩;rcases hat with h | h
  ·rw [h] at hv;exact (hb b o e).2 hv
  ·rw [hv] at h;injection h with h
   obtain ⟨b',o',e',hlt,-⟩:=hi.at (k:=0) (by rcases x with _ | ⟨a,x⟩;exact absurd rfl hx;simp);rw [e] at e';cases e';omega
 have hlen:(L ++ [l]).length = L.length + 1:=by simp
 refine ⟨vs ++ [.slice Al l.length cl],by rw [hlen];exact hown6,fun i hi=>?_⟩;by_cases h:i < L.length
 ·obtain ⟨A,c,e1,e2,e3⟩:=h2 i h;have eL:(L ++ [l])[i] = L[i]:=List.getElem_append_left h;have hk:=keep A L[i] (hne _ (List.getElem_mem _)) e2 e3;rw [eL];exact ⟨A,c,by rw [List.getElem?_append_left (by omega)];exact e1,hk.1,hk.2⟩
 ·obtain rfl:i = L.length:=by omega
  have eL:(L ++ [l])[L.length] = l:=by simp
  have hk:=keep Al l hl hil hlb;rw [eL];exact ⟨Al,cl,by rw [List.getElem?_append_right (by omega),hvl];simp,hk.1,hk.2⟩
theorem ints_blocks {w w':World} {A:Option Addr} {l:List Int} (h:Ints w A l) (hs:w.heap.size <= w'.heap.size) (hb:∀ b o,A = some ⟨b,o,none⟩ -> w'.heap[b]? = w.heap[b]?):Ints w' A l:=by
 refine ⟨h.1,?_⟩;rcases h.2 with h | ⟨b,o,rfl,hb',hc⟩
 ·exact .inl h
 ·refine .inr ⟨b,o,rfl,Nat.lt_of_lt_of_le hb' hs,fun i hi=>?_⟩;obtain ⟨vs,h1,h2,h3⟩:=hc i hi;exact ⟨vs,h1,h2,fun j hj=>(World.cell?_of_block (hb b o rfl)).trans (h3 j hj)⟩
theorem OwnLs.row_at {W:World} {base:Nat} {v:Value} {vs:List Value} {ls:List (List Int)} (h:OwnLs W base v vs ls) {i:Nat} (hi:i < ls.length) (hr:ls[i].length <= 1000) :
  ∃ g c A d,v = .slice (some ⟨g,0,none⟩) ls.length c /\ base <= g /\ g < W.heap.size /\ W.cell? ⟨g,i,none⟩ = some (.slice A ls[i].length d) /\ Ints W A ls[i] /\ ∀ b o,A = some ⟨b,o,none⟩ -> base <= b /\ b < W.heap.size:=by
 have hiv:i < vs.length:=by rw [h.len];exact hi
 rcases h.own.2 with ⟨rfl,h0⟩ | ⟨g,cap,cur,rfl,hg,hh,hc,hm,hs,ht⟩
 ·omega
 ·have hrow:=h.rows i hi hiv;obtain ⟨A,d,e,_,hi2⟩:=own_ints hrow (by omega);refine ⟨g,cap,A,d,rfl,hg,(Array.getElem?_eq_some_iff.1 hh).1,?_,hi2,fun b o e'=>?_⟩
  ·have:=h.own.cells (g:=g) rfl i vs[i] (List.getElem?_eq_getElem hiv);rw [Addr.add_lit] at this;rw [<- e];simpa using this
  ·subst e';exact hrow.lt b (by rw [e];rfl)
structure AllK (w:World) (T:Treaty) (a1 a2 a3 a4:Option Addr) (c1 c2 c3 c4:Nat) (S bM bE:Nat) (W wr:World):Prop where
 kept:Kept3 (S + 4) W wr
 aft:Aft w wr
 box:Blk wr w.heap.size 27 #[.int .i64 T.places,.slice a1 T.ways.length c1,.slice a2 T.words.length c2,.slice a3 T.starts.length c3,.slice a4 T.legs.length c4]
 r2:∃ c,Blk wr (w.heap.size + 1) 37 #[c]
 r3:∃ c,Blk wr (w.heap.size + 2) 38 #[c]
 mapc:Blk wr (S + 1) 104 #[.map (some S)]
 box2:Blk wr (S + 3) 27 #[.int .i64 T.places,.slice a1 T.ways.length c1,.slice a2 T.words.length c2,.slice a3 T.starts.length c3,.slice a4 T.legs.length c4]
 size:bE <= wr.heap.size
theorem AllK.grow {w:World} {T:Treaty} {a1 a2 a3 a4:Option Addr} {c1 c2 c3 c4:Nat} {S bM bE:Nat} {W wr wr':World} (h:AllK w T a1 a2 a3 a4 c1 c2 c3 c4 S bM bE W wr) (hS:w.heap.size + 2 < S) (hW:S + 7 <= W.heap.size) {row:Option Nat} (hg:wr.grownBy wr' row)
  (hr:∀ g,row = some g -> g = S \/ g = S + 2 \/ S + 7 <= g):AllK w T a1 a2 a3 a4 c1 c2 c3 c4 S bM bE W wr':=by
 obtain ⟨h1,h2,h3,⟨c,h4⟩,⟨c',h5⟩,h6,h7,h8⟩:=h;have hs:=h1.size;exact ⟨h1.trans (Kept3.of_grown hg (by omega) (fun g e=>by have:=hr g e;omega)),h2.grown hg (fun g e=>by have:=hr g e;omega),h3.grown hg (fun e=>by have:=hr _ e.symm;omega),
  ⟨c,h4.grown hg (fun e=>by have:=hr _ e.symm;omega)⟩,⟨c',h5.grown hg (fun e=>by have:=hr _ e.symm;omega)⟩,h6.grown hg (fun e=>by have:=hr _ e.symm;omega),h7.grown hg (fun e=>by have:=hr _ e.symm;omega),Nat.le_trans h8 hg.size⟩
theorem AllK.later {w:World} {T:Treaty} {a1 a2 a3 a4:Option Addr} {c1 c2 c3 c4:Nat} {S bM bE:Nat} {W wr wr':World} (h:AllK w T a1 a2 a3 a4 c1 c2 c3 c4 S bM bE W wr) (hS:w.heap.size + 2 < S) (hW:S + 7 <= W.heap.size) (ha:Aft wr wr'):AllK w T a1 a2 a3 a4 c1 c2 c3 c4 S bM bE W wr' :=
 h.grow hS hW (only_aft (only_refl wr none) ha) (fun _ e=>by cases e)
def RowsK (bM:Nat) (w6 wr:World):Prop:=∀ b,bM <= b -> b < w6.heap.size -> wr.heap[b]? = w6.heap[b]?
theorem RowsK.refl (bM:Nat) (w6:World):RowsK bM w6 w6:=fun _ _ _=>rfl
theorem RowsK.grow {bM:Nat} {w6 wr wr':World} (h:RowsK bM w6 wr) (hs:w6.heap.size <= wr.heap.size) {row:Option Nat} (hg:wr.grownBy wr' row) (hr:∀ g,row = some g -> g < bM \/ w6.heap.size <= g):RowsK bM w6 wr':=fun b h1 h2 =>
 (hg.block b (by omega) (fun e=>by have:=hr b e.symm;omega)).trans (h b h1 h2)
theorem RowsK.later {bM:Nat} {w6 wr wr':World} (h:RowsK bM w6 wr) (hs:w6.heap.size <= wr.heap.size) (ha:Aft wr wr'):RowsK bM w6 wr':=h.grow hs (only_aft (only_refl wr none) ha) (fun _ e=>by cases e)
structure AllL (w:World) (T:Treaty) (a1 a2 a3 a4:Option Addr) (c1 c2 c3 c4:Nat) (S k bM:Nat) (M:List (List Int)) (W w6 wr:World) (j:Nat) (L:List (List Int)) (v:Value):Prop where
 base:AllK w T a1 a2 a3 a4 c1 c2 c3 c4 S bM w6.heap.size W wr
 rows:RowsK bM w6 wr
 cell:Blk wr (S + 2) 37 #[v]
 out:OutB wr (S + 7) L v
 far:∀ g,v.ownBlock = some g -> g < bM \/ w6.heap.size <= g
 set:SetM wr S L.length L
 ami:AMI T k M j L
theorem AllL.later {w:World} {T:Treaty} {a1 a2 a3 a4:Option Addr} {c1 c2 c3 c4:Nat} {S k bM:Nat} {M:List (List Int)} {W w6 wr wr':World} {j:Nat} {L:List (List Int)} {v:Value} (h:AllL w T a1 a2 a3 a4 c1 c2 c3 c4 S k bM M W w6 wr j L v) (hS:w.heap.size + 2 < S) (hW:S + 7 <= W.heap.size) (ha:Aft wr wr') :
  AllL w T a1 a2 a3 a4 c1 c2 c3 c4 S k bM M W w6 wr' j L v :=
 ⟨h.base.later hS hW ha,h.rows.later h.base.size ha,h.cell.aft ha,h.out.aft ha,h.far,h.set.aft ha,h.ami⟩
theorem AllL.has {w:World} {T:Treaty} {a1 a2 a3 a4:Option Addr} {c1 c2 c3 c4:Nat} {S k bM:Nat} {M:List (List Int)} {W w6 wr:World} {j:Nat} {L:List (List Int)} {v:Value} (h:AllL w T a1 a2 a3 a4 c1 c2 c3 c4 S k bM M W w6 wr j L v) {l:List Int} (hl:M.getD j [] = l) (hm:l ∈ L) :
  AllL w T a1 a2 a3 a4 c1 c2 c3 c4 S k bM M W w6 wr (j + 1) L v:=⟨h.base,h.rows,h.cell,h.out,h.far,h.set,h.ami.has hl hm⟩
theorem AllL.push {w:World} {T:Treaty} {a1 a2 a3 a4:Option Addr} {c1 c2 c3 c4:Nat} {S k bM:Nat} {M:List (List Int)} {W w6 w7 w8 w10:World} {j:Nat} {L:List (List Int)} {v v':Value} (h:AllL w T a1 a2 a3 a4 c1 c2 c3 c4 S k bM M W w6 w7 j L v) (ok:TOk T) (hS:w.heap.size + 2 < S) (hW:S + 7 <= W.heap.size) (hbM:S + 7 <= bM)
  {l:List Int} (hl:M.getD j [] = l) (hm:l ∉ L) (hu:l ∈ unionL T) {Al:Option Addr} {cl:Nat} (hil:Ints (w8.alloc (.cells #[.slice Al l.length cl] 24)) Al l) (hlb:∀ b o,Al = some ⟨b,o,none⟩ -> bM <= b /\ b < w6.heap.size)
  (hset8:SetM w8 S (L.length + 1) (L ++ [l])) (hg8:w7.grownBy w8 (some S)) {vs:List Value} (h1:(w8.alloc (.cells #[.slice Al l.length cl] 24)).ownsRow (S + 7) 24 1 v L.length vs)
  (h2:∀ i,(hi:i < L.length) -> ∃ A c,vs[i]? = some (.slice A L[i].length c) /\ Ints (w8.alloc (.cells #[.slice Al l.length cl] 24)) A L[i] /\ ∀ b o,A = some ⟨b,o,none⟩ -> S + 7 <= b /\ v.ownBlock ≠ some b)
  (hown:w10.ownsRow (S + 7) 24 1 v' (L.length + 1) (vs ++ [.slice Al l.length cl])) (hg10:(w8.alloc (.cells #[.slice Al l.length cl] 24)).grownBy w10 v.ownBlock)
  (hat:v'.ownBlock = v.ownBlock \/ v'.ownBlock = some (w8.alloc (.cells #[.slice Al l.length cl] 24)).heap.size):AllL w T a1 a2 a3 a4 c1 c2 c3 c4 S k bM M W w6 (w10.setCell ⟨S + 2,0,none⟩ v') (j + 1) (L ++ [l]) v':=by
 have hlen:(L ++ [l]).length = L.length + 1:=by simp
 have hge:=h.out.ge;have hfar:=h.far;have ha9:Aft w8 (w8.alloc (.cells #[.slice Al l.length cl] 24)):=Aft.alloc _ _;have hb9:Blk (w8.alloc (.cells #[.slice Al l.length cl] 24)) (S + 2) 37 #[v]:=(h.cell.grown hg8 (fun e=>by injection e with e;omega)).alloc _;have hs8:=h.base.grow hS hW hg8 (fun g e=>by cases e;exact .inl rfl);have hs9:=hs8.later hS hW ha9;have hr9:=(h.rows.grow h.base.size hg8 (fun g e=>by cases e;omega)).later hs8.size ha9;have hset9:=hset8.aft ha9;have hz:=h.base.size;generalize (w8.alloc (.cells #[.slice Al l.length cl] 24)) = w9 at *;have hs10:=hs9.grow hS hW hg10 (fun g e=>by have:=(hge g e).1;omega);have hr10:=hr9.grow hs9.size hg10 (fun g e=>hfar g e);have hgS:=grownBy_setCell' w10 (S + 2) v';refine ⟨hs10.grow hS hW hgS (fun g e=>by cases e;exact .inr (.inl rfl)),hr10.grow hs10.size hgS (fun g e=>by cases e;omega),(hb9.grown hg10 (fun e=>by have:=(hge _ e.symm).1;omega)).store 0 v',?_,?_,?_,h.ami.put hl hm hu⟩
 ·exact (OutB.push h1 h2 (fun x hx=>(unionL_n ok (h.ami.sub x hx)).1) (unionL_n ok hu).1 hil (fun b o e=>by
   have:=hlb b o e;exact ⟨by omega,fun hv=>by have:=hfar b hv;omega⟩) hg10 hat hown).kept hgS (fun g e=>by cases e;omega)
 ·intro g hg;rcases hat with e | e
  ·rw [e] at hg;exact hfar g hg
  ·rw [e] at hg;injection hg with hg
   have:=hs9.size;exact .inr (by omega)
 ·rw [hlen];exact (hset9.kept hg10 (fun e=>by have:=(hge _ e.symm).1;omega)).kept hgS (fun e=>by cases e)
end Go.Proofs
end
section
/- Where the library's slices.SortFunc lies. -/
namespace Go.Proofs
open Go.RowKit Go.Shelf
set_option maxRecDepth 100000
def renSort:Go.Shelf.Ren:=⟨fun | 6=>58 | 15=>120 | 14=>119 | 28=>158 | 29=>159 | 20=>150 | 21=>151 | 22=>152 | 23=>153 | 24=>154 | 25=>155 | 26=>156 | 27=>157 | 46=>168 | 47=>169 | 48=>170 | 49=>171 | 50=>172 | 57=>179 | n=>n,fun | 22=>37 | 24=>24 | 25=>51 | 3=>3 | 39=>166 | 0=>0 | 53=>118 | 55=>199 | 4=>4 | 46=>192 | 45=>191 | 50=>145 | 5=>5 | 9=>9 | 66=>204 | 70=>63 | 76=>216 | 77=>217 | n=>n,fun n=>n⟩
theorem laySort:SlLaysF.n6 Tryz.prog renSort:={
 mixed:=by kernel_rfl
 f6:=⟨Tryz.f58.name,by kernel_rfl,Tryz.func58.trans (congrArg some (by kernel_rfl))⟩
 f14:=⟨Tryz.f119.name,by kernel_rfl,Tryz.func119.trans (congrArg some (by kernel_rfl))⟩
 f15:=Tryz.func120.trans (congrArg some (by kernel_rfl))
 f20:=⟨Tryz.f150.name,by kernel_rfl,Tryz.func150.trans (congrArg some (by kernel_rfl))⟩
 f21:=⟨Tryz.f151.name,by kernel_rfl,Tryz.func151.trans (congrArg some (by kernel_rfl))⟩
 f22:=⟨Tryz.f152.name,by kernel_rfl,Tryz.func152.trans (congrArg some (by kernel_rfl))⟩
 f23:=⟨Tryz.f153.name,by kernel_rfl,Tryz.func153.trans (congrArg some (by kernel_rfl))⟩
 f24:=⟨Tryz.f154.name,by kernel_rfl,Tryz.func154.trans (congrArg some (by kernel_rfl))⟩
 f25:=⟨Tryz.f155.name,by kernel_rfl,Tryz.func155.trans (congrArg some (by kernel_rfl))⟩
 f26:=⟨Tryz.f156.name,by kernel_rfl,Tryz.func156.trans (congrArg some (by kernel_rfl))⟩
 f27:=⟨Tryz.f157.name,by kernel_rfl,Tryz.func157.trans (congrArg some (by kernel_rfl))⟩
 f28:=Tryz.func158.trans (congrArg some (by kernel_rfl))
 f29:=Tryz.func159.trans (congrArg some (by kernel_rfl))
 f46:=⟨Tryz.f168.name,by kernel_rfl,Tryz.func168.trans (congrArg some (by kernel_rfl))⟩
 f47:=Tryz.func169.trans (congrArg some (by kernel_rfl))
 f48:=Tryz.func170.trans (congrArg some (by kernel_rfl))
 f49:=⟨Tryz.f171.name,by kernel_rfl,Tryz.func171.trans (congrArg some (by kernel_rfl))⟩
 f50:=⟨Tryz.f172.name,by kernel_rfl,Tryz.func172.trans (congrArg some (by kernel_rfl))⟩
 f57:=⟨Tryz.f179.name,by kernel_rfl,Tryz.func179.trans (congrArg some (by kernel_rfl))⟩
 t0:=Tryz.underlying0
 a0:=Tryz.isAgg0
 z0:=Tryz.sizeOf0
 v0:=Tryz.zeroValue0
 t3:=Tryz.underlying3
 a3:=Tryz.isAgg3
 z3:=Tryz.sizeOf3
 v3:=Tryz.zeroValue3
 t4:=Tryz.underlying4
 a4:=Tryz.isAgg4
 z4:=Tryz.sizeOf4
 v4:=Tryz.zeroValue4
 t5:=Tryz.underlying5
 a5:=Tryz.isAgg5
 z5:=Tryz.sizeOf5
 v5:=Tryz.zeroValue5
 t9:=Tryz.underlying9
 a9:=Tryz.isAgg9
 z9:=Tryz.sizeOf9
 v9:=Tryz.zeroValue9
 t22:=Tryz.underlying37
 a22:=Tryz.isAgg37
 z22:=Tryz.sizeOf37
 v22:=Tryz.zeroValue37
 a24:=Tryz.isAgg24
 z24:=Tryz.sizeOf24
 t25:=Tryz.underlying51
 a25:=Tryz.isAgg51
 z25:=Tryz.sizeOf51
 v25:=Tryz.zeroValue51
 t39:=Tryz.underlying166
 a39:=Tryz.isAgg166
 z39:=Tryz.sizeOf166
 v39:=Tryz.zeroValue166
 t45:=Tryz.underlying191
 a45:=Tryz.isAgg191
 z45:=Tryz.sizeOf191
 v45:=Tryz.zeroValue191
 t46:=Tryz.underlying192
 a46:=Tryz.isAgg192
 z46:=Tryz.sizeOf192
 v46:=Tryz.zeroValue192
 t50:=Tryz.underlying145
 a50:=Tryz.isAgg145
 z50:=Tryz.sizeOf145
 v50:=Tryz.zeroValue145
 t53:=Tryz.underlying118
 a53:=Tryz.isAgg118
 z53:=Tryz.sizeOf118
 v53:=Tryz.zeroValue118
 t55:=Tryz.underlying199
 a55:=Tryz.isAgg199
 z55:=Tryz.sizeOf199
 v55:=Tryz.zeroValue199
 t66:=Tryz.underlying204
 a66:=Tryz.isAgg204
 z66:=Tryz.sizeOf204
 v66:=Tryz.zeroValue204
 t70:=Tryz.underlying63
 a70:=Tryz.isAgg63
 z70:=Tryz.sizeOf63
 v70:=Tryz.zeroValue63
 t76:=Tryz.underlying216
 a76:=Tryz.isAgg216
 z76:=Tryz.sizeOf216
 v76:=Tryz.zeroValue216
 t77:=Tryz.underlying217
 a77:=Tryz.isAgg217
 z77:=Tryz.sizeOf217
 v77:=Tryz.zeroValue217 }
end Go.Proofs
end
section
/- Walks: slices.Compare of two lists of numbers of one length. -/
namespace Go.Proofs
open Go.RowKit
attribute [local go_sem] Oper.semAt_some
set_option maxHeartbeats 1000000 in
theorem cmp67_any (x y:Int) (w:World):Calls Tryz.prog 67 #[.int .i64 x,.int .i64 y] w fun e w'=>e = .returned (.int .i64 (Lib.compareInt x y)) /\ w' = w:=by
 go_enter Tryz.func67,Tryz.ntmps67;go_wp2
 all_goals (go_ret;refine ⟨?_,rfl⟩;unfold Lib.compareInt;(repeat' split) <;> first | rfl | (exfalso;omega))
theorem compareInt_zero {x y:Int}:Lib.compareInt x y = 0 ↔ x = y:=by
 unfold Lib.compareInt
 (repeat' split) <;> constructor <;> intro h <;> first | omega | contradiction | (exfalso;omega)
def cmpB (x y:List Int):Int:=if lexB x y = true then -1 else if lexB y x = true then 1 else 0
theorem cmpB_neg {x y:List Int}:decide (cmpB x y < 0) = lexB x y:=by
 unfold cmpB;cases h:lexB x y
 ·rw [if_neg (by simp)];split <;> rfl
 ·rw [if_pos rfl];rfl
theorem cmpB_at {x y:List Int} (hl:x.length = y.length) {k:Nat} (hk:k < x.length) (he:∀ i,i < k -> x.getD i 0 = y.getD i 0) (hne:x.getD k 0 ≠ y.getD k 0):cmpB x y = Lib.compareInt (x.getD k 0) (y.getD k 0):=by
 have h1:=lexB_at hl hk he hne;have h2:=lexB_at hl.symm (by omega) (fun i hi=>(he i hi).symm) (Ne.symm hne);unfold cmpB Lib.compareInt;rw [h1,h2]
 (repeat' split) <;> simp_all <;> omega
theorem cmpB_same {x y:List Int} (hl:x.length = y.length) (he:∀ i,i < x.length -> x.getD i 0 = y.getD i 0):cmpB x y = 0:=by
 unfold cmpB;rw [lexB_same hl he,lexB_same hl.symm (fun i hi=>(he i (by omega)).symm)];rfl
set_option maxRecDepth 100000 in
set_option maxHeartbeats 4000000 in
theorem compare22_any (w:World) (x y:List Int) (A B:Option Addr) (c d:Nat) (hA:Ints w A x) (hB:Ints w B y) (hl:x.length = y.length) :
  Calls Tryz.prog 22 #[.slice A x.length c,.slice B y.length d] w fun e w'=>e = .returned (.int .i64 (cmpB x y)) /\ w' = w:=by
 have HA:=Lib.hid hA;have HB:=Lib.hid hB;have hal:=hA.len;have HLL:=Lib.hid hl;have HAT:Hid (∀ k,k < x.length -> (∀ i,i < k -> x.getD i 0 = y.getD i 0) -> x.getD k 0 ≠ y.getD k 0 -> cmpB x y = Lib.compareInt (x.getD k 0) (y.getD k 0)):=Lib.hid fun k hk he hne=>cmpB_at hl hk he hne
 have HSM:Hid ((∀ i,i < x.length -> x.getD i 0 = y.getD i 0) -> cmpB x y = 0):=Lib.hid (cmpB_same hl);obtain ⟨r,hr⟩:∃ r,cmpB x y = r:=⟨_,rfl⟩;rw [hr] at HAT HSM ⊢;rw [<- hl];clear hA hB hl hr;go_enter Tryz.func22,Tryz.ntmps22;(repeat (first | go_big_skip | go_big_want | go_big_move | go_big_op | go_step | go_upon | go_back));go_loopw [11] (fun i wr=>∃ k:Nat,i = .int .i64 k /\ k <= x.length /\ wr = w /\ ∀ i,i < k -> x.getD i 0 = y.getD i 0) (fun i _=>x.length - (intOf i).toNat)
 case atStart=>exact ⟨0,rfl,by omega,rfl,fun i hi=>absurd hi (Nat.not_lt_zero _)⟩
 case round =>
  obtain ⟨k,rfl,hk,rfl,heq⟩:=hrel;have HEQ:=Lib.hid heq;clear heq;by_cases hkn:k < x.length
  ·have hdec:decide (k < x.length) = true:=decide_eq_true hkn;have hge:decide (x.length <= k) = false:=decide_eq_false (by omega);have hge2:decide ((x.length:Int) <= (k:Int)) = false:=decide_eq_false (by omega);have hky:k < y.length:=by have:=HLL.out;omega
   obtain ⟨bx,ox,rfl,-,hx⟩:=HA.out.at hkn;obtain ⟨bY,oY,rfl,-,hy⟩:=HB.out.at hky;have x0:=hx k hkn;have y0:=hy k hky;have ex:x.getD k 0 = x[k]:=by rw [List.getD_eq_getElem?_getD,List.getElem?_eq_getElem hkn];rfl
   have ey:y.getD k 0 = y[k]:=by rw [List.getD_eq_getElem?_getD,List.getElem?_eq_getElem hky];rfl
   rw [<- ex] at x0;rw [<- ey] at y0;have HR:=Lib.hid (HAT.out k hkn HEQ.out)
   have HNX:Hid (x.getD k 0 = y.getD k 0 -> ∀ i,i < k + 1 -> x.getD i 0 = y.getD i 0):=Lib.hid fun h i hi=>by
    by_cases e:i = k
    ·rw [e];exact h
    ·exact HEQ.out i (by omega)
   have i1:(0:Int) <= (k:Int) /\ (k:Int) < (x.length:Int):=by omega
   clear hx hy ex ey;generalize x.getD k 0 = u at *;generalize y.getD k 0 = v at *;obtain ⟨q,hq⟩:∃ q,Lib.compareInt u v = q:=⟨_,rfl⟩;have HQ:Hid (q = 0 ↔ u = v):=Lib.hid (by rw [<- hq];exact compareInt_zero);have HC:=Lib.hid (cmp67_any u v wr);rw [hq] at HC HR;clear hq;(repeat (first | go_big_skip | go_big_want | go_big_move | go_big_op | go_step | go_upon | go_back));go_at_call 67;refine HC.out.mono ?_;rintro e w5 ⟨rfl,rfl⟩;dsimp only;by_cases huv:u = v
   ·have hq0:=HQ.out.2 huv;subst hq0;have HN2:=Lib.hid (HNX.out huv);clear huv HNX;(repeat (first | go_big_skip | go_big_want | go_big_move | go_big_op | go_step | go_upon | go_back));exact ⟨⟨k + 1,by go_num,by omega,by trivial,HN2.out⟩,by simp [intOf];omega⟩
   ·have hqn:(q != 0) = true:=by
     simp only [bne_iff_ne,ne_eq];exact fun e=>huv (HQ.out.1 e)
    have hrr:=HR.out huv;have HRR:=Lib.hid hrr;clear huv HNX hrr;(repeat (first | go_big_skip | go_big_want | go_big_move | go_big_op | go_step | go_upon | go_back));go_ret;exact ⟨by rw [HRR.out];rfl,rfl⟩
  ·have hdec:decide (k < x.length) = false:=decide_eq_false hkn;have hr0:=HSM.out (fun i hi=>HEQ.out i (by omega));have HR0:=Lib.hid hr0;clear hr0;(repeat (first | go_big_skip | go_big_want | go_big_move | go_big_op | go_step | go_upon | go_back));go_ret;exact ⟨by rw [HR0.out];rfl,rfl⟩
end Go.Proofs
end
