/- Own texts, merged: Rck Req0. -/
import Derived.Test.YtobpdobneocckaaGreatDoorP16
section
/- Walks: the reference's Check. -/
namespace Go.Proofs
open Go.RowKit
attribute [local go_sem] Oper.semAt_some
theorem check_of_cnt {T:Treaty} (h:cntBad T = true):checkE T = 3:=by unfold checkE;rw [if_pos h]
def Pass1 (T:Treaty):Prop:=cntBad T = false
def Pass2 (T:Treaty):Prop:=Pass1 T /\ T.words.all (fun l=>fromB l.length 1 4) = true
def Pass3 (T:Treaty):Prop:=Pass2 T /\ waysErr T.places T.ways = 0
def Pass4 (T:Treaty):Prop:=Pass3 T /\ T.words.all (fun l=>l.all fun m=>m.kinds.all fun x=>fromB x 0 7) = true
def Pass5 (T:Treaty):Prop:=Pass4 T /\ T.words.all (fun l=>l.all fun m=>m.ends.all fun x=>fromB x 0 (T.places - 1)) = true
def Pass6 (T:Treaty):Prop:=Pass5 T /\ T.starts.all (fun x=>fromB x 0 (T.places - 1)) = true
def Pass7 (T:Treaty):Prop:=Pass6 T /\ T.legs.all (legOk T.words.length) = true
def Pass8 (T:Treaty):Prop:=Pass7 T /\ (T.words.all (fun l=>l.all fun m=>risesB m.kinds && risesB m.ends) && risesB T.starts) = true
theorem Pass1.bad {T:Treaty} (h:Pass1 T) (hb:T.words.all (fun l=>fromB l.length 1 4) = false):checkE T = 3:=by
 unfold Pass1 at h;unfold checkE;rw [h,if_neg (by decide),if_pos hb]
theorem Pass2.bad {T:Treaty} (h:Pass2 T) (hb:waysErr T.places T.ways ≠ 0):checkE T = waysErr T.places T.ways:=by
 obtain ⟨h1,h2⟩:=h;unfold Pass1 at h1;unfold checkE;rw [h1,if_neg (by decide),h2,if_neg (by decide),if_pos hb]
theorem Pass3.bad {T:Treaty} (h:Pass3 T) (hb:T.words.all (fun l=>l.all fun m=>m.kinds.all fun x=>fromB x 0 7) = false):checkE T = 4:=by
 obtain ⟨⟨h1,h2⟩,h3⟩:=h;unfold Pass1 at h1;unfold checkE;rw [h1,if_neg (by decide),h2,if_neg (by decide),h3,if_neg (by decide),if_pos hb]
theorem Pass4.bad {T:Treaty} (h:Pass4 T) (hb:T.words.all (fun l=>l.all fun m=>m.ends.all fun x=>fromB x 0 (T.places - 1)) = false):checkE T = 2:=by
 obtain ⟨⟨⟨h1,h2⟩,h3⟩,h4⟩:=h;unfold Pass1 at h1;unfold checkE;rw [h1,if_neg (by decide),h2,if_neg (by decide),h3,if_neg (by decide),h4,if_neg (by decide),if_pos hb]
theorem Pass5.bad {T:Treaty} (h:Pass5 T) (hb:T.starts.all (fun x=>fromB x 0 (T.places - 1)) = false):checkE T = 2:=by
 obtain ⟨⟨⟨⟨h1,h2⟩,h3⟩,h4⟩,h5⟩:=h;unfold Pass1 at h1;unfold checkE;rw [h1,if_neg (by decide),h2,if_neg (by decide),h3,if_neg (by decide),h4,if_neg (by decide),h5,if_neg (by decide),if_pos hb]
theorem Pass6.bad {T:Treaty} (h:Pass6 T) (hb:T.legs.all (legOk T.words.length) = false):checkE T = 2:=by
 obtain ⟨⟨⟨⟨⟨h1,h2⟩,h3⟩,h4⟩,h5⟩,h6⟩:=h;unfold Pass1 at h1;unfold checkE;rw [h1,if_neg (by decide),h2,if_neg (by decide),h3,if_neg (by decide),h4,if_neg (by decide),h5,if_neg (by decide),h6,if_neg (by decide),if_pos hb]
theorem Pass7.bad {T:Treaty} (h:Pass7 T) (hb:(T.words.all (fun l=>l.all fun m=>risesB m.kinds && risesB m.ends) && risesB T.starts) = false):checkE T = 5:=by
 obtain ⟨⟨⟨⟨⟨⟨h1,h2⟩,h3⟩,h4⟩,h5⟩,h6⟩,h7⟩:=h;unfold Pass1 at h1;unfold checkE;rw [h1,if_neg (by decide),h2,if_neg (by decide),h3,if_neg (by decide),h4,if_neg (by decide),h5,if_neg (by decide),h6,if_neg (by decide),h7,if_neg (by decide),if_pos hb]
theorem Pass8.last {T:Treaty} (h:Pass8 T):checkE T = if 256 < prodLen T.words then 11 else 0:=by
 obtain ⟨⟨⟨⟨⟨⟨⟨h1,h2⟩,h3⟩,h4⟩,h5⟩,h6⟩,h7⟩,h8⟩:=h;unfold Pass1 at h1;unfold checkE;rw [h1,if_neg (by decide),h2,if_neg (by decide),h3,if_neg (by decide),h4,if_neg (by decide),h5,if_neg (by decide),h6,if_neg (by decide),h7,if_neg (by decide),h8,if_neg (by decide)]
theorem legOk_eq {n:Nat} (xw xo:Int):legOk n ⟨xw,xo⟩ = (fromB xw 0 ((n:Int) - 1) && fromB xo (-1) ((n:Int) - 1)):=by
 unfold legOk;show (fromB xw 0 ((n:Int) - 1) && (decide (xo = -1) || fromB xo 0 ((n:Int) - 1))) = _
 congr 1
 rw [Bool.eq_iff_iff,Bool.or_eq_true,decide_eq_true_iff,fromB_iff,fromB_iff];omega
theorem word_cell {w:World} {a2:Option Addr} {ws:List (List Mean)} (h:RowsP w a2 1 WordR ws) {n:Nat} (hn:n < ws.length) :
  ∃ b2 o2 Am cm,a2 = some ⟨b2,o2,none⟩ /\ w.cell? ⟨b2,o2 + n,none⟩ = some (.slice Am ws[n].length cm) /\ RowsP w Am 2 MeanR ws[n]:=by
 obtain ⟨b2,o2,e,hb,hc⟩:=h.at hn;obtain ⟨vs,_,⟨Am,cm,rfl,hms⟩,hv⟩:=hc n hn;refine ⟨b2,o2,Am,cm,e,?_,hms⟩;have:=hv 0 (by simp);simpa using this
set_option maxRecDepth 100000 in
set_option maxHeartbeats 8000000 in
theorem checkRef_any (w:World) (T:Treaty) (a1 a2 a3 a4:Option Addr) (c1 c2 c3 c4:Nat) (hT:TRep w T a1 a2 a3 a4) :
  Calls Tryz.prog 53 #[.agg #[.int .i64 T.places,.slice a1 T.ways.length c1,.slice a2 T.words.length c2,.slice a3 T.starts.length c3,.slice a4 T.legs.length c4]] w fun e w'=>e = .returned (.int .i64 (checkE T)) /\ Aft w w':=by
 have hl1:=hT.ways.len (by decide);have hl2:=hT.words.len (by decide);have hl3:=hT.starts.len;have hl4:=hT.legs.len (by decide);have HT:=Lib.hid hT;clear hT;go_enter Tryz.func53,Tryz.ntmps53;go_upto_region 1 with fail
 have hb:=Blk.new w 35 #[.int .i64 T.places,.slice a1 T.ways.length c1,.slice a2 T.words.length c2,.slice a3 T.starts.length c3,.slice a4 T.legs.length c4];have ha:=Aft.alloc w (.cells #[.int .i64 T.places,.slice a1 T.ways.length c1,.slice a2 T.words.length c2,.slice a3 T.starts.length c3,.slice a4 T.legs.length c4] 35);generalize w.alloc (.cells #[.int .i64 T.places,.slice a1 T.ways.length c1,.slice a2 T.words.length c2,.slice a3 T.starts.length c3,.slice a4 T.legs.length c4] 35) = X at *;have HB:=Lib.hid hb;have HA:=Lib.hid ha;have k0:X.cell? ⟨w.heap.size,0,none⟩ = some (.int .i64 T.places):=hb.cell 0;have k1:X.cell? ⟨w.heap.size,1,none⟩ = some (.slice a1 T.ways.length c1):=hb.cell 1;have k2:X.cell? ⟨w.heap.size,2,none⟩ = some (.slice a2 T.words.length c2):=hb.cell 2;have k3:X.cell? ⟨w.heap.size,3,none⟩ = some (.slice a3 T.starts.length c3):=hb.cell 3;have k4:X.cell? ⟨w.heap.size,4,none⟩ = some (.slice a4 T.legs.length c4):=hb.cell 4;clear hb ha;by_cases hcb:cntBad T = true
 ·have HE:=Lib.hid (check_of_cnt hcb);unfold cntBad at hcb
  have hor:T.places < 1 \/ (12:Int) < T.places \/ (40:Int) < (T.ways.length:Int) \/ (6:Int) < (T.words.length:Int) \/ (T.starts.length:Int) < 1 \/ T.places < (T.starts.length:Int) \/ (10:Int) < (T.legs.length:Int):=by
   simp only [Bool.or_eq_true,Bool.not_eq_true',fromB_not,decide_eq_true_eq] at hcb;omega
  clear hcb;have fin:∀ {a:Act},True:=fun {_}=>trivial
  clear fin;by_cases b1:T.places < 1
  ·have d1:decide (T.places < 1) = true:=decide_eq_true b1;clear hor b1;(repeat (first | go_big_skip | go_big_want | go_big_move | go_big_op | go_step | go_upon | go_back));go_ret;exact ⟨ret_int HE.out.symm,HA.out⟩
  have d1:decide (T.places < 1) = false:=decide_eq_false b1;by_cases b2:(12:Int) < T.places
  ·have d2:decide ((12:Int) < T.places) = true:=decide_eq_true b2;clear hor b1 b2;(repeat (first | go_big_skip | go_big_want | go_big_move | go_big_op | go_step | go_upon | go_back));go_ret;exact ⟨ret_int HE.out.symm,HA.out⟩
  have d2:decide ((12:Int) < T.places) = false:=decide_eq_false b2;by_cases b3:(40:Int) < (T.ways.length:Int)
  ·have d3:decide ((40:Int) < (T.ways.length:Int)) = true:=decide_eq_true b3;clear hor b1 b2 b3;(repeat (first | go_big_skip | go_big_want | go_big_move | go_big_op | go_step | go_upon | go_back));go_ret;exact ⟨ret_int HE.out.symm,HA.out⟩
  have d3:decide ((40:Int) < (T.ways.length:Int)) = false:=decide_eq_false b3;by_cases b4:(6:Int) < (T.words.length:Int)
  ·have d4:decide ((6:Int) < (T.words.length:Int)) = true:=decide_eq_true b4;clear hor b1 b2 b3 b4;(repeat (first | go_big_skip | go_big_want | go_big_move | go_big_op | go_step | go_upon | go_back));go_ret;exact ⟨ret_int HE.out.symm,HA.out⟩
  have d4:decide ((6:Int) < (T.words.length:Int)) = false:=decide_eq_false b4;by_cases b5:(T.starts.length:Int) < 1
  ·have d5:decide ((T.starts.length:Int) < 1) = true:=decide_eq_true b5;have d5':decide (T.starts.length < 1) = true:=decide_eq_true (by omega);clear hor b1 b2 b3 b4 b5;(repeat (first | go_big_skip | go_big_want | go_big_move | go_big_op | go_step | go_upon | go_back));go_ret;exact ⟨ret_int HE.out.symm,HA.out⟩
  have d5:decide ((T.starts.length:Int) < 1) = false:=decide_eq_false b5;have d5':decide (T.starts.length < 1) = false:=decide_eq_false (by omega);by_cases b6:T.places < (T.starts.length:Int)
  ·have d6:decide (T.places < (T.starts.length:Int)) = true:=decide_eq_true b6;clear hor b1 b2 b3 b4 b5 b6;(repeat (first | go_big_skip | go_big_want | go_big_move | go_big_op | go_step | go_upon | go_back));go_ret;exact ⟨ret_int HE.out.symm,HA.out⟩
  have d6:decide (T.places < (T.starts.length:Int)) = false:=decide_eq_false b6;have b7:(10:Int) < (T.legs.length:Int):=by omega
  have d7:decide ((10:Int) < (T.legs.length:Int)) = true:=decide_eq_true b7;clear hor b1 b2 b3 b4 b5 b6 b7;(repeat (first | go_big_skip | go_big_want | go_big_move | go_big_op | go_step | go_upon | go_back));go_ret;exact ⟨ret_int HE.out.symm,HA.out⟩
 ·have hP1:Pass1 T:=by unfold Pass1;simpa using hcb
  have HP1:=Lib.hid hP1
  have hall:1 <= T.places /\ T.places <= 12 /\ T.ways.length <= 40 /\ T.words.length <= 6 /\ 1 <= T.starts.length /\ (T.starts.length:Int) <= T.places /\ T.legs.length <= 10:=by
   unfold Pass1 cntBad at hP1;simp only [Bool.or_eq_false_iff,Bool.not_eq_false',fromB_iff,decide_eq_false_iff_not] at hP1;omega
  obtain ⟨hp1,hp2,hn1,hn2,hn3,hn4,hn5⟩:=hall;have d1:decide (T.places < 1) = false:=decide_eq_false (by omega);have d2:decide ((12:Int) < T.places) = false:=decide_eq_false (by omega);have d3:decide ((40:Int) < (T.ways.length:Int)) = false:=decide_eq_false (by omega);have d4:decide ((6:Int) < (T.words.length:Int)) = false:=decide_eq_false (by omega);have d5:decide ((T.starts.length:Int) < 1) = false:=decide_eq_false (by omega);have d5':decide (T.starts.length < 1) = false:=decide_eq_false (by omega);have d6:decide (T.places < (T.starts.length:Int)) = false:=decide_eq_false (by omega);have d7:decide ((10:Int) < (T.legs.length:Int)) = false:=decide_eq_false (by omega);clear hcb hP1;(repeat (first | go_big_skip | go_big_want | go_big_move | go_big_op | go_step | go_upon | go_back));clear d1 d2 d3 d4 d5 d5' d6 d7;have HX0:Hid (Aft X X):=Lib.hid (Aft.refl _);clear k0 k1 k2 k3 k4;have k2:X.cell? ⟨w.heap.size,2,none⟩ = some (.slice a2 T.words.length c2):=HB.out.cell 2;(repeat (first | go_big_skip | go_big_want | go_big_move | go_big_op | go_step | go_upon | go_back));clear k2;go_loopw [3] (fun i wr=>∃ k:Nat,i = .int .i64 k /\ k <= T.words.length /\ ((T.words.take k).all fun l=>fromB l.length 1 4) = true /\ Aft X wr) (fun i _=>T.words.length - (intOf i).toNat)
  case atStart=>exact ⟨0,rfl,by omega,rfl,HX0.out⟩
  case round =>
   obtain ⟨k,rfl,hk,hall,haX⟩:=hrel;have HAX:=Lib.hid haX;have HALL:=Lib.hid hall;clear hall HX0;have hBw:=HB.out.aft haX;have k2:wr.cell? ⟨w.heap.size,2,none⟩ = some (.slice a2 T.words.length c2):=hBw.cell 2;clear hBw;clear haX;by_cases hkn:k < T.words.length
   ·have hdec:decide (k < T.words.length) = true:=decide_eq_true hkn;obtain ⟨b2,o2,Am,cm,rfl,cW,hms⟩:=word_cell (HT.out.aft (HA.out.trans HAX.out)).words hkn;have hmlen:=hms.len (by decide);have HMEM:=Lib.hid (List.getElem_mem hkn);have HTK:=Lib.hid (all_take_succ T.words (fun l=>fromB l.length 1 4) k hkn);have i1:(0:Int) <= (k:Int) /\ (k:Int) < (T.words.length:Int):=by omega
    clear hms;by_cases hb1:T.words[k].length < 1
    ·have hbad:=HP1.out.bad (List.all_eq_false.2 ⟨_,HMEM.out,by rw [Bool.not_eq_true,fromB_not];omega⟩);have HBAD:=Lib.hid hbad;have e1:decide (T.words[k].length < 1) = true:=decide_eq_true hb1;have e1':decide ((T.words[k].length:Int) < 1) = true:=decide_eq_true (by omega);clear hbad hb1;generalize T.words[k].length = ln at *;(repeat (first | go_big_skip | go_big_want | go_big_move | go_big_op | go_step | go_upon | go_back));go_ret;exact ⟨ret_int (by exact HBAD.out.symm),HA.out.trans HAX.out⟩
    have e1:decide (T.words[k].length < 1) = false:=decide_eq_false hb1;have e1':decide ((T.words[k].length:Int) < 1) = false:=decide_eq_false (by omega);by_cases hb2:4 < T.words[k].length
    ·have hbad:=HP1.out.bad (List.all_eq_false.2 ⟨_,HMEM.out,by rw [Bool.not_eq_true,fromB_not];omega⟩);have HBAD:=Lib.hid hbad;have e2:decide ((4:Int) < (T.words[k].length:Int)) = true:=decide_eq_true (by omega);have e2':decide (4 < T.words[k].length) = true:=decide_eq_true (by omega);clear hbad hb2 hb1;generalize T.words[k].length = ln at *;(repeat (first | go_big_skip | go_big_want | go_big_move | go_big_op | go_step | go_upon | go_back));go_ret;exact ⟨ret_int (by exact HBAD.out.symm),HA.out.trans HAX.out⟩
    have hgood:fromB (T.words[k].length:Int) 1 4 = true:=fromB_iff.2 (by omega);have HGD:Hid (((T.words.take (k + 1)).all fun l=>fromB l.length 1 4) = true):=Lib.hid (by rw [HTK.out,HALL.out,hgood];rfl);have e2:decide ((4:Int) < (T.words[k].length:Int)) = false:=decide_eq_false (by omega);have e2':decide (4 < T.words[k].length) = false:=decide_eq_false (by omega);clear hgood hb1 hb2 HMEM HTK;generalize T.words[k].length = ln at *;(repeat (first | go_big_skip | go_big_want | go_big_move | go_big_op | go_step | go_upon | go_back));exact ⟨⟨k + 1,by go_num,by omega,HGD.out,HAX.out⟩,by simp [intOf] <;> omega⟩
   ·have hdec:decide (k < T.words.length) = false:=decide_eq_false hkn;have hP2:Pass2 T:=⟨HP1.out,by have:=HALL.out;rwa [List.take_of_length_le (by omega)] at this⟩;have HP2:=Lib.hid hP2
    have HWL:Hid (∀ l ∈ T.words,1 <= l.length /\ l.length <= 4):=Lib.hid fun l hl=>by
     have:=fromB_iff.1 (List.all_eq_true.1 hP2.2 l hl);omega
    have HX1:=HAX;clear hP2 HALL;(repeat (first | go_big_skip | go_big_want | go_big_move | go_big_op | go_step | go_upon | go_back));clear k2 HAX;go_loopw [4] (fun i wr=>∃ k:Nat,i = .int .i64 k /\ k <= T.ways.length /\ (∀ x ∈ T.ways.take k,wayErr T.places x = 0) /\ Aft X wr) (fun i _=>T.ways.length - (intOf i).toNat)
    case atStart=>exact ⟨0,rfl,by omega,by simp,HX1.out⟩
    case round =>
     rename World=>wB
     obtain ⟨k,rfl,hk,hall,haX⟩:=hrel;have HAX:=Lib.hid haX;have HALL:=Lib.hid hall;clear hall HX1;have hBw:=HB.out.aft haX;have k1:wB.cell? ⟨w.heap.size,1,none⟩ = some (.slice a1 T.ways.length c1):=hBw.cell 1;clear hBw;clear haX;by_cases hkn:k < T.ways.length
     ·have hdec:decide (k < T.ways.length) = true:=decide_eq_true hkn;obtain ⟨b1,o1,rfl,cA,cB,cK⟩:=way_cells (HT.out.aft (HA.out.trans HAX.out)).ways hkn
      have hat:wayErr T.places T.ways[k] ≠ 0 -> checkE T = wayErr T.places T.ways[k]:=fun h=>by
       have e:=waysErr_at T.places T.ways k hkn HALL.out h;rw [<- e];exact HP2.out.bad (by rw [e];exact h)
      have hnx:wayErr T.places T.ways[k] = 0 -> ∀ x ∈ T.ways.take (k + 1),wayErr T.places x = 0:=fun h x hx=>by
       rw [List.take_succ_eq_append_getElem hkn,List.mem_append,List.mem_singleton] at hx;exact hx.elim (HALL.out x) fun e=>by rw [e];exact h
      have i1:(0:Int) <= (k:Int) /\ (k:Int) < (T.ways.length:Int):=by omega
      have HAT:=Lib.hid hat;have HNX:=Lib.hid hnx;clear hat hnx;generalize T.ways[k] = x at *;obtain ⟨xa,xb,xk⟩:=x;dsimp only at cA cB cK;go_upto_region 12 with fail
      have h8:=Blk.new wB 86 #[.int .i64 xa,.int .i64 xb,.int .i64 xk];have ha8:=Aft.alloc wB (.cells #[.int .i64 xa,.int .i64 xb,.int .i64 xk] 86);clear k1 cA cB cK;generalize wB.alloc (.cells #[.int .i64 xa,.int .i64 xb,.int .i64 xk] 86) = y at *;have HAY:=Lib.hid (HAX.out.trans ha8);have z0:y.cell? ⟨wB.heap.size,0,none⟩ = some (.int .i64 xa):=h8.cell 0;have z1:y.cell? ⟨wB.heap.size,1,none⟩ = some (.int .i64 xb):=h8.cell 1;have z2:y.cell? ⟨wB.heap.size,2,none⟩ = some (.int .i64 xk):=h8.cell 2;have hBw:=HB.out.aft HAY.out;have k0:y.cell? ⟨w.heap.size,0,none⟩ = some (.int .i64 T.places):=hBw.cell 0;clear hBw;clear h8 ha8;(repeat (first | go_big_skip | go_big_want | go_big_move | go_big_op | go_step | go_upon | go_back));go_at_call 112;refine (beside_any _ _ _ _).mono ?_;rintro e w' ⟨rfl,rfl⟩;dsimp only
      cases h1:fromB xa 0 (T.places - 1) with
      | false =>
       have HR:Hid (checkE T = 2):=Lib.hid (by
        have e:wayErr T.places ⟨xa,xb,xk⟩ = 2:=by unfold wayErr;rw [h1];rfl
        rw [<- e];exact HAT.out (by rw [e];decide))
       clear h1;(try simp only [Bool.not_false,Bool.not_true]);(repeat (first | go_big_skip | go_big_want | go_big_move | go_big_op | go_step | go_upon | go_back));go_ret;exact ⟨ret_int (by exact HR.out.symm),HA.out.trans HAY.out⟩
      | true =>
       have H1:=Lib.hid h1;clear h1;(try simp only [Bool.not_false,Bool.not_true]);(repeat (first | go_big_skip | go_big_want | go_big_move | go_big_op | go_step | go_upon | go_back));go_at_call 112;refine (beside_any _ _ _ _).mono ?_;rintro e w' ⟨rfl,rfl⟩;dsimp only
       cases h2:fromB xb 0 (T.places - 1) with
       | false =>
        have HR:Hid (checkE T = 2):=Lib.hid (by
         have e:wayErr T.places ⟨xa,xb,xk⟩ = 2:=by unfold wayErr;rw [H1.out,h2];rfl
         rw [<- e];exact HAT.out (by rw [e];decide))
        clear h2;(try simp only [Bool.not_false,Bool.not_true]);(repeat (first | go_big_skip | go_big_want | go_big_move | go_big_op | go_step | go_upon | go_back));go_ret;exact ⟨ret_int (by exact HR.out.symm),HA.out.trans HAY.out⟩
       | true =>
        have H2:=Lib.hid h2;clear h2;(try simp only [Bool.not_false,Bool.not_true]);by_cases h3:xa = xb
        ·have HR:Hid (checkE T = 2):=Lib.hid (by
         have e:wayErr T.places ⟨xa,xb,xk⟩ = 2:=by unfold wayErr;rw [H1.out,H2.out,decide_eq_true h3];rfl
         rw [<- e];exact HAT.out (by rw [e];decide))
         have hq:(xa == xb) = true:=by rw [h3];exact beq_self_eq_true _
         clear h3;(repeat (first | go_big_skip | go_big_want | go_big_move | go_big_op | go_step | go_upon | go_back));go_ret;exact ⟨ret_int (by exact HR.out.symm),HA.out.trans HAY.out⟩
        ·have hq:(xa == xb) = false:=by rw [beq_eq_false_iff_ne];exact h3
         have H3:=Lib.hid h3;clear h3;(repeat (first | go_big_skip | go_big_want | go_big_move | go_big_op | go_step | go_upon | go_back));go_at_call 112;refine (beside_any _ _ _ _).mono ?_;rintro e w' ⟨rfl,rfl⟩;dsimp only
         cases h4:fromB xk 0 7 with
         | false =>
          have HR:Hid (checkE T = 4):=Lib.hid (by
           have e:wayErr T.places ⟨xa,xb,xk⟩ = 4:=by unfold wayErr;rw [H1.out,H2.out,decide_eq_false H3.out,h4];rfl
           rw [<- e];exact HAT.out (by rw [e];decide))
          clear h4;(try simp only [Bool.not_false,Bool.not_true]);(repeat (first | go_big_skip | go_big_want | go_big_move | go_big_op | go_step | go_upon | go_back));go_ret;exact ⟨ret_int (by exact HR.out.symm),HA.out.trans HAY.out⟩
         | true =>
          have HR:Hid (∀ x ∈ T.ways.take (k + 1),wayErr T.places x = 0):=Lib.hid (HNX.out (by unfold wayErr;rw [H1.out,H2.out,decide_eq_false H3.out,h4];rfl));clear h4;(try simp only [Bool.not_false,Bool.not_true]);(repeat (first | go_big_skip | go_big_want | go_big_move | go_big_op | go_step | go_upon | go_back));exact ⟨⟨k + 1,by go_num,by omega,HR.out,HAY.out⟩,by simp [intOf] <;> omega⟩
     ·have hdec:decide (k < T.ways.length) = false:=decide_eq_false hkn;have hP3:Pass3 T:=⟨HP2.out,(waysErr_zero _ _).2 (by have:=HALL.out;rwa [List.take_of_length_le (by omega)] at this)⟩;have HP3:=Lib.hid hP3;have HX2:=HAX;clear hP3 HALL;(repeat (first | go_big_skip | go_big_want | go_big_move | go_big_op | go_step | go_upon | go_back));clear k1 HAX;go_loopw [6] (fun i wr=>∃ k:Nat,i = .int .i64 k /\ k <= T.words.length /\ ((T.words.take k).all fun l=>l.all fun m=>m.kinds.all fun x=>fromB x 0 7) = true /\ Aft X wr) (fun i _=>T.words.length - (intOf i).toNat)
      case atStart=>exact ⟨0,rfl,by omega,rfl,HX2.out⟩
      case round =>
       rename World=>wC
       obtain ⟨k,rfl,hk,hall,haX⟩:=hrel;have HAX:=Lib.hid haX;have HALL:=Lib.hid hall;clear hall HX2;have hBw:=HB.out.aft haX;have k2:wC.cell? ⟨w.heap.size,2,none⟩ = some (.slice a2 T.words.length c2):=hBw.cell 2;clear hBw;clear haX;by_cases hkn:k < T.words.length
       ·have hdec:decide (k < T.words.length) = true:=decide_eq_true hkn;have HTK:=Lib.hid (all_take_succ T.words (fun l=>l.all fun m=>m.kinds.all fun x=>fromB x 0 7) k hkn);have HMEM:=Lib.hid (List.getElem_mem hkn);have hwk4:=(HWL.out _ (List.getElem_mem hkn)).2;have HX9:=HAX;(repeat (first | go_big_skip | go_big_want | go_big_move | go_big_op | go_step | go_upon | go_back));clear k2;go_loopw [7] (fun i2 w2=>∃ m:Nat,i2 = .int .i64 m /\ m <= T.words[k].length /\ ((T.words[k].take m).all fun m=>m.kinds.all fun x=>fromB x 0 7) = true /\ Aft X w2) (fun i2 _=>T.words[k].length - (intOf i2).toNat)
        case atStart=>exact ⟨0,rfl,by omega,rfl,HX9.out⟩
        case round =>
         rename World=>wD
         obtain ⟨m,rfl,hm,hall2,haD⟩:=hrel;have HAD:=Lib.hid haD;have HALL2:=Lib.hid hall2;clear hall2;have hBw:=HB.out.aft haD;have k0:wD.cell? ⟨w.heap.size,0,none⟩ = some (.int .i64 T.places):=hBw.cell 0;have k2:wD.cell? ⟨w.heap.size,2,none⟩ = some (.slice a2 T.words.length c2):=hBw.cell 2;clear hBw;clear haD;obtain ⟨b2,o2,Am,cm,e2,cW,hms⟩:=word_cell (HT.out.aft (HA.out.trans HAD.out)).words hkn;have i1:(0:Int) <= (k:Int) /\ (k:Int) < (T.words.length:Int):=by omega
         by_cases hml:m < T.words[k].length
         ·have hdm:decide (m < T.words[k].length) = true:=decide_eq_true hml;obtain ⟨b2',o2',bm,om,cm',Ak,ck,Ae,ce,e3,cW',cK,cE,hik,hie⟩:=mean_cells (HT.out.aft (HA.out.trans HAD.out)).words hkn hml;cases e3;cases e2;rw [cW'] at cW;cases cW;have HTM:=Lib.hid (all_take_succ T.words[k] (fun m=>m.kinds.all fun x=>fromB x 0 7) m hml);have HMM:=Lib.hid (List.getElem_mem hml);have i2:(0:Int) <= (m:Int) /\ (m:Int) < (T.words[k].length:Int):=by omega
          have HIK:=Lib.hid hik;clear hms hik hie cE;generalize hmm:T.words[k][m].kinds = ls at *;have HLS:=Lib.hid hmm;clear hmm;(repeat (first | go_big_skip | go_big_want | go_big_move | go_big_op | go_step | go_upon | go_back));go_at_call 113;refine (anyBeside_any _ _ _ _ _ _ HIK.out).mono ?_;rintro e w' ⟨rfl,rfl⟩;dsimp only
          cases hv:ls.all fun x=>fromB x 0 7 with
          | false =>
           have hbad:=HP3.out.bad (List.all_eq_false.2 ⟨_,HMEM.out,by rw [Bool.not_eq_true];exact List.all_eq_false.2 ⟨_,HMM.out,by rw [HLS.out,hv];decide⟩⟩);have HBAD:=Lib.hid hbad;clear hbad hv;(try simp only [Bool.not_false,Bool.not_true]);(repeat (first | go_big_skip | go_big_want | go_big_move | go_big_op | go_step | go_upon | go_back));go_ret;exact ⟨ret_int (by exact HBAD.out.symm),HA.out.trans HAD.out⟩
          | true =>
           have HGD:Hid (((T.words[k].take (m + 1)).all fun m=>m.kinds.all fun x=>fromB x 0 7) = true):=Lib.hid (by rw [HTM.out,HALL2.out,hv];rfl);clear hv;(try simp only [Bool.not_false,Bool.not_true]);(repeat (first | go_big_skip | go_big_want | go_big_move | go_big_op | go_step | go_upon | go_back));exact ⟨⟨m + 1,by go_num,by omega,HGD.out,HAD.out⟩,by simp [intOf] <;> omega⟩
         ·have hdm:decide (m < T.words[k].length) = false:=decide_eq_false hml;have HGD:Hid (((T.words.take (k + 1)).all fun l=>l.all fun m=>m.kinds.all fun x=>fromB x 0 7) = true):=Lib.hid (by rw [HTK.out,HALL.out];have:=HALL2.out;rw [List.take_of_length_le (by omega)] at this;rw [this];rfl);subst e2;(repeat (first | go_big_skip | go_big_want | go_big_move | go_big_op | go_step | go_upon | go_back));exact ⟨⟨k + 1,by go_num,by omega,HGD.out,HAD.out⟩,by simp [intOf] <;> omega⟩
       ·have hdec:decide (k < T.words.length) = false:=decide_eq_false hkn;have hP:Pass4 T:=⟨HP3.out,by have:=HALL.out;rwa [List.take_of_length_le (by omega)] at this⟩;have HPass4:=Lib.hid hP;have HX3:=HAX;clear hP HALL;(repeat (first | go_big_skip | go_big_want | go_big_move | go_big_op | go_step | go_upon | go_back));clear k2 HAX;go_loopw [8] (fun i wr=>∃ k:Nat,i = .int .i64 k /\ k <= T.words.length /\ ((T.words.take k).all fun l=>l.all fun m=>m.ends.all fun x=>fromB x 0 (T.places - 1)) = true /\ Aft X wr) (fun i _=>T.words.length - (intOf i).toNat)
        case atStart=>exact ⟨0,rfl,by omega,rfl,HX3.out⟩
        case round =>
         rename World=>wC
         obtain ⟨k,rfl,hk,hall,haX⟩:=hrel;have HAX:=Lib.hid haX;have HALL:=Lib.hid hall;clear hall HX3;have hBw:=HB.out.aft haX;have k2:wC.cell? ⟨w.heap.size,2,none⟩ = some (.slice a2 T.words.length c2):=hBw.cell 2;clear hBw;clear haX;by_cases hkn:k < T.words.length
         ·have hdec:decide (k < T.words.length) = true:=decide_eq_true hkn;have HTK:=Lib.hid (all_take_succ T.words (fun l=>l.all fun m=>m.ends.all fun x=>fromB x 0 (T.places - 1)) k hkn);have HMEM:=Lib.hid (List.getElem_mem hkn);have hwk4:=(HWL.out _ (List.getElem_mem hkn)).2;have HX9:=HAX;(repeat (first | go_big_skip | go_big_want | go_big_move | go_big_op | go_step | go_upon | go_back));clear k2;go_loopw [9] (fun i2 w2=>∃ m:Nat,i2 = .int .i64 m /\ m <= T.words[k].length /\ ((T.words[k].take m).all fun m=>m.ends.all fun x=>fromB x 0 (T.places - 1)) = true /\ Aft X w2) (fun i2 _=>T.words[k].length - (intOf i2).toNat)
          case atStart=>exact ⟨0,rfl,by omega,rfl,HX9.out⟩
          case round =>
           rename World=>wD
           obtain ⟨m,rfl,hm,hall2,haD⟩:=hrel;have HAD:=Lib.hid haD;have HALL2:=Lib.hid hall2;clear hall2;have hBw:=HB.out.aft haD;have k0:wD.cell? ⟨w.heap.size,0,none⟩ = some (.int .i64 T.places):=hBw.cell 0;have k2:wD.cell? ⟨w.heap.size,2,none⟩ = some (.slice a2 T.words.length c2):=hBw.cell 2;clear hBw;clear haD;obtain ⟨b2,o2,Am,cm,e2,cW,hms⟩:=word_cell (HT.out.aft (HA.out.trans HAD.out)).words hkn;have i1:(0:Int) <= (k:Int) /\ (k:Int) < (T.words.length:Int):=by omega
           by_cases hml:m < T.words[k].length
           ·have hdm:decide (m < T.words[k].length) = true:=decide_eq_true hml;obtain ⟨b2',o2',bm,om,cm',Ak,ck,Ae,ce,e3,cW',cK,cE,hik,hie⟩:=mean_cells (HT.out.aft (HA.out.trans HAD.out)).words hkn hml;cases e3;cases e2;rw [cW'] at cW;cases cW;have HTM:=Lib.hid (all_take_succ T.words[k] (fun m=>m.ends.all fun x=>fromB x 0 (T.places - 1)) m hml);have HMM:=Lib.hid (List.getElem_mem hml);have i2:(0:Int) <= (m:Int) /\ (m:Int) < (T.words[k].length:Int):=by omega
            have HIK:=Lib.hid hie;clear hms hik hie cK;generalize hmm:T.words[k][m].ends = ls at *;have HLS:=Lib.hid hmm;clear hmm;(repeat (first | go_big_skip | go_big_want | go_big_move | go_big_op | go_step | go_upon | go_back));have hca:∀ n,Calls Tryz.prog 113 #[.slice Ae ls.length ce,.int .i64 0,.int .i64 (T.places - 1)] (wD.drewN n) fun e w''=>e = .returned (.bool (!ls.all fun x=>fromB x 0 (T.places - 1))) /\ ∃ m,w'' = wD.drewN m:=fun n=>(anyBeside_any Ae ls ce 0 (T.places - 1) (wD.drewN n) (HIK.out.aft (Aft.drewN _ _))).mono fun e w' h=>⟨h.1,n,h.2⟩
            cases hv:ls.all fun x=>fromB x 0 (T.places - 1) with
            | false =>
             rw [hv] at hca;have HCQ:=Lib.hid hca;have hbad:=HPass4.out.bad (List.all_eq_false.2 ⟨_,HMEM.out,by rw [Bool.not_eq_true];exact List.all_eq_false.2 ⟨_,HMM.out,by rw [HLS.out,hv];decide⟩⟩);have HBAD:=Lib.hid hbad;clear hbad hv hca;go_quiet (exact HCQ.out _);(repeat (first | go_big_skip | go_big_want | go_big_move | go_big_op | go_step | go_upon | go_back));go_ret;exact ⟨ret_int (by exact HBAD.out.symm),(HA.out.trans HAD.out).then_drewN _⟩
            | true =>
             rw [hv] at hca;have HCQ:=Lib.hid hca;have HGD:Hid (((T.words[k].take (m + 1)).all fun m=>m.ends.all fun x=>fromB x 0 (T.places - 1)) = true):=Lib.hid (by rw [HTM.out,HALL2.out,hv];rfl);clear hv hca;go_quiet (exact HCQ.out _);(repeat (first | go_big_skip | go_big_want | go_big_move | go_big_op | go_step | go_upon | go_back));exact ⟨⟨m + 1,by go_num,by omega,HGD.out,HAD.out.then_drewN _⟩,by simp [intOf] <;> omega⟩
           ·have hdm:decide (m < T.words[k].length) = false:=decide_eq_false hml;have HGD:Hid (((T.words.take (k + 1)).all fun l=>l.all fun m=>m.ends.all fun x=>fromB x 0 (T.places - 1)) = true):=Lib.hid (by rw [HTK.out,HALL.out];have:=HALL2.out;rw [List.take_of_length_le (by omega)] at this;rw [this];rfl);subst e2;(repeat (first | go_big_skip | go_big_want | go_big_move | go_big_op | go_step | go_upon | go_back));exact ⟨⟨k + 1,by go_num,by omega,HGD.out,HAD.out⟩,by simp [intOf] <;> omega⟩
         ·have hdec:decide (k < T.words.length) = false:=decide_eq_false hkn;have hP:Pass5 T:=⟨HPass4.out,by have:=HALL.out;rwa [List.take_of_length_le (by omega)] at this⟩;have HPass5:=Lib.hid hP;have HX4:=HAX;clear hP HALL;have hBw:=HB.out.aft HAX.out;have k0:wC.cell? ⟨w.heap.size,0,none⟩ = some (.int .i64 T.places):=hBw.cell 0;have k3:wC.cell? ⟨w.heap.size,3,none⟩ = some (.slice a3 T.starts.length c3):=hBw.cell 3;have HIS:=Lib.hid (HT.out.aft (HA.out.trans HAX.out)).starts;clear hBw;(repeat (first | go_big_skip | go_big_want | go_big_move | go_big_op | go_step | go_upon | go_back));clear k2 HAX;go_at_call 113;refine (anyBeside_any _ _ _ _ _ _ HIS.out).mono ?_;rintro e w' ⟨rfl,rfl⟩;dsimp only
          cases hv:T.starts.all fun x=>fromB x 0 (T.places - 1) with
          | false =>
           have HBAD:=Lib.hid (HPass5.out.bad hv);clear hv;(try simp only [Bool.not_false,Bool.not_true]);(repeat (first | go_big_skip | go_big_want | go_big_move | go_big_op | go_step | go_upon | go_back));go_ret;exact ⟨ret_int (by exact HBAD.out.symm),HA.out.trans HX4.out⟩
          | true =>
           have HPass6:=Lib.hid (show Pass6 T from ⟨HPass5.out,hv⟩);clear hv;(try simp only [Bool.not_false,Bool.not_true]);(repeat (first | go_big_skip | go_big_want | go_big_move | go_big_op | go_step | go_upon | go_back));clear k0 k3;go_loopw [10] (fun i wr=>∃ k:Nat,i = .int .i64 k /\ k <= T.legs.length /\ ((T.legs.take k).all (legOk T.words.length)) = true /\ Aft X wr) (fun i _=>T.legs.length - (intOf i).toNat)
           case atStart=>exact ⟨0,rfl,by omega,rfl,HX4.out⟩
           case round =>
            rename World=>wE
            obtain ⟨k,rfl,hk,hall,haX⟩:=hrel;have HAX:=Lib.hid haX;have HALL:=Lib.hid hall;clear hall HX4;have hBw:=HB.out.aft haX;have k2:wE.cell? ⟨w.heap.size,2,none⟩ = some (.slice a2 T.words.length c2):=hBw.cell 2;have k4:wE.cell? ⟨w.heap.size,4,none⟩ = some (.slice a4 T.legs.length c4):=hBw.cell 4;clear hBw;clear haX;by_cases hkn:k < T.legs.length
            ·have hdec:decide (k < T.legs.length) = true:=decide_eq_true hkn;obtain ⟨b4,o4,rfl,hb4,cL0,cL1⟩:=leg_cells (HT.out.aft (HA.out.trans HAX.out)).legs hkn;have HTK:=Lib.hid (all_take_succ T.legs (legOk T.words.length) k hkn);have HMEM:=Lib.hid (List.getElem_mem hkn);have i1:(0:Int) <= (k:Int) /\ (k:Int) < (T.legs.length:Int):=by omega
             generalize T.legs[k] = x at *;obtain ⟨xw,xo⟩:=x;dsimp only at cL0 cL1;have HLO:=Lib.hid (legOk_eq (n:=T.words.length) xw xo);have e1:IntKind.i64.wrap ((T.words.length:Int) - 1) = (T.words.length:Int) - 1:=IntWalk.i64_in _ (by omega);have hc1:∀ n,Calls Tryz.prog 112 #[.int .i64 xw,.int .i64 0,.int .i64 ((T.words.length:Int) - 1)] (wE.drewN n) fun e w''=>e = .returned (.bool (!fromB xw 0 ((T.words.length:Int) - 1))) /\ ∃ m,w'' = wE.drewN m:=fun n=>(beside_any _ _ _ _).mono fun e w' h=>⟨h.1,n,h.2⟩
             have hc2:∀ n,Calls Tryz.prog 112 #[.int .i64 xo,.int .i64 (-1),.int .i64 ((T.words.length:Int) - 1)] (wE.drewN n) fun e w''=>e = .returned (.bool (!fromB xo (-1) ((T.words.length:Int) - 1))) /\ ∃ m,w'' = wE.drewN m:=fun n=>(beside_any _ _ _ _).mono fun e w' h=>⟨h.1,n,h.2⟩
             (repeat (first | go_big_skip | go_big_want | go_big_move | go_big_op | go_step | go_upon | go_back))
             cases h1:fromB xw 0 ((T.words.length:Int) - 1) with
             | false =>
              rw [h1] at hc1 HLO;simp only [Bool.not_false,Bool.not_true] at hc1;have HC1:=Lib.hid hc1;have HBAD:=Lib.hid (HPass6.out.bad (List.all_eq_false.2 ⟨_,HMEM.out,by rw [HLO.out];simp⟩));clear hc1 hc2 h1;go_quiet (exact HC1.out _);(repeat (first | go_big_skip | go_big_want | go_big_move | go_big_op | go_step | go_upon | go_back));go_ret;exact ⟨ret_int (by exact HBAD.out.symm),(HA.out.trans HAX.out).then_drewN _⟩
             | true =>
              rw [h1] at hc1 HLO;simp only [Bool.not_false,Bool.not_true] at hc1;have HC1:=Lib.hid hc1;clear hc1 h1
              cases h2:fromB xo (-1) ((T.words.length:Int) - 1) with
              | false =>
               rw [h2] at hc2 HLO;simp only [Bool.not_false,Bool.not_true] at hc2;have HC2:=Lib.hid hc2;have HBAD:=Lib.hid (HPass6.out.bad (List.all_eq_false.2 ⟨_,HMEM.out,by rw [HLO.out];simp⟩));clear hc2 h2;refine wp_region_quiet_lit (by kernel_rfl) (by kernel_rfl) ?_;repeat (go_big_quiet_step (fail))
               (go_big_quiet_want;go_big_quiet_op;go_big_quiet_call (exact HC1.out _));repeat (go_big_quiet_step (fail))
               (go_big_quiet_want;go_big_quiet_op;go_big_quiet_call (exact HC2.out _));repeat (go_big_quiet_step (fail))
               refine wpQuiet_nil ?_;intro _ hw';obtain ⟨nq,hw2⟩:=hw';subst hw2;(repeat (first | go_big_skip | go_big_want | go_big_move | go_big_op | go_step | go_upon | go_back));go_ret;exact ⟨ret_int (by exact HBAD.out.symm),(HA.out.trans HAX.out).then_drewN _⟩
              | true =>
               rw [h2] at hc2 HLO;simp only [Bool.not_false,Bool.not_true] at hc2;have HC2:=Lib.hid hc2;have HGD:Hid (((T.legs.take (k + 1)).all (legOk T.words.length)) = true):=Lib.hid (by rw [HTK.out,HALL.out,HLO.out];rfl);clear hc2 h2;refine wp_region_quiet_lit (by kernel_rfl) (by kernel_rfl) ?_;repeat (go_big_quiet_step (fail))
               (go_big_quiet_want;go_big_quiet_op;go_big_quiet_call (exact HC1.out _));repeat (go_big_quiet_step (fail))
               (go_big_quiet_want;go_big_quiet_op;go_big_quiet_call (exact HC2.out _));repeat (go_big_quiet_step (fail))
               refine wpQuiet_nil ?_;intro _ hw';obtain ⟨nq,hw2⟩:=hw';subst hw2;(repeat (first | go_big_skip | go_big_want | go_big_move | go_big_op | go_step | go_upon | go_back));exact ⟨⟨k + 1,by go_num,by omega,HGD.out,HAX.out.then_drewN _⟩,by simp [intOf] <;> omega⟩
            ·have hdec:decide (k < T.legs.length) = false:=decide_eq_false hkn;have HPass7:=Lib.hid (show Pass7 T from ⟨HPass6.out,by have:=HALL.out;rwa [List.take_of_length_le (by omega)] at this⟩);have HX5:=HAX;clear HALL;(repeat (first | go_big_skip | go_big_want | go_big_move | go_big_op | go_step | go_upon | go_back));clear k2 k4 HAX;go_loopw [11,12] (fun v i wr=>∃ k:Nat,i = .int .i64 k /\ k <= T.words.length /\ v = .int .i64 (prodLen (T.words.take k)) /\ ((T.words.take k).all fun l=>l.all fun m=>risesB m.kinds && risesB m.ends) = true /\ Aft X wr) (fun _ i _=>T.words.length - (intOf i).toNat)
             case atStart=>exact ⟨0,rfl,by omega,rfl,rfl,HX5.out⟩
             case round =>
              rename World=>wF
              obtain ⟨k,rfl,hk,rfl,hall,haX⟩:=hrel;have HAX:=Lib.hid haX;have HALL:=Lib.hid hall;clear hall HX5;have hBw:=HB.out.aft haX;have k2:wF.cell? ⟨w.heap.size,2,none⟩ = some (.slice a2 T.words.length c2):=hBw.cell 2;clear hBw;clear haX;by_cases hkn:k < T.words.length
              ·have hdec:decide (k < T.words.length) = true:=decide_eq_true hkn;have HTK:=Lib.hid (all_take_succ T.words (fun l=>l.all fun m=>risesB m.kinds && risesB m.ends) k hkn);have HMEM:=Lib.hid (List.getElem_mem hkn);have hwk4:=(HWL.out _ (List.getElem_mem hkn)).2;have hps:=prodLen_succ T.words k hkn;have hpl:=prodLen_le T.words (fun l hl=>(HWL.out l hl).2) (k + 1) (by omega);have hp4:4 ^ (k + 1) <= 4 ^ 6:=Nat.pow_le_pow_right (by decide) (by omega);have hq5:prodLen (T.words.take (k + 1)) <= 4096:=Nat.le_trans hpl hp4;have hmulZ:(prodLen (T.words.take k):Int) * (T.words[k].length:Int) = (prodLen (T.words.take (k + 1)):Nat):=by rw [hps];simp
               have HMZ:=Lib.hid hmulZ;obtain ⟨b2,o2,Am,cm,e2,cW,hms⟩:=word_cell (HT.out.aft (HA.out.trans HAX.out)).words hkn;have i1:(0:Int) <= (k:Int) /\ (k:Int) < (T.words.length:Int):=by omega
               have HX9:=HAX;have hwm:IntKind.i64.wrap ((prodLen (T.words.take k):Int) * (T.words[k].length:Int)) = (prodLen (T.words.take (k + 1)):Nat):=by rw [hmulZ,IntWalk.i64_in _ (by omega)]
               clear hps hpl hp4 hmulZ hms;generalize hpk:prodLen (T.words.take k) = pk at *;generalize hqk:prodLen (T.words.take (k + 1)) = qk at *;have HQK:=Lib.hid hqk;subst e2;clear hpk hqk;(repeat (first | go_big_skip | go_big_want | go_big_move | go_big_op | go_step | go_upon | go_back));clear k2 hwm cW;go_loopw [13] (fun i2 w2=>∃ m:Nat,i2 = .int .i64 m /\ m <= T.words[k].length /\ ((T.words[k].take m).all fun m=>risesB m.kinds && risesB m.ends) = true /\ Aft X w2) (fun i2 _=>T.words[k].length - (intOf i2).toNat)
               case atStart=>exact ⟨0,rfl,by omega,rfl,HX9.out⟩
               case round =>
                rename World=>wG
                obtain ⟨m,rfl,hm,hall2,haD⟩:=hrel;have HAD:=Lib.hid haD;have HALL2:=Lib.hid hall2;clear hall2;have hBw:=HB.out.aft haD;have k2:wG.cell? ⟨w.heap.size,2,none⟩ = some (.slice (some ⟨b2,o2,none⟩) T.words.length c2):=hBw.cell 2;clear hBw;clear haD;obtain ⟨b2',o2',Am',cm',e2,cW,hms⟩:=word_cell (HT.out.aft (HA.out.trans HAD.out)).words hkn;cases e2;clear hms;by_cases hml:m < T.words[k].length
                ·have hdm:decide (m < T.words[k].length) = true:=decide_eq_true hml;obtain ⟨b2',o2',bm,om,cm',Ak,ck,Ae,ce,e3,cW',cK,cE,hik,hie⟩:=mean_cells (HT.out.aft (HA.out.trans HAD.out)).words hkn hml;cases e3;rw [cW'] at cW;cases cW;have HTM:=Lib.hid (all_take_succ T.words[k] (fun m=>risesB m.kinds && risesB m.ends) m hml);have HMM:=Lib.hid (List.getElem_mem hml);have i2:(0:Int) <= (m:Int) /\ (m:Int) < (T.words[k].length:Int):=by omega
                 have HIK:=Lib.hid hik;have HIE:=Lib.hid hie;have CE:=Lib.hid cE;have CW:=Lib.hid cW';clear hik hie cE;generalize hlk:T.words[k][m].kinds = lk at *;generalize hle:T.words[k][m].ends = le at *;have HLK:=Lib.hid hlk;have HLE:=Lib.hid hle;clear hlk hle;(repeat (first | go_big_skip | go_big_want | go_big_move | go_big_op | go_step | go_upon | go_back));go_at_call 114;refine (mixed_any _ _ _ _ HIK.out).mono ?_;rintro e z ⟨rfl,haz⟩;dsimp only;have HAZ:=Lib.hid (HAD.out.trans haz);have HZZ:=Lib.hid haz;clear k2 cW' cK;have hBw:=HB.out.aft HAZ.out;have k2:z.cell? ⟨w.heap.size,2,none⟩ = some (.slice (some ⟨b2,o2,none⟩) T.words.length c2):=hBw.cell 2;clear hBw;have cE:=cells_aft haz CE.out;have cW':=cells_aft haz CW.out;clear haz
                 cases hv:risesB lk with
                 | false =>
                  have hbad:=HPass7.out.bad (by rw [Bool.and_eq_false_iff];exact .inl (List.all_eq_false.2 ⟨_,HMEM.out,by rw [Bool.not_eq_true];exact List.all_eq_false.2 ⟨_,HMM.out,by rw [HLK.out,hv];simp⟩⟩));have HBAD:=Lib.hid hbad;clear hbad hv;(try simp only [Bool.not_false,Bool.not_true]);(repeat (first | go_big_skip | go_big_want | go_big_move | go_big_op | go_step | go_upon | go_back));go_ret;exact ⟨ret_int (by exact HBAD.out.symm),HA.out.trans HAZ.out⟩
                 | true =>
                  have HV:=Lib.hid hv;clear hv;(try simp only [Bool.not_false,Bool.not_true]);(repeat (first | go_big_skip | go_big_want | go_big_move | go_big_op | go_step | go_upon | go_back));go_at_call 114;refine (mixed_any _ _ _ _ (HIE.out.aft HZZ.out)).mono ?_;rintro e z2 ⟨rfl,haz⟩;dsimp only;have HAZ2:=Lib.hid (HAZ.out.trans haz);clear haz cE cW' k2
                  cases hv:risesB le with
                  | false =>
                   have hbad:=HPass7.out.bad (by rw [Bool.and_eq_false_iff];exact .inl (List.all_eq_false.2 ⟨_,HMEM.out,by rw [Bool.not_eq_true];exact List.all_eq_false.2 ⟨_,HMM.out,by rw [HLE.out,hv];simp⟩⟩));have HBAD:=Lib.hid hbad;clear hbad hv;(try simp only [Bool.not_false,Bool.not_true]);(repeat (first | go_big_skip | go_big_want | go_big_move | go_big_op | go_step | go_upon | go_back));go_ret;exact ⟨ret_int (by exact HBAD.out.symm),HA.out.trans HAZ2.out⟩
                  | true =>
                   have HGD:Hid (((T.words[k].take (m + 1)).all fun m=>risesB m.kinds && risesB m.ends) = true):=Lib.hid (by rw [HTM.out,HALL2.out,HV.out,hv];rfl);clear hv;(try simp only [Bool.not_false,Bool.not_true]);(repeat (first | go_big_skip | go_big_want | go_big_move | go_big_op | go_step | go_upon | go_back));exact ⟨⟨m + 1,by go_num,by omega,HGD.out,HAZ2.out⟩,by simp [intOf] <;> omega⟩
                ·have hdm:decide (m < T.words[k].length) = false:=decide_eq_false hml;have HGD:Hid (((T.words.take (k + 1)).all fun l=>l.all fun m=>risesB m.kinds && risesB m.ends) = true):=Lib.hid (by rw [HTK.out,HALL.out];have:=HALL2.out;rw [List.take_of_length_le (by omega)] at this;rw [this];rfl);(repeat (first | go_big_skip | go_big_want | go_big_move | go_big_op | go_step | go_upon | go_back));exact ⟨⟨k + 1,by go_num,by omega,by rw [HQK.out],HGD.out,HAD.out⟩,by simp [intOf] <;> omega⟩
              ·have hdec:decide (k < T.words.length) = false:=decide_eq_false hkn;have htk:T.words.take k = T.words:=List.take_of_length_le (by omega);have hq5:prodLen T.words <= 4096:=Nat.le_trans (by have:=prodLen_le T.words (fun l hl=>(HWL.out l hl).2) k hk;rwa [htk] at this) (Nat.le_trans (Nat.pow_le_pow_right (by decide) (show k <= 6 by omega)) (by decide));have HAW:Hid ((T.words.all fun l=>l.all fun m=>risesB m.kinds && risesB m.ends) = true):=Lib.hid (by have:=HALL.out;rwa [htk] at this);rw [htk];have hBw:=HB.out.aft HAX.out;have k3:wF.cell? ⟨w.heap.size,3,none⟩ = some (.slice a3 T.starts.length c3):=hBw.cell 3;have HIS:=Lib.hid (HT.out.aft (HA.out.trans HAX.out)).starts;clear hBw HALL htk;generalize hpk:prodLen T.words = pk at *;have HPK:=Lib.hid hpk;clear hpk;(repeat (first | go_big_skip | go_big_want | go_big_move | go_big_op | go_step | go_upon | go_back));go_at_call 114;refine (mixed_any _ _ _ _ HIS.out).mono ?_;rintro e z ⟨rfl,haz⟩;dsimp only;have HAZ:=Lib.hid (HAX.out.trans haz);clear haz k2 k3
               cases hv:risesB T.starts with
               | false =>
                have HBAD:=Lib.hid (HPass7.out.bad (by rw [hv,Bool.and_false]));clear hv;(try simp only [Bool.not_false,Bool.not_true]);(repeat (first | go_big_skip | go_big_want | go_big_move | go_big_op | go_step | go_upon | go_back));go_ret;exact ⟨ret_int (by exact HBAD.out.symm),HA.out.trans HAZ.out⟩
               | true =>
                have HLAST:=Lib.hid (Pass8.last (T:=T) ⟨HPass7.out,by rw [HAW.out,hv];rfl⟩);clear hv;(try simp only [Bool.not_false,Bool.not_true]);by_cases h256:256 < pk
                ·have d1:decide ((256:Int) < (pk:Int)) = true:=decide_eq_true (by omega);have d1':decide (256 < pk) = true:=decide_eq_true h256;have HR:Hid (checkE T = 11):=Lib.hid (by rw [HLAST.out,HPK.out,if_pos h256]);clear h256;(repeat (first | go_big_skip | go_big_want | go_big_move | go_big_op | go_step | go_upon | go_back));go_ret;exact ⟨ret_int (by exact HR.out.symm),HA.out.trans HAZ.out⟩
                ·have d1:decide ((256:Int) < (pk:Int)) = false:=decide_eq_false (by omega);have d1':decide (256 < pk) = false:=decide_eq_false h256;have HR:Hid (checkE T = 0):=Lib.hid (by rw [HLAST.out,HPK.out,if_neg h256]);clear h256;(repeat (first | go_big_skip | go_big_want | go_big_move | go_big_op | go_step | go_upon | go_back));go_ret;exact ⟨ret_int (by exact HR.out.symm),HA.out.trans HAZ.out⟩
end Go.Proofs
end
section
/- Walks: the kit's Equal of ways,of legs: two of the same contents. -/
namespace Go.Proofs
open Go.RowKit
set_option maxHeartbeats 1000000 in
theorem equalWays_same (A A':Option Addr) (l:List Way) (c c':Nat) (w:World) (hA:RowsP w A 3 WayR l) (hA':RowsP w A' 3 WayR l) :
  Calls Tryz.prog 64 #[.slice A l.length c,.slice A' l.length c'] w fun e w'=>e = .returned (.bool true) /\ Aft w w':=by
 have hl:=hA.len (by decide);have H1:=Lib.hid hA;have H2:=Lib.hid hA';clear hA hA';go_enter Tryz.func64,Tryz.ntmps64;(repeat (first | go_big_skip | go_big_want | go_big_move | go_big_op | go_step | go_upon | go_back));go_loopw [8] (fun i wr=>∃ k:Nat,i = .int .i64 k /\ k <= l.length /\ Aft w wr) (fun i _=>l.length - (intOf i).toNat)
 case atStart=>exact ⟨0,rfl,by omega,Aft.refl _⟩
 case round =>
  obtain ⟨k,rfl,hk,ha⟩:=hrel;have HA:=Lib.hid ha;clear ha;by_cases hkl:k < l.length
  ·have hdec:decide (k < l.length) = true:=decide_eq_true hkl;obtain ⟨b1,o1,rfl,x0,x1,x2⟩:=way_cells (H1.out.aft WayR.mono HA.out) hkl;obtain ⟨b2,o2,rfl,y0,y1,y2⟩:=way_cells (H2.out.aft WayR.mono HA.out) hkl;have i1:(0:Int) <= (k:Int) /\ (k:Int) < (l.length:Int):=by omega
   have d1:decide (l.length <= k) = false:=decide_eq_false (by omega);have d2:decide ((l.length:Int) <= (k:Int)) = false:=decide_eq_false (by omega);generalize l[k].a = f0 at *;generalize l[k].b = f1 at *;generalize l[k].kind = f2 at *;(repeat (first | go_big_skip | go_big_want | go_big_move | go_big_op | go_step | go_upon | go_back));go_quiet (fail);(repeat (first | go_big_skip | go_big_want | go_big_move | go_big_op | go_step | go_upon | go_back));exact ⟨⟨k + 1,by go_num,by omega,HA.out.then_drewN _⟩,by simp [intOf] <;> omega⟩
  ·have hdec:decide (k < l.length) = false:=decide_eq_false hkl;have hq:((l.length:Int) == (l.length:Int)) = true:=by simp
   (repeat (first | go_big_skip | go_big_want | go_big_move | go_big_op | go_step | go_upon | go_back));go_ret;exact ⟨by simp,HA.out⟩
set_option maxHeartbeats 1000000 in
theorem equalLegs_same (A A':Option Addr) (l:List Leg) (c c':Nat) (w:World) (hA:RowsP w A 2 LegR l) (hA':RowsP w A' 2 LegR l) :
  Calls Tryz.prog 65 #[.slice A l.length c,.slice A' l.length c'] w fun e w'=>e = .returned (.bool true) /\ Aft w w':=by
 have hl:=hA.len (by decide);have H1:=Lib.hid hA;have H2:=Lib.hid hA';clear hA hA';go_enter Tryz.func65,Tryz.ntmps65;(repeat (first | go_big_skip | go_big_want | go_big_move | go_big_op | go_step | go_upon | go_back));go_loopw [8] (fun i wr=>∃ k:Nat,i = .int .i64 k /\ k <= l.length /\ Aft w wr) (fun i _=>l.length - (intOf i).toNat)
 case atStart=>exact ⟨0,rfl,by omega,Aft.refl _⟩
 case round =>
  obtain ⟨k,rfl,hk,ha⟩:=hrel;have HA:=Lib.hid ha;clear ha;by_cases hkl:k < l.length
  ·have hdec:decide (k < l.length) = true:=decide_eq_true hkl;obtain ⟨b1,o1,rfl,-,x0,x1⟩:=leg_cells (H1.out.aft LegR.mono HA.out) hkl;obtain ⟨b2,o2,rfl,-,y0,y1⟩:=leg_cells (H2.out.aft LegR.mono HA.out) hkl;have i1:(0:Int) <= (k:Int) /\ (k:Int) < (l.length:Int):=by omega
   have d1:decide (l.length <= k) = false:=decide_eq_false (by omega);have d2:decide ((l.length:Int) <= (k:Int)) = false:=decide_eq_false (by omega);generalize l[k].word = f0 at *;generalize l[k].other = f1 at *;(repeat (first | go_big_skip | go_big_want | go_big_move | go_big_op | go_step | go_upon | go_back));go_quiet (fail);(repeat (first | go_big_skip | go_big_want | go_big_move | go_big_op | go_step | go_upon | go_back));exact ⟨⟨k + 1,by go_num,by omega,HA.out.then_drewN _⟩,by simp [intOf] <;> omega⟩
  ·have hdec:decide (k < l.length) = false:=decide_eq_false hkl;have hq:((l.length:Int) == (l.length:Int)) = true:=by simp
   (repeat (first | go_big_skip | go_big_want | go_big_move | go_big_op | go_step | go_upon | go_back));go_ret;exact ⟨by simp,HA.out⟩
end Go.Proofs
end
