/- Own texts, merged: Sho Rcn. -/
import Derived.Test.YtobpdobneocckaaGreatDoorP15
import Derived.Deep.CutRange
import Derived.BigGuard
section
/- Walks: short: what stands behind its guard. -/
namespace Go.Proofs
open Go.RowKit
def ShortOk (T:Treaty) (ls:List (List Int)):Prop:=T.ways.length <= 45 /\ T.words.length <= 8 /\ T.starts.length <= 15 /\ T.legs.length <= 13 /\ (∀ l ∈ T.words,l.length <= 6 /\ ∀ m ∈ l,m.kinds.length <= 12 /\ m.ends.length <= 15) /\ ∀ l ∈ ls,l.length <= 20
def ShortR (w:World) (T:Treaty) (ls:List (List Int)) (e:Ending) (w':World):Prop:=∃ b,e = .returned (.bool b) /\ (b = true -> ShortOk T ls) /\ Aft w w'
set_option maxRecDepth 100000 in
set_option maxHeartbeats 4000000 in
theorem short_any (w:World) (T:Treaty) (a1 a2 a3 a4:Option Addr) (c1 c2 c3 c4:Nat) (q n:Nat) (ls:List (List Int)) (AL:Option Addr) (cL:Nat) (hT:TRepQ w T a1 a2 a3 a4) (hL:ListsQ w AL ls) (hls:ls.length <= 1000) (hq:q <= 10) :
  Calls Tryz.prog 8 #[.agg #[.int .i64 T.places,.slice a1 T.ways.length c1,.slice a2 T.words.length c2,.slice a3 T.starts.length c3,.slice a4 T.legs.length c4],.int .i64 q,.int .i64 n,.slice AL ls.length cL] w (ShortR w T ls):=by
 have ha:=Aft.alloc w (.cells #[.int .i64 T.places,.slice a1 T.ways.length c1,.slice a2 T.words.length c2,.slice a3 T.starts.length c3,.slice a4 T.legs.length c4] 27);have hb:=Blk.new w 27 #[.int .i64 T.places,.slice a1 T.ways.length c1,.slice a2 T.words.length c2,.slice a3 T.starts.length c3,.slice a4 T.legs.length c4];have HT:=Lib.hid (hT.aft ha);have HL:=Lib.hid (hL.aft ha);have HLN:=Lib.hid hls;clear hls;obtain ⟨k0,k1,k2,k3,k4⟩:=tc_cells' hb;have HAF:=Lib.hid ha;have HB:=Lib.hid hb;have hlt:=hb.lt;clear ha hb hT hL;go_enter Tryz.func8,Tryz.ntmps8;go_upto_region 1 with fail
 generalize w.alloc (.cells #[.int .i64 T.places,.slice a1 T.ways.length c1,.slice a2 T.words.length c2,.slice a3 T.starts.length c3,.slice a4 T.legs.length c4] 27) = X at *;go_cut [50] from 16 to 50 (fun s50 wx=>∃ bb,s50 = .bool bb /\ wx = X /\ (bb = false -> T.ways.length <= 45 /\ T.words.length <= 8 /\ T.starts.length <= 15 /\ T.legs.length <= 13))
 case first =>
  (repeat (first | go_big_skip | go_big_want | go_big_move | go_big_op | go_step | go_upon | go_back))
  all_goals (try (repeat (first | go_big_skip | go_big_want | go_big_move | go_big_op | go_step | go_upon | go_back)))
  all_goals (try (repeat (first | go_big_skip | go_big_want | go_big_move | go_big_op | go_step | go_upon | go_back)))
  all_goals (try (repeat (first | go_big_skip | go_big_want | go_big_move | go_big_op | go_step | go_upon | go_back)))
  all_goals go_meet
  all_goals
   refine ⟨_,rfl,rfl,fun h=>?_⟩
   first | (cases h;done) | (simp only [Bool.or_eq_false_iff,decide_eq_false_iff_not] at h;omega) | (simp at h;omega)
 obtain ⟨bb,rfl,rfl,hbb⟩:=hcut
 cases bb with
 | true =>
  (repeat (first | go_big_skip | go_big_want | go_big_move | go_big_op | go_step | go_upon | go_back));go_ret;exact ⟨false,rfl,fun h=>(by cases h),HAF.out⟩
 | false =>
  have HS:=Lib.hid (hbb rfl);clear hbb;generalize wc = X at *;have hw8:=HS.out.2.1;clear k0 k1 k3 k4;(repeat (first | go_big_skip | go_big_want | go_big_move | go_big_op | go_step | go_upon | go_back));go_loopw [9,54] (fun v i wr=>∃ k mv:Nat,i = .int .i64 k /\ k <= T.words.length /\ v = .int .i64 mv /\ mv <= 6 ^ k /\ Aft X wr /\ ∀ l ∈ T.words.take k,l.length <= 6 /\ ∀ m ∈ l,m.kinds.length <= 12 /\ m.ends.length <= 15) (fun _ i _=>T.words.length - (intOf i).toNat)
  case atStart=>exact ⟨0,1,rfl,by omega,rfl,by decide,Aft.refl _,by simp⟩
  case round =>
   obtain ⟨k,mv,rfl,hk,rfl,hmv,haw,hall⟩:=hrel;have HAW:=Lib.hid haw;have HALL:=Lib.hid hall;have HMV:=Lib.hid hmv;clear haw hall hmv k2 hlt;by_cases hkn:k < T.words.length
   ·have hdec:decide ((k:Int) < (T.words.length:Int)) = true:=by simp;omega
    obtain ⟨bw,ow,ew,hbw,hcw⟩:=(HT.out.aft HAW.out).words.at hkn;obtain ⟨vs,hv1,⟨Am,cm,rfl,hms⟩,hv3⟩:=hcw k hkn;have cM:wr.cell? ⟨bw,ow + k,none⟩ = some (.slice Am T.words[k].length cm):=by have:=hv3 0 (by simp);simpa using this
    have HTK:=Lib.hid (List.take_succ_eq_append_getElem hkn);have HMS:=Lib.hid hms;have i1:(0:Int) <= (k:Int) /\ (k:Int) < (T.words.length:Int):=by omega
    have i1n:k < T.words.length:=hkn;clear hv1 hv3 hcw hms;generalize T.words[k] = l at *;subst ew;by_cases hl6:6 < l.length
    ·have hd6:decide ((6:Int) < (l.length:Int)) = true:=decide_eq_true (by omega);clear hl6;(repeat (first | go_big_skip | go_big_want | go_big_move | go_big_op | go_step | go_upon | go_back));go_ret;exact ⟨false,rfl,fun h=>(by cases h),HAF.out.trans HAW.out⟩
    ·have hd6:decide ((6:Int) < (l.length:Int)) = false:=decide_eq_false (by omega);have hmv2:mv <= 1679616:=Nat.le_trans HMV.out (Nat.le_trans (Nat.pow_le_pow_right (by decide) (show k <= 8 by omega)) (Nat.le_of_eq rfl));have HL6:=Lib.hid hl6;obtain ⟨mx,hmx,hmx1,hmx6⟩:∃ mx:Nat,max (1:Int) (l.length:Int) = mx /\ 1 <= mx /\ mx <= 6:=⟨max 1 l.length,by omega,by omega,by omega⟩;have hprod:mv * mx <= 6 ^ (k + 1):=by rw [Nat.pow_succ];exact Nat.mul_le_mul HMV.out hmx6
     have hprod2:mv * mx <= 1679616 * 6:=Nat.mul_le_mul hmv2 hmx6;obtain ⟨pr,hpr⟩:∃ pr,mv * mx = pr:=⟨_,rfl⟩;have hprI:(mv:Int) * (mx:Int) = (pr:Int):=by rw [<- hpr];simp
     rw [hpr] at hprod hprod2;have HPR:=Lib.hid hprod;clear hl6 hprod hpr hmv2;(repeat (first | go_big_skip | go_big_want | go_big_move | go_big_op | go_step | go_upon | go_back));clear hmx hmx1 hmx6 hprI;have hl7:l.length <= 6:=by have:=HL6.out;omega
     generalize wr = y at *;go_loopw [68] (fun i wq=>∃ k3:Nat,i = .int .i64 k3 /\ k3 <= l.length /\ Aft y wq /\ ∀ m ∈ l.take k3,m.kinds.length <= 12 /\ m.ends.length <= 15) (fun i _=>l.length - (intOf i).toNat)
     case atStart=>exact ⟨0,rfl,by omega,Aft.refl _,by simp⟩
     case round =>
      obtain ⟨k3,rfl,hk3,haY,hms3⟩:=hrel;have HAY:=Lib.hid haY;have HM3:=Lib.hid hms3;clear haY hms3;by_cases hkn3:k3 < l.length
      ·have hdec3:decide ((k3:Int) < (l.length:Int)) = true:=by simp;omega
       obtain ⟨bm,om,em,hbm,hcm⟩:=(HMS.out.aft MeanQ.mono HAY.out).at hkn3;obtain ⟨vs,hv4,⟨Ak,ck,Ae,ce,rfl,hik,hie⟩,hv6⟩:=hcm k3 hkn3;have cK:wr.cell? ⟨bm,om + k3 * 2,none⟩ = some (.slice Ak l[k3].kinds.length ck):=hv6 0 (by simp);have cE:wr.cell? ⟨bm,om + k3 * 2 + 1,none⟩ = some (.slice Ae l[k3].ends.length ce):=hv6 1 (by simp);have HTK3:Hid (l.take (k3 + 1) = l.take k3 ++ [l[k3]]):=Lib.hid (List.take_succ_eq_append_getElem hkn3);have j1:(0:Int) <= (k3:Int) /\ (k3:Int) < (l.length:Int):=by omega
       clear hv4 hv6 hcm hik hie;generalize l[k3] = mm at *;subst em;by_cases h12:12 < mm.kinds.length
       ·have d1:decide ((12:Int) < (mm.kinds.length:Int)) = true:=decide_eq_true (by omega);clear h12;(repeat (first | go_big_skip | go_big_want | go_big_move | go_big_op | go_step | go_upon | go_back));go_ret;exact ⟨false,rfl,fun h=>(by cases h),((HAF.out.trans HAW.out).trans HAY.out).then_alloc _⟩
       ·have d1:decide ((12:Int) < (mm.kinds.length:Int)) = false:=decide_eq_false (by omega);by_cases h15:15 < mm.ends.length
        ·have d2:decide ((15:Int) < (mm.ends.length:Int)) = true:=decide_eq_true (by omega);clear h12 h15;(repeat (first | go_big_skip | go_big_want | go_big_move | go_big_op | go_step | go_upon | go_back));go_ret;exact ⟨false,rfl,fun h=>(by cases h),((HAF.out.trans HAW.out).trans HAY.out).then_alloc _⟩
        ·have d2:decide ((15:Int) < (mm.ends.length:Int)) = false:=decide_eq_false (by omega);have HMM:Hid (mm.kinds.length <= 12 /\ mm.ends.length <= 15):=Lib.hid ⟨by omega,by omega⟩;clear h12 h15;(repeat (first | go_big_skip | go_big_want | go_big_move | go_big_op | go_step | go_upon | go_back))
         exact ⟨⟨k3 + 1,by go_num,by omega,HAY.out.then_alloc _,fun m hm=>by
          rw [HTK3.out] at hm;rcases List.mem_append.1 hm with h | h
          ·exact HM3.out m h
          ·rw [List.mem_singleton] at h;subst h;exact HMM.out⟩,by simp [intOf];omega⟩
      ·obtain rfl:k3 = l.length:=by omega
       have hdec3:decide ((l.length:Int) < (l.length:Int)) = false:=by simp
       have HM4:Hid (∀ m ∈ l,m.kinds.length <= 12 /\ m.ends.length <= 15):=Lib.hid (by have:=HM3.out;rwa [List.take_length] at this);clear HM3;(repeat (first | go_big_skip | go_big_want | go_big_move | go_big_op | go_step | go_upon | go_back))
       exact ⟨⟨k + 1,pr,by go_num,by omega,rfl,HPR.out,HAW.out.trans HAY.out,fun l' hl'=>by
        rw [HTK.out] at hl';rcases List.mem_append.1 hl' with h | h
        ·exact HALL.out l' h
        ·rw [List.mem_singleton] at h;subst h;exact ⟨by have:=HL6.out;omega,HM4.out⟩⟩,by simp [intOf];omega⟩
   ·obtain rfl:k = T.words.length:=by omega
    have hdec:decide ((T.words.length:Int) < (T.words.length:Int)) = false:=by simp
    have HW:Hid (∀ l ∈ T.words,l.length <= 6 /\ ∀ m ∈ l,m.kinds.length <= 12 /\ m.ends.length <= 15):=Lib.hid (by have:=HALL.out;rwa [List.take_length] at this);clear HALL;have hmvb:mv <= 1679616:=Nat.le_trans HMV.out (Nat.le_trans (Nat.pow_le_pow_right (by decide) hw8) (Nat.le_of_eq rfl));clear HMV;(repeat (first | go_big_skip | go_big_want | go_big_move | go_big_op | go_step | go_upon | go_back));generalize wr = y at *;go_loopw [86] (fun i wq=>∃ k:Nat,i = .int .i64 k /\ k <= ls.length /\ Aft y wq /\ ∀ l ∈ ls.take k,l.length <= 20) (fun i _=>ls.length - (intOf i).toNat)
    case atStart=>exact ⟨0,rfl,by omega,Aft.refl _,by simp⟩
    case round =>
     obtain ⟨k5,rfl,hk5,haY,h20⟩:=hrel;have HAY:=Lib.hid haY;have H20:=Lib.hid h20;clear haY h20;by_cases hkn5:k5 < ls.length
     ·have hdec5:decide ((k5:Int) < (ls.length:Int)) = true:=by simp;omega
      obtain ⟨g5,o5,e5',hg5,hc5⟩:=(HL.out.aft (HAW.out.trans HAY.out)).at hkn5;obtain ⟨Am,cm,hcell,hms⟩:=hc5 k5 hkn5;have HTK5:Hid (ls.take (k5 + 1) = ls.take k5 ++ [ls[k5]]):=Lib.hid (List.take_succ_eq_append_getElem hkn5);have j1:(0:Int) <= (k5:Int) /\ (k5:Int) < (ls.length:Int):=by omega
      have hll5:ls.length <= 17592186043904:=by have:=HLN.out;omega
      clear hc5 hms;generalize ls[k5] = l5 at *;subst e5';by_cases h5:20 < l5.length
      ·have d1:decide ((20:Int) < (l5.length:Int)) = true:=decide_eq_true (by omega);clear h5;(repeat (first | go_big_skip | go_big_want | go_big_move | go_big_op | go_step | go_upon | go_back));go_ret;exact ⟨false,rfl,fun h=>(by cases h),(HAF.out.trans HAW.out).trans HAY.out⟩
      ·have d1:decide ((20:Int) < (l5.length:Int)) = false:=decide_eq_false (by omega);have HM5:Hid (l5.length <= 20):=Lib.hid (by omega);clear h5;(repeat (first | go_big_skip | go_big_want | go_big_move | go_big_op | go_step | go_upon | go_back))
       exact ⟨⟨k5 + 1,by go_num,by omega,HAY.out,fun m hm=>by
        rw [HTK5.out] at hm;rcases List.mem_append.1 hm with h | h
        ·exact H20.out m h
        ·rw [List.mem_singleton] at h;subst h;exact HM5.out⟩,by simp [intOf];omega⟩
     ·obtain rfl:k5 = ls.length:=by omega
      have hdec5:decide ((ls.length:Int) < (ls.length:Int)) = false:=by simp
      have HLS:Hid (∀ l ∈ ls,l.length <= 20):=Lib.hid (by have:=H20.out;rwa [List.take_length] at this);clear H20;have hfin:=HS.out
      cases hd9:decide (mv <= n) with
      | true =>
       (repeat (first | go_big_skip | go_big_want | go_big_move | go_big_op | go_step | go_upon | go_back));go_ret;exact ⟨_,rfl,fun _=>⟨hfin.1,hfin.2.1,hfin.2.2.1,hfin.2.2.2,HW.out,HLS.out⟩,(HAF.out.trans HAW.out).trans HAY.out⟩
      | false =>
       (repeat (first | go_big_skip | go_big_want | go_big_move | go_big_op | go_step | go_upon | go_back));go_ret;exact ⟨_,rfl,fun _=>⟨hfin.1,hfin.2.1,hfin.2.2.1,hfin.2.2.2,HW.out,HLS.out⟩,(HAF.out.trans HAW.out).trans HAY.out⟩
theorem TRepQ.small {w:World} {T:Treaty} {a1 a2 a3 a4:Option Addr} {ls:List (List Int)} (h:TRepQ w T a1 a2 a3 a4) (ok:ShortOk T ls):TRep w T a1 a2 a3 a4:=by
 obtain ⟨o1,o2,o3,o4,o5,-⟩:=ok;refine ⟨h.ways.small (by omega) fun _ _ _ h=>h,h.words.small (by omega) fun l hl vs hv=>?_,h.starts.small (by omega),h.legs.small (by omega) fun _ _ _ h=>h⟩;obtain ⟨A,c,e,hr⟩:=hv;have h6:=o5 l hl;refine ⟨A,c,e,hr.small (by omega) fun m hm vs hv=>?_⟩;obtain ⟨B,d,B',d',e,h1,h2⟩:=hv;have:=h6.2 m hm;exact ⟨B,d,B',d',e,h1.small (by omega),h2.small (by omega)⟩
end Go.Proofs
end
section
/- Walks: the reference's can. -/
namespace Go.Proofs
open Go.RowKit
attribute [local go_sem] Oper.semAt_some
set_option maxRecDepth 100000 in
set_option maxHeartbeats 40000000 in
theorem canRef_any (w:World) (T:Treaty) (a1 a2 a3 a4:Option Addr) (c1 c2 c3 c4:Nat) (R:List Int) (AR:Option Addr) (cR:Nat) (hT:TRep w T a1 a2 a3 a4) (hR:Ints w AR R) (ok:TOk T) (hro:ReadOk T R) {i:Nat} (hi:i < T.legs.length) :
  Calls Tryz.prog 145 #[.agg #[.int .i64 T.places,.slice a1 T.ways.length c1,.slice a2 T.words.length c2,.slice a3 T.starts.length c3,.slice a4 T.legs.length c4],.slice AR R.length cR,.int .i64 i] w fun e w'=>∃ t,e = .returned t /\ Aft w w' /\ TabAt w' t T.places.toNat (leadsF T R i):=by
 have HT:=Lib.hid hT;have HR:=Lib.hid hR;have HOK:=Lib.hid ok;have HRO:=Lib.hid hro;have HI:=Lib.hid hi;obtain ⟨P,hP⟩:=Int.eq_ofNat_of_zero_le (show 0 <= T.places from by have:=ok.p1;omega);have hP1:1 <= P:=by have:=ok.p1;omega
 have hP2:P <= 12:=by have:=ok.p2;omega
 have HP:=Lib.hid hP;have hnw:=ok.nways;have hME:∀ y,Aft w y -> ∀ x:Int,Calls Tryz.prog 163 #[.agg #[.int .i64 T.places,.slice a1 T.ways.length c1,.slice a2 T.words.length c2,.slice a3 T.starts.length c3,.slice a4 T.legs.length c4],.slice AR R.length cR,.int .i64 i,.int .i64 x] y fun e w'=>e = .returned (.bool (hasB (kindsAt T R T.legs[i]) x)) /\ Aft y w':=fun y hy x=>means_any y T a1 a2 a3 a4 c1 c2 c3 c4 R AR cR (hT.aft hy) (hR.aft hy) ok hro hi x
 have hEN:∀ y,Aft w y -> ∀ x:Int,Calls Tryz.prog 164 #[.agg #[.int .i64 T.places,.slice a1 T.ways.length c1,.slice a2 T.words.length c2,.slice a3 T.starts.length c3,.slice a4 T.legs.length c4],.slice AR R.length cR,.int .i64 i,.int .i64 x] y fun e w'=>e = .returned (.bool (hasB (endsAt T R T.legs[i]) x)) /\ Aft y w':=fun y hy x=>ends_any y T a1 a2 a3 a4 c1 c2 c3 c4 R AR cR (hT.aft hy) (hR.aft hy) ok hro hi x
 rw [hP] at hME hEN;rw [hP,Int.toNat_natCast];have HME:=Lib.hid hME;have HEN:=Lib.hid hEN;clear hT hR ok hro hP hME hEN;go_enter Tryz.func145,Tryz.ntmps145;go_upto_region 1 with fail
 have hb:=Blk.new w 35 #[.int .i64 P,.slice a1 T.ways.length c1,.slice a2 T.words.length c2,.slice a3 T.starts.length c3,.slice a4 T.legs.length c4];have ha:=Aft.alloc w (.cells #[.int .i64 P,.slice a1 T.ways.length c1,.slice a2 T.words.length c2,.slice a3 T.starts.length c3,.slice a4 T.legs.length c4] 35);generalize w.alloc (.cells #[.int .i64 P,.slice a1 T.ways.length c1,.slice a2 T.words.length c2,.slice a3 T.starts.length c3,.slice a4 T.legs.length c4] 35) = X at *;have HB:=Lib.hid hb;have HA:=Lib.hid ha;clear hb ha;have hM0:CN1 X P 0 (.slice none 0 0) X:=⟨fun _=>0,Aft.refl _,BTab.nil _ _ _ _ _⟩;have HM0:=Lib.hid hM0;clear hM0;(repeat (first | go_big_skip | go_big_want | go_big_move | go_big_op | go_step | go_upon | go_back));go_loopw [7,8] (fun v i wr=>∃ k:Nat,i = .int .i64 k /\ k <= P /\ CN1 X P k v wr) (fun _ i _=>P - (intOf i).toNat)
 case atStart=>exact ⟨0,rfl,by omega,HM0.out⟩
 case round =>
  obtain ⟨k,rfl,hk,B,haX,ht⟩:=hrel;have HAX:=Lib.hid haX;have HTB:=Lib.hid ht;have hBw:=HB.out.aft haX;have k0:wr.cell? ⟨w.heap.size,0,none⟩ = some (.int .i64 P):=hBw.cell 0;have hsz:=haX.size;clear haX ht hBw;by_cases hkP:k < P
  ·have hdec:decide (k < P) = true:=decide_eq_true hkP;go_upto_region 4 with (first | (at_make;refine wpList_make_bools rfl _ _ rfl rfl rfl (by omega) ?_;have HM:=Lib.hid (BRow.made wr P);have HAM:=Lib.hid (Aft.alloc wr (.cells (madeCells #[.bool false] P) 4));generalize wr.alloc (.cells (madeCells #[.bool false] P) 4) = w5 at *) | (at_builtin;go_loud (refine wpList_app1 ty137 rfl _ _ rfl (Nat.le_trans hsz (HAM.out.then_alloc _).size) rfl (own_aft HTB.out.own (HAM.out.then_alloc _)) rfl (Blk.new _ _ _) rfl (fun u hu=>by rw [List.mem_singleton] at hu;subst hu;rfl) (by omega) (by decide) ?_;intro v' w6 hown6 hg6 hat6;have HBT:=Lib.hid (HTB.out.push (HAM.out.then_alloc _) (Nat.le_refl _) (HM.out.aft (Aft.alloc _ _)) hsz hown6 hg6);have HA6:=Lib.hid ((HAX.out.trans (HAM.out.then_alloc _)).grown hg6 (fun q e=>(HTB.out.own.lt q e).1));clear hown6 hg6 hat6)))
   (repeat (first | go_big_skip | go_big_want | go_big_move | go_big_op | go_step | go_upon | go_back));have hcn:CN1 X P (k + 1) v' w6:=⟨_,HA6.out,HBT.out.congr fun a c _ _=>by unfold addF;split <;> rfl⟩;exact ⟨⟨k + 1,by go_num,by omega,hcn⟩,by simp [intOf];omega⟩
  ·have hdec:decide (k < P) = false:=decide_eq_false hkP;obtain rfl:k = P:=by omega
   obtain ⟨bv,cv,rfl,hcv,hbv,hslots⟩:=HTB.out.slot (i:=0) (by omega);clear hslots;(repeat (first | go_big_skip | go_big_want | go_big_move | go_big_op | go_step | go_upon | go_back));generalize hks:kindsAt T R T.legs[i] = ks at HME;have HKS:=Lib.hid hks;clear hks;have HM2:Hid (CN2 X k B (.slice (some ⟨bv,0,none⟩) k cv) (edgeN (T.ways.take 0) ks) wr):=Lib.hid ⟨HAX.out,HTB.out.congr fun a c _ _=>rfl⟩;clear HAX HTB k0 HM0;go_loopw [9] (fun i2 wq=>∃ k2:Nat,i2 = .int .i64 k2 /\ k2 <= T.ways.length /\ CN2 X k B (.slice (some ⟨bv,0,none⟩) k cv) (edgeN (T.ways.take k2) ks) wq) (fun i2 _=>T.ways.length - (intOf i2).toNat)
   case atStart=>exact ⟨0,rfl,by omega,HM2.out⟩
   case round =>
    rename World=>wq
    obtain ⟨k2,rfl,hk2,haQ,htQ⟩:=hrel;have HAQ:=Lib.hid haQ;have HTQ:=Lib.hid htQ;have hBw:=HB.out.aft haQ;have q1:wq.cell? ⟨w.heap.size,1,none⟩ = some (.slice a1 T.ways.length c1):=hBw.cell 1;clear haQ htQ;by_cases hkw:k2 < T.ways.length
    ·have hdec:decide (k2 < T.ways.length) = true:=decide_eq_true hkw;obtain ⟨b1,o1,rfl,cA,cB,cK⟩:=way_cells (HT.out.aft (HA.out.trans HAQ.out)).ways hkw;have hwk:=HOK.out.ways _ (List.getElem_mem hkw);obtain ⟨xa,hxa⟩:=Int.eq_ofNat_of_zero_le hwk.1;obtain ⟨xb,hxb⟩:=Int.eq_ofNat_of_zero_le hwk.2.2.1;have hxaP:xa < k:=by have:=HP.out;omega
     have hxbP:xb < k:=by have:=HP.out;omega
     have HXA:=Lib.hid hxa;have HXB:=Lib.hid hxb;rw [hxa] at cA;rw [hxb] at cB;generalize hkd:T.ways[k2].kind = kd at *;have HKD:=Lib.hid hkd;have i1:(0:Int) <= (k2:Int) /\ (k2:Int) < (T.ways.length:Int):=by omega
     clear hwk hxa hxb hkd;go_upto_region 10 with fail
     have h8:=Blk.new wq 86 #[.int .i64 xa,.int .i64 xb,.int .i64 kd];have ha8:=Aft.alloc wq (.cells #[.int .i64 xa,.int .i64 xb,.int .i64 kd] 86);have htY:=HTQ.out.aft ha8;have hBy:=hBw.aft ha8;clear q1 cA cB cK hBw;generalize wq.alloc (.cells #[.int .i64 xa,.int .i64 xb,.int .i64 kd] 86) = y at *;have HAY:=Lib.hid (HAQ.out.trans ha8);have HTY:=Lib.hid htY;have H8:=Lib.hid h8;have k0:y.cell? ⟨w.heap.size,0,none⟩ = some (.int .i64 k):=hBy.cell 0;have k1:y.cell? ⟨w.heap.size,1,none⟩ = some (.slice (some ⟨b1,o1,none⟩) T.ways.length c1):=hBy.cell 1;have k2':y.cell? ⟨w.heap.size,2,none⟩ = some (.slice a2 T.words.length c2):=hBy.cell 2;have k3:y.cell? ⟨w.heap.size,3,none⟩ = some (.slice a3 T.starts.length c3):=hBy.cell 3;have k4:y.cell? ⟨w.heap.size,4,none⟩ = some (.slice a4 T.legs.length c4):=hBy.cell 4;have z2:y.cell? ⟨wq.heap.size,2,none⟩ = some (.int .i64 kd):=h8.cell 2;clear htY ha8 h8 hBy;(repeat (first | go_big_skip | go_big_want | go_big_move | go_big_op | go_step | go_upon | go_back));go_at_call 163;refine (HME.out y (HA.out.trans HAY.out) kd).mono ?_;rintro e z ⟨rfl,haz⟩;dsimp only;have HAZ:=Lib.hid (HAY.out.trans haz);have HTZ:=Lib.hid (HTY.out.aft haz);have H8z:=H8.out.aft haz;have z0:z.cell? ⟨wq.heap.size,0,none⟩ = some (.int .i64 xa):=H8z.cell 0;have z1:z.cell? ⟨wq.heap.size,1,none⟩ = some (.int .i64 xb):=H8z.cell 1;clear k0 k1 k2' k3 k4 z2 haz HAY HTY H8
     cases hhb:hasB ks kd with
     | false =>
      have HHB:=Lib.hid hhb;clear hhb;(repeat (first | go_big_skip | go_big_want | go_big_move | go_big_op | go_step | go_upon | go_back));exact ⟨⟨k2 + 1,by go_num,by omega,HAZ.out,HTZ.out.congr fun a c _ _=>edge_not hkw (by rw [HKD.out,HHB.out]) a c⟩,by simp [intOf];omega⟩
     | true =>
      have HHB:=Lib.hid hhb;clear hhb;have H8Z:=Lib.hid H8z;obtain ⟨bv',cv',ev,-,-,hsl⟩:=HTZ.out.slot (i:=xa) hxaP;cases ev;have s1:=hsl xa hxaP;have s2:=hsl xb hxbP;have hne:bv ≠ B xa:=fun e=>by have:=HTZ.out.apart hxaP;rw [<- e] at this;exact this rfl
      have v1:=(HTZ.out.row xa hxaP).cell hxbP;have f1:=(HTZ.out.row xa hxaP).frozen xb;have l1:=(HTZ.out.row xa hxaP).lt;have j1:(0:Int) <= (xa:Int) /\ (xa:Int) < (k:Int):=by omega
      have j2:(0:Int) <= (xb:Int) /\ (xb:Int) < (k:Int):=by omega
      clear hsl H8z;(repeat (first | go_big_skip | go_big_want | go_big_move | go_big_op | go_step | go_upon | go_back));refine wp_region_tail 7 (by kernel_rfl) (by kernel_rfl) ?_;simp only [List.take_succ_cons,List.take_zero,List.drop_succ_cons,List.drop_zero];repeat (first | go_big_quiet_skip | (go_big_quiet_want;go_big_quiet_op;go_big_quiet_on))
      refine wpQuiet_nil ?_;(repeat (first | go_big_skip | go_big_want | go_big_move | go_big_op | go_step | go_upon | go_back))
      have hne8:wq.heap.size ≠ B xa:=fun e=>by
       obtain ⟨cs,hb1,-⟩:=HTZ.out.row xa hxaP;rw [<- e] at hb1;exact absurd (blk_type hb1 H8Z.out) (by decide)
      have hTU:=(HTZ.out.set hxaP hxbP true).aft (Aft.drew _);have hAU:=(HAZ.out.then_setCell (p:=⟨B xa,xb,none⟩) (HTZ.out.far xa hxaP) (.bool true)).then_drew;have H8U:=(H8Z.out.far (p:=⟨B xa,xb,none⟩) hne8 (.bool true)).drew;clear s1 s2 v1 f1 l1 z0 z1;generalize (z.setCell ⟨B xa,xb,none⟩ (.bool true)).drew = y2 at *;have s1:=cells_slot hTU hxaP;have s2:=cells_slot hTU hxbP;have v1:=(hTU.row xb hxbP).cell hxaP;have f1:=(hTU.row xb hxbP).frozen xa;have l1:=(hTU.row xb hxbP).lt;have z0:y2.cell? ⟨wq.heap.size,0,none⟩ = some (.int .i64 xa):=H8U.cell 0;have z1:y2.cell? ⟨wq.heap.size,1,none⟩ = some (.int .i64 xb):=H8U.cell 1;have HTU:=Lib.hid hTU;have HAU:=Lib.hid hAU;clear hTU hAU H8U hne8;refine wp_region_tail 7 (by kernel_rfl) (by kernel_rfl) ?_;simp only [List.take_succ_cons,List.take_zero,List.drop_succ_cons,List.drop_zero];repeat (first | go_big_quiet_skip | (go_big_quiet_want;go_big_quiet_op;go_big_quiet_on))
      refine wpQuiet_nil ?_;(repeat (first | go_big_skip | go_big_want | go_big_move | go_big_op | go_step | go_upon | go_back));exact ⟨⟨k2 + 1,by go_num,by omega,HAU.out.then_drew.then_setCell (p:=⟨B xb,xa,none⟩) (HTU.out.far xb hxbP) _,((HTU.out.aft (Aft.drew _)).set hxbP hxaP true).congr fun a c _ _=>edge_add hkw HXA.out HXB.out (by rw [HKD.out,HHB.out]) a c⟩,by simp [intOf];omega⟩
    ·have hdec:decide (k2 < T.ways.length) = false:=decide_eq_false hkw;(repeat (first | go_big_skip | go_big_want | go_big_move | go_big_op | go_step | go_upon | go_back));have htk:T.ways.take k2 = T.ways:=List.take_of_length_le (by omega)
     have hE:∀ a b,edgeB T.ways ks a b = true -> 0 <= a /\ a < (k:Int) /\ 0 <= b /\ b < (k:Int):=fun a b h=>by
      have:=edge_range HOK.out.ways a b h;have:=HP.out;omega
     have hC3:CN3 X k B (.slice (some ⟨bv,0,none⟩) k cv) (edgeB T.ways ks) true wq:=⟨HAQ.out,_,HTQ.out,⟨fun a b _ _ h=>by unfold edgeN;rw [htk];exact h,fun a b _ _ h=>by unfold edgeN at h;rw [htk] at h;exact .one h⟩,fun h=>by cases h⟩;have HC3:=Lib.hid hC3;have HE:=Lib.hid hE;clear hC3 hE htk HTQ HAQ hBw q1;go_loopw [11] (fun v w3=>∃ ch:Bool,v = .bool ch /\ CN3 X k B (.slice (some ⟨bv,0,none⟩) k cv) (edgeB T.ways ks) ch w3) (fun v w3=>mW w3 B k + boolN v)
     case atStart=>exact ⟨true,rfl,HC3.out⟩
     case round =>
      rename World=>w3
      obtain ⟨ch,rfl,haW,g,htW,hclo,hsh⟩:=hrel;have HAW:=Lib.hid haW;have HTW:=Lib.hid htW;have hBw:=HB.out.aft haW;have k0:w3.cell? ⟨w.heap.size,0,none⟩ = some (.int .i64 k):=hBw.cell 0;have hmes:mW w3 B k = cntF k g:=mW_eq htW rfl;clear haW htW hBw
      cases ch with
      | true =>
       have hC4:CN4 X k B (.slice (some ⟨bv,0,none⟩) k cv) (edgeB T.ways ks) (cntF k g) false 0 0 0 w3:=⟨HAW.out,g,HTW.out,Cl3.start hclo⟩;have HC4:=Lib.hid hC4;have HMES:=Lib.hid hmes;clear hC4 hclo hsh HAW HTW hmes HC3 k0;generalize hm:cntF k g = m at *;clear hm;(repeat (first | go_big_skip | go_big_want | go_big_move | go_big_op | go_step | go_upon | go_back));go_loopw [11,12] (fun v i4 w4=>∃ ch:Bool,∃ a:Nat,v = .bool ch /\ i4 = .int .i64 a /\ a <= k /\ CN4 X k B (.slice (some ⟨bv,0,none⟩) k cv) (edgeB T.ways ks) m ch a 0 0 w4) (fun _ i4 _=>k - (intOf i4).toNat)
       case atStart=>exact ⟨false,0,rfl,rfl,by omega,HC4.out⟩
       case round =>
        rename World=>w4
        obtain ⟨ch,a,rfl,rfl,hak,hc4⟩:=hrel;have hBw:=HB.out.aft hc4.1;have k0:w4.cell? ⟨w.heap.size,0,none⟩ = some (.int .i64 k):=hBw.cell 0;have HC4':=Lib.hid hc4;clear hc4 hBw HC4;by_cases hak':a < k
        ·have hdec:decide (a < k) = true:=decide_eq_true hak';(repeat (first | go_big_skip | go_big_want | go_big_move | go_big_op | go_step | go_upon | go_back));go_loopw [11,13] (fun v i5 w5=>∃ ch:Bool,∃ b:Nat,v = .bool ch /\ i5 = .int .i64 b /\ b <= k /\ CN4 X k B (.slice (some ⟨bv,0,none⟩) k cv) (edgeB T.ways ks) m ch a b 0 w5) (fun _ i5 _=>k - (intOf i5).toNat)
         case atStart=>exact ⟨_,0,rfl,rfl,by omega,HC4'.out⟩
         case round =>
          rename World=>w5
          obtain ⟨ch,b,rfl,rfl,hbk,hc5⟩:=hrel;have hBw:=HB.out.aft hc5.1;have k0:w5.cell? ⟨w.heap.size,0,none⟩ = some (.int .i64 k):=hBw.cell 0;have HC5:=Lib.hid hc5;clear hc5 hBw HC4';by_cases hbk':b < k
          ·have hdec:decide (b < k) = true:=decide_eq_true hbk';(repeat (first | go_big_skip | go_big_want | go_big_move | go_big_op | go_step | go_upon | go_back));go_loopw [11,14] (fun v i6 w6=>∃ ch:Bool,∃ c:Nat,v = .bool ch /\ i6 = .int .i64 c /\ c <= k /\ CN4 X k B (.slice (some ⟨bv,0,none⟩) k cv) (edgeB T.ways ks) m ch a b c w6) (fun _ i6 _=>k - (intOf i6).toNat)
           case atStart=>exact ⟨_,0,rfl,rfl,by omega,HC5.out⟩
           case round =>
            rename World=>w6
            obtain ⟨ch,c,rfl,rfl,hck,ha6,g6,ht6,h36⟩:=hrel;have hBw:=HB.out.aft ha6;have k0:w6.cell? ⟨w.heap.size,0,none⟩ = some (.int .i64 k):=hBw.cell 0;have HA6:=Lib.hid ha6;have HT6:=Lib.hid ht6;have H36:=Lib.hid h36;clear ha6 ht6 h36 hBw HC5;by_cases hck':c < k
            ·have hdec:decide (c < k) = true:=decide_eq_true hck';have s1:=cells_slot HT6.out hak';have s2:=cells_slot HT6.out hbk';have v1:=(HT6.out.row a hak').cell hbk';have v2:=(HT6.out.row b hbk').cell hck';have v3:=(HT6.out.row a hak').cell hck';have f3:=(HT6.out.row a hak').frozen c;have l3:=(HT6.out.row a hak').lt;have j1:(0:Int) <= (a:Int) /\ (a:Int) < (k:Int):=by omega
             have j2:(0:Int) <= (b:Int) /\ (b:Int) < (k:Int):=by omega
             have j3:(0:Int) <= (c:Int) /\ (c:Int) < (k:Int):=by omega
             cases hg1:g6 a b with
             | false =>
              have HN:=Lib.hid (H36.out.next (.inl hg1));rw [hg1] at v1;clear hg1 v2 v3;(repeat (first | go_big_skip | go_big_want | go_big_move | go_big_op | go_step | go_upon | go_back));exact ⟨⟨_,c + 1,rfl,by go_num,by omega,HA6.out,_,HT6.out,HN.out⟩,by simp [intOf];omega⟩
             | true =>
              have HG1:=Lib.hid hg1;rw [hg1] at v1;clear hg1
              cases hg2:g6 b c with
              | false =>
               have HN:=Lib.hid (H36.out.next (.inr (.inl hg2)));rw [hg2] at v2;clear hg2 v3;(repeat (first | go_big_skip | go_big_want | go_big_move | go_big_op | go_step | go_upon | go_back));exact ⟨⟨_,c + 1,rfl,by go_num,by omega,HA6.out,_,HT6.out,HN.out⟩,by simp [intOf];omega⟩
              | true =>
               have HG2:=Lib.hid hg2;rw [hg2] at v2;clear hg2
               cases hg3:g6 a c with
               | true =>
                have HN:=Lib.hid (H36.out.next (.inr (.inr hg3)));rw [hg3] at v3;clear hg3;(repeat (first | go_big_skip | go_big_want | go_big_move | go_big_op | go_step | go_upon | go_back));exact ⟨⟨_,c + 1,rfl,by go_num,by omega,HA6.out,_,HT6.out,HN.out⟩,by simp [intOf];omega⟩
               | false =>
                have HN:=Lib.hid (H36.out.set hak' hbk' hck' HG1.out HG2.out hg3);rw [hg3] at v3;clear hg3;(repeat (first | go_big_skip | go_big_want | go_big_move | go_big_op | go_step | go_upon | go_back));exact ⟨⟨true,c + 1,rfl,by go_num,by omega,HA6.out.then_setCell (p:=⟨B a,c,none⟩) (HT6.out.far a hak') _,_,HT6.out.set hak' hck' true,HN.out⟩,by simp [intOf];omega⟩
            ·have hdec:decide (c < k) = false:=decide_eq_false hck';obtain rfl:c = k:=by omega
             (repeat (first | go_big_skip | go_big_want | go_big_move | go_big_op | go_step | go_upon | go_back));exact ⟨⟨_,b + 1,rfl,by go_num,by omega,HA6.out,_,HT6.out,H36.out.row⟩,by simp [intOf];omega⟩
          ·have hdec:decide (b < k) = false:=decide_eq_false hbk';obtain rfl:b = k:=by omega
           (repeat (first | go_big_skip | go_big_want | go_big_move | go_big_op | go_step | go_upon | go_back));obtain ⟨ha6,g6,ht6,h36⟩:=HC5.out;exact ⟨⟨_,a + 1,rfl,by go_num,by omega,ha6,_,ht6,h36.page⟩,by simp [intOf];omega⟩
        ·have hdec:decide (a < k) = false:=decide_eq_false hak';obtain rfl:a = k:=by omega
         obtain ⟨ha6,g6,ht6,h36⟩:=HC4'.out;have HC6:=Lib.hid h36;have HT6:=Lib.hid ht6;have HA6:=Lib.hid ha6;clear ha6 ht6 h36;(repeat (first | go_big_skip | go_big_want | go_big_move | go_big_op | go_step | go_upon | go_back));exact ⟨⟨_,rfl,HA6.out,g6,HT6.out,HC6.out.clo,fun e=>by subst e;exact HC6.out.shut⟩,by rw [mW_eq HT6.out rfl,HMES.out];have:=HC6.out.count;rename_i chh _ _ _ _ _ _;cases ch <;> simp [boolN] at this ⊢ <;> omega⟩
      | false =>
       have hall:∀ a c,a < k -> c < k -> (g a c = true ↔ ReachP (edgeB T.ways ks) a c):=fun a c h1 h2=>hclo.all HE.out (hsh rfl) h1 h2
       have HALL:=Lib.hid hall;have HC5:Hid (CN5 w3 k (outF T R i 0 0) 0 (.slice none 0 0) w3):=Lib.hid ⟨fun _=>0,Aft.refl _,BTab.nil _ _ _ _ _⟩;clear hall hclo hsh hmes HC3;(repeat (first | go_big_skip | go_big_want | go_big_move | go_big_op | go_step | go_upon | go_back));clear k0;go_loopw [15,16] (fun v i5 w5=>∃ k3:Nat,i5 = .int .i64 k3 /\ k3 <= k /\ CN5 w3 k (outF T R i k3 0) k3 v w5) (fun _ i5 _=>k - (intOf i5).toNat)
       case atStart=>exact ⟨0,rfl,by omega,HC5.out⟩
       case round =>
        rename World=>w5
        obtain ⟨k3,rfl,hk3,B2,ha5,ht5⟩:=hrel;have HA5:=Lib.hid ha5;have HT5:=Lib.hid ht5;have hBw:=HB.out.aft (HAW.out.trans ha5);have k0:w5.cell? ⟨w.heap.size,0,none⟩ = some (.int .i64 k):=hBw.cell 0;have hsz:=ha5.size;clear ha5 ht5 hBw HC5;by_cases hkl:k3 < k
        ·have hdec:decide (k3 < k) = true:=decide_eq_true hkl;go_upto_region 33 with (first | (at_make;refine wpList_make_bools rfl _ _ rfl rfl rfl (by omega) ?_;have HM:=Lib.hid (BRow.made w5 k);have HAM:=Lib.hid (Aft.alloc w5 (.cells (madeCells #[.bool false] k) 4));generalize w5.alloc (.cells (madeCells #[.bool false] k) 4) = w7 at *) | (at_builtin;go_loud (refine wpList_app1 ty137 rfl _ _ rfl (Nat.le_trans hsz (HAM.out.then_alloc _).size) rfl (own_aft HT5.out.own (HAM.out.then_alloc _)) rfl (Blk.new _ _ _) rfl (fun u hu=>by rw [List.mem_singleton] at hu;subst hu;rfl) (by omega) (by decide) ?_;intro v' w6 hown6 hg6 hat6;have HBT:=Lib.hid (HT5.out.push (HAM.out.then_alloc _) (Nat.le_refl _) (HM.out.aft (Aft.alloc _ _)) hsz hown6 hg6);have HA6:=Lib.hid ((HA5.out.trans (HAM.out.then_alloc _)).grown hg6 (fun q e=>(HT5.out.own.lt q e).1));clear hown6 hg6 hat6)))
         generalize hB3:putB B2 k3 _ = B3 at HBT;obtain ⟨b2,cv2,rfl,-,-,-⟩:=HBT.out.slot (i:=k3) (by omega)
         have HC6:Hid (CN6 w3 k B3 (.slice (some ⟨b2,0,none⟩) (k3 + 1) cv2) k3 (outF T R i k3 0) w6):=Lib.hid ⟨HA6.out,HBT.out.congr fun a c h1 _=>by
          unfold addF outF;by_cases e:a = k3
          ·rw [if_pos e];subst e;simp
          ·rw [if_neg e]⟩
         clear hB3 HBT HA6 HM HAM HT5 HA5 k0 hsz;(repeat (first | go_big_skip | go_big_want | go_big_move | go_big_op | go_step | go_upon | go_back));go_loopw [17] (fun i6 w8=>∃ c:Nat,i6 = .int .i64 c /\ c <= k /\ CN6 w3 k B3 (.slice (some ⟨b2,0,none⟩) (k3 + 1) cv2) k3 (outF T R i k3 c) w8) (fun i6 _=>k - (intOf i6).toNat)
         case atStart=>exact ⟨0,rfl,by omega,HC6.out⟩
         case round =>
          rename World=>w7
          obtain ⟨c,rfl,hck,ha7,ht7⟩:=hrel;have HA7:=Lib.hid ha7;have HT7:=Lib.hid ht7;have HWA:=Lib.hid (HA.out.trans (HAW.out.trans ha7));have hBw:=HB.out.aft (HAW.out.trans ha7);have k0:w7.cell? ⟨w.heap.size,0,none⟩ = some (.int .i64 k):=hBw.cell 0;have K0:=Lib.hid k0;have K1:Hid (w7.cell? ⟨w.heap.size,1,none⟩ = some (.slice a1 T.ways.length c1)):=Lib.hid (hBw.cell 1);have K2:Hid (w7.cell? ⟨w.heap.size,2,none⟩ = some (.slice a2 T.words.length c2)):=Lib.hid (hBw.cell 2);have K3:Hid (w7.cell? ⟨w.heap.size,3,none⟩ = some (.slice a3 T.starts.length c3)):=Lib.hid (hBw.cell 3);have K4:Hid (w7.cell? ⟨w.heap.size,4,none⟩ = some (.slice a4 T.legs.length c4)):=Lib.hid (hBw.cell 4);clear ha7 ht7 hBw HC6;by_cases hcl:c < k
          ·have hdec:decide (c < k) = true:=decide_eq_true hcl;have hTW:=HTW.out.aft HA7.out;have S1:=Lib.hid (cells_slot hTW hkl);have S2:=Lib.hid (cells_slot HT7.out (show k3 < k3 + 1 by omega));have V1:=Lib.hid ((hTW.row k3 hkl).cell hcl);have hfr:=fun x=>HT7.out.far x
           obtain ⟨b3,hb3⟩:∃ b,B3 k3 = b:=⟨_,rfl⟩;obtain ⟨bk,hbk⟩:∃ b,B k3 = b:=⟨_,rfl⟩;have HB3:=Lib.hid hb3;rw [hb3] at S2;rw [hbk] at S1 V1;clear hTW hbk hfr;have j1:(0:Int) <= (k3:Int) /\ (k3:Int) < (k:Int):=by omega
           have j2:(0:Int) <= (k3:Int) /\ (k3:Int) < (k3:Int) + 1:=by omega
           have j3:(0:Int) <= (c:Int) /\ (c:Int) < (k:Int):=by omega
           generalize hes:endsAt T R T.legs[i] = es at *;have HES:=Lib.hid hes;clear hes
           have hlead:(leadsF T R i k3 c) = (g k3 c && hasB es c):=by
            rw [Bool.eq_iff_iff,leadsF_iff,Bool.and_eq_true,HALL.out k3 c hkl hcl];have hPP:T.places.toNat = k:=by have:=HP.out;omega
            constructor
            ·rintro ⟨h1,h2,h3,h4⟩;have e1:kindsAt T R (T.legs[i]'h1) = ks:=HKS.out;have e2:endsAt T R (T.legs[i]'h1) = es:=HES.out;rw [e1] at h3;rw [e2] at h4;exact ⟨h3,h4⟩
            ·rintro ⟨h3,h4⟩;have e1:kindsAt T R (T.legs[i]'HI.out) = ks:=HKS.out;have e2:endsAt T R (T.legs[i]'HI.out) = es:=HES.out;exact ⟨HI.out,by rw [hPP];exact hkl,by rw [e1];exact h3,by rw [e2];exact h4⟩
           have HLD:=Lib.hid hlead;clear hlead;have hc7:=(HT7.out.row k3 (by omega)).cell hcl;have hf7:∀ X,Aft w7 X -> X.frozen? ⟨b3,c,none⟩ = false:=fun X hX=>by have:=((HT7.out.aft hX).row k3 (by omega)).frozen c;rwa [hb3] at this
           have hl7:=(HT7.out.row k3 (by omega)).lt;rw [hb3] at hc7 hl7;clear hb3;(repeat (first | go_big_skip | go_big_want | go_big_move | go_big_op | go_step | go_upon | go_back));have hmx:Tryz.prog.follows .mixedOrders = true:=by kernel_rfl
           cases hg0:g k3 c with
           | false =>
            rw [hg0] at V1 HLD;refine wp_region_valsW hmx 20 154 rfl (by kernel_rfl) (by kernel_rfl) _ rfl rfl (by kernel_rfl) [.slice (some ⟨b2,0,none⟩) (k3 + 1) cv2,.int .i64 k3,.pointer (some ⟨b2,k3,none⟩),.slice (some ⟨b3,0,none⟩) k k,.int .i64 c,.slice (some ⟨bv,0,none⟩) k cv,.int .i64 k3,.pointer (some ⟨bv,k3,none⟩),.slice (some ⟨bk,0,none⟩) k k,.int .i64 c,.pointer (some ⟨bk,c,none⟩),.bool false,.bool false,undef,undef,undef,undef,undef,.bool false,.pointer (some ⟨b3,c,none⟩)] rfl (fun X=>Aft w7 X) (Aft.drew _) ?step ?fin
            case step =>
             intro i' o' v ho hv
             match i',ho,hv with
             | 0,ho,hv =>
              cases ho;cases hv;refine .inl ⟨rfl,fun a X hk hX K hK=>?_⟩;have e_15:a.eval (.tmp 15) = .slice (some ⟨b2,0,none⟩) (k3 + 1) cv2:=(hk.same 15 (by decide)).trans rfl;exact op_val (by simp [go_sem,ev' e_15]) (hK _ hX)
             | 1,ho,hv =>
              cases ho;cases hv;refine .inl ⟨rfl,fun a X hk hX K hK=>?_⟩;have e_16:a.eval (.tmp 16) = .int .i64 k3:=(hk.same 16 (by decide)).trans rfl;exact op_val (by simp [go_sem,ev' e_16]) (hK _ hX)
             | 2,ho,hv =>
              cases ho;cases hv;refine .inl ⟨rfl,fun a X hk hX K hK=>?_⟩;have e_133:a.eval (.tmp 133) = .slice (some ⟨b2,0,none⟩) (k3 + 1) cv2:=hk.at_ 0 _ 133 _ rfl (by decide) _ rfl rfl rfl;have e_134:a.eval (.tmp 134) = .int .i64 k3:=hk.at_ 1 _ 134 _ rfl (by decide) _ rfl rfl rfl;exact op_val (by simp [go_sem,ev' e_133,ev' e_134,j2]) (hK _ hX)
             | 3,ho,hv =>
              cases ho;cases hv;refine .inl ⟨rfl,fun a X hk hX K hK=>?_⟩;have e_135:a.eval (.tmp 135) = .pointer (some ⟨b2,k3,none⟩):=hk.at_ 2 _ 135 _ rfl (by decide) _ rfl rfl rfl;have hc:=cells_aft hX S2.out;exact op_val (by simp [go_sem,ev' e_135,hc]) (hK _ hX)
             | 4,ho,hv =>
              cases ho;cases hv;refine .inl ⟨rfl,fun a X hk hX K hK=>?_⟩;have e_17:a.eval (.tmp 17) = .int .i64 c:=(hk.same 17 (by decide)).trans rfl;exact op_val (by simp [go_sem,ev' e_17]) (hK _ hX)
             | 5,ho,hv =>
              cases ho;cases hv;refine .inl ⟨rfl,fun a X hk hX K hK=>?_⟩;have e_7:a.eval (.tmp 7) = .slice (some ⟨bv,0,none⟩) k cv:=(hk.same 7 (by decide)).trans rfl;exact op_val (by simp [go_sem,ev' e_7]) (hK _ hX)
             | 6,ho,hv =>
              cases ho;cases hv;refine .inl ⟨rfl,fun a X hk hX K hK=>?_⟩;have e_16:a.eval (.tmp 16) = .int .i64 k3:=(hk.same 16 (by decide)).trans rfl;exact op_val (by simp [go_sem,ev' e_16]) (hK _ hX)
             | 7,ho,hv =>
              cases ho;cases hv;refine .inl ⟨rfl,fun a X hk hX K hK=>?_⟩;have e_138:a.eval (.tmp 138) = .slice (some ⟨bv,0,none⟩) k cv:=hk.at_ 5 _ 138 _ rfl (by decide) _ rfl rfl rfl;have e_139:a.eval (.tmp 139) = .int .i64 k3:=hk.at_ 6 _ 139 _ rfl (by decide) _ rfl rfl rfl;exact op_val (by simp [go_sem,ev' e_138,ev' e_139,j1]) (hK _ hX)
             | 8,ho,hv =>
              cases ho;cases hv;refine .inl ⟨rfl,fun a X hk hX K hK=>?_⟩;have e_140:a.eval (.tmp 140) = .pointer (some ⟨bv,k3,none⟩):=hk.at_ 7 _ 140 _ rfl (by decide) _ rfl rfl rfl;have hc:=cells_aft hX S1.out;exact op_val (by simp [go_sem,ev' e_140,hc]) (hK _ hX)
             | 9,ho,hv =>
              cases ho;cases hv;refine .inl ⟨rfl,fun a X hk hX K hK=>?_⟩;have e_17:a.eval (.tmp 17) = .int .i64 c:=(hk.same 17 (by decide)).trans rfl;exact op_val (by simp [go_sem,ev' e_17]) (hK _ hX)
             | 10,ho,hv =>
              cases ho;cases hv;refine .inl ⟨rfl,fun a X hk hX K hK=>?_⟩;have e_141:a.eval (.tmp 141) = .slice (some ⟨bk,0,none⟩) k k:=hk.at_ 8 _ 141 _ rfl (by decide) _ rfl rfl rfl;have e_142:a.eval (.tmp 142) = .int .i64 c:=hk.at_ 9 _ 142 _ rfl (by decide) _ rfl rfl rfl;exact op_val (by simp [go_sem,ev' e_141,ev' e_142,j3]) (hK _ hX)
             | 11,ho,hv =>
              cases ho;cases hv;refine .inl ⟨rfl,fun a X hk hX K hK=>?_⟩;have e_143:a.eval (.tmp 143) = .pointer (some ⟨bk,c,none⟩):=hk.at_ 10 _ 143 _ rfl (by decide) _ rfl rfl rfl;have hc:=cells_aft hX V1.out;exact op_val (by simp [go_sem,ev' e_143,hc]) (hK _ hX)
             | 12,ho,hv =>
              cases ho;cases hv;refine .inl ⟨rfl,fun a X hk hX K hK=>?_⟩;have e_144:a.eval (.tmp 144) = .bool false:=hk.at_ 11 _ 144 _ rfl (by decide) _ rfl rfl rfl;exact op_val (by simp [go_sem,ev' e_144]) (hK _ hX)
             | 13,ho,hv | 14,ho,hv | 15,ho,hv | 16,ho,hv | 17,ho,hv =>
              cases ho;cases hv;exact .inr ⟨rfl,rfl⟩
             | 18,ho,hv =>
              cases ho;cases hv;refine .inl ⟨rfl,fun a X hk hX K hK=>?_⟩;have e_145:a.eval (.tmp 145) = .bool false:=hk.at_ 12 _ 145 _ rfl (by decide) _ rfl rfl rfl;have e_150:a.eval (.tmp 150) = undef:=hk.at_ 17 _ 150 _ rfl (by decide) _ rfl rfl rfl;exact op_val (by simp [go_sem,ev' e_145,ev' e_150]) (hK _ hX)
             | 19,ho,hv =>
              cases ho;cases hv;refine .inl ⟨rfl,fun a X hk hX K hK=>?_⟩;have e_136:a.eval (.tmp 136) = .slice (some ⟨b3,0,none⟩) k k:=hk.at_ 3 _ 136 _ rfl (by decide) _ rfl rfl rfl;have e_137:a.eval (.tmp 137) = .int .i64 c:=hk.at_ 4 _ 137 _ rfl (by decide) _ rfl rfl rfl;exact op_val (by simp [go_sem,ev' e_136,ev' e_137,j3]) (hK _ hX)
             | _ + 20,_,hv=>cases hv
            case fin =>
             intro X hX K hK;simp only [List.zip_cons_cons,List.zip_nil_right,putAll,Act.put,List.setIfInBounds_toArray,List.set_cons_succ,List.set_cons_zero] at hK ⊢;have g1:=cells_aft hX hc7;have g2:=hf7 X hX;have g3:=Nat.lt_of_lt_of_le hl7 hX.size;refine op_store_bool 152 151 rfl rfl rfl g1 g2 g3 (hK undef _ ?_);have HXA:=Lib.hid hX;have HTF:=Lib.hid (HT7.out.aft hX);clear hX hK hc7 hf7 hl7;clear g1 g2 g3;(repeat (first | go_big_skip | go_big_want | go_big_move | go_big_op | go_step | go_upon | go_back));exact ⟨⟨c + 1,by go_num,by omega,out_set HA7.out HXA.out HTF.out (by omega) hcl HB3.out HLD.out.symm⟩,by simp [intOf];omega⟩
           | true =>
            rw [hg0] at V1 HLD;rw [Bool.true_and] at HLD;refine wp_region_valsW hmx 20 154 rfl (by kernel_rfl) (by kernel_rfl) _ rfl rfl (by kernel_rfl) [.slice (some ⟨b2,0,none⟩) (k3 + 1) cv2,.int .i64 k3,.pointer (some ⟨b2,k3,none⟩),.slice (some ⟨b3,0,none⟩) k k,.int .i64 c,.slice (some ⟨bv,0,none⟩) k cv,.int .i64 k3,.pointer (some ⟨bv,k3,none⟩),.slice (some ⟨bk,0,none⟩) k k,.int .i64 c,.pointer (some ⟨bk,c,none⟩),.bool true,.bool true,.agg #[.int .i64 k,.slice a1 T.ways.length c1,.slice a2 T.words.length c2,.slice a3 T.starts.length c3,.slice a4 T.legs.length c4],.slice AR R.length cR,.int .i64 i,.int .i64 c,.bool (hasB es c),.bool (hasB es c),.pointer (some ⟨b3,c,none⟩)] rfl (fun X=>Aft w7 X) (Aft.drew _) ?step ?fin
            case step =>
             intro i' o' v ho hv
             match i',ho,hv with
             | 0,ho,hv =>
              cases ho;cases hv;refine .inl ⟨rfl,fun a X hk hX K hK=>?_⟩;have e_15:a.eval (.tmp 15) = .slice (some ⟨b2,0,none⟩) (k3 + 1) cv2:=(hk.same 15 (by decide)).trans rfl;exact op_val (by simp [go_sem,ev' e_15]) (hK _ hX)
             | 1,ho,hv =>
              cases ho;cases hv;refine .inl ⟨rfl,fun a X hk hX K hK=>?_⟩;have e_16:a.eval (.tmp 16) = .int .i64 k3:=(hk.same 16 (by decide)).trans rfl;exact op_val (by simp [go_sem,ev' e_16]) (hK _ hX)
             | 2,ho,hv =>
              cases ho;cases hv;refine .inl ⟨rfl,fun a X hk hX K hK=>?_⟩;have e_133:a.eval (.tmp 133) = .slice (some ⟨b2,0,none⟩) (k3 + 1) cv2:=hk.at_ 0 _ 133 _ rfl (by decide) _ rfl rfl rfl;have e_134:a.eval (.tmp 134) = .int .i64 k3:=hk.at_ 1 _ 134 _ rfl (by decide) _ rfl rfl rfl;exact op_val (by simp [go_sem,ev' e_133,ev' e_134,j2]) (hK _ hX)
             | 3,ho,hv =>
              cases ho;cases hv;refine .inl ⟨rfl,fun a X hk hX K hK=>?_⟩;have e_135:a.eval (.tmp 135) = .pointer (some ⟨b2,k3,none⟩):=hk.at_ 2 _ 135 _ rfl (by decide) _ rfl rfl rfl;have hc:=cells_aft hX S2.out;exact op_val (by simp [go_sem,ev' e_135,hc]) (hK _ hX)
             | 4,ho,hv =>
              cases ho;cases hv;refine .inl ⟨rfl,fun a X hk hX K hK=>?_⟩;have e_17:a.eval (.tmp 17) = .int .i64 c:=(hk.same 17 (by decide)).trans rfl;exact op_val (by simp [go_sem,ev' e_17]) (hK _ hX)
             | 5,ho,hv =>
              cases ho;cases hv;refine .inl ⟨rfl,fun a X hk hX K hK=>?_⟩;have e_7:a.eval (.tmp 7) = .slice (some ⟨bv,0,none⟩) k cv:=(hk.same 7 (by decide)).trans rfl;exact op_val (by simp [go_sem,ev' e_7]) (hK _ hX)
             | 6,ho,hv =>
              cases ho;cases hv;refine .inl ⟨rfl,fun a X hk hX K hK=>?_⟩;have e_16:a.eval (.tmp 16) = .int .i64 k3:=(hk.same 16 (by decide)).trans rfl;exact op_val (by simp [go_sem,ev' e_16]) (hK _ hX)
             | 7,ho,hv =>
              cases ho;cases hv;refine .inl ⟨rfl,fun a X hk hX K hK=>?_⟩;have e_138:a.eval (.tmp 138) = .slice (some ⟨bv,0,none⟩) k cv:=hk.at_ 5 _ 138 _ rfl (by decide) _ rfl rfl rfl;have e_139:a.eval (.tmp 139) = .int .i64 k3:=hk.at_ 6 _ 139 _ rfl (by decide) _ rfl rfl rfl;exact op_val (by simp [go_sem,ev' e_138,ev' e_139,j1]) (hK _ hX)
             | 8,ho,hv =>
              cases ho;cases hv;refine .inl ⟨rfl,fun a X hk hX K hK=>?_⟩;have e_140:a.eval (.tmp 140) = .pointer (some ⟨bv,k3,none⟩):=hk.at_ 7 _ 140 _ rfl (by decide) _ rfl rfl rfl;have hc:=cells_aft hX S1.out;exact op_val (by simp [go_sem,ev' e_140,hc]) (hK _ hX)
             | 9,ho,hv =>
              cases ho;cases hv;refine .inl ⟨rfl,fun a X hk hX K hK=>?_⟩;have e_17:a.eval (.tmp 17) = .int .i64 c:=(hk.same 17 (by decide)).trans rfl;exact op_val (by simp [go_sem,ev' e_17]) (hK _ hX)
             | 10,ho,hv =>
              cases ho;cases hv;refine .inl ⟨rfl,fun a X hk hX K hK=>?_⟩;have e_141:a.eval (.tmp 141) = .slice (some ⟨bk,0,none⟩) k k:=hk.at_ 8 _ 141 _ rfl (by decide) _ rfl rfl rfl;have e_142:a.eval (.tmp 142) = .int .i64 c:=hk.at_ 9 _ 142 _ rfl (by decide) _ rfl rfl rfl;exact op_val (by simp [go_sem,ev' e_141,ev' e_142,j3]) (hK _ hX)
             | 11,ho,hv =>
              cases ho;cases hv;refine .inl ⟨rfl,fun a X hk hX K hK=>?_⟩;have e_143:a.eval (.tmp 143) = .pointer (some ⟨bk,c,none⟩):=hk.at_ 10 _ 143 _ rfl (by decide) _ rfl rfl rfl;have hc:=cells_aft hX V1.out;exact op_val (by simp [go_sem,ev' e_143,hc]) (hK _ hX)
             | 12,ho,hv =>
              cases ho;cases hv;refine .inl ⟨rfl,fun a X hk hX K hK=>?_⟩;have e_144:a.eval (.tmp 144) = .bool true:=hk.at_ 11 _ 144 _ rfl (by decide) _ rfl rfl rfl;exact op_val (by simp [go_sem,ev' e_144]) (hK _ hX)
             | 13,ho,hv =>
              cases ho;cases hv;refine .inl ⟨rfl,fun a X hk hX K hK=>?_⟩;have e_3:a.eval (.tmp 3) = .pointer (some ⟨w.heap.size,0,none⟩):=(hk.same 3 (by decide)).trans rfl;have h0:=cells_aft hX K0.out;have h1:=cells_aft hX K1.out;have h2:=cells_aft hX K2.out;have h3:=cells_aft hX K3.out;have h4:=cells_aft hX K4.out;exact op_val (by simp [go_sem,ev' e_3,h0,h1,h2,h3,h4]) (hK _ hX)
             | 14,ho,hv =>
              cases ho;cases hv;refine .inl ⟨rfl,fun a X hk hX K hK=>?_⟩;have e_1:a.eval (.tmp 1) = .slice AR R.length cR:=(hk.same 1 (by decide)).trans rfl;exact op_val (by simp [go_sem,ev' e_1]) (hK _ hX)
             | 15,ho,hv =>
              cases ho;cases hv;refine .inl ⟨rfl,fun a X hk hX K hK=>?_⟩;have e_2:a.eval (.tmp 2) = .int .i64 i:=(hk.same 2 (by decide)).trans rfl;exact op_val (by simp [go_sem,ev' e_2]) (hK _ hX)
             | 16,ho,hv =>
              cases ho;cases hv;refine .inl ⟨rfl,fun a X hk hX K hK=>?_⟩;have e_17:a.eval (.tmp 17) = .int .i64 c:=(hk.same 17 (by decide)).trans rfl;exact op_val (by simp [go_sem,ev' e_17]) (hK _ hX)
             | 17,ho,hv =>
              cases ho;cases hv;refine .inl ⟨rfl,fun a X hk hX K hK=>?_⟩;have e_146:a.eval (.tmp 146) = .agg #[.int .i64 k,.slice a1 T.ways.length c1,.slice a2 T.words.length c2,.slice a3 T.starts.length c3,.slice a4 T.legs.length c4]:=hk.at_ 13 _ 146 _ rfl (by decide) _ rfl rfl rfl;have e_147:a.eval (.tmp 147) = .slice AR R.length cR:=hk.at_ 14 _ 147 _ rfl (by decide) _ rfl rfl rfl;have e_148:a.eval (.tmp 148) = .int .i64 i:=hk.at_ 15 _ 148 _ rfl (by decide) _ rfl rfl rfl;have e_149:a.eval (.tmp 149) = .int .i64 c:=hk.at_ 16 _ 149 _ rfl (by decide) _ rfl rfl rfl;refine op_call4 Tryz.func164 (by kernel_rfl) (by kernel_rfl) _ _ _ _ rfl e_146 e_147 e_148 e_149 (HEN.out X (HWA.out.trans hX) c) ?_;rintro e w' ⟨rfl,ha7⟩;exact ⟨_,rfl,hK _ (hX.trans ha7)⟩
             | 18,ho,hv =>
              cases ho;cases hv;refine .inl ⟨rfl,fun a X hk hX K hK=>?_⟩;have e_145:a.eval (.tmp 145) = .bool true:=hk.at_ 12 _ 145 _ rfl (by decide) _ rfl rfl rfl;have e_150:a.eval (.tmp 150) = .bool (hasB es c):=hk.at_ 17 _ 150 _ rfl (by decide) _ rfl rfl rfl;exact op_val (by simp [go_sem,ev' e_145,ev' e_150]) (hK _ hX)
             | 19,ho,hv =>
              cases ho;cases hv;refine .inl ⟨rfl,fun a X hk hX K hK=>?_⟩;have e_136:a.eval (.tmp 136) = .slice (some ⟨b3,0,none⟩) k k:=hk.at_ 3 _ 136 _ rfl (by decide) _ rfl rfl rfl;have e_137:a.eval (.tmp 137) = .int .i64 c:=hk.at_ 4 _ 137 _ rfl (by decide) _ rfl rfl rfl;exact op_val (by simp [go_sem,ev' e_136,ev' e_137,j3]) (hK _ hX)
             | _ + 20,_,hv=>cases hv
            case fin =>
             intro X hX K hK;simp only [List.zip_cons_cons,List.zip_nil_right,putAll,Act.put,List.setIfInBounds_toArray,List.set_cons_succ,List.set_cons_zero] at hK ⊢;have g1:=cells_aft hX hc7;have g2:=hf7 X hX;have g3:=Nat.lt_of_lt_of_le hl7 hX.size;refine op_store_bool 152 151 rfl rfl rfl g1 g2 g3 (hK undef _ ?_);have HXA:=Lib.hid hX;have HTF:=Lib.hid (HT7.out.aft hX);clear hX hK hc7 hf7 hl7;clear g1 g2 g3;(repeat (first | go_big_skip | go_big_want | go_big_move | go_big_op | go_step | go_upon | go_back));exact ⟨⟨c + 1,by go_num,by omega,out_set HA7.out HXA.out HTF.out (by omega) hcl HB3.out HLD.out.symm⟩,by simp [intOf];omega⟩
          ·have hdec:decide (c < k) = false:=decide_eq_false hcl;obtain rfl:c = k:=by omega
           (repeat (first | go_big_skip | go_big_want | go_big_move | go_big_op | go_step | go_upon | go_back));exact ⟨⟨k3 + 1,by go_num,by omega,B3,HA7.out,HT7.out.congr fun a c' h1 h2=>by unfold outF;congr 1;simp only [decide_eq_decide];omega⟩,by simp [intOf];omega⟩
        ·have hdec:decide (k3 < k) = false:=decide_eq_false hkl;obtain rfl:k3 = k:=by omega
         (repeat (first | go_big_skip | go_big_want | go_big_move | go_big_op | go_step | go_upon | go_back));go_ret;exact ⟨_,rfl,HA.out.trans (HAW.out.trans HA5.out),(HT5.out.tab (by omega)).congr fun a c h1 h2=>by unfold outF;rw [decide_eq_true (by omega),Bool.true_and]⟩
end Go.Proofs
end
