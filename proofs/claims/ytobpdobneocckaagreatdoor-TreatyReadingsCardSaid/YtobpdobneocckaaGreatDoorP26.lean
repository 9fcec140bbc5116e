/- Own texts, merged: Rxe. -/
import Derived.Test.YtobpdobneocckaaGreatDoorP25
section
/- Walks: the reference's Ends. -/
namespace Go.Proofs
open Go.RowKit
attribute [local go_sem] Oper.semAt_some
set_option maxRecDepth 100000 in
set_option maxHeartbeats 16000000 in
theorem endsRef_good (w:World) (T:Treaty) (a1 a2 a3 a4:Option Addr) (c1 c2 c3 c4:Nat) (hT:TRep w T a1 a2 a3 a4) (hz:checkE T = 0) (hc4:T.legs.length <= c4):Calls Tryz.prog 18 #[.agg #[.int .i64 T.places,.slice a1 T.ways.length c1,.slice a2 T.words.length c2,.slice a3 T.starts.length c3,.slice a4 T.legs.length c4]] w (EndsU w T):=by
 have ok:=checkE_ok hz;have HCK:=Lib.hid (fun (y:World) (hy:Aft w y)=>checkRef_any y T a1 a2 a3 a4 c1 c2 c3 c4 (hT.aft hy));have HEV:=Lib.hid (fun (y:World) (hy:Aft w y)=>everyRef_any y T a1 a2 a3 a4 c1 c2 c3 c4 (hT.aft hy) ok);have HT:=Lib.hid hT;have OK:=Lib.hid ok;have HC4:=Lib.hid hc4;have hp2:=(readings_many ok).1;have hn10:=ok.nlegs;obtain ⟨P,hP⟩:=Int.eq_ofNat_of_zero_le (show 0 <= T.places from by have:=ok.p1;omega);have hP1:1 <= P:=by have:=ok.p1;omega
 have hP2:P <= 12:=by have:=ok.p2;omega
 have HPN:Hid (T.places.toNat = P):=Lib.hid (by rw [hP];rfl);have HP:=Lib.hid hP;rw [hz] at HCK
 have HE7:Hid ((∃ leg,leg <= T.legs.length /\ endRow T leg = []) -> ∀ W,Aft w W -> EndsU w T (.returned (.tuple #[.slice none 0 0,.int .i64 7])) W):=Lib.hid fun ⟨leg,h1,h2⟩ W ha=>by
  refine endsU_err (E:=7) ?_ (by decide) rfl ha;unfold endE;rw [if_pos hz,if_neg (fun h=>endsAllB_iff.1 h leg h1 h2)]
 have HE0:Hid ((∀ leg,leg <= T.legs.length -> endRow T leg ≠ []) -> ∀ W v b,Aft w W -> OwnLists W b v (endRows T (T.legs.length + 1)) -> EndsU w T (.returned (.tuple #[v,.int .i64 0])) W):=Lib.hid fun h W v b ha ho=>by
  refine endsU_own ok ?_ rfl ho ha;unfold endE;rw [if_pos hz,if_pos (endsAllB_iff.2 h)]
 have HALL:Hid (∀ leg b,thereK T (readingsL T).length leg b = thereK T (prodN (lensOf T)) leg b):=Lib.hid fun leg b=>by rw [readingsL_len]
 have HSUC:Hid (∀ k,k < (readingsL T).length -> ∀ leg b,thereK T (k + 1) leg b = (thereK T k leg b || thereR T ((readingsL T).getD k []) leg b)):=Lib.hid fun k hk leg b=>by
  rw [readingsL_len] at hk;rw [thereK_succ T hk]
  congr 2
  have hk':k < (readingsL T).length:=by rw [readingsL_len];exact hk
  rw [List.getD_eq_getElem?_getD,List.getElem?_eq_getElem hk',readingsL_get];rfl
 have HRO:Hid (∀ k,k < (readingsL T).length -> ReadOk T ((readingsL T).getD k [])):=Lib.hid fun k hk=>(mem_readings ok).1 (by rw [List.getD_eq_getElem?_getD,List.getElem?_eq_getElem hk];exact List.getElem_mem hk)
 obtain ⟨n0,hn0⟩:∃ n0,(readingsL T).length = n0:=⟨_,rfl⟩;have HN0:=Lib.hid hn0;rw [hn0] at hp2;obtain ⟨N,hN⟩:∃ N,T.legs.length + 1 = N:=⟨_,rfl⟩;have HN:=Lib.hid hN;clear hT ok hz hc4 hn0 hP hN;go_enter Tryz.func18,Tryz.ntmps18;go_upto_region 1 with fail
 have hb:=Blk.new w 35 #[.int .i64 T.places,.slice a1 T.ways.length c1,.slice a2 T.words.length c2,.slice a3 T.starts.length c3,.slice a4 T.legs.length c4];have ha:=Aft.alloc w (.cells #[.int .i64 T.places,.slice a1 T.ways.length c1,.slice a2 T.words.length c2,.slice a3 T.starts.length c3,.slice a4 T.legs.length c4] 35);generalize w.alloc (.cells #[.int .i64 T.places,.slice a1 T.ways.length c1,.slice a2 T.words.length c2,.slice a3 T.starts.length c3,.slice a4 T.legs.length c4] 35) = X at *;generalize w.heap.size = B0 at *;have HB:=Lib.hid hb;have HA:=Lib.hid ha;obtain ⟨k0,k1,k2',k3,k4⟩:=boxC hb;clear hb ha;(repeat (first | go_big_skip | go_big_want | go_big_move | go_big_op | go_step | go_upon | go_back));go_at_call 53;refine (HCK.out X HA.out).mono ?_;rintro e Y0 ⟨rfl,haY⟩;dsimp only;have HAY0:=Lib.hid (HA.out.trans haY);have HB:=Lib.hid (HB.out.aft haY);clear haY k0 k1 k2' k3 k4 HCK;have hM0:CN1 Y0 P 0 (.slice none 0 0) Y0:=⟨fun _=>0,Aft.refl _,BTab.nil _ _ _ _ _⟩;have HM0:=Lib.hid hM0;clear hM0;(repeat (first | go_big_skip | go_big_want | go_big_move | go_big_op | go_step | go_upon | go_back));go_loopw [5,6] (fun v i wr=>∃ k:Nat,i = .int .i64 k /\ k <= T.legs.length + 1 /\ CN1 Y0 P k v wr) (fun _ i _=>T.legs.length + 1 - (intOf i).toNat)
 case atStart=>exact ⟨0,rfl,by omega,HM0.out⟩
 case round =>
  obtain ⟨k,rfl,hk,B,haX,ht⟩:=hrel;have HAX:=Lib.hid haX;have HTB:=Lib.hid ht;obtain ⟨k0,k1,k2',k3,k4⟩:=boxC (HB.out.aft haX);have hsz:=haX.size;clear haX ht HM0;by_cases hkn:k <= T.legs.length
  ·have hdec:decide ((k:Int) <= (T.legs.length:Int)) = true:=by simp;omega
   have hdec2:decide (k <= T.legs.length) = true:=decide_eq_true hkn;rw [HP.out] at k0;go_upto_region 7 with (first | (at_make;refine wpList_make_bools rfl _ _ rfl rfl rfl (by omega) ?_;have HM:=Lib.hid (BRow.made wr P);have HAM:=Lib.hid (Aft.alloc wr (.cells (madeCells #[.bool false] P) 4));generalize wr.alloc (.cells (madeCells #[.bool false] P) 4) = w5 at *) | (at_builtin;go_loud (refine wpList_app1 ty137 rfl _ _ rfl (Nat.le_trans hsz (HAM.out.then_alloc _).size) rfl (own_aft HTB.out.own (HAM.out.then_alloc _)) rfl (Blk.new _ _ _) rfl (fun u hu=>by rw [List.mem_singleton] at hu;subst hu;rfl) (by omega) (by decide) ?_;intro v' w6 hown6 hg6 hat6;have HBT:=Lib.hid (HTB.out.push (HAM.out.then_alloc _) (Nat.le_refl _) (HM.out.aft (Aft.alloc _ _)) hsz hown6 hg6);have HA6:=Lib.hid ((HAX.out.trans (HAM.out.then_alloc _)).grown hg6 (fun q e=>(HTB.out.own.lt q e).1));clear hown6 hg6 hat6)))
   (repeat (first | go_big_skip | go_big_want | go_big_move | go_big_op | go_step | go_upon | go_back));have hcn:CN1 Y0 P (k + 1) v' w6:=⟨_,HA6.out,HBT.out.congr fun a c _ _=>by unfold addF;split <;> rfl⟩;exact ⟨⟨k + 1,by go_num,by omega,hcn⟩,by simp [intOf];omega⟩
  ·have hdec:decide ((k:Int) <= (T.legs.length:Int)) = false:=by simp;omega
   have hdec2:decide (k <= T.legs.length) = false:=decide_eq_false hkn;have hNk:N = k:=by have:=HN.out;omega
   subst hNk;have hN0:0 < N:=by have:=HN.out;omega
   obtain ⟨bv,cv,rfl,hcv,hbv,hslots⟩:=HTB.out.slot hN0;have HFAR:Hid (∀ i,i < N -> B i < wr.heap.size):=Lib.hid fun i hi=>(HTB.out.row i hi).lt
   clear hslots;(repeat (first | go_big_skip | go_big_want | go_big_move | go_big_op | go_step | go_upon | go_back));go_at_call 54;refine (HEV.out wr (HAY0.out.trans HAX.out)).mono ?_;rintro e Y ⟨vL,rfl,haY,vs,hls⟩;obtain ⟨lA,lc,rfl⟩:=own_slice2 hls.own;dsimp only;have HEW:Hid (EW T Y0 Y Y0.heap.size wr.heap.size (.slice (some ⟨bv,0,none⟩) N cv) B N P (thereK T 0) (.slice lA (readingsL T).length lc) vs):=Lib.hid ⟨HAX.out.trans haY,(HTB.out.aft haY).congr (fun a c _ _=>(thereK_zero T a c).symm),HFAR.out,hls⟩;rw [HN0.out] at HEW ⊢;clear haY hls k0 k1 k2' k3 k4 HTB HEV HFAR;generalize hhi:wr.heap.size = hi at *;clear hhi HAX;(repeat (first | go_big_skip | go_big_want | go_big_move | go_big_op | go_step | go_upon | go_back));go_loopw [8] (fun i wr=>∃ k:Nat,i = .int .i64 k /\ k <= n0 /\ EW T Y0 wr Y0.heap.size hi (.slice (some ⟨bv,0,none⟩) N cv) B N P (thereK T k) (.slice lA n0 lc) vs) (fun i _=>n0 - (intOf i).toNat)
   case atStart=>exact ⟨0,rfl,by omega,HEW.out⟩
   case round =>
    obtain ⟨k,rfl,hk,hew⟩:=hrel;have HE:=Lib.hid hew;clear hew HEW;by_cases hkn:k < n0
    ·have hdecn:decide (k < n0) = true:=decide_eq_true hkn;have HE0':=Lib.hid (HE.out.congr fun a c _ _=>midE_start T k a c);clear HE;(repeat (first | go_big_skip | go_big_want | go_big_move | go_big_op | go_step | go_upon | go_back));go_loopw [9] (fun i wr=>∃ leg:Nat,i = .int .i64 leg /\ leg <= T.legs.length + 1 /\ EW T Y0 wr Y0.heap.size hi (.slice (some ⟨bv,0,none⟩) N cv) B N P (midE T k leg 0) (.slice lA n0 lc) vs) (fun i _=>T.legs.length + 1 - (intOf i).toNat)
     case atStart=>exact ⟨0,rfl,by omega,HE0'.out⟩
     case round =>
      obtain ⟨leg,rfl,hleg,hew⟩:=hrel;have HE:=Lib.hid hew;obtain ⟨k0,k1,k2',k3,k4⟩:=boxC (HB.out.aft hew.aft);clear hew HE0';by_cases hlg:leg <= T.legs.length
      ·have hdecl:decide ((leg:Int) <= (T.legs.length:Int)) = true:=by simp;omega
       have hdecl2:decide (leg <= T.legs.length) = true:=decide_eq_true hlg;(repeat (first | go_big_skip | go_big_want | go_big_move | go_big_op | go_step | go_upon | go_back));clear k0 k1 k2' k3 k4;go_loopw [10] (fun i wr=>∃ b:Nat,i = .int .i64 b /\ b <= P /\ EW T Y0 wr Y0.heap.size hi (.slice (some ⟨bv,0,none⟩) N cv) B N P (midE T k leg b) (.slice lA n0 lc) vs) (fun i _=>P - (intOf i).toNat)
       case atStart=>exact ⟨0,rfl,by omega,HE.out⟩
       case round =>
        obtain ⟨b,rfl,hb,hew⟩:=hrel;clear HE;have HE:=Lib.hid hew;obtain ⟨k0,k1,k2',k3,k4⟩:=boxC (HB.out.aft hew.aft);clear hew;by_cases hbp:b < P
        ·have hdecb:decide ((b:Int) < T.places) = true:=by rw [HP.out];simp;omega
         have hdecb2:decide (b < P) = true:=decide_eq_true hbp;(repeat (first | go_big_skip | go_big_want | go_big_move | go_big_op | go_step | go_upon | go_back));have HBW:=Lib.hid (HB.out.aft HE.out.aft);have hmx:Tryz.prog.follows .mixedOrders = true:=by kernel_rfl
         clear k0 k1 k2' k3 k4;refine wp_region_factsV hmx 137 rfl (by kernel_rfl) (FactD wr #[.int .i64 T.places,.slice a1 T.ways.length c1,.slice a2 T.words.length c2,.slice a3 T.starts.length c3,.slice a4 T.legs.length c4]) (WdD wr) ⟨Aft.drew _,fun h=>by cases h⟩ ?stepD ?finD
         case stepD =>
          intro i o ho done a W hH hd hp K hK;have hW:=hH.wd;have o1:a.eval (.tmp 1) = .pointer (some ⟨B0,0,none⟩):=hH.same (by decide);obtain ⟨j0,j1,j2,j3,j4⟩:=boxC (HBW.out.aft hW.1);have hsz:a.tmps.size = 137:=hH.size
          match i,ho,hd,hp,hK with
          | 0,ho,hd,hp,hK | 1,ho,hd,hp,hK =>
           cases ho;exact step_on rfl (op_value (by simp [go_sem,ev o1,j0,j1,j2,j3,j4]) (hK _ _ rfl (hW.plain (by decide) (by decide) hW.1 (fun s e=>by cases e;decide)) (fun j oj s hoj hs hj hu=>hu.plain (by decide) (by decide) (Aft.refl _))))
          | 2,ho,hd,hp,hK =>
           cases ho
           have h4:done 4 = false:=by
            cases h:done 4 with
            | false=>rfl
            | true=>have:=hH.closed 4 _ rfl h 2 (by decide);rw [hd] at this;cases this
           refine step_on rfl ?_
           have:=hK (.pointer (some ⟨W.heap.size,0,none⟩)) (W.alloc (.cells zeroT 35)) ⟨_,rfl,hW.1.size,by rw [show Go.upd done 2 4 = done 4 from rfl,h4];exact Blk.new _ _ _⟩ ⟨hW.1.then_alloc _,fun _ h3=>by
            obtain ⟨b3,e3,_,hb3⟩:=hH.fact 3 _ 12 rfl rfl h3;have hl:=hb3.lt;rw [Act.eval_put_same _ _ _ (by rw [hsz];decide),Act.eval_put (fun s hs e=>by cases hs;cases e),e3];intro e;injection e with e;injection e with e;injection e with e
            omega⟩ (fun j oj s hoj hs hj hu=>hu.plain (by decide) (by decide) (Aft.alloc _ _))
           unfold Oper.wp;simpa [go_sem,zeroT] using this
          | 3,ho,hd,hp,hK =>
           cases ho
           have h5:done 5 = false:=by
            cases h:done 5 with
            | false=>rfl
            | true=>have:=hH.closed 5 _ rfl h 3 (by decide);rw [hd] at this;cases this
           refine step_on rfl ?_
           have:=hK (.pointer (some ⟨W.heap.size,0,none⟩)) (W.alloc (.cells zeroT 35)) ⟨_,rfl,hW.1.size,by rw [show Go.upd done 3 5 = done 5 from rfl,h5];exact Blk.new _ _ _⟩ ⟨hW.1.then_alloc _,fun h2 _=>by
            obtain ⟨b2,e2,_,hb2⟩:=hH.fact 2 _ 11 rfl rfl h2;have hl:=hb2.lt;rw [Act.eval_put_same _ _ _ (by rw [hsz];decide),Act.eval_put (fun s hs e=>by cases hs;cases e),e2];intro e;injection e with e;injection e with e;injection e with e
            omega⟩ (fun j oj s hoj hs hj hu=>hu.plain (by decide) (by decide) (Aft.alloc _ _))
           unfold Oper.wp;simpa [go_sem,zeroT] using this
          | 4,ho,hd,hp,hK =>
           cases ho;refine step_on rfl ?_;have e:a.eval (.tmp 56) = .agg #[.int .i64 T.places,.slice a1 T.ways.length c1,.slice a2 T.words.length c2,.slice a3 T.starts.length c3,.slice a4 T.legs.length c4]:=hH.fact 0 _ 56 rfl rfl (hp 0 (by decide));obtain ⟨b,e2,hbb,hbl⟩:=hH.fact 2 _ 11 rfl rfl (hp 2 (by decide));rw [if_neg (by rw [hd];decide)] at hbl;have h2:=hp 2 (by decide);obtain ⟨h5,hg5⟩:=blk_five36 hbl (.int .i64 T.places) (.slice a1 T.ways.length c1) (.slice a2 T.words.length c2) (.slice a3 T.starts.length c3) (.slice a4 T.legs.length c4);have:=hK undef _ trivial (hW.plain (by decide) (by decide) (hW.1.grown hg5 (fun q e=>by cases e;exact hbb)) (fun s e=>by cases e)) (fun j oj s hoj hs hj hu=>FactD.stored4 hg5 hbb h5 e2 h2 hW (fun e=>by subst e;cases hoj;cases hs;rfl) (fun e=>by subst e;cases hoj;cases hs;rfl) hj hu);have hlt:=hbl.lt;have hf:∀ i,W.frozen? ⟨b,i,none⟩ = false:=fun i=>hbl.frozen i
           have i0:W.cell? ⟨b,0,none⟩ = some (.int .i64 0):=hbl.cell 0;have i1:W.cell? ⟨b,1,none⟩ = some (.slice none 0 0):=hbl.cell 1;have i2:W.cell? ⟨b,2,none⟩ = some (.slice none 0 0):=hbl.cell 2;have i3:W.cell? ⟨b,3,none⟩ = some (.slice none 0 0):=hbl.cell 3;have i4:W.cell? ⟨b,4,none⟩ = some (.slice none 0 0):=hbl.cell 4;unfold Oper.wp;simpa [go_sem,ev e,ev e2,hf,i0,i1,i2,i3,i4,hlt] using this
          | 5,ho,hd,hp,hK =>
           cases ho;refine step_on rfl ?_;have e:a.eval (.tmp 57) = .agg #[.int .i64 T.places,.slice a1 T.ways.length c1,.slice a2 T.words.length c2,.slice a3 T.starts.length c3,.slice a4 T.legs.length c4]:=hH.fact 1 _ 57 rfl rfl (hp 1 (by decide));obtain ⟨b,e2,hbb,hbl⟩:=hH.fact 3 _ 12 rfl rfl (hp 3 (by decide));rw [if_neg (by rw [hd];decide)] at hbl;have h2:=hp 3 (by decide);obtain ⟨h5,hg5⟩:=blk_five36 hbl (.int .i64 T.places) (.slice a1 T.ways.length c1) (.slice a2 T.words.length c2) (.slice a3 T.starts.length c3) (.slice a4 T.legs.length c4);have:=hK undef _ trivial (hW.plain (by decide) (by decide) (hW.1.grown hg5 (fun q e=>by cases e;exact hbb)) (fun s e=>by cases e)) (fun j oj s hoj hs hj hu=>FactD.stored5 hg5 hbb h5 e2 h2 hW (fun e=>by subst e;cases hoj;cases hs;rfl) (fun e=>by subst e;cases hoj;cases hs;rfl) hj hu);have hlt:=hbl.lt;have hf:∀ i,W.frozen? ⟨b,i,none⟩ = false:=fun i=>hbl.frozen i
           have i0:W.cell? ⟨b,0,none⟩ = some (.int .i64 0):=hbl.cell 0;have i1:W.cell? ⟨b,1,none⟩ = some (.slice none 0 0):=hbl.cell 1;have i2:W.cell? ⟨b,2,none⟩ = some (.slice none 0 0):=hbl.cell 2;have i3:W.cell? ⟨b,3,none⟩ = some (.slice none 0 0):=hbl.cell 3;have i4:W.cell? ⟨b,4,none⟩ = some (.slice none 0 0):=hbl.cell 4;unfold Oper.wp;simpa [go_sem,ev e,ev e2,hf,i0,i1,i2,i3,i4,hlt] using this
          | _ + 6,ho,_,_,_=>cases ho
         case finD =>
          intro done vals W hall hlen hf hw
          obtain ⟨v0,v1,v2,v3,v4,v5,rfl⟩:∃ v0 v1 v2 v3 v4 v5,vals = [v0,v1,v2,v3,v4,v5]:=by
           match vals,hlen with
           | [v0,v1,v2,v3,v4,v5],_=>exact ⟨_,_,_,_,_,_,rfl⟩
          obtain ⟨x2,e2,b2,rfl,hb2,hB2⟩:=hf 2 _ 11 rfl rfl;cases e2;obtain ⟨x3,e3,b3,rfl,hb3,hB3⟩:=hf 3 _ 12 rfl rfl;cases e3;rw [if_pos (hall 4 (by decide))] at hB2;rw [if_pos (hall 5 (by decide))] at hB3;have hne:b2 ≠ b3:=fun e=>hw.2 (hall 2 (by decide)) (hall 3 (by decide)) (by rw [e];simp [List.zip_cons_cons,putAll,Act.put,Act.eval])
          have haW:=hw.1;clear hf hw hall;simp only [List.zip_cons_cons,List.zip_nil_right,putAll,Act.put,List.setIfInBounds_toArray,List.set_cons_succ,List.set_cons_zero];have hS2:=hB2.lt;have hS3:=hB3.lt;obtain ⟨hLA,hrA⟩:=cutA_slice (T:=T) (a4:=a4) hlg;obtain ⟨hLZ,A2,hA2,hrZ⟩:=cutZ_slice (b:=b) HT.out.legs hlg HC4.out;have HRA:=Lib.hid hrA;have HRZ:=Lib.hid hrZ;have hlc:leg <= c4:=Nat.le_trans hlg HC4.out;clear hrA hrZ;(repeat (first | go_big_skip | go_big_want | go_big_move | go_big_op | go_step | go_upon | go_back));refine wp_region_valsD hmx 137 rfl (by kernel_rfl) (by kernel_rfl) [.pointer (some ⟨B0,4,none⟩),.slice a4 T.legs.length c4,.int .i64 leg,.slice a4 (cutA T leg).legs.length c4,.pointer (some ⟨B0,4,none⟩),.slice a4 T.legs.length c4,.int .i64 leg,.slice A2 (cutZ T leg b).legs.length (c4 - leg),.int .i64 b,.slice (some ⟨W.heap.size,0,none⟩) 1 1,.pointer (some ⟨b2,4,none⟩),undef,.pointer (some ⟨b3,4,none⟩),undef,.pointer (some ⟨b3,3,none⟩),undef] rfl (WdC wr b2 b3 W.heap.size (.int .i64 T.places) (.slice a1 T.ways.length c1) (.slice a2 T.words.length c2) (.slice a3 T.starts.length c3) (.slice a4 (cutA T leg).legs.length c4) (.slice (some ⟨W.heap.size,0,none⟩) 1 1) (.slice A2 (cutZ T leg b).legs.length (c4 - leg)) b) ⟨haW.then_drew,⟨_,hB2.drew,fun k=>by cases k⟩,⟨_,_,hB3.drew,⟨fun k=>(by cases k),fun k=>(by cases k)⟩⟩,fun _=>rfl,fun k=>by cases k⟩ ?stepE ?finE
          case stepE =>
           intro i' o v ho hv
           match i',ho,hv with
           | 0,ho,hv =>
            cases ho;cases hv;refine .inl ⟨rfl,fun done a X hk hX hd hp hcl K hK=>?_⟩;have e_1:a.eval (.tmp 1) = .pointer (some ⟨B0,0,none⟩):=(hk.same 1 (by decide)).trans rfl;exact op_val (by simp [go_sem,ev' e_1]) (hK _ (hX.plain (by decide) (by decide) (by decide) (by decide)))
           | 1,ho,hv =>
            cases ho;cases hv;refine .inl ⟨rfl,fun done a X hk hX hd hp hcl K hK=>?_⟩;have e_58:a.eval (.tmp 58) = .pointer (some ⟨B0,4,none⟩):=hk.at_ 0 _ 58 _ rfl (by decide) _ rfl rfl rfl;obtain ⟨j0,j1,j2,j3,j4⟩:=boxC (HBW.out.aft hX.aft);exact op_val (by simp [go_sem,ev' e_58,j4]) (hK _ (hX.plain (by decide) (by decide) (by decide) (by decide)))
           | 2,ho,hv =>
            cases ho;cases hv;refine .inl ⟨rfl,fun done a X hk hX hd hp hcl K hK=>?_⟩;have e_9:a.eval (.tmp 9) = .int .i64 leg:=(hk.same 9 (by decide)).trans rfl;exact op_val (by simp [go_sem,ev' e_9]) (hK _ (hX.plain (by decide) (by decide) (by decide) (by decide)))
           | 3,ho,hv =>
            cases ho;cases hv;refine .inl ⟨rfl,fun done a X hk hX hd hp hcl K hK=>?_⟩;have e_59:a.eval (.tmp 59) = .slice a4 T.legs.length c4:=hk.at_ 1 _ 59 _ rfl (by decide) _ rfl rfl rfl;have e_60:a.eval (.tmp 60) = .int .i64 leg:=hk.at_ 2 _ 60 _ rfl (by decide) _ rfl rfl rfl;exact op_val (by simp [go_sem,ev' e_59,ev' e_60,hLA,hlc]) (hK _ (hX.plain (by decide) (by decide) (by decide) (by decide)))
           | 4,ho,hv =>
            cases ho;cases hv;refine .inl ⟨rfl,fun done a X hk hX hd hp hcl K hK=>?_⟩;have e_1:a.eval (.tmp 1) = .pointer (some ⟨B0,0,none⟩):=(hk.same 1 (by decide)).trans rfl;exact op_val (by simp [go_sem,ev' e_1]) (hK _ (hX.plain (by decide) (by decide) (by decide) (by decide)))
           | 5,ho,hv =>
            cases ho;cases hv;refine .inl ⟨rfl,fun done a X hk hX hd hp hcl K hK=>?_⟩;have e_62:a.eval (.tmp 62) = .pointer (some ⟨B0,4,none⟩):=hk.at_ 4 _ 62 _ rfl (by decide) _ rfl rfl rfl;obtain ⟨j0,j1,j2,j3,j4⟩:=boxC (HBW.out.aft hX.aft);exact op_val (by simp [go_sem,ev' e_62,j4]) (hK _ (hX.plain (by decide) (by decide) (by decide) (by decide)))
           | 6,ho,hv =>
            cases ho;cases hv;refine .inl ⟨rfl,fun done a X hk hX hd hp hcl K hK=>?_⟩;have e_9:a.eval (.tmp 9) = .int .i64 leg:=(hk.same 9 (by decide)).trans rfl;exact op_val (by simp [go_sem,ev' e_9]) (hK _ (hX.plain (by decide) (by decide) (by decide) (by decide)))
           | 7,ho,hv =>
            cases ho;cases hv;refine .inl ⟨rfl,fun done a X hk hX hd hp hcl K hK=>?_⟩;have e_63:a.eval (.tmp 63) = .slice a4 T.legs.length c4:=hk.at_ 5 _ 63 _ rfl (by decide) _ rfl rfl rfl;have e_64:a.eval (.tmp 64) = .int .i64 leg:=hk.at_ 6 _ 64 _ rfl (by decide) _ rfl rfl rfl;exact op_val (by simp [go_sem,ev' e_63,ev' e_64,hA2,hLZ,hlg]) (hK _ (hX.plain (by decide) (by decide) (by decide) (by decide)))
           | 8,ho,hv =>
            cases ho;cases hv;refine .inl ⟨rfl,fun done a X hk hX hd hp hcl K hK=>?_⟩;have e_10:a.eval (.tmp 10) = .int .i64 b:=(hk.same 10 (by decide)).trans rfl;exact op_val (by simp [go_sem,ev' e_10]) (hK _ (hX.plain (by decide) (by decide) (by decide) (by decide)))
           | 9,ho,hv =>
            cases ho;cases hv;refine .inl ⟨rfl,fun done a X hk hX hd hp hcl K hK=>?_⟩;have e_66:a.eval (.tmp 66) = .int .i64 b:=hk.at_ 8 _ 66 _ rfl (by decide) _ rfl rfl rfl;have:=hK _ (hX.made hd);have hs:=hX.size hd;unfold Oper.wp;simpa [go_sem,ev' e_66,hs] using this
           | 10,ho,hv =>
            cases ho;cases hv;refine .inl ⟨rfl,fun done a X hk hX hd hp hcl K hK=>?_⟩;have e_11:a.eval (.tmp 11) = .pointer (some ⟨b2,0,none⟩):=(hk.same 11 (by decide)).trans rfl;exact op_val (by simp [go_sem,ev' e_11]) (hK _ (hX.plain (by decide) (by decide) (by decide) (by decide)))
           | 11,ho,hv =>
            cases ho;cases hv;refine .inl ⟨rfl,fun done a X hk hX hd hp hcl K hK=>?_⟩;have e_68:a.eval (.tmp 68) = .pointer (some ⟨b2,4,none⟩):=hk.at_ 10 _ 68 _ rfl (by decide) _ rfl rfl rfl;have e_61:a.eval (.tmp 61) = .slice a4 (cutA T leg).legs.length c4:=hk.at_ 3 _ 61 _ rfl (by decide) _ rfl rfl rfl;have:=hK _ (hX.set11 hne hb2 hS2)
            obtain ⟨z,h1,_⟩:=hX.first;have hc:X.cell? ⟨b2,4,none⟩ = some z:=h1.cell 4;have hf:=h1.frozen 4;have hlt:=h1.lt;unfold Oper.wp;simpa [go_sem,ev' e_68,ev' e_61,hc,hf,hlt] using this
           | 12,ho,hv =>
            cases ho;cases hv;refine .inl ⟨rfl,fun done a X hk hX hd hp hcl K hK=>?_⟩;have e_12:a.eval (.tmp 12) = .pointer (some ⟨b3,0,none⟩):=(hk.same 12 (by decide)).trans rfl;exact op_val (by simp [go_sem,ev' e_12]) (hK _ (hX.plain (by decide) (by decide) (by decide) (by decide)))
           | 13,ho,hv =>
            cases ho;cases hv;refine .inl ⟨rfl,fun done a X hk hX hd hp hcl K hK=>?_⟩;have e_69:a.eval (.tmp 69) = .pointer (some ⟨b3,4,none⟩):=hk.at_ 12 _ 69 _ rfl (by decide) _ rfl rfl rfl;have e_65:a.eval (.tmp 65) = .slice A2 (cutZ T leg b).legs.length (c4 - leg):=hk.at_ 7 _ 65 _ rfl (by decide) _ rfl rfl rfl;have:=hK _ (hX.set13 hne hb3 hS3);obtain ⟨y,z,h1,_⟩:=hX.last;have hc:X.cell? ⟨b3,4,none⟩ = some z:=h1.cell 4;have hf:=h1.frozen 4;have hlt:=h1.lt;unfold Oper.wp;simpa [go_sem,ev' e_69,ev' e_65,hc,hf,hlt] using this
           | 14,ho,hv =>
            cases ho;cases hv;refine .inl ⟨rfl,fun done a X hk hX hd hp hcl K hK=>?_⟩;have e_12:a.eval (.tmp 12) = .pointer (some ⟨b3,0,none⟩):=(hk.same 12 (by decide)).trans rfl;exact op_val (by simp [go_sem,ev' e_12]) (hK _ (hX.plain (by decide) (by decide) (by decide) (by decide)))
           | 15,ho,hv =>
            cases ho;cases hv;refine .inl ⟨rfl,fun done a X hk hX hd hp hcl K hK=>?_⟩;have e_70:a.eval (.tmp 70) = .pointer (some ⟨b3,3,none⟩):=hk.at_ 14 _ 70 _ rfl (by decide) _ rfl rfl rfl;have e_67:a.eval (.tmp 67) = .slice (some ⟨W.heap.size,0,none⟩) 1 1:=hk.at_ 9 _ 67 _ rfl (by decide) _ rfl rfl rfl;have:=hK _ (hX.set15 hne hb3 hS3);obtain ⟨y,z,h1,_⟩:=hX.last;have hc:X.cell? ⟨b3,3,none⟩ = some y:=h1.cell 3;have hf:=h1.frozen 3;have hlt:=h1.lt;unfold Oper.wp;simpa [go_sem,ev' e_70,ev' e_67,hc,hf,hlt] using this
           | _ + 16,ho,_=>cases ho
          case finE =>
           intro done W20 hall hw;have hz1:=hw.aft
           obtain ⟨z,hf1,hf2⟩:=hw.first;obtain ⟨y,z',hl1,hl2,hl3⟩:=hw.last;have ho1:=hw.one (hall 9 (by decide));rw [hf2 (hall 11 (by decide))] at hf1;rw [hl2 (hall 15 (by decide)),hl3 (hall 13 (by decide))] at hl1;clear hw hall hf2 hl2 hl3 hB2 hB3 haW;simp only [List.zip_cons_cons,List.zip_nil_right,putAll,Act.put,List.setIfInBounds_toArray,List.set_cons_succ,List.set_cons_zero];(repeat (first | go_big_skip | go_big_want | go_big_move | go_big_op | go_step | go_upon | go_back));have hkL:k < (readingsL T).length:=by rw [HN0.out];exact hkn
           have HROk:=HRO.out k hkL;have hRe:(readingsL T).getD k [] = (readingsL T)[k]:=by rw [List.getD_eq_getElem?_getD,List.getElem?_eq_getElem hkL];rfl
           have hsuc:=HSUC.out k hkL leg b;rw [hRe] at HROk hsuc;obtain ⟨R,hR⟩:∃ R,(readingsL T)[k] = R:=⟨_,rfl⟩;rw [hR] at HROk hsuc;have hRl:R.length <= 17592186043904:=by have:=HROk.1;have:=OK.out.nwords;omega
           have HE20:=Lib.hid (HE.out.later hz1);obtain ⟨gl,cL,Ak,ck,hvL,hvk,-,hik⟩:=HE20.out.read hkL hR hRl;rw [HN0.out] at hvL;cases hvL;have HIK:=Lib.hid hik
           have HRD:Hid (∀ X g,EW T Y0 X Y0.heap.size hi (.slice (some ⟨bv,0,none⟩) N cv) B N P g (.slice (some ⟨gl,0,none⟩) n0 lc) vs -> X.cell? ⟨gl,k,none⟩ = some (.slice Ak R.length ck)):=Lib.hid fun X g h=>by
            obtain ⟨gl',cL',Ak',ck',e1,e2,h1,_⟩:=h.read hkL hR hRl;cases e1;rw [hvk] at e2;cases e2;exact h1
           have hTA:∀ X,Aft w X -> TRep X (cutA T leg) a1 a2 a3 a4:=fun X hX=>⟨(HT.out.aft hX).ways,(HT.out.aft hX).words,(HT.out.aft hX).starts,HRA.out X (HT.out.aft hX).legs⟩
           have hTZ:∀ X,Aft w X -> Ints X (some ⟨W.heap.size,0,none⟩) [(b:Int)] -> TRep X (cutZ T leg b) a1 a2 (some ⟨W.heap.size,0,none⟩) A2:=fun X hX h=>⟨(HT.out.aft hX).ways,(HT.out.aft hX).words,h,HRZ.out X (HT.out.aft hX).legs⟩
           have hbpl:b < T.places.toNat:=by rw [HPN.out];exact hbp
           have HWW:Hid (Aft w W20):=Lib.hid (HAY0.out.trans (HE20.out.aft))
           have HCM:Hid (∀ X,Aft W20 X -> Calls Tryz.prog 62 #[.agg #[.int .i64 T.places,.slice a1 T.ways.length c1,.slice a2 T.words.length c2,.slice a3 T.starts.length c3,.slice a4 (cutA T leg).legs.length c4],.slice Ak R.length ck,.int .i64 b] X fun e w'=>e = .returned (.bool (comeF T (leadsF T R) leg b)) /\ Aft X w'):=Lib.hid fun X hX=>by
            have:=comesRef_any X (cutA T leg) a1 a2 a3 a4 c1 c2 c3 c4 R Ak ck (hTA X (HWW.out.trans hX)) (HIK.out.aft hX) (cutA_ok OK.out leg) HROk b hbpl;rw [show nowF (cutA T leg) (leadsF (cutA T leg) R) (fun _=>false) (cutA T leg).legs.length b = comeF T (leadsF T R) leg b by rw [hLA];exact cut_now leg (Nat.le_refl _) b] at this;exact this
           have HEN:Hid (∀ X bs,Aft W20 X -> BRow X bs (cutZ T leg b).legs.length (fun _=>false) -> Blk X W.heap.size 3 #[.int .i64 b] -> Calls Tryz.prog 63 #[.agg #[.int .i64 T.places,.slice a1 T.ways.length c1,.slice a2 T.words.length c2,.slice (some ⟨W.heap.size,0,none⟩) 1 1,.slice A2 (cutZ T leg b).legs.length (c4 - leg)],.slice Ak R.length ck,.slice (some ⟨bs,0,none⟩) (cutZ T leg b).legs.length (cutZ T leg b).legs.length] X fun e w'=>e = .returned (.bool (ahd T (leadsF T R) (T.legs.length - leg) leg b)) /\ Aft X w'):=Lib.hid fun X bs hX hrow hblk=>by
            have:=enoughRef_any X (cutZ T leg b) a1 a2 (some ⟨W.heap.size,0,none⟩) A2 c1 c2 1 (c4 - leg) R Ak ck (hTZ X (HWW.out.trans hX) (ints_blk1 hblk)) (HIK.out.aft hX) (cutZ_ok OK.out leg b hbpl) HROk (fun _=>false) bs hrow;rw [cut_enough OK.out hbpl] at this;exact this
           obtain ⟨y,hy⟩:∃ y,comeF T (leadsF T R) leg b = y:=⟨_,rfl⟩;obtain ⟨z,hz⟩:∃ z,ahd T (leadsF T R) (T.legs.length - leg) leg b = z:=⟨_,rfl⟩;obtain ⟨x,hx⟩:∃ x,thereK T k leg b = x:=⟨_,rfl⟩;have hsuc2:thereK T (k + 1) leg b = (x || (y && z)):=by rw [hsuc,hx];unfold thereR;rw [hy,hz]
           have HXX:Hid (midE T k leg b leg b = x):=Lib.hid (by rw [midE_at,hx]);rw [hy] at HCM;rw [hz] at HEN;obtain ⟨m,hm⟩:∃ m,(cutZ T leg b).legs.length = m:=⟨_,rfl⟩;have hm10:m <= 100:=by omega
           rw [hm] at HEN hl1;have HPUT:Hid (∀ u,u = (x || (y && z)) -> ∀ a' c',upd2 (midE T k leg b) leg b u a' c' = midE T k leg (b + 1) a' c'):=Lib.hid fun u hu a' c'=>midE_put T u (by rw [hu,hsuc2]) a' c'
           have HF1:=Lib.hid hf1;have HL1:=Lib.hid hl1;have HO1:=Lib.hid ho1;have hBl:B leg < wr.heap.size:=(HE.out.tab.row leg (by have:=HN.out;omega)).lt;have hB2:B leg < b2:=by omega
           have hB3:B leg < b3:=by omega
           have hBS:B leg < W.heap.size:=by omega
           have hlgN:leg < N:=by have:=HN.out;omega
           have hBW20:B leg < W20.heap.size:=(HE20.out.tab.row leg hlgN).lt;have il:(0:Int) <= (leg:Int) /\ (leg:Int) < (N:Int):=by omega
           have ib:(0:Int) <= (b:Int) /\ (b:Int) < (P:Int):=by omega
           have ik:(0:Int) <= (k:Int) /\ (k:Int) < (n0:Int):=by omega
           have H0:Hid (WdR T Y0 W20 Y0.heap.size hi (.slice (some ⟨bv,0,none⟩) N cv) B N P (midE T k leg b) (midE T k leg (b + 1)) (.slice (some ⟨gl,0,none⟩) n0 lc) vs b2 b3 W.heap.size #[.int .i64 T.places,.slice a1 T.ways.length c1,.slice a2 T.words.length c2,.slice a3 T.starts.length c3,.slice a4 (cutA T leg).legs.length c4] #[.int .i64 T.places,.slice a1 T.ways.length c1,.slice a2 T.words.length c2,.slice (some ⟨W.heap.size,0,none⟩) 1 1,.slice A2 m (c4 - leg)] b (fun _=>false) W20.drew):=Lib.hid ⟨HE20.out.later (Aft.drew _),HF1.out.drew,HL1.out.drew,HO1.out.drew,fun _=>Aft.drew _⟩;clear hf1 hl1 ho1 hik hsuc hsuc2 hx hy hz hRe hR hRl hTA hTZ HROk hvk HE hz1 hkL
           cases x with
           | true =>
            refine wp_region_valsD hmx 137 rfl (by kernel_rfl) (by kernel_rfl) [.slice (some ⟨bv,0,none⟩) N cv,.int .i64 leg,.pointer (some ⟨bv,leg,none⟩),.slice (some ⟨B leg,0,none⟩) P P,.int .i64 b,.slice (some ⟨bv,0,none⟩) N cv,.int .i64 leg,.pointer (some ⟨bv,leg,none⟩),.slice (some ⟨B leg,0,none⟩) P P,.int .i64 b,.pointer (some ⟨B leg,b,none⟩),.bool true,.bool true,undef,undef,undef,undef,undef,undef,undef,undef,undef,undef,undef,undef,undef,undef,undef,undef,undef,undef,undef,.bool true,.pointer (some ⟨B leg,b,none⟩),undef] rfl (WdR T Y0 W20 Y0.heap.size hi (.slice (some ⟨bv,0,none⟩) N cv) B N P (midE T k leg b) (midE T k leg (b + 1)) (.slice (some ⟨gl,0,none⟩) n0 lc) vs b2 b3 W.heap.size #[.int .i64 T.places,.slice a1 T.ways.length c1,.slice a2 T.words.length c2,.slice a3 T.starts.length c3,.slice a4 (cutA T leg).legs.length c4] #[.int .i64 T.places,.slice a1 T.ways.length c1,.slice a2 T.words.length c2,.slice (some ⟨W.heap.size,0,none⟩) 1 1,.slice A2 m (c4 - leg)] b) H0.out ?stepT ?finT
            case stepT =>
             intro i' o v ho hv
             match i',ho,hv with
             | 0,ho,hv =>
              cases ho;cases hv;refine .inl ⟨rfl,fun done a X hk hX hd hp hcl K hK=>?_⟩;have e_5:a.eval (.tmp 5) = .slice (some ⟨bv,0,none⟩) N cv:=(hk.same 5 (by decide)).trans rfl;exact op_val (by simp [go_sem,ev' e_5]) (hK _ (hX.plain (by decide) (Aft.refl _)))
             | 1,ho,hv =>
              cases ho;cases hv;refine .inl ⟨rfl,fun done a X hk hX hd hp hcl K hK=>?_⟩;have e_9:a.eval (.tmp 9) = .int .i64 leg:=(hk.same 9 (by decide)).trans rfl;exact op_val (by simp [go_sem,ev' e_9]) (hK _ (hX.plain (by decide) (Aft.refl _)))
             | 2,ho,hv =>
              cases ho;cases hv;refine .inl ⟨rfl,fun done a X hk hX hd hp hcl K hK=>?_⟩;have e_71:a.eval (.tmp 71) = .slice (some ⟨bv,0,none⟩) N cv:=hk.at_ 0 _ 71 _ rfl (by decide) _ rfl rfl rfl;have e_72:a.eval (.tmp 72) = .int .i64 leg:=hk.at_ 1 _ 72 _ rfl (by decide) _ rfl rfl rfl;exact op_val (by simp [go_sem,ev' e_71,ev' e_72,il]) (hK _ (hX.plain (by decide) (Aft.refl _)))
             | 3,ho,hv =>
              cases ho;cases hv;refine .inl ⟨rfl,fun done a X hk hX hd hp hcl K hK=>?_⟩;have e_73:a.eval (.tmp 73) = .pointer (some ⟨bv,leg,none⟩):=hk.at_ 2 _ 73 _ rfl (by decide) _ rfl rfl rfl
              have h34:done 34 = false:=by
               cases h:done 34 with
               | false=>rfl
               | true=>exact absurd (by decide) (hcl 34 _ rfl h)
              have hnow:=hX.now h34;have hc:=hnow.slot hlgN;exact op_val (by simp [go_sem,ev' e_73,hc]) (hK _ (hX.plain (by decide) (Aft.refl _)))
             | 4,ho,hv =>
              cases ho;cases hv;refine .inl ⟨rfl,fun done a X hk hX hd hp hcl K hK=>?_⟩;have e_10:a.eval (.tmp 10) = .int .i64 b:=(hk.same 10 (by decide)).trans rfl;exact op_val (by simp [go_sem,ev' e_10]) (hK _ (hX.plain (by decide) (Aft.refl _)))
             | 5,ho,hv =>
              cases ho;cases hv;refine .inl ⟨rfl,fun done a X hk hX hd hp hcl K hK=>?_⟩;have e_5:a.eval (.tmp 5) = .slice (some ⟨bv,0,none⟩) N cv:=(hk.same 5 (by decide)).trans rfl;exact op_val (by simp [go_sem,ev' e_5]) (hK _ (hX.plain (by decide) (Aft.refl _)))
             | 6,ho,hv =>
              cases ho;cases hv;refine .inl ⟨rfl,fun done a X hk hX hd hp hcl K hK=>?_⟩;have e_9:a.eval (.tmp 9) = .int .i64 leg:=(hk.same 9 (by decide)).trans rfl;exact op_val (by simp [go_sem,ev' e_9]) (hK _ (hX.plain (by decide) (Aft.refl _)))
             | 7,ho,hv =>
              cases ho;cases hv;refine .inl ⟨rfl,fun done a X hk hX hd hp hcl K hK=>?_⟩;have e_76:a.eval (.tmp 76) = .slice (some ⟨bv,0,none⟩) N cv:=hk.at_ 5 _ 76 _ rfl (by decide) _ rfl rfl rfl;have e_77:a.eval (.tmp 77) = .int .i64 leg:=hk.at_ 6 _ 77 _ rfl (by decide) _ rfl rfl rfl;exact op_val (by simp [go_sem,ev' e_76,ev' e_77,il]) (hK _ (hX.plain (by decide) (Aft.refl _)))
             | 8,ho,hv =>
              cases ho;cases hv;refine .inl ⟨rfl,fun done a X hk hX hd hp hcl K hK=>?_⟩;have e_78:a.eval (.tmp 78) = .pointer (some ⟨bv,leg,none⟩):=hk.at_ 7 _ 78 _ rfl (by decide) _ rfl rfl rfl
              have h34:done 34 = false:=by
               cases h:done 34 with
               | false=>rfl
               | true=>exact absurd (by decide) (hcl 34 _ rfl h)
              have hnow:=hX.now h34;have hc:=hnow.slot hlgN;exact op_val (by simp [go_sem,ev' e_78,hc]) (hK _ (hX.plain (by decide) (Aft.refl _)))
             | 9,ho,hv =>
              cases ho;cases hv;refine .inl ⟨rfl,fun done a X hk hX hd hp hcl K hK=>?_⟩;have e_10:a.eval (.tmp 10) = .int .i64 b:=(hk.same 10 (by decide)).trans rfl;exact op_val (by simp [go_sem,ev' e_10]) (hK _ (hX.plain (by decide) (Aft.refl _)))
             | 10,ho,hv =>
              cases ho;cases hv;refine .inl ⟨rfl,fun done a X hk hX hd hp hcl K hK=>?_⟩;have e_79:a.eval (.tmp 79) = .slice (some ⟨B leg,0,none⟩) P P:=hk.at_ 8 _ 79 _ rfl (by decide) _ rfl rfl rfl;have e_80:a.eval (.tmp 80) = .int .i64 b:=hk.at_ 9 _ 80 _ rfl (by decide) _ rfl rfl rfl;exact op_val (by simp [go_sem,ev' e_79,ev' e_80,ib]) (hK _ (hX.plain (by decide) (Aft.refl _)))
             | 11,ho,hv =>
              cases ho;cases hv;refine .inl ⟨rfl,fun done a X hk hX hd hp hcl K hK=>?_⟩;have e_81:a.eval (.tmp 81) = .pointer (some ⟨B leg,b,none⟩):=hk.at_ 10 _ 81 _ rfl (by decide) _ rfl rfl rfl
              have h34:done 34 = false:=by
               cases h:done 34 with
               | false=>rfl
               | true=>exact absurd (by decide) (hcl 34 _ rfl h)
              have hnow:=hX.now h34;have hc:=(hnow.tab.row leg hlgN).cell hbp;rw [HXX.out] at hc;exact op_val (by simp [go_sem,ev' e_81,hc]) (hK _ (hX.plain (by decide) (Aft.refl _)))
             | 12,ho,hv =>
              cases ho;cases hv;refine .inl ⟨rfl,fun done a X hk hX hd hp hcl K hK=>?_⟩;have e_82:a.eval (.tmp 82) = .bool true:=hk.at_ 11 _ 82 _ rfl (by decide) _ rfl rfl rfl;exact op_val (by simp [go_sem,ev' e_82]) (hK _ (hX.plain (by decide) (Aft.refl _)))
             | 13,ho,hv | 14,ho,hv | 15,ho,hv | 16,ho,hv | 17,ho,hv | 18,ho,hv | 19,ho,hv | 20,ho,hv | 21,ho,hv | 22,ho,hv | 23,ho,hv | 24,ho,hv | 25,ho,hv | 26,ho,hv | 27,ho,hv | 28,ho,hv | 29,ho,hv | 30,ho,hv | 31,ho,hv =>
              cases ho;cases hv;exact .inr ⟨rfl,rfl,fun d w hX=>(hX.plain (by decide) (Aft.refl _))⟩
             | 32,ho,hv =>
              cases ho;cases hv;refine .inl ⟨rfl,fun done a X hk hX hd hp hcl K hK=>?_⟩;have e_83:a.eval (.tmp 83) = .bool true:=hk.at_ 12 _ 83 _ rfl (by decide) _ rfl rfl rfl;have e_102:a.eval (.tmp 102) = undef:=hk.at_ 31 _ 102 _ rfl (by decide) _ rfl rfl rfl;exact op_val (by simp [go_sem,ev' e_83,ev' e_102]) (hK _ (hX.plain (by decide) (Aft.refl _)))
             | 33,ho,hv =>
              cases ho;cases hv;refine .inl ⟨rfl,fun done a X hk hX hd hp hcl K hK=>?_⟩;have e_74:a.eval (.tmp 74) = .slice (some ⟨B leg,0,none⟩) P P:=hk.at_ 3 _ 74 _ rfl (by decide) _ rfl rfl rfl;have e_75:a.eval (.tmp 75) = .int .i64 b:=hk.at_ 4 _ 75 _ rfl (by decide) _ rfl rfl rfl;exact op_val (by simp [go_sem,ev' e_74,ev' e_75,ib]) (hK _ (hX.plain (by decide) (Aft.refl _)))
             | 34,ho,hv =>
              cases ho;cases hv;refine .inl ⟨rfl,fun done a X hk hX hd hp hcl K hK=>?_⟩;have e_104:a.eval (.tmp 104) = .pointer (some ⟨B leg,b,none⟩):=hk.at_ 33 _ 104 _ rfl (by decide) _ rfl rfl rfl;have e_103:a.eval (.tmp 103) = .bool true:=hk.at_ 32 _ 103 _ rfl (by decide) _ rfl rfl rfl;have h34:done 34 = false:=hd;have hnow:=hX.now h34;have hcl0:=(hnow.tab.row leg hlgN).cell hbp;have hf:=(hnow.tab.row leg hlgN).frozen b;have hlt:=(hnow.tab.row leg hlgN).lt;have:=hK _ (hX.set h34 (Nat.le_refl _) hlgN hbp true (HPUT.out true (by simp)) hB2 hB3 hBS);unfold Oper.wp;simpa [go_sem,ev' e_104,ev' e_103,hcl0,hf,hlt] using this
             | _ + 35,ho,_=>cases ho
            case finT =>
             intro done W21 hall hw;have he:=hw.ew;rw [if_pos (hall 34 (by decide))] at he;have HE21:=Lib.hid he;clear hw hall he;simp only [List.zip_cons_cons,List.zip_nil_right,putAll,Act.put,List.setIfInBounds_toArray,List.set_cons_succ,List.set_cons_zero];(repeat (first | go_big_skip | go_big_want | go_big_move | go_big_op | go_step | go_upon | go_back));exact ⟨⟨b + 1,by go_num,by omega,HE21.out⟩,by simp [intOf];omega⟩
           | false =>
            cases y with
            | false =>
             refine wp_region_valsD hmx 137 rfl (by kernel_rfl) (by kernel_rfl) [.slice (some ⟨bv,0,none⟩) N cv,.int .i64 leg,.pointer (some ⟨bv,leg,none⟩),.slice (some ⟨B leg,0,none⟩) P P,.int .i64 b,.slice (some ⟨bv,0,none⟩) N cv,.int .i64 leg,.pointer (some ⟨bv,leg,none⟩),.slice (some ⟨B leg,0,none⟩) P P,.int .i64 b,.pointer (some ⟨B leg,b,none⟩),.bool false,.bool false,.agg #[.int .i64 T.places,.slice a1 T.ways.length c1,.slice a2 T.words.length c2,.slice a3 T.starts.length c3,.slice a4 (cutA T leg).legs.length c4],.slice (some ⟨gl,0,none⟩) n0 lc,.int .i64 k,.pointer (some ⟨gl,k,none⟩),.slice Ak R.length ck,.int .i64 b,.bool false,.bool false,undef,undef,undef,undef,undef,undef,undef,undef,undef,undef,.bool false,.bool false,.pointer (some ⟨B leg,b,none⟩),undef] rfl (WdR T Y0 W20 Y0.heap.size hi (.slice (some ⟨bv,0,none⟩) N cv) B N P (midE T k leg b) (midE T k leg (b + 1)) (.slice (some ⟨gl,0,none⟩) n0 lc) vs b2 b3 W.heap.size #[.int .i64 T.places,.slice a1 T.ways.length c1,.slice a2 T.words.length c2,.slice a3 T.starts.length c3,.slice a4 (cutA T leg).legs.length c4] #[.int .i64 T.places,.slice a1 T.ways.length c1,.slice a2 T.words.length c2,.slice (some ⟨W.heap.size,0,none⟩) 1 1,.slice A2 m (c4 - leg)] b) H0.out ?stepN ?finN
             case stepN =>
              intro i' o v ho hv
              match i',ho,hv with
              | 0,ho,hv =>
               cases ho;cases hv;refine .inl ⟨rfl,fun done a X hk hX hd hp hcl K hK=>?_⟩;have e_5:a.eval (.tmp 5) = .slice (some ⟨bv,0,none⟩) N cv:=(hk.same 5 (by decide)).trans rfl;exact op_val (by simp [go_sem,ev' e_5]) (hK _ (hX.plain (by decide) (Aft.refl _)))
              | 1,ho,hv =>
               cases ho;cases hv;refine .inl ⟨rfl,fun done a X hk hX hd hp hcl K hK=>?_⟩;have e_9:a.eval (.tmp 9) = .int .i64 leg:=(hk.same 9 (by decide)).trans rfl;exact op_val (by simp [go_sem,ev' e_9]) (hK _ (hX.plain (by decide) (Aft.refl _)))
              | 2,ho,hv =>
               cases ho;cases hv;refine .inl ⟨rfl,fun done a X hk hX hd hp hcl K hK=>?_⟩;have e_71:a.eval (.tmp 71) = .slice (some ⟨bv,0,none⟩) N cv:=hk.at_ 0 _ 71 _ rfl (by decide) _ rfl rfl rfl;have e_72:a.eval (.tmp 72) = .int .i64 leg:=hk.at_ 1 _ 72 _ rfl (by decide) _ rfl rfl rfl;exact op_val (by simp [go_sem,ev' e_71,ev' e_72,il]) (hK _ (hX.plain (by decide) (Aft.refl _)))
              | 3,ho,hv =>
               cases ho;cases hv;refine .inl ⟨rfl,fun done a X hk hX hd hp hcl K hK=>?_⟩;have e_73:a.eval (.tmp 73) = .pointer (some ⟨bv,leg,none⟩):=hk.at_ 2 _ 73 _ rfl (by decide) _ rfl rfl rfl
               have h34:done 34 = false:=by
                cases h:done 34 with
                | false=>rfl
                | true=>exact absurd (by decide) (hcl 34 _ rfl h)
               have hnow:=hX.now h34;have hc:=hnow.slot hlgN;exact op_val (by simp [go_sem,ev' e_73,hc]) (hK _ (hX.plain (by decide) (Aft.refl _)))
              | 4,ho,hv =>
               cases ho;cases hv;refine .inl ⟨rfl,fun done a X hk hX hd hp hcl K hK=>?_⟩;have e_10:a.eval (.tmp 10) = .int .i64 b:=(hk.same 10 (by decide)).trans rfl;exact op_val (by simp [go_sem,ev' e_10]) (hK _ (hX.plain (by decide) (Aft.refl _)))
              | 5,ho,hv =>
               cases ho;cases hv;refine .inl ⟨rfl,fun done a X hk hX hd hp hcl K hK=>?_⟩;have e_5:a.eval (.tmp 5) = .slice (some ⟨bv,0,none⟩) N cv:=(hk.same 5 (by decide)).trans rfl;exact op_val (by simp [go_sem,ev' e_5]) (hK _ (hX.plain (by decide) (Aft.refl _)))
              | 6,ho,hv =>
               cases ho;cases hv;refine .inl ⟨rfl,fun done a X hk hX hd hp hcl K hK=>?_⟩;have e_9:a.eval (.tmp 9) = .int .i64 leg:=(hk.same 9 (by decide)).trans rfl;exact op_val (by simp [go_sem,ev' e_9]) (hK _ (hX.plain (by decide) (Aft.refl _)))
              | 7,ho,hv =>
               cases ho;cases hv;refine .inl ⟨rfl,fun done a X hk hX hd hp hcl K hK=>?_⟩;have e_76:a.eval (.tmp 76) = .slice (some ⟨bv,0,none⟩) N cv:=hk.at_ 5 _ 76 _ rfl (by decide) _ rfl rfl rfl;have e_77:a.eval (.tmp 77) = .int .i64 leg:=hk.at_ 6 _ 77 _ rfl (by decide) _ rfl rfl rfl;exact op_val (by simp [go_sem,ev' e_76,ev' e_77,il]) (hK _ (hX.plain (by decide) (Aft.refl _)))
              | 8,ho,hv =>
               cases ho;cases hv;refine .inl ⟨rfl,fun done a X hk hX hd hp hcl K hK=>?_⟩;have e_78:a.eval (.tmp 78) = .pointer (some ⟨bv,leg,none⟩):=hk.at_ 7 _ 78 _ rfl (by decide) _ rfl rfl rfl
               have h34:done 34 = false:=by
                cases h:done 34 with
                | false=>rfl
                | true=>exact absurd (by decide) (hcl 34 _ rfl h)
               have hnow:=hX.now h34;have hc:=hnow.slot hlgN;exact op_val (by simp [go_sem,ev' e_78,hc]) (hK _ (hX.plain (by decide) (Aft.refl _)))
              | 9,ho,hv =>
               cases ho;cases hv;refine .inl ⟨rfl,fun done a X hk hX hd hp hcl K hK=>?_⟩;have e_10:a.eval (.tmp 10) = .int .i64 b:=(hk.same 10 (by decide)).trans rfl;exact op_val (by simp [go_sem,ev' e_10]) (hK _ (hX.plain (by decide) (Aft.refl _)))
              | 10,ho,hv =>
               cases ho;cases hv;refine .inl ⟨rfl,fun done a X hk hX hd hp hcl K hK=>?_⟩;have e_79:a.eval (.tmp 79) = .slice (some ⟨B leg,0,none⟩) P P:=hk.at_ 8 _ 79 _ rfl (by decide) _ rfl rfl rfl;have e_80:a.eval (.tmp 80) = .int .i64 b:=hk.at_ 9 _ 80 _ rfl (by decide) _ rfl rfl rfl;exact op_val (by simp [go_sem,ev' e_79,ev' e_80,ib]) (hK _ (hX.plain (by decide) (Aft.refl _)))
              | 11,ho,hv =>
               cases ho;cases hv;refine .inl ⟨rfl,fun done a X hk hX hd hp hcl K hK=>?_⟩;have e_81:a.eval (.tmp 81) = .pointer (some ⟨B leg,b,none⟩):=hk.at_ 10 _ 81 _ rfl (by decide) _ rfl rfl rfl
               have h34:done 34 = false:=by
                cases h:done 34 with
                | false=>rfl
                | true=>exact absurd (by decide) (hcl 34 _ rfl h)
               have hnow:=hX.now h34;have hc:=(hnow.tab.row leg hlgN).cell hbp;rw [HXX.out] at hc;exact op_val (by simp [go_sem,ev' e_81,hc]) (hK _ (hX.plain (by decide) (Aft.refl _)))
              | 12,ho,hv =>
               cases ho;cases hv;refine .inl ⟨rfl,fun done a X hk hX hd hp hcl K hK=>?_⟩;have e_82:a.eval (.tmp 82) = .bool false:=hk.at_ 11 _ 82 _ rfl (by decide) _ rfl rfl rfl;exact op_val (by simp [go_sem,ev' e_82]) (hK _ (hX.plain (by decide) (Aft.refl _)))
              | 13,ho,hv =>
               cases ho;cases hv;refine .inl ⟨rfl,fun done a X hk hX hd hp hcl K hK=>?_⟩;have e_11:a.eval (.tmp 11) = .pointer (some ⟨b2,0,none⟩):=(hk.same 11 (by decide)).trans rfl;have hq0:X.cell? ⟨b2,0,none⟩ = some (.int .i64 T.places):=hX.first.cell 0;have hq1:X.cell? ⟨b2,1,none⟩ = some (.slice a1 T.ways.length c1):=hX.first.cell 1;have hq2:X.cell? ⟨b2,2,none⟩ = some (.slice a2 T.words.length c2):=hX.first.cell 2;have hq3:X.cell? ⟨b2,3,none⟩ = some (.slice a3 T.starts.length c3):=hX.first.cell 3;have hq4:X.cell? ⟨b2,4,none⟩ = some (.slice a4 (cutA T leg).legs.length c4):=hX.first.cell 4;exact op_val (by simp [go_sem,ev' e_11,hq0,hq1,hq2,hq3,hq4]) (hK _ (hX.plain (by decide) (Aft.refl _)))
              | 14,ho,hv =>
               cases ho;cases hv;refine .inl ⟨rfl,fun done a X hk hX hd hp hcl K hK=>?_⟩;have e_7:a.eval (.tmp 7) = .slice (some ⟨gl,0,none⟩) n0 lc:=(hk.same 7 (by decide)).trans rfl;exact op_val (by simp [go_sem,ev' e_7]) (hK _ (hX.plain (by decide) (Aft.refl _)))
              | 15,ho,hv =>
               cases ho;cases hv;refine .inl ⟨rfl,fun done a X hk hX hd hp hcl K hK=>?_⟩;have e_8:a.eval (.tmp 8) = .int .i64 k:=(hk.same 8 (by decide)).trans rfl;exact op_val (by simp [go_sem,ev' e_8]) (hK _ (hX.plain (by decide) (Aft.refl _)))
              | 16,ho,hv =>
               cases ho;cases hv;refine .inl ⟨rfl,fun done a X hk hX hd hp hcl K hK=>?_⟩;have e_85:a.eval (.tmp 85) = .slice (some ⟨gl,0,none⟩) n0 lc:=hk.at_ 14 _ 85 _ rfl (by decide) _ rfl rfl rfl;have e_86:a.eval (.tmp 86) = .int .i64 k:=hk.at_ 15 _ 86 _ rfl (by decide) _ rfl rfl rfl;exact op_val (by simp [go_sem,ev' e_85,ev' e_86,ik]) (hK _ (hX.plain (by decide) (Aft.refl _)))
              | 17,ho,hv =>
               cases ho;cases hv;refine .inl ⟨rfl,fun done a X hk hX hd hp hcl K hK=>?_⟩;have e_87:a.eval (.tmp 87) = .pointer (some ⟨gl,k,none⟩):=hk.at_ 16 _ 87 _ rfl (by decide) _ rfl rfl rfl
               have h34:done 34 = false:=by
                cases h:done 34 with
                | false=>rfl
                | true=>exact absurd (by decide) (hcl 34 _ rfl h)
               have hnow:=hX.now h34;have hc:=HRD.out _ _ hnow;exact op_val (by simp [go_sem,ev' e_87,hc]) (hK _ (hX.plain (by decide) (Aft.refl _)))
              | 18,ho,hv =>
               cases ho;cases hv;refine .inl ⟨rfl,fun done a X hk hX hd hp hcl K hK=>?_⟩;have e_10:a.eval (.tmp 10) = .int .i64 b:=(hk.same 10 (by decide)).trans rfl;exact op_val (by simp [go_sem,ev' e_10]) (hK _ (hX.plain (by decide) (Aft.refl _)))
              | 19,ho,hv =>
               cases ho;cases hv;refine .inl ⟨rfl,fun done a X hk hX hd hp hcl K hK=>?_⟩;have e_84:a.eval (.tmp 84) = .agg #[.int .i64 T.places,.slice a1 T.ways.length c1,.slice a2 T.words.length c2,.slice a3 T.starts.length c3,.slice a4 (cutA T leg).legs.length c4]:=hk.at_ 13 _ 84 _ rfl (by decide) _ rfl rfl rfl;have e_88:a.eval (.tmp 88) = .slice Ak R.length ck:=hk.at_ 17 _ 88 _ rfl (by decide) _ rfl rfl rfl;have e_89:a.eval (.tmp 89) = .int .i64 b:=hk.at_ 18 _ 89 _ rfl (by decide) _ rfl rfl rfl
               have h34:done 34 = false:=by
                cases h:done 34 with
                | false=>rfl
                | true=>exact absurd (by decide) (hcl 34 _ rfl h)
               have hnow:=hX.now h34;refine op_call3 Tryz.func62 (by kernel_rfl) (by kernel_rfl) _ _ _ rfl e_84 e_88 e_89 (HCM.out X (hX.a20 h34)) ?_;rintro e x6 ⟨rfl,ha⟩;exact ⟨_,rfl,hK _ (hX.plain (by decide) ha)⟩
              | 20,ho,hv =>
               cases ho;cases hv;refine .inl ⟨rfl,fun done a X hk hX hd hp hcl K hK=>?_⟩;have e_90:a.eval (.tmp 90) = .bool false:=hk.at_ 19 _ 90 _ rfl (by decide) _ rfl rfl rfl;exact op_val (by simp [go_sem,ev' e_90]) (hK _ (hX.plain (by decide) (Aft.refl _)))
              | 21,ho,hv | 22,ho,hv | 23,ho,hv | 24,ho,hv | 25,ho,hv | 26,ho,hv | 27,ho,hv | 28,ho,hv | 29,ho,hv | 30,ho,hv =>
               cases ho;cases hv;exact .inr ⟨rfl,rfl,fun d w hX=>(hX.plain (by decide) (Aft.refl _))⟩
              | 31,ho,hv =>
               cases ho;cases hv;refine .inl ⟨rfl,fun done a X hk hX hd hp hcl K hK=>?_⟩;have e_91:a.eval (.tmp 91) = .bool false:=hk.at_ 20 _ 91 _ rfl (by decide) _ rfl rfl rfl;have e_101:a.eval (.tmp 101) = undef:=hk.at_ 30 _ 101 _ rfl (by decide) _ rfl rfl rfl;exact op_val (by simp [go_sem,ev' e_91,ev' e_101]) (hK _ (hX.plain (by decide) (Aft.refl _)))
              | 32,ho,hv =>
               cases ho;cases hv;refine .inl ⟨rfl,fun done a X hk hX hd hp hcl K hK=>?_⟩;have e_83:a.eval (.tmp 83) = .bool false:=hk.at_ 12 _ 83 _ rfl (by decide) _ rfl rfl rfl;have e_102:a.eval (.tmp 102) = .bool false:=hk.at_ 31 _ 102 _ rfl (by decide) _ rfl rfl rfl;exact op_val (by simp [go_sem,ev' e_83,ev' e_102]) (hK _ (hX.plain (by decide) (Aft.refl _)))
              | 33,ho,hv =>
               cases ho;cases hv;refine .inl ⟨rfl,fun done a X hk hX hd hp hcl K hK=>?_⟩;have e_74:a.eval (.tmp 74) = .slice (some ⟨B leg,0,none⟩) P P:=hk.at_ 3 _ 74 _ rfl (by decide) _ rfl rfl rfl;have e_75:a.eval (.tmp 75) = .int .i64 b:=hk.at_ 4 _ 75 _ rfl (by decide) _ rfl rfl rfl;exact op_val (by simp [go_sem,ev' e_74,ev' e_75,ib]) (hK _ (hX.plain (by decide) (Aft.refl _)))
              | 34,ho,hv =>
               cases ho;cases hv;refine .inl ⟨rfl,fun done a X hk hX hd hp hcl K hK=>?_⟩;have e_104:a.eval (.tmp 104) = .pointer (some ⟨B leg,b,none⟩):=hk.at_ 33 _ 104 _ rfl (by decide) _ rfl rfl rfl;have e_103:a.eval (.tmp 103) = .bool false:=hk.at_ 32 _ 103 _ rfl (by decide) _ rfl rfl rfl;have h34:done 34 = false:=hd;have hnow:=hX.now h34;have hcl0:=(hnow.tab.row leg hlgN).cell hbp;have hf:=(hnow.tab.row leg hlgN).frozen b;have hlt:=(hnow.tab.row leg hlgN).lt;have:=hK _ (hX.set h34 (Nat.le_refl _) hlgN hbp false (HPUT.out false (by simp)) hB2 hB3 hBS);unfold Oper.wp;simpa [go_sem,ev' e_104,ev' e_103,hcl0,hf,hlt] using this
              | _ + 35,ho,_=>cases ho
             case finN =>
              intro done W21 hall hw;have he:=hw.ew;rw [if_pos (hall 34 (by decide))] at he;have HE21:=Lib.hid he;clear hw hall he;simp only [List.zip_cons_cons,List.zip_nil_right,putAll,Act.put,List.setIfInBounds_toArray,List.set_cons_succ,List.set_cons_zero];(repeat (first | go_big_skip | go_big_want | go_big_move | go_big_op | go_step | go_upon | go_back));exact ⟨⟨b + 1,by go_num,by omega,HE21.out⟩,by simp [intOf];omega⟩
            | true =>
             refine wp_region_factsV hmx 137 rfl (by kernel_rfl) (FactR W20 [.slice (some ⟨bv,0,none⟩) N cv,.int .i64 leg,.pointer (some ⟨bv,leg,none⟩),.slice (some ⟨B leg,0,none⟩) P P,.int .i64 b,.slice (some ⟨bv,0,none⟩) N cv,.int .i64 leg,.pointer (some ⟨bv,leg,none⟩),.slice (some ⟨B leg,0,none⟩) P P,.int .i64 b,.pointer (some ⟨B leg,b,none⟩),.bool false,.bool false,.agg #[.int .i64 T.places,.slice a1 T.ways.length c1,.slice a2 T.words.length c2,.slice a3 T.starts.length c3,.slice a4 (cutA T leg).legs.length c4],.slice (some ⟨gl,0,none⟩) n0 lc,.int .i64 k,.pointer (some ⟨gl,k,none⟩),.slice Ak R.length ck,.int .i64 b,.bool true,.bool true,.agg #[.int .i64 T.places,.slice a1 T.ways.length c1,.slice a2 T.words.length c2,.slice (some ⟨W.heap.size,0,none⟩) 1 1,.slice A2 m (c4 - leg)],.slice (some ⟨gl,0,none⟩) n0 lc,.int .i64 k,.pointer (some ⟨gl,k,none⟩),.slice Ak R.length ck,.pointer (some ⟨b3,4,none⟩),.slice A2 m (c4 - leg),.int .i64 m,undef,.bool z,.bool z,.bool z,.pointer (some ⟨B leg,b,none⟩),undef] m) (fun d _ w=>WdR T Y0 W20 Y0.heap.size hi (.slice (some ⟨bv,0,none⟩) N cv) B N P (midE T k leg b) (midE T k leg (b + 1)) (.slice (some ⟨gl,0,none⟩) n0 lc) vs b2 b3 W.heap.size #[.int .i64 T.places,.slice a1 T.ways.length c1,.slice a2 T.words.length c2,.slice a3 T.starts.length c3,.slice a4 (cutA T leg).legs.length c4] #[.int .i64 T.places,.slice a1 T.ways.length c1,.slice a2 T.words.length c2,.slice (some ⟨W.heap.size,0,none⟩) 1 1,.slice A2 m (c4 - leg)] b d w) H0.out ?stepY ?finY
             case stepY =>
              intro i' o ho done a X hH hd hp K hK;have hW:=hH.wd;have hsz:a.tmps.size = 137:=hH.size
              match i',ho,hd,hp,hK with
              | 0,ho,hd,hp,hK =>
               cases ho;have e_5:a.eval (.tmp 5) = .slice (some ⟨bv,0,none⟩) N cv:=(hH.same (by decide)).trans rfl;refine step_on rfl ?_;exact op_val (by simp [go_sem,ev' e_5]) (hK _ _ (FactR.mk (by decide) rfl) (hW.plain (by decide) (Aft.refl _)) (fun j oj s hoj hs hj hu=>hu.later (Aft.refl _)))
              | 1,ho,hd,hp,hK =>
               cases ho;have e_9:a.eval (.tmp 9) = .int .i64 leg:=(hH.same (by decide)).trans rfl;refine step_on rfl ?_;exact op_val (by simp [go_sem,ev' e_9]) (hK _ _ (FactR.mk (by decide) rfl) (hW.plain (by decide) (Aft.refl _)) (fun j oj s hoj hs hj hu=>hu.later (Aft.refl _)))
              | 2,ho,hd,hp,hK =>
               cases ho;have e_71:a.eval (.tmp 71) = .slice (some ⟨bv,0,none⟩) N cv:=(hH.fact 0 _ 71 rfl rfl (hp 0 (by decide))).get (by decide) rfl;have e_72:a.eval (.tmp 72) = .int .i64 leg:=(hH.fact 1 _ 72 rfl rfl (hp 1 (by decide))).get (by decide) rfl;refine step_on rfl ?_;exact op_val (by simp [go_sem,ev' e_71,ev' e_72,il]) (hK _ _ (FactR.mk (by decide) rfl) (hW.plain (by decide) (Aft.refl _)) (fun j oj s hoj hs hj hu=>hu.later (Aft.refl _)))
              | 3,ho,hd,hp,hK =>
               cases ho;have e_73:a.eval (.tmp 73) = .pointer (some ⟨bv,leg,none⟩):=(hH.fact 2 _ 73 rfl rfl (hp 2 (by decide))).get (by decide) rfl;refine step_on rfl ?_
               have h34:done 34 = false:=by
                cases h:done 34 with
                | false=>rfl
                | true=>have:=hH.closed 34 _ rfl h 3 (by decide);rw [hd] at this;cases this
               have hnow:=hW.now h34;have hc:=hnow.slot hlgN;exact op_val (by simp [go_sem,ev' e_73,hc]) (hK _ _ (FactR.mk (by decide) rfl) (hW.plain (by decide) (Aft.refl _)) (fun j oj s hoj hs hj hu=>hu.later (Aft.refl _)))
              | 4,ho,hd,hp,hK =>
               cases ho;have e_10:a.eval (.tmp 10) = .int .i64 b:=(hH.same (by decide)).trans rfl;refine step_on rfl ?_;exact op_val (by simp [go_sem,ev' e_10]) (hK _ _ (FactR.mk (by decide) rfl) (hW.plain (by decide) (Aft.refl _)) (fun j oj s hoj hs hj hu=>hu.later (Aft.refl _)))
              | 5,ho,hd,hp,hK =>
               cases ho;have e_5:a.eval (.tmp 5) = .slice (some ⟨bv,0,none⟩) N cv:=(hH.same (by decide)).trans rfl;refine step_on rfl ?_;exact op_val (by simp [go_sem,ev' e_5]) (hK _ _ (FactR.mk (by decide) rfl) (hW.plain (by decide) (Aft.refl _)) (fun j oj s hoj hs hj hu=>hu.later (Aft.refl _)))
              | 6,ho,hd,hp,hK =>
               cases ho;have e_9:a.eval (.tmp 9) = .int .i64 leg:=(hH.same (by decide)).trans rfl;refine step_on rfl ?_;exact op_val (by simp [go_sem,ev' e_9]) (hK _ _ (FactR.mk (by decide) rfl) (hW.plain (by decide) (Aft.refl _)) (fun j oj s hoj hs hj hu=>hu.later (Aft.refl _)))
              | 7,ho,hd,hp,hK =>
               cases ho;have e_76:a.eval (.tmp 76) = .slice (some ⟨bv,0,none⟩) N cv:=(hH.fact 5 _ 76 rfl rfl (hp 5 (by decide))).get (by decide) rfl;have e_77:a.eval (.tmp 77) = .int .i64 leg:=(hH.fact 6 _ 77 rfl rfl (hp 6 (by decide))).get (by decide) rfl;refine step_on rfl ?_;exact op_val (by simp [go_sem,ev' e_76,ev' e_77,il]) (hK _ _ (FactR.mk (by decide) rfl) (hW.plain (by decide) (Aft.refl _)) (fun j oj s hoj hs hj hu=>hu.later (Aft.refl _)))
              | 8,ho,hd,hp,hK =>
               cases ho;have e_78:a.eval (.tmp 78) = .pointer (some ⟨bv,leg,none⟩):=(hH.fact 7 _ 78 rfl rfl (hp 7 (by decide))).get (by decide) rfl;refine step_on rfl ?_
               have h34:done 34 = false:=by
                cases h:done 34 with
                | false=>rfl
                | true=>have:=hH.closed 34 _ rfl h 8 (by decide);rw [hd] at this;cases this
               have hnow:=hW.now h34;have hc:=hnow.slot hlgN;exact op_val (by simp [go_sem,ev' e_78,hc]) (hK _ _ (FactR.mk (by decide) rfl) (hW.plain (by decide) (Aft.refl _)) (fun j oj s hoj hs hj hu=>hu.later (Aft.refl _)))
              | 9,ho,hd,hp,hK =>
               cases ho;have e_10:a.eval (.tmp 10) = .int .i64 b:=(hH.same (by decide)).trans rfl;refine step_on rfl ?_;exact op_val (by simp [go_sem,ev' e_10]) (hK _ _ (FactR.mk (by decide) rfl) (hW.plain (by decide) (Aft.refl _)) (fun j oj s hoj hs hj hu=>hu.later (Aft.refl _)))
              | 10,ho,hd,hp,hK =>
               cases ho;have e_79:a.eval (.tmp 79) = .slice (some ⟨B leg,0,none⟩) P P:=(hH.fact 8 _ 79 rfl rfl (hp 8 (by decide))).get (by decide) rfl;have e_80:a.eval (.tmp 80) = .int .i64 b:=(hH.fact 9 _ 80 rfl rfl (hp 9 (by decide))).get (by decide) rfl;refine step_on rfl ?_;exact op_val (by simp [go_sem,ev' e_79,ev' e_80,ib]) (hK _ _ (FactR.mk (by decide) rfl) (hW.plain (by decide) (Aft.refl _)) (fun j oj s hoj hs hj hu=>hu.later (Aft.refl _)))
              | 11,ho,hd,hp,hK =>
               cases ho;have e_81:a.eval (.tmp 81) = .pointer (some ⟨B leg,b,none⟩):=(hH.fact 10 _ 81 rfl rfl (hp 10 (by decide))).get (by decide) rfl;refine step_on rfl ?_
               have h34:done 34 = false:=by
                cases h:done 34 with
                | false=>rfl
                | true=>have:=hH.closed 34 _ rfl h 11 (by decide);rw [hd] at this;cases this
               have hnow:=hW.now h34;have hc:=(hnow.tab.row leg hlgN).cell hbp;rw [HXX.out] at hc;exact op_val (by simp [go_sem,ev' e_81,hc]) (hK _ _ (FactR.mk (by decide) rfl) (hW.plain (by decide) (Aft.refl _)) (fun j oj s hoj hs hj hu=>hu.later (Aft.refl _)))
              | 12,ho,hd,hp,hK =>
               cases ho;have e_82:a.eval (.tmp 82) = .bool false:=(hH.fact 11 _ 82 rfl rfl (hp 11 (by decide))).get (by decide) rfl;refine step_on rfl ?_;exact op_val (by simp [go_sem,ev' e_82]) (hK _ _ (FactR.mk (by decide) rfl) (hW.plain (by decide) (Aft.refl _)) (fun j oj s hoj hs hj hu=>hu.later (Aft.refl _)))
              | 13,ho,hd,hp,hK =>
               cases ho;have e_83:a.eval (.tmp 83) = .bool false:=(hH.fact 12 _ 83 rfl rfl (hp 12 (by decide))).get (by decide) rfl;have e_11:a.eval (.tmp 11) = .pointer (some ⟨b2,0,none⟩):=(hH.same (by decide)).trans rfl;refine step_yes (wantedG hH (x:=false) rfl rfl rfl hsz (by decide) e_83) rfl ?_;have hq0:X.cell? ⟨b2,0,none⟩ = some (.int .i64 T.places):=hW.first.cell 0;have hq1:X.cell? ⟨b2,1,none⟩ = some (.slice a1 T.ways.length c1):=hW.first.cell 1;have hq2:X.cell? ⟨b2,2,none⟩ = some (.slice a2 T.words.length c2):=hW.first.cell 2;have hq3:X.cell? ⟨b2,3,none⟩ = some (.slice a3 T.starts.length c3):=hW.first.cell 3;have hq4:X.cell? ⟨b2,4,none⟩ = some (.slice a4 (cutA T leg).legs.length c4):=hW.first.cell 4;exact op_val (by simp [go_sem,ev' e_11,hq0,hq1,hq2,hq3,hq4]) (hK _ _ (FactR.mk (by decide) rfl) (hW.plain (by decide) (Aft.refl _)) (fun j oj s hoj hs hj hu=>hu.later (Aft.refl _)))
              | 14,ho,hd,hp,hK =>
               cases ho;have e_83:a.eval (.tmp 83) = .bool false:=(hH.fact 12 _ 83 rfl rfl (hp 12 (by decide))).get (by decide) rfl;have e_7:a.eval (.tmp 7) = .slice (some ⟨gl,0,none⟩) n0 lc:=(hH.same (by decide)).trans rfl;refine step_yes (wantedG hH (x:=false) rfl rfl rfl hsz (by decide) e_83) rfl ?_;exact op_val (by simp [go_sem,ev' e_7]) (hK _ _ (FactR.mk (by decide) rfl) (hW.plain (by decide) (Aft.refl _)) (fun j oj s hoj hs hj hu=>hu.later (Aft.refl _)))
              | 15,ho,hd,hp,hK =>
               cases ho;have e_83:a.eval (.tmp 83) = .bool false:=(hH.fact 12 _ 83 rfl rfl (hp 12 (by decide))).get (by decide) rfl;have e_8:a.eval (.tmp 8) = .int .i64 k:=(hH.same (by decide)).trans rfl;refine step_yes (wantedG hH (x:=false) rfl rfl rfl hsz (by decide) e_83) rfl ?_;exact op_val (by simp [go_sem,ev' e_8]) (hK _ _ (FactR.mk (by decide) rfl) (hW.plain (by decide) (Aft.refl _)) (fun j oj s hoj hs hj hu=>hu.later (Aft.refl _)))
              | 16,ho,hd,hp,hK =>
               cases ho;have e_83:a.eval (.tmp 83) = .bool false:=(hH.fact 12 _ 83 rfl rfl (hp 12 (by decide))).get (by decide) rfl;have e_85:a.eval (.tmp 85) = .slice (some ⟨gl,0,none⟩) n0 lc:=(hH.fact 14 _ 85 rfl rfl (hp 14 (by decide))).get (by decide) rfl;have e_86:a.eval (.tmp 86) = .int .i64 k:=(hH.fact 15 _ 86 rfl rfl (hp 15 (by decide))).get (by decide) rfl;refine step_yes (wantedG hH (x:=false) rfl rfl rfl hsz (by decide) e_83) rfl ?_;exact op_val (by simp [go_sem,ev' e_85,ev' e_86,ik]) (hK _ _ (FactR.mk (by decide) rfl) (hW.plain (by decide) (Aft.refl _)) (fun j oj s hoj hs hj hu=>hu.later (Aft.refl _)))
              | 17,ho,hd,hp,hK =>
               cases ho;have e_83:a.eval (.tmp 83) = .bool false:=(hH.fact 12 _ 83 rfl rfl (hp 12 (by decide))).get (by decide) rfl;have e_87:a.eval (.tmp 87) = .pointer (some ⟨gl,k,none⟩):=(hH.fact 16 _ 87 rfl rfl (hp 16 (by decide))).get (by decide) rfl;refine step_yes (wantedG hH (x:=false) rfl rfl rfl hsz (by decide) e_83) rfl ?_
               have h34:done 34 = false:=by
                cases h:done 34 with
                | false=>rfl
                | true=>have:=hH.closed 34 _ rfl h 17 (by decide);rw [hd] at this;cases this
               have hnow:=hW.now h34;have hc:=HRD.out _ _ hnow;exact op_val (by simp [go_sem,ev' e_87,hc]) (hK _ _ (FactR.mk (by decide) rfl) (hW.plain (by decide) (Aft.refl _)) (fun j oj s hoj hs hj hu=>hu.later (Aft.refl _)))
              | 18,ho,hd,hp,hK =>
               cases ho;have e_83:a.eval (.tmp 83) = .bool false:=(hH.fact 12 _ 83 rfl rfl (hp 12 (by decide))).get (by decide) rfl;have e_10:a.eval (.tmp 10) = .int .i64 b:=(hH.same (by decide)).trans rfl;refine step_yes (wantedG hH (x:=false) rfl rfl rfl hsz (by decide) e_83) rfl ?_;exact op_val (by simp [go_sem,ev' e_10]) (hK _ _ (FactR.mk (by decide) rfl) (hW.plain (by decide) (Aft.refl _)) (fun j oj s hoj hs hj hu=>hu.later (Aft.refl _)))
              | 19,ho,hd,hp,hK =>
               cases ho;have e_83:a.eval (.tmp 83) = .bool false:=(hH.fact 12 _ 83 rfl rfl (hp 12 (by decide))).get (by decide) rfl;have e_84:a.eval (.tmp 84) = .agg #[.int .i64 T.places,.slice a1 T.ways.length c1,.slice a2 T.words.length c2,.slice a3 T.starts.length c3,.slice a4 (cutA T leg).legs.length c4]:=(hH.fact 13 _ 84 rfl rfl (hp 13 (by decide))).get (by decide) rfl;have e_88:a.eval (.tmp 88) = .slice Ak R.length ck:=(hH.fact 17 _ 88 rfl rfl (hp 17 (by decide))).get (by decide) rfl;have e_89:a.eval (.tmp 89) = .int .i64 b:=(hH.fact 18 _ 89 rfl rfl (hp 18 (by decide))).get (by decide) rfl;refine step_yes (wantedG hH (x:=false) rfl rfl rfl hsz (by decide) e_83) rfl ?_
               have h34:done 34 = false:=by
                cases h:done 34 with
                | false=>rfl
                | true=>have:=hH.closed 34 _ rfl h 19 (by decide);rw [hd] at this;cases this
               have hnow:=hW.now h34;refine op_call3 Tryz.func62 (by kernel_rfl) (by kernel_rfl) _ _ _ rfl e_84 e_88 e_89 (HCM.out X (hW.a20 h34)) ?_;rintro e x6 ⟨rfl,ha⟩;exact ⟨_,rfl,hK _ _ (FactR.mk (by decide) rfl) (hW.plain (by decide) ha) (fun j oj s hoj hs hj hu=>hu.later ha)⟩
              | 20,ho,hd,hp,hK =>
               cases ho;have e_83:a.eval (.tmp 83) = .bool false:=(hH.fact 12 _ 83 rfl rfl (hp 12 (by decide))).get (by decide) rfl;have e_90:a.eval (.tmp 90) = .bool true:=(hH.fact 19 _ 90 rfl rfl (hp 19 (by decide))).get (by decide) rfl;refine step_yes (wantedG hH (x:=false) rfl rfl rfl hsz (by decide) e_83) rfl ?_;exact op_val (by simp [go_sem,ev' e_90]) (hK _ _ (FactR.mk (by decide) rfl) (hW.plain (by decide) (Aft.refl _)) (fun j oj s hoj hs hj hu=>hu.later (Aft.refl _)))
              | 21,ho,hd,hp,hK =>
               cases ho;have e_91:a.eval (.tmp 91) = .bool true:=(hH.fact 20 _ 91 rfl rfl (hp 20 (by decide))).get (by decide) rfl;have e_12:a.eval (.tmp 12) = .pointer (some ⟨b3,0,none⟩):=(hH.same (by decide)).trans rfl;refine step_yes (wantedG hH (x:=true) rfl rfl rfl hsz (by decide) e_91) rfl ?_;have hq0:X.cell? ⟨b3,0,none⟩ = some (.int .i64 T.places):=hW.last.cell 0;have hq1:X.cell? ⟨b3,1,none⟩ = some (.slice a1 T.ways.length c1):=hW.last.cell 1;have hq2:X.cell? ⟨b3,2,none⟩ = some (.slice a2 T.words.length c2):=hW.last.cell 2;have hq3:X.cell? ⟨b3,3,none⟩ = some (.slice (some ⟨W.heap.size,0,none⟩) 1 1):=hW.last.cell 3;have hq4:X.cell? ⟨b3,4,none⟩ = some (.slice A2 m (c4 - leg)):=hW.last.cell 4;exact op_val (by simp [go_sem,ev' e_12,hq0,hq1,hq2,hq3,hq4]) (hK _ _ (FactR.mk (by decide) rfl) (hW.plain (by decide) (Aft.refl _)) (fun j oj s hoj hs hj hu=>hu.later (Aft.refl _)))
              | 22,ho,hd,hp,hK =>
               cases ho;have e_91:a.eval (.tmp 91) = .bool true:=(hH.fact 20 _ 91 rfl rfl (hp 20 (by decide))).get (by decide) rfl;have e_7:a.eval (.tmp 7) = .slice (some ⟨gl,0,none⟩) n0 lc:=(hH.same (by decide)).trans rfl;refine step_yes (wantedG hH (x:=true) rfl rfl rfl hsz (by decide) e_91) rfl ?_;exact op_val (by simp [go_sem,ev' e_7]) (hK _ _ (FactR.mk (by decide) rfl) (hW.plain (by decide) (Aft.refl _)) (fun j oj s hoj hs hj hu=>hu.later (Aft.refl _)))
              | 23,ho,hd,hp,hK =>
               cases ho;have e_91:a.eval (.tmp 91) = .bool true:=(hH.fact 20 _ 91 rfl rfl (hp 20 (by decide))).get (by decide) rfl;have e_8:a.eval (.tmp 8) = .int .i64 k:=(hH.same (by decide)).trans rfl;refine step_yes (wantedG hH (x:=true) rfl rfl rfl hsz (by decide) e_91) rfl ?_;exact op_val (by simp [go_sem,ev' e_8]) (hK _ _ (FactR.mk (by decide) rfl) (hW.plain (by decide) (Aft.refl _)) (fun j oj s hoj hs hj hu=>hu.later (Aft.refl _)))
              | 24,ho,hd,hp,hK =>
               cases ho;have e_91:a.eval (.tmp 91) = .bool true:=(hH.fact 20 _ 91 rfl rfl (hp 20 (by decide))).get (by decide) rfl;have e_93:a.eval (.tmp 93) = .slice (some ⟨gl,0,none⟩) n0 lc:=(hH.fact 22 _ 93 rfl rfl (hp 22 (by decide))).get (by decide) rfl;have e_94:a.eval (.tmp 94) = .int .i64 k:=(hH.fact 23 _ 94 rfl rfl (hp 23 (by decide))).get (by decide) rfl;refine step_yes (wantedG hH (x:=true) rfl rfl rfl hsz (by decide) e_91) rfl ?_;exact op_val (by simp [go_sem,ev' e_93,ev' e_94,ik]) (hK _ _ (FactR.mk (by decide) rfl) (hW.plain (by decide) (Aft.refl _)) (fun j oj s hoj hs hj hu=>hu.later (Aft.refl _)))
              | 25,ho,hd,hp,hK =>
               cases ho;have e_91:a.eval (.tmp 91) = .bool true:=(hH.fact 20 _ 91 rfl rfl (hp 20 (by decide))).get (by decide) rfl;have e_95:a.eval (.tmp 95) = .pointer (some ⟨gl,k,none⟩):=(hH.fact 24 _ 95 rfl rfl (hp 24 (by decide))).get (by decide) rfl;refine step_yes (wantedG hH (x:=true) rfl rfl rfl hsz (by decide) e_91) rfl ?_
               have h34:done 34 = false:=by
                cases h:done 34 with
                | false=>rfl
                | true=>have:=hH.closed 34 _ rfl h 25 (by decide);rw [hd] at this;cases this
               have hnow:=hW.now h34;have hc:=HRD.out _ _ hnow;exact op_val (by simp [go_sem,ev' e_95,hc]) (hK _ _ (FactR.mk (by decide) rfl) (hW.plain (by decide) (Aft.refl _)) (fun j oj s hoj hs hj hu=>hu.later (Aft.refl _)))
              | 26,ho,hd,hp,hK =>
               cases ho;have e_91:a.eval (.tmp 91) = .bool true:=(hH.fact 20 _ 91 rfl rfl (hp 20 (by decide))).get (by decide) rfl;have e_12:a.eval (.tmp 12) = .pointer (some ⟨b3,0,none⟩):=(hH.same (by decide)).trans rfl;refine step_yes (wantedG hH (x:=true) rfl rfl rfl hsz (by decide) e_91) rfl ?_;exact op_val (by simp [go_sem,ev' e_12]) (hK _ _ (FactR.mk (by decide) rfl) (hW.plain (by decide) (Aft.refl _)) (fun j oj s hoj hs hj hu=>hu.later (Aft.refl _)))
              | 27,ho,hd,hp,hK =>
               cases ho;have e_91:a.eval (.tmp 91) = .bool true:=(hH.fact 20 _ 91 rfl rfl (hp 20 (by decide))).get (by decide) rfl;have e_97:a.eval (.tmp 97) = .pointer (some ⟨b3,4,none⟩):=(hH.fact 26 _ 97 rfl rfl (hp 26 (by decide))).get (by decide) rfl;refine step_yes (wantedG hH (x:=true) rfl rfl rfl hsz (by decide) e_91) rfl ?_;have hq4:X.cell? ⟨b3,4,none⟩ = some (.slice A2 m (c4 - leg)):=hW.last.cell 4;exact op_val (by simp [go_sem,ev' e_97,hq4]) (hK _ _ (FactR.mk (by decide) rfl) (hW.plain (by decide) (Aft.refl _)) (fun j oj s hoj hs hj hu=>hu.later (Aft.refl _)))
              | 28,ho,hd,hp,hK =>
               cases ho;have e_91:a.eval (.tmp 91) = .bool true:=(hH.fact 20 _ 91 rfl rfl (hp 20 (by decide))).get (by decide) rfl;have e_98:a.eval (.tmp 98) = .slice A2 m (c4 - leg):=(hH.fact 27 _ 98 rfl rfl (hp 27 (by decide))).get (by decide) rfl;refine step_yes (wantedG hH (x:=true) rfl rfl rfl hsz (by decide) e_91) rfl ?_;exact op_val (by simp [go_sem,ev' e_98]) (hK _ _ (FactR.mk (by decide) rfl) (hW.plain (by decide) (Aft.refl _)) (fun j oj s hoj hs hj hu=>hu.later (Aft.refl _)))
              | 29,ho,hd,hp,hK =>
               cases ho;have e_91:a.eval (.tmp 91) = .bool true:=(hH.fact 20 _ 91 rfl rfl (hp 20 (by decide))).get (by decide) rfl;have e_99:a.eval (.tmp 99) = .int .i64 m:=(hH.fact 28 _ 99 rfl rfl (hp 28 (by decide))).get (by decide) rfl;refine step_yes (wantedG hH (x:=true) rfl rfl rfl hsz (by decide) e_91) rfl ?_
               have h34:done 34 = false:=by
                cases h:done 34 with
                | false=>rfl
                | true=>have:=hH.closed 34 _ rfl h 29 (by decide);rw [hd] at this;cases this
               have hnow:=hW.now h34;refine op_make_bools (.tmp 99) (.tmp 99) rfl e_99 e_99 hm10 ?_;have ha:=Aft.alloc X (.cells (madeCells #[.bool false] m) 4);exact hK _ _ (by unfold FactR;rw [if_pos rfl];exact ⟨_,rfl,BRow.made _ _,(hW.a20 h34).size⟩) (hW.plain (by decide) ha) (fun j oj s hoj hs hj hu=>hu.later ha)
              | 30,ho,hd,hp,hK =>
               cases ho;have e_91:a.eval (.tmp 91) = .bool true:=(hH.fact 20 _ 91 rfl rfl (hp 20 (by decide))).get (by decide) rfl;have e_92:a.eval (.tmp 92) = .agg #[.int .i64 T.places,.slice a1 T.ways.length c1,.slice a2 T.words.length c2,.slice (some ⟨W.heap.size,0,none⟩) 1 1,.slice A2 m (c4 - leg)]:=(hH.fact 21 _ 92 rfl rfl (hp 21 (by decide))).get (by decide) rfl;have e_96:a.eval (.tmp 96) = .slice Ak R.length ck:=(hH.fact 25 _ 96 rfl rfl (hp 25 (by decide))).get (by decide) rfl;refine step_yes (wantedG hH (x:=true) rfl rfl rfl hsz (by decide) e_91) rfl ?_
               have h34:done 34 = false:=by
                cases h:done 34 with
                | false=>rfl
                | true=>have:=hH.closed 34 _ rfl h 30 (by decide);rw [hd] at this;cases this
               have hnow:=hW.now h34;have h29:=hH.fact 29 _ 100 rfl rfl (hp 29 (by decide));unfold FactR at h29;rw [if_pos rfl] at h29;obtain ⟨bs,e_100,hrow,-⟩:=h29;refine op_call3 Tryz.func63 (by kernel_rfl) (by kernel_rfl) _ _ _ rfl e_92 e_96 e_100 (HEN.out X bs (hW.a20 h34) hrow hW.one) ?_;rintro e x6 ⟨rfl,ha⟩;exact ⟨_,rfl,hK _ _ (FactR.mk (by decide) rfl) (hW.plain (by decide) ha) (fun j oj s hoj hs hj hu=>hu.later ha)⟩
              | 31,ho,hd,hp,hK =>
               cases ho;have e_83:a.eval (.tmp 83) = .bool false:=(hH.fact 12 _ 83 rfl rfl (hp 12 (by decide))).get (by decide) rfl;have e_91:a.eval (.tmp 91) = .bool true:=(hH.fact 20 _ 91 rfl rfl (hp 20 (by decide))).get (by decide) rfl;have e_101:a.eval (.tmp 101) = .bool z:=(hH.fact 30 _ 101 rfl rfl (hp 30 (by decide))).get (by decide) rfl;refine step_yes (wantedG hH (x:=false) rfl rfl rfl hsz (by decide) e_83) rfl ?_;exact op_val (by simp [go_sem,ev' e_91,ev' e_101]) (hK _ _ (FactR.mk (by decide) rfl) (hW.plain (by decide) (Aft.refl _)) (fun j oj s hoj hs hj hu=>hu.later (Aft.refl _)))
              | 32,ho,hd,hp,hK =>
               cases ho;have e_83:a.eval (.tmp 83) = .bool false:=(hH.fact 12 _ 83 rfl rfl (hp 12 (by decide))).get (by decide) rfl;have e_102:a.eval (.tmp 102) = .bool z:=(hH.fact 31 _ 102 rfl rfl (hp 31 (by decide))).get (by decide) rfl;refine step_on rfl ?_;exact op_val (by simp [go_sem,ev' e_83,ev' e_102]) (hK _ _ (FactR.mk (by decide) rfl) (hW.plain (by decide) (Aft.refl _)) (fun j oj s hoj hs hj hu=>hu.later (Aft.refl _)))
              | 33,ho,hd,hp,hK =>
               cases ho;have e_74:a.eval (.tmp 74) = .slice (some ⟨B leg,0,none⟩) P P:=(hH.fact 3 _ 74 rfl rfl (hp 3 (by decide))).get (by decide) rfl;have e_75:a.eval (.tmp 75) = .int .i64 b:=(hH.fact 4 _ 75 rfl rfl (hp 4 (by decide))).get (by decide) rfl;refine step_on rfl ?_;exact op_val (by simp [go_sem,ev' e_74,ev' e_75,ib]) (hK _ _ (FactR.mk (by decide) rfl) (hW.plain (by decide) (Aft.refl _)) (fun j oj s hoj hs hj hu=>hu.later (Aft.refl _)))
              | 34,ho,hd,hp,hK =>
               cases ho;have e_104:a.eval (.tmp 104) = .pointer (some ⟨B leg,b,none⟩):=(hH.fact 33 _ 104 rfl rfl (hp 33 (by decide))).get (by decide) rfl;have e_103:a.eval (.tmp 103) = .bool z:=(hH.fact 32 _ 103 rfl rfl (hp 32 (by decide))).get (by decide) rfl;refine step_on rfl ?_;have h34:done 34 = false:=hd;have hnow:=hW.now h34;have hcl0:=(hnow.tab.row leg hlgN).cell hbp;have hf:=(hnow.tab.row leg hlgN).frozen b;have hlt:=(hnow.tab.row leg hlgN).lt;have:=hK undef _ (FactR.mk (by decide) rfl) (hW.set h34 (Nat.le_refl _) hlgN hbp z (HPUT.out z (by simp)) hB2 hB3 hBS) (fun j oj s hoj hs hj hu=>hu.set hBW20);unfold Oper.wp;simpa [go_sem,ev' e_104,ev' e_103,hcl0,hf,hlt] using this
              | _ + 35,ho,_,_,_=>cases ho
             case finY =>
              intro done vals W21 hall hlen hf hw;have he:=hw.ew;rw [if_pos (hall 34 (by decide))] at he;have HE21:=Lib.hid he;have l0:vals.length = 35:=hlen;obtain ⟨w0,r1,rfl,l1⟩:=list_cons_of l0;obtain ⟨w1,r2,rfl,l2⟩:=list_cons_of l1;obtain ⟨w2,r3,rfl,l3⟩:=list_cons_of l2;obtain ⟨w3,r4,rfl,l4⟩:=list_cons_of l3;obtain ⟨w4,r5,rfl,l5⟩:=list_cons_of l4;obtain ⟨w5,r6,rfl,l6⟩:=list_cons_of l5;obtain ⟨w6,r7,rfl,l7⟩:=list_cons_of l6;obtain ⟨w7,r8,rfl,l8⟩:=list_cons_of l7;obtain ⟨w8,r9,rfl,l9⟩:=list_cons_of l8;obtain ⟨w9,r10,rfl,l10⟩:=list_cons_of l9;obtain ⟨w10,r11,rfl,l11⟩:=list_cons_of l10;obtain ⟨w11,r12,rfl,l12⟩:=list_cons_of l11;obtain ⟨w12,r13,rfl,l13⟩:=list_cons_of l12;obtain ⟨w13,r14,rfl,l14⟩:=list_cons_of l13;obtain ⟨w14,r15,rfl,l15⟩:=list_cons_of l14;obtain ⟨w15,r16,rfl,l16⟩:=list_cons_of l15;obtain ⟨w16,r17,rfl,l17⟩:=list_cons_of l16;obtain ⟨w17,r18,rfl,l18⟩:=list_cons_of l17;obtain ⟨w18,r19,rfl,l19⟩:=list_cons_of l18;obtain ⟨w19,r20,rfl,l20⟩:=list_cons_of l19;obtain ⟨w20,r21,rfl,l21⟩:=list_cons_of l20;obtain ⟨w21,r22,rfl,l22⟩:=list_cons_of l21;obtain ⟨w22,r23,rfl,l23⟩:=list_cons_of l22;obtain ⟨w23,r24,rfl,l24⟩:=list_cons_of l23;obtain ⟨w24,r25,rfl,l25⟩:=list_cons_of l24;obtain ⟨w25,r26,rfl,l26⟩:=list_cons_of l25;obtain ⟨w26,r27,rfl,l27⟩:=list_cons_of l26;obtain ⟨w27,r28,rfl,l28⟩:=list_cons_of l27;obtain ⟨w28,r29,rfl,l29⟩:=list_cons_of l28;obtain ⟨w29,r30,rfl,l30⟩:=list_cons_of l29;obtain ⟨w30,r31,rfl,l31⟩:=list_cons_of l30;obtain ⟨w31,r32,rfl,l32⟩:=list_cons_of l31;obtain ⟨w32,r33,rfl,l33⟩:=list_cons_of l32;obtain ⟨w33,r34,rfl,l34⟩:=list_cons_of l33;obtain ⟨w34,r35,rfl,l35⟩:=list_cons_of l34;obtain rfl:=List.eq_nil_of_length_eq_zero l35
              clear hw hall he hf hlen l0 l1 l2 l3 l4 l5 l6 l7 l8 l9 l10 l11 l12 l13 l14 l15 l16 l17 l18 l19 l20 l21 l22 l23 l24 l25 l26 l27 l28 l29 l30 l31 l32 l33 l34 l35;simp only [List.zip_cons_cons,List.zip_nil_right,putAll,Act.put,List.setIfInBounds_toArray,List.set_cons_succ,List.set_cons_zero];(repeat (first | go_big_skip | go_big_want | go_big_move | go_big_op | go_step | go_upon | go_back));exact ⟨⟨b + 1,by go_num,by omega,HE21.out⟩,by simp [intOf];omega⟩
        ·have hdecb:decide ((b:Int) < T.places) = false:=by rw [HP.out];simp;omega
         have hdecb2:decide (b < P) = false:=decide_eq_false hbp;obtain rfl:b = P:=by omega
         have HE2:=Lib.hid (HE.out.congr fun a c _ hc=>midE_row T hc);(repeat (first | go_big_skip | go_big_want | go_big_move | go_big_op | go_step | go_upon | go_back));exact ⟨⟨leg + 1,by go_num,by omega,HE2.out⟩,by simp [intOf];omega⟩
      ·have hdecl:decide ((leg:Int) <= (T.legs.length:Int)) = false:=by simp;omega
       have hdecl2:decide (leg <= T.legs.length) = false:=decide_eq_false hlg;have hNl:N = leg:=by have:=HN.out;omega
       subst hNl;have HE2:=Lib.hid (HE.out.congr fun a c ha _=>midE_end T ha c);(repeat (first | go_big_skip | go_big_want | go_big_move | go_big_op | go_step | go_upon | go_back));exact ⟨⟨k + 1,by go_num,by omega,HE2.out⟩,by simp [intOf];omega⟩
    ·have hdecn:decide (k < n0) = false:=decide_eq_false hkn;obtain rfl:k = n0:=by omega
     have HE1:Hid (EW T Y0 wr Y0.heap.size hi (.slice (some ⟨bv,0,none⟩) N cv) B N P (thereK T (prodN (lensOf T))) (.slice lA k lc) vs):=Lib.hid (HE.out.congr fun a c _ _=>by have:=HALL.out a c;rwa [HN0.out] at this);have HEND:Hid (∀ leg,endTo T leg P = endRow T leg):=Lib.hid fun leg=>by unfold endRow endTo;rw [HPN.out]
     have hok0:OutInv T 0 wr (.slice none 0 0) wr:=⟨Aft.refl _,⟨[],OwnLs.nil⟩,fun j hj=>by omega⟩;have HOK0:=Lib.hid hok0;clear hok0 HE;(repeat (first | go_big_skip | go_big_want | go_big_move | go_big_op | go_step | go_upon | go_back));go_loopw [13,14] (fun v i wq=>∃ leg:Nat,i = .int .i64 leg /\ leg <= T.legs.length + 1 /\ OutInv T leg wr v wq) (fun _ i _=>T.legs.length + 1 - (intOf i).toNat)
     case atStart=>exact ⟨0,rfl,by omega,HOK0.out⟩
     case round =>
      rename World=>wo
      obtain ⟨leg,rfl,hleg,haw,⟨vs3,hol⟩,hne⟩:=hrel;have HOL:=Lib.hid hol;have HNE:=Lib.hid hne;have HE2:=Lib.hid (HE1.out.later haw);have HBO:=Lib.hid (HB.out.aft HE2.out.aft);have HWO:=Lib.hid haw;have hwsz:=haw.size;obtain ⟨k0,k1,k2',k3,k4⟩:=boxC HBO.out;clear haw hol hne HOK0 HE1;by_cases hlg:leg <= T.legs.length
      ·have hdecl:decide ((leg:Int) <= (T.legs.length:Int)) = true:=by simp;omega
       have hdecl2:decide (leg <= T.legs.length) = true:=decide_eq_true hlg;have hlgN:leg < N:=by have:=HN.out;omega
       (repeat (first | go_big_skip | go_big_want | go_big_move | go_big_op | go_step | go_upon | go_back));clear k0 k1 k2' k3 k4;have hr0:RowInv T leg 0 wo (.slice none 0 0) wo:=⟨Aft.refl _,World.ownsRow_nil _ _ 3 1⟩;have HR0:=Lib.hid hr0;clear hr0;go_loopw [15,16] (fun v i wq=>∃ b:Nat,i = .int .i64 b /\ b <= P /\ RowInv T leg b wo v wq) (fun _ i _=>P - (intOf i).toNat)
       case atStart=>exact ⟨0,rfl,by omega,HR0.out⟩
       case round =>
        rename World=>wq
        obtain ⟨b,rfl,hb,ha,hown⟩:=hrel;obtain ⟨x,hx⟩:∃ x,x = endTo T leg b:=⟨_,rfl⟩;rw [<- hx] at hown;have HA2:=Lib.hid ha;have HO:=Lib.hid hown;have HX:=Lib.hid hx;have hxl:x.length <= 12:=by rw [hx];exact Nat.le_trans (endTo_le _ _ _) (by omega)
        have hwl:=ha.size;have hnow:=HE2.out.later ha;obtain ⟨k0,k1,k2',k3,k4⟩:=boxC (HBO.out.aft ha);by_cases hbp:b < P
        ·have hdecb:decide ((b:Int) < T.places) = true:=by rw [HP.out];simp;omega
         have hdecb2:decide (b < P) = true:=decide_eq_true hbp;have x1:=hnow.slot hlgN;have x2:=(hnow.tab.row leg hlgN).cell hbp;have hst:=endTo_succ T leg b;rw [<- hx] at hst;obtain ⟨th,hth⟩:∃ th,thereK T (prodN (lensOf T)) leg b = th:=⟨_,rfl⟩;rw [hth] at x2 hst;have HST:=Lib.hid hst;have il:(0:Int) <= (leg:Int) /\ (leg:Int) < (N:Int):=by omega
         have ib:(0:Int) <= (b:Int) /\ (b:Int) < (P:Int):=by omega
         clear ha hown hx hst hth hnow
         cases th with
         | false =>
          have hrel:RowInv T leg (b + 1) wo _ wq:=⟨HA2.out,by rw [HST.out];simpa using HO.out⟩;have HREL:=Lib.hid hrel;clear hrel;(repeat (first | go_big_skip | go_big_want | go_big_move | go_big_op | go_step | go_upon | go_back));exact ⟨⟨b + 1,by go_num,by omega,HREL.out⟩,by simp [intOf];omega⟩
         | true =>
          go_upto_region 29 with (at_builtin;go_loud (refine wpList_push rfl _ _ rfl (own_aft HO.out (Aft.alloc _ _)) (Nat.le_trans hwl (Aft.alloc _ _).size) rfl rfl (cell_new1 _ _ _) (by omega) ?_;intro v' w6 hown6 hg6;have HREL:Hid (RowInv T leg (b + 1) wo v' w6):=Lib.hid ⟨(HA2.out.then_alloc _).grown hg6 (own_ge HO.out),by rw [HST.out];exact hown6⟩;clear hown6 hg6))
          (repeat (first | go_big_skip | go_big_want | go_big_move | go_big_op | go_step | go_upon | go_back));exact ⟨⟨b + 1,by go_num,by omega,HREL.out⟩,by simp [intOf];omega⟩
        ·have hdecb:decide ((b:Int) < T.places) = false:=by rw [HP.out];simp;omega
         have hdecb2:decide (b < P) = false:=decide_eq_false hbp;obtain rfl:b = P:=by omega
         have hxr:x = endRow T leg:=by rw [hx];exact HEND.out leg
         have HXR:=Lib.hid hxr;obtain ⟨A,c,rfl,hc1,hi1⟩:=own_ints hown (by omega);clear ha hown hx hxr hi1 hnow;by_cases hx0:x = []
         ·have hqe:((x.length:Int) == 0) = true:=by rw [hx0];rfl
          have hqe2:(x.length == 0) = true:=by rw [hx0];rfl
          have HRET:=Lib.hid (HE7.out ⟨leg,hlg,by rw [<- HXR.out];exact hx0⟩ wq (HAY0.out.trans (HE2.out.aft.trans HA2.out)));(repeat (first | go_big_skip | go_big_want | go_big_move | go_big_op | go_step | go_upon | go_back));go_ret2;exact HRET.out
         ·have hqe:((x.length:Int) == 0) = false:=by
           rw [beq_eq_false_iff_ne];intro e;exact hx0 (List.eq_nil_of_length_eq_zero (by omega))
          have hqe2:(x.length == 0) = false:=by
           rw [beq_eq_false_iff_ne];intro e;exact hx0 (List.eq_nil_of_length_eq_zero e)
          have HX0:=Lib.hid hx0
          have HNX:Hid (∀ j,j < leg + 1 -> endRow T j ≠ []):=Lib.hid fun j hj=>by
           by_cases e:j = leg
           ·rw [e,<- HXR.out];exact HX0.out
           ·exact HNE.out j (by omega)
          clear hx0;go_upto_region 25 with (at_builtin;go_loud (refine wpList_app_list (W:=wo) (r:=.slice A x.length c) (l:=x) (c:=1) (b:=wq.heap.size) rfl (.tmp 132) (.tmp 134) rfl HOL.out hwsz rfl rfl (new_one wq (.slice A x.length c) 24) rfl (HA2.out.then_alloc _) (own_aft HO.out (Aft.alloc _ _)) (by rw [endRows_len];omega) ?_;intro v' vs' w9 hol9 hg9;have HREL:Hid (OutInv T (leg + 1) _ v' w9):=Lib.hid ⟨((HWO.out.trans HA2.out).then_alloc _).grown hg9 (own_ge HOL.out.own),⟨vs',by rw [endRows_succ,<- HXR.out];exact hol9⟩,HNX.out⟩;clear hol9 hg9))
          (repeat (first | go_big_skip | go_big_want | go_big_move | go_big_op | go_step | go_upon | go_back));exact ⟨⟨leg + 1,by go_num,by omega,HREL.out⟩,by simp [intOf];omega⟩
      ·have hdecl:decide ((leg:Int) <= (T.legs.length:Int)) = false:=by simp;omega
       have hdecl2:decide (leg <= T.legs.length) = false:=decide_eq_false hlg;have hll:leg = T.legs.length + 1:=by omega
       have HRET:=Lib.hid (HE0.out (fun j hj=>HNE.out j (by omega)) wo _ _ (HAY0.out.trans HE2.out.aft) ⟨vs3,by rw [<- hll];exact HOL.out⟩);(repeat (first | go_big_skip | go_big_want | go_big_move | go_big_op | go_step | go_upon | go_back));go_ret2;exact HRET.out
theorem endsRef_bad (w:World) (T:Treaty) (a1 a2 a3 a4:Option Addr) (c1 c2 c3 c4:Nat) (hT:TRep w T a1 a2 a3 a4) (hz:checkE T ≠ 0):Calls Tryz.prog 18 #[.agg #[.int .i64 T.places,.slice a1 T.ways.length c1,.slice a2 T.words.length c2,.slice a3 T.starts.length c3,.slice a4 T.legs.length c4]] w (EndsU w T):=by
 have HCK:=Lib.hid (fun (y:World) (hy:Aft w y)=>checkRef_any y T a1 a2 a3 a4 c1 c2 c3 c4 (hT.aft hy));have hE:endE T = checkE T:=by unfold endE;rw [if_neg hz]
 have hx:endX T = []:=by unfold endX;rw [if_neg (by rw [hE];exact hz)]
 unfold EndsU;rw [hx,hE];have hne:(checkE T != 0) = true:=by simpa using hz
 clear hT hx hz hE;generalize checkE T = E at *;go_enter Tryz.func18,Tryz.ntmps18;go_upto_region 1 with fail
 have hb:=Blk.new w 35 #[.int .i64 T.places,.slice a1 T.ways.length c1,.slice a2 T.words.length c2,.slice a3 T.starts.length c3,.slice a4 T.legs.length c4];have ha:=Aft.alloc w (.cells #[.int .i64 T.places,.slice a1 T.ways.length c1,.slice a2 T.words.length c2,.slice a3 T.starts.length c3,.slice a4 T.legs.length c4] 35);generalize w.alloc (.cells #[.int .i64 T.places,.slice a1 T.ways.length c1,.slice a2 T.words.length c2,.slice a3 T.starts.length c3,.slice a4 T.legs.length c4] 35) = X at *;generalize w.heap.size = B0 at *;have HA:=Lib.hid ha;obtain ⟨k0,k1,k2',k3,k4⟩:=boxC hb;clear hb ha;(repeat (first | go_big_skip | go_big_want | go_big_move | go_big_op | go_step | go_upon | go_back));go_at_call 53;refine (HCK.out X HA.out).mono ?_;rintro e Y ⟨rfl,haY⟩;dsimp only;clear k0 k1 k2' k3 k4;(repeat (first | go_big_skip | go_big_want | go_big_move | go_big_op | go_step | go_upon | go_back));go_ret2;exact ⟨HA.out.trans haY,none,0,rfl,lists_nil _⟩
theorem endsRefTop_any (w:World) (T:Treaty) (a1 a2 a3 a4:Option Addr) (c1 c2 c3 c4:Nat) (hT:TRep w T a1 a2 a3 a4) (hc4:T.legs.length <= c4):Calls Tryz.prog 18 #[.agg #[.int .i64 T.places,.slice a1 T.ways.length c1,.slice a2 T.words.length c2,.slice a3 T.starts.length c3,.slice a4 T.legs.length c4]] w (EndsU w T):=by
 by_cases hz:checkE T = 0
 ·exact endsRef_good w T a1 a2 a3 a4 c1 c2 c3 c4 hT hz hc4
 ·exact endsRef_bad w T a1 a2 a3 a4 c1 c2 c3 c4 hT hz
end Go.Proofs
end
