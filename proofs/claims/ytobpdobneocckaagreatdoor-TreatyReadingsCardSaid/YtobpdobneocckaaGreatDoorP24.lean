/- Own texts, merged: Ral. -/
import Derived.Test.YtobpdobneocckaaGreatDoorP23
section
/- Walks: the reference's All. -/
namespace Go.Proofs
open Go.RowKit
attribute [local go_sem] Oper.semAt_some
structure AI (T:Treaty) (k:Nat) (M:List (List Int)) (k2:Nat) (cur:List (List Int)):Prop where
 srt:SortedL cur
 few:cur.length <= 200
 sub:∀ y ∈ cur,y ∈ unionL T
 done:∀ i,i < k -> ∀ y ∈ linesL T (leadsF T ((readingsL T).getD i [])),y ∈ cur
 here:∀ j,j < k2 -> M.getD j [] ∈ cur
theorem AI.len {T:Treaty} {k k2:Nat} {M cur:List (List Int)} (h:AI T k M k2 cur):∀ x ∈ cur,x.length = T.legs.length + 1:=fun x hx=>unionL_len x (h.sub x hx)
theorem AI.start (T:Treaty):AI T 0 [] 0 []:=⟨List.Pairwise.nil,by simp,by simp,fun i hi=>absurd hi (Nat.not_lt_zero _),fun i hi=>absurd hi (Nat.not_lt_zero _)⟩
theorem AI.into {T:Treaty} {k k2:Nat} {M cur:List (List Int)} (h:AI T k M k2 cur) (M':List (List Int)):AI T k M' 0 cur:=⟨h.srt,h.few,h.sub,h.done,fun i hi=>absurd hi (Nat.not_lt_zero _)⟩
theorem AI.put {T:Treaty} {k k2:Nat} {M cur:List (List Int)} (h:AI T k M k2 cur) {l:List Int} (hl:M.getD k2 [] = l) (hu:l ∈ unionL T) :
  (insL l cur).length <= 200 /\ AI T k M (k2 + 1) (insL l cur) \/ 200 < (insL l cur).length /\ 200 < (allL T).length:=by
 have hlen:=unionL_len l hu;have hm:=mem_insL hlen h.len;have hs:=sorted_insL hlen h.len h.srt;have hsub:∀ y ∈ insL l cur,y ∈ unionL T:=fun y hy=>((hm y).1 hy).elim (fun e=>by rw [e];exact hu) (h.sub y)
 rcases Nat.lt_or_ge 200 (insL l cur).length with h2 | h2
 ·exact .inr ⟨h2,Nat.lt_of_lt_of_le h2 (hs.nodup.length_le_of_subset fun y hy=>((allL_spec T).2 y).2 (hsub y hy))⟩
 ·refine .inl ⟨h2,hs,h2,hsub,fun i hi y hy=>(hm y).2 (.inr (h.done i hi y hy)),fun j hj=>(hm _).2 ?_⟩;by_cases e:j = k2
  ·rw [e];exact .inl hl
  ·exact .inr (h.here j (by omega))
theorem AI.next {T:Treaty} (ok:TOk T) {k:Nat} {M cur:List (List Int)} (h:AI T k M M.length cur) (hpre:∃ rest,linesL T (leadsF T ((readingsL T).getD k [])) = M ++ rest) (hcut:M.length <= 200 -> linesL T (leadsF T ((readingsL T).getD k [])) = M):AI T (k + 1) [] 0 cur:=by
 have hnd:M.Nodup:=by
  obtain ⟨rest,e⟩:=hpre;have:=(linesL_ok ok (leadsF T ((readingsL T).getD k []))).nodup;rw [e,List.nodup_append] at this;exact this.1
 have hin:∀ y ∈ M,y ∈ cur:=fun y hy=>by
  obtain ⟨j,hj,rfl⟩:=List.getElem_of_mem hy;have:=h.here j hj
  rwa [List.getD_eq_getElem?_getD,List.getElem?_eq_getElem hj] at this
 have hle:M.length <= 200:=Nat.le_trans (hnd.length_le_of_subset hin) h.few;refine ⟨h.srt,h.few,h.sub,fun i hi y hy=>?_,fun i hi=>absurd hi (Nat.not_lt_zero _)⟩;by_cases e:i = k
 ·subst e;rw [hcut hle] at hy;exact hin y hy
 ·exact h.done i (by omega) y hy
theorem AI.all {T:Treaty} {M cur:List (List Int)} {k2:Nat} (h:AI T (readingsL T).length M k2 cur):allL T = cur:=by
 refine sorted_unique (allL_spec T).1 h.srt fun y=>?_
 rw [(allL_spec T).2];refine ⟨fun hy=>?_,h.sub y⟩;unfold unionL at hy;obtain ⟨R,hR,hy⟩:=List.mem_flatMap.1 hy;obtain ⟨i,hi,rfl⟩:=List.getElem_of_mem hR;refine h.done i hi y ?_;rw [List.getD_eq_getElem?_getD,List.getElem?_eq_getElem hi];exact hy
def AW (Y Z:World) (vZ:Value) (cur:List (List Int)) (v:Value) (W:World):Prop :=
 OutI Y cur v W /\ Z.grownBy W vZ.ownBlock /\ (v.ownBlock = vZ.ownBlock \/ ∀ g,v.ownBlock = some g -> Z.heap.size <= g)
theorem AW.put {Y Z W w6 w8:World} {vZ v v':Value} {cur cur':List (List Int)} (h:AW Y Z vZ cur v W) (ho:OutI Y cur' v' w8) (hg6:W.grownBy w6 v.ownBlock) (hat:v'.ownBlock = v.ownBlock \/ v'.ownBlock = some W.heap.size) (hg8:w6.grownBy w8 v'.ownBlock):AW Y Z vZ cur' v' w8:=by
 have hZW:=h.2.1.size
 have h':v'.ownBlock = vZ.ownBlock \/ ∀ g,v'.ownBlock = some g -> Z.heap.size <= g:=by
  rcases hat with e | e
  ·rw [e];exact h.2.2
  ·rw [e];exact .inr fun g hg=>by injection hg with hg;omega
 exact ⟨ho,grown_far (grown_far h.2.1 hg6 h.2.2) hg8 h',h'⟩
theorem AW.drewN {Y Z W:World} {vZ v:Value} {cur:List (List Int)} (h:AW Y Z vZ cur v W) (W':World) (ha:Aft W W'):AW Y Z vZ cur v W':=⟨h.1.later ha,only_aft h.2.1 ha,h.2.2⟩
set_option maxRecDepth 100000 in
set_option maxHeartbeats 16000000 in
theorem allRef_good (w:World) (T:Treaty) (a1 a2 a3 a4:Option Addr) (c1 c2 c3 c4:Nat) (hT:TRep w T a1 a2 a3 a4) (hz:checkE T = 0):Calls Tryz.prog 16 #[.agg #[.int .i64 T.places,.slice a1 T.ways.length c1,.slice a2 T.words.length c2,.slice a3 T.starts.length c3,.slice a4 T.legs.length c4]] w (AllU w T):=by
 have ok:=checkE_ok hz;have HCK:=Lib.hid (fun (y:World) (hy:Aft w y)=>checkRef_any y T a1 a2 a3 a4 c1 c2 c3 c4 (hT.aft hy));have HEV:=Lib.hid (fun (y:World) (hy:Aft w y)=>everyRef_any y T a1 a2 a3 a4 c1 c2 c3 c4 (hT.aft hy) ok)
 have HLN:Hid (∀ (y:World) (_:Aft w y) (k:Nat) (_:k < (readingsL T).length) (A:Option Addr) (c:Nat) (_:Ints y A ((readingsL T).getD k [])),Calls Tryz.prog 55 #[.agg #[.int .i64 T.places,.slice a1 T.ways.length c1,.slice a2 T.words.length c2,.slice a3 T.starts.length c3,.slice a4 T.legs.length c4],.slice A ((readingsL T).getD k []).length c] y fun e w'=>∃ v M,e = .returned v /\ Aft y w' /\ OwnLists w' y.heap.size v M /\ M.length <= 2000 /\ (∀ x ∈ M,x ∈ unionL T) /\ ∀ cur,AI T k M M.length cur -> AI T (k + 1) [] 0 cur):=Lib.hid fun y hy k hk A c hA=>by
  have hm:(readingsL T).getD k [] ∈ readingsL T:=by rw [List.getD_eq_getElem?_getD,List.getElem?_eq_getElem hk];exact List.getElem_mem hk
  refine (linesRef2_any y T a1 a2 a3 a4 c1 c2 c3 c4 _ A c (hT.aft hy) hA hz ((mem_readings ok).1 hm)).mono ?_;rintro e w' ⟨v,M,rfl,ha,hown,h1,h2,h3,hpre⟩;refine ⟨v,M,rfl,ha,hown,h3,fun x hx=>?_,fun cur h=>h.next ok hpre h1⟩;obtain ⟨rest,e⟩:=hpre;exact List.mem_flatMap.2 ⟨_,hm,by rw [e];exact List.mem_append.2 (.inl hx)⟩
 have hp2:=(readings_many ok).1;have HIN:Hid (∀ l ∈ readingsL T,l.length <= 17592186043904):=Lib.hid fun l hl=>by have:=((mem_readings ok).1 hl).1;have:=ok.nwords;omega
 have hAE:200 < (allL T).length -> allE T = 11:=fun h=>by unfold allE;rw [if_pos hz,if_neg (by omega)]
 have HER:Hid (200 < (allL T).length -> ∀ W,Aft w W -> AllU w T (.returned (.tuple #[.slice none 0 0,.int .i64 11])) W):=Lib.hid fun h W ha=>allU_err (hAE h) (by decide) rfl ha
 have HOKK:Hid (∀ cur A c W,AI T (readingsL T).length [] 0 cur -> Lists W A cur -> Aft w W -> AllU w T (.returned (.tuple #[.slice A cur.length c,.int .i64 0])) W):=Lib.hid fun cur A c W h hl ha=>by
  have e:=h.all;have e2:allE T = 0:=by unfold allE;rw [if_pos hz,e,if_pos h.few]
  have e3:allX T = cur:=by unfold allX;rw [if_pos e2,e]
  unfold AllU;rw [e3,e2];exact ⟨ha,A,c,rfl,hl⟩
 have HAL:Hid (∀ k M k2 cur,AI T k M k2 cur -> ∀ x ∈ cur,x.length = T.legs.length + 1):=Lib.hid fun k M k2 cur h=>h.len
 have HUL:Hid (∀ x ∈ unionL T,x.length = T.legs.length + 1):=Lib.hid unionL_len;have hn10:=ok.nlegs;rw [hz] at HCK;clear hT ok hz hAE;obtain ⟨n0,hn0⟩:∃ n0,(readingsL T).length = n0:=⟨_,rfl⟩;rw [hn0] at HLN hp2 HOKK;have HN0:=Lib.hid hn0;obtain ⟨L,hL⟩:∃ L,readingsL T = L:=⟨_,rfl⟩;go_enter Tryz.func16,Tryz.ntmps16;go_upto_region 1 with fail
 have hb:=Blk.new w 35 #[.int .i64 T.places,.slice a1 T.ways.length c1,.slice a2 T.words.length c2,.slice a3 T.starts.length c3,.slice a4 T.legs.length c4];have ha:=Aft.alloc w (.cells #[.int .i64 T.places,.slice a1 T.ways.length c1,.slice a2 T.words.length c2,.slice a3 T.starts.length c3,.slice a4 T.legs.length c4] 35);generalize w.alloc (.cells #[.int .i64 T.places,.slice a1 T.ways.length c1,.slice a2 T.words.length c2,.slice a3 T.starts.length c3,.slice a4 T.legs.length c4] 35) = X at *;generalize w.heap.size = B0 at *;have HB:=Lib.hid hb;have HA:=Lib.hid ha;obtain ⟨k0,k1,k2',k3,k4⟩:=boxC hb;clear hb ha;(repeat (first | go_big_skip | go_big_want | go_big_move | go_big_op | go_step | go_upon | go_back));go_at_call 53;refine (HCK.out X HA.out).mono ?_;rintro e Y0 ⟨rfl,haY⟩;dsimp only;have HAY:=Lib.hid (HA.out.trans haY);have HB:=Lib.hid (HB.out.aft haY);clear haY k0 k1 k2' k3 k4;obtain ⟨k0,k1,k2',k3,k4⟩:=boxC HB.out;(repeat (first | go_big_skip | go_big_want | go_big_move | go_big_op | go_step | go_upon | go_back));go_at_call 54;refine (HEV.out Y0 HAY.out).mono ?_;rintro e Y ⟨v,rfl,haY,hown⟩;obtain ⟨A,cA,rfl,-,hli⟩:=hown.lists (by rw [HN0.out];omega) HIN.out;dsimp only;have HLI:=Lib.hid hli;have HAY:=Lib.hid (HAY.out.trans haY);have HB:=Lib.hid (HB.out.aft haY);rw [HN0.out];clear haY k0 k1 k2' k3 k4 hown hli HCK HEV hn0 hL
 have HROW:Hid (∀ i,i < n0 -> ∃ bL oL A' c,A = some ⟨bL,oL,none⟩ /\ (∀ W,Aft Y W -> W.cell? ⟨bL,oL + i,none⟩ = some (.slice A' ((readingsL T).getD i []).length c)) /\ ∀ W,Aft Y W -> Ints W A' ((readingsL T).getD i [])):=Lib.hid fun i hi=>by
  obtain ⟨b',o',rfl,hb',hc⟩:=HLI.out.at (k:=i) (by rw [HN0.out];exact hi);obtain ⟨A',c,h1,h2⟩:=hc i (by rw [HN0.out];exact hi);have e0:(readingsL T).getD i [] = (readingsL T)[i]'(by rw [HN0.out];exact hi):=by rw [List.getD_eq_getElem?_getD,List.getElem?_eq_getElem (by rw [HN0.out];exact hi)];rfl
  rw [e0];exact ⟨b',o',A',c,rfl,fun W hW=>by obtain ⟨u,rfl⟩:=hW;exact (World.lat_cell _ _ _ _ hb').trans h1,fun W hW=>h2.aft hW⟩
 have HR0:Hid (OutI Y [] (.slice none 0 0) Y /\ AI T 0 [] 0 []):=Lib.hid ⟨OutI.nil Y,AI.start T⟩;(repeat (first | go_big_skip | go_big_want | go_big_move | go_big_op | go_step | go_upon | go_back));go_loopw [6,7] (fun v i wr=>∃ k:Nat,∃ cur:List (List Int),i = .int .i64 k /\ k <= n0 /\ OutI Y cur v wr /\ AI T k [] 0 cur) (fun _ i _=>n0 - (intOf i).toNat)
 case atStart=>exact ⟨0,[],rfl,by omega,HR0.out⟩
 case round =>
  obtain ⟨k,cur,rfl,hk,hout,hai⟩:=hrel;have HOI:=Lib.hid hout;have HAI:=Lib.hid hai;obtain ⟨vA,vc,rfl⟩:=hout.slice;obtain ⟨k0,k1,k2',k3,k4⟩:=boxC (HB.out.aft hout.aft);have hc200:=hai.few;clear hout hai HR0;by_cases hkn:k < n0
  ·have hdec:decide (k < n0) = true:=decide_eq_true hkn;obtain ⟨bL,oL,Ak,ck,rfl,hcell,hik⟩:=HROW.out k hkn;have HCELL:=Lib.hid hcell;have HIK:=Lib.hid hik;have x0:=hcell wr.drew (HOI.out.aft.then_drew);have x1:=hcell wr HOI.out.aft;have i1:(0:Int) <= (k:Int) /\ (k:Int) < (n0:Int):=by omega
   have HC:=Lib.hid (HLN.out wr.drew (HAY.out.trans HOI.out.aft.then_drew) k hkn Ak ck (hik wr.drew HOI.out.aft.then_drew));clear hcell hik;generalize (readingsL T).getD k [] = R at *;(repeat (first | go_big_skip | go_big_want | go_big_move | go_big_op | go_step | go_upon | go_back));refine wp_region_tail 5 (by kernel_rfl) (by kernel_rfl) ?_;simp only [List.take_succ_cons,List.take_zero,List.drop_succ_cons,List.drop_zero];repeat (first | go_big_quiet_skip | (go_big_quiet_want;go_big_quiet_op;go_big_quiet_on))
   refine wpQuiet_nil ?_;(repeat (first | go_big_skip | go_big_want | go_big_move | go_big_op | go_step | go_upon | go_back));go_at_call 55;refine HC.out.mono ?_;rintro e Z ⟨vM,M,rfl,haZ,hownM,hM2,hMu,hnext⟩;obtain ⟨vsM,hls⟩:=hownM;obtain ⟨mA,mc,rfl⟩:=own_slice2 hls.own;dsimp only;have hdz:=(Aft.drew wr).trans haZ;have HYW:Hid (Y.heap.size <= wr.drew.heap.size):=Lib.hid HOI.out.aft.size;have HLS:Hid (OwnLs Z wr.drew.heap.size (.slice mA M.length mc) vsM M):=Lib.hid hls
   have HOB:Hid (∀ g,(Value.slice vA cur.length vc).ownBlock = some g -> g < wr.drew.heap.size):=Lib.hid fun g hg=>by
    obtain ⟨_,vs,h2,_⟩:=HOI.out;exact (h2.lt g hg).2
   have HAW0:Hid (AW Y Z (.slice vA cur.length vc) cur (.slice vA cur.length vc) Z):=Lib.hid ⟨HOI.out.later hdz,World.grownBy.refl _ _,.inl rfl⟩;have HAI0:=Lib.hid (HAI.out.into M);have HMU:=Lib.hid hMu;have HNX:=Lib.hid hnext;have HDZ:=Lib.hid (HOI.out.aft.trans hdz)
   have HYB:Hid (∀ g,(Value.slice vA cur.length vc).ownBlock = some g -> Y.heap.size <= g):=Lib.hid fun g hg=>by
    obtain ⟨_,vs,h2,_⟩:=HOI.out;exact (h2.lt g hg).1
   obtain ⟨vZ,hvZ⟩:∃ v,Value.slice vA cur.length vc = v:=⟨_,rfl⟩;rw [hvZ] at HAW0 HOB HYB;have HVZ:=Lib.hid hvZ;generalize hbs:wr.drew.heap.size = bs at *;clear x0 x1 haZ k0 k1 k2' k3 k4 hls hMu hnext hdz hvZ hbs hc200;(repeat (first | go_big_skip | go_big_want | go_big_move | go_big_op | go_step | go_upon | go_back));go_loopw [6,9] (fun v i wq=>∃ k2:Nat,∃ cur2:List (List Int),i = .int .i64 k2 /\ k2 <= M.length /\ AW Y Z vZ cur2 v wq /\ AI T k M k2 cur2) (fun _ i _=>M.length - (intOf i).toNat)
   case atStart=>exact ⟨0,cur,rfl,by omega,by rw [HVZ.out];exact HAW0.out,HAI0.out⟩
   case round =>
    obtain ⟨k2,cu,rfl,hk2,haw,hai⟩:=hrel;have HAW:=Lib.hid haw;have HAI2:=Lib.hid hai;obtain ⟨sA,sc,rfl⟩:=haw.1.slice;have hc200:=hai.few;clear haw hai HAW0 HAI0;by_cases hkM:k2 < M.length
    ·have hdecM:decide (k2 < M.length) = true:=decide_eq_true hkM;have hlsW:OwnLs wr bs (.slice mA M.length mc) vsM M:=HLS.out.keptb HAW.out.2.1 (fun q e=>HOB.out q e);have hvl:k2 < vsM.length:=by have:=hlsW.own.1;omega
     have hrow:=hlsW.rows k2 hkM hvl;have hrowZ:=HLS.out.rows k2 hkM hvl;have hml:=HMU.out M[k2] (List.getElem_mem hkM);have hlen:=HUL.out _ hml;have HPUT:=Lib.hid (HAI2.out.put (l:=M[k2]) (by rw [List.getD_eq_getElem?_getD,List.getElem?_eq_getElem hkM];rfl) hml);obtain ⟨Al,cl,hval,-,hil⟩:=own_ints hrow (by omega)
     have HLB:Hid (∀ b o,Al = some ⟨b,o,none⟩ -> (Value.slice sA cu.length sc).ownBlock ≠ some b):=Lib.hid fun b o e h=>by
      have hb:vsM[k2].ownBlock = some b:=by rw [hval,e];rfl
      have h1:=hrowZ.lt b hb;rcases HAW.out.2.2 with h2 | h2
      ·rw [h2] at h;have:=HOB.out b h;omega
      ·have:=h2 b h;omega
     obtain ⟨gl,hmA,hlc⟩:∃ gl,mA = some ⟨gl,0,none⟩ /\ wr.cell? ⟨gl,k2,none⟩ = some (.slice Al M[k2].length cl):=by
      rcases hlsW.own.2 with ⟨h0,h1⟩ | ⟨g,cap,cur',e1,_⟩
      ·omega
      ·injection e1 with e1
       refine ⟨g,e1,?_⟩;have:=hlsW.own.cells (g:=g) (by rw [e1];rfl) k2 vsM[k2] (List.getElem?_eq_getElem hvl);rw [Addr.add_lit,hval] at this;simpa using this
     have HLC:Hid (∀ W,Aft wr W -> W.cell? ⟨gl,k2,none⟩ = some (.slice Al M[k2].length cl)):=Lib.hid fun W hW=>by
      have hb:gl < wr.heap.size:=(World.block_lt_of_cell? _ _ hlc);obtain ⟨u,rfl⟩:=hW;exact (World.lat_cell _ _ _ _ hb).trans hlc
     have HIL:=Lib.hid hil;have iM:(0:Int) <= (k2:Int) /\ (k2:Int) < (M.length:Int):=by omega
     subst hmA;have HLE:=Lib.hid hlen;clear hlsW hrow hrowZ hml hval hil hlc hlen;generalize M[k2] = l at *;have HCL:Hid (∀ x ∈ cu,x.length = l.length):=Lib.hid fun x hx=>by rw [HLE.out];exact HAL.out _ _ _ _ HAI2.out x hx
     (repeat (first | go_big_skip | go_big_want | go_big_move | go_big_op | go_step | go_upon | go_back));generalize wr = W0 at *;go_loopw [10] (fun i wq=>∃ p:Nat,i = .int .i64 p /\ p <= cu.length /\ Aft W0 wq /\ ∀ i,i < p -> lexB (cu.getD i []) l = true) (fun i _=>cu.length - (intOf i).toNat)
     case atStart=>exact ⟨0,rfl,by omega,Aft.refl _,fun i hi=>absurd hi (Nat.not_lt_zero _)⟩
     case round =>
      obtain ⟨p,rfl,hp,haq,hlt⟩:=hrel;have HAQ:=Lib.hid haq;have HLT:=Lib.hid hlt;have HAWQ:=Lib.hid (HAW.out.drewN _ haq);clear haq hlt;have hmx:Tryz.prog.follows .mixedOrders = true:=by kernel_rfl
      by_cases hpn:p < cu.length
      ·have hdecp:decide (p < cu.length) = true:=decide_eq_true hpn;have hdecp2:decide ((p:Int) < (cu.length:Int)) = true:=decide_eq_true (by omega);have hpI:((p:Int) == (cu.length:Int)) = false:=by simp;omega
       obtain ⟨g,c',Ap,dp,ev,hcp',hip'⟩:=HAWQ.out.1.at hpn;cases ev;have hplen:=HCL.out cu[p] (List.getElem_mem hpn);have epd:cu.getD p [] = cu[p]:=by rw [List.getD_eq_getElem?_getD,List.getElem?_eq_getElem hpn];rfl
       have HCP:Hid (∀ W,Aft wr W -> W.cell? ⟨g,p,none⟩ = some (.slice Ap cu[p].length dp)):=Lib.hid fun W hW=>by
        have hb:g < wr.heap.size:=(World.block_lt_of_cell? _ _ hcp');obtain ⟨u,rfl⟩:=hW;exact (World.lat_cell _ _ _ _ hb).trans hcp'
       have HIP:=Lib.hid hip';have HPL:=Lib.hid hplen;have HEP:=Lib.hid epd;have ip:(0:Int) <= (p:Int) /\ (p:Int) < (cu.length:Int):=by omega
       have HBF:Hid (∀ W,Aft wr W -> Calls Tryz.prog 59 #[.slice Ap cu[p].length dp,.slice Al l.length cl] W fun e w'=>e = .returned (.bool (lexB (cu.getD p []) l)) /\ Aft W w'):=Lib.hid fun W hW=>by
        have:=beforeRef_any W cu[p] l Ap Al dp cl (hip'.aft hW) (HIL.out.aft (HAQ.out.trans hW)) hplen;rw [<- epd] at this ⊢;exact this
       have HBF2:Hid (∀ W,Aft wr W -> Calls Tryz.prog 59 #[.slice Al l.length cl,.slice Ap cu[p].length dp] W fun e w'=>e = .returned (.bool (lexB l (cu.getD p []))) /\ Aft W w'):=Lib.hid fun W hW=>by
        have:=beforeRef_any W l cu[p] Al Ap cl dp (HIL.out.aft (HAQ.out.trans hW)) (hip'.aft hW) hplen.symm;rw [<- epd] at this ⊢;exact this
       clear hcp' hip' hplen epd;generalize cu[p].length = q at *;obtain ⟨r1,hr1⟩:∃ r,lexB (cu.getD p []) l = r:=⟨_,rfl⟩;obtain ⟨r2,hr2⟩:∃ r,lexB l (cu.getD p []) = r:=⟨_,rfl⟩;rw [hr1] at HBF;rw [hr2] at HBF2;have HR1:=Lib.hid hr1;have HR2:=Lib.hid hr2;clear hr1 hr2;(repeat (first | go_big_skip | go_big_want | go_big_move | go_big_op | go_step | go_upon | go_back));refine wp_region_valsG hmx 90 rfl (by kernel_rfl) (by kernel_rfl) [.int .i64 p,.slice (some ⟨g,0,none⟩) cu.length sc,.int .i64 cu.length,.bool true,.bool true,.slice (some ⟨g,0,none⟩) cu.length sc,.int .i64 p,.pointer (some ⟨g,p,none⟩),.slice Ap q dp,.slice (some ⟨gl,0,none⟩) M.length mc,.int .i64 k2,.pointer (some ⟨gl,k2,none⟩),.slice Al l.length cl,.bool r1,.bool r1] rfl (fun X=>Aft wr X) (Aft.drew _) ?step ?fin
       case step =>
        intro i' o v ho hv
        match i',ho,hv with
        | 0,ho,hv =>
         cases ho;cases hv;refine .inl ⟨rfl,fun a X hk hX K hK=>?_⟩;have e_10:a.eval (.tmp 10) = .int .i64 p:=(hk.same 10 (by decide)).trans rfl;exact op_val (by simp [go_sem,ev' e_10]) (hK _ hX)
        | 1,ho,hv =>
         cases ho;cases hv;refine .inl ⟨rfl,fun a X hk hX K hK=>?_⟩;have e_6:a.eval (.tmp 6) = .slice (some ⟨g,0,none⟩) cu.length sc:=(hk.same 6 (by decide)).trans rfl;exact op_val (by simp [go_sem,ev' e_6]) (hK _ hX)
        | 2,ho,hv =>
         cases ho;cases hv;refine .inl ⟨rfl,fun a X hk hX K hK=>?_⟩;have e_37:a.eval (.tmp 37) = .slice (some ⟨g,0,none⟩) cu.length sc:=hk.at_ 1 _ 37 _ rfl (by decide) _ rfl rfl rfl;exact op_val (by simp [go_sem,ev' e_37]) (hK _ hX)
        | 3,ho,hv =>
         cases ho;cases hv;refine .inl ⟨rfl,fun a X hk hX K hK=>?_⟩;have e_36:a.eval (.tmp 36) = .int .i64 p:=hk.at_ 0 _ 36 _ rfl (by decide) _ rfl rfl rfl;have e_38:a.eval (.tmp 38) = .int .i64 cu.length:=hk.at_ 2 _ 38 _ rfl (by decide) _ rfl rfl rfl;exact op_val (by simp [go_sem,ev' e_36,ev' e_38,hdecp,hdecp2]) (hK _ hX)
        | 4,ho,hv =>
         cases ho;cases hv;refine .inl ⟨rfl,fun a X hk hX K hK=>?_⟩;have e_39:a.eval (.tmp 39) = .bool true:=hk.at_ 3 _ 39 _ rfl (by decide) _ rfl rfl rfl;exact op_val (by simp [go_sem,ev' e_39]) (hK _ hX)
        | 5,ho,hv =>
         cases ho;cases hv;refine .inl ⟨rfl,fun a X hk hX K hK=>?_⟩;have e_6:a.eval (.tmp 6) = .slice (some ⟨g,0,none⟩) cu.length sc:=(hk.same 6 (by decide)).trans rfl;exact op_val (by simp [go_sem,ev' e_6]) (hK _ hX)
        | 6,ho,hv =>
         cases ho;cases hv;refine .inl ⟨rfl,fun a X hk hX K hK=>?_⟩;have e_10:a.eval (.tmp 10) = .int .i64 p:=(hk.same 10 (by decide)).trans rfl;exact op_val (by simp [go_sem,ev' e_10]) (hK _ hX)
        | 7,ho,hv =>
         cases ho;cases hv;refine .inl ⟨rfl,fun a X hk hX K hK=>?_⟩;have e_41:a.eval (.tmp 41) = .slice (some ⟨g,0,none⟩) cu.length sc:=hk.at_ 5 _ 41 _ rfl (by decide) _ rfl rfl rfl;have e_42:a.eval (.tmp 42) = .int .i64 p:=hk.at_ 6 _ 42 _ rfl (by decide) _ rfl rfl rfl;exact op_val (by simp [go_sem,ev' e_41,ev' e_42,ip]) (hK _ hX)
        | 8,ho,hv =>
         cases ho;cases hv;refine .inl ⟨rfl,fun a X hk hX K hK=>?_⟩;have e_43:a.eval (.tmp 43) = .pointer (some ⟨g,p,none⟩):=hk.at_ 7 _ 43 _ rfl (by decide) _ rfl rfl rfl;have hc:=HCP.out X hX;exact op_val (by simp [go_sem,ev' e_43,hc]) (hK _ hX)
        | 9,ho,hv =>
         cases ho;cases hv;refine .inl ⟨rfl,fun a X hk hX K hK=>?_⟩;have e_8:a.eval (.tmp 8) = .slice (some ⟨gl,0,none⟩) M.length mc:=(hk.same 8 (by decide)).trans rfl;exact op_val (by simp [go_sem,ev' e_8]) (hK _ hX)
        | 10,ho,hv =>
         cases ho;cases hv;refine .inl ⟨rfl,fun a X hk hX K hK=>?_⟩;have e_9:a.eval (.tmp 9) = .int .i64 k2:=(hk.same 9 (by decide)).trans rfl;exact op_val (by simp [go_sem,ev' e_9]) (hK _ hX)
        | 11,ho,hv =>
         cases ho;cases hv;refine .inl ⟨rfl,fun a X hk hX K hK=>?_⟩;have e_45:a.eval (.tmp 45) = .slice (some ⟨gl,0,none⟩) M.length mc:=hk.at_ 9 _ 45 _ rfl (by decide) _ rfl rfl rfl;have e_46:a.eval (.tmp 46) = .int .i64 k2:=hk.at_ 10 _ 46 _ rfl (by decide) _ rfl rfl rfl;exact op_val (by simp [go_sem,ev' e_45,ev' e_46,iM]) (hK _ hX)
        | 12,ho,hv =>
         cases ho;cases hv;refine .inl ⟨rfl,fun a X hk hX K hK=>?_⟩;have e_47:a.eval (.tmp 47) = .pointer (some ⟨gl,k2,none⟩):=hk.at_ 11 _ 47 _ rfl (by decide) _ rfl rfl rfl;have hc:=HLC.out X (HAQ.out.trans hX);exact op_val (by simp [go_sem,ev' e_47,hc]) (hK _ hX)
        | 13,ho,hv =>
         cases ho;cases hv;refine .inl ⟨rfl,fun a X hk hX K hK=>?_⟩;have e_44:a.eval (.tmp 44) = .slice Ap q dp:=hk.at_ 8 _ 44 _ rfl (by decide) _ rfl rfl rfl;have e_48:a.eval (.tmp 48) = .slice Al l.length cl:=hk.at_ 12 _ 48 _ rfl (by decide) _ rfl rfl rfl;refine op_call2 Tryz.func59 (by kernel_rfl) (by kernel_rfl) _ _ rfl e_44 e_48 (HBF.out X hX) ?_;rintro e x6 ⟨rfl,ha⟩;exact ⟨_,rfl,hK _ (hX.trans ha)⟩
        | 14,ho,hv =>
         cases ho;cases hv;refine .inl ⟨rfl,fun a X hk hX K hK=>?_⟩;have e_40:a.eval (.tmp 40) = .bool true:=hk.at_ 4 _ 40 _ rfl (by decide) _ rfl rfl rfl;have e_49:a.eval (.tmp 49) = .bool r1:=hk.at_ 13 _ 49 _ rfl (by decide) _ rfl rfl rfl;exact op_val (by simp [go_sem,ev' e_40,ev' e_49]) (hK _ hX)
        | _ + 15,ho,_=>cases ho
       case fin =>
        intro X6 hX6;simp only [List.zip_cons_cons,List.zip_nil_right,putAll,Act.put,List.setIfInBounds_toArray,List.set_cons_succ,List.set_cons_zero];have HX6:=Lib.hid hX6;clear hX6
        cases r1 with
        | true =>
         have HLT2:Hid (∀ i,i < p + 1 -> lexB (cu.getD i []) l = true):=Lib.hid fun i hi=>by
          by_cases e:i = p
          ·rw [e];exact HR1.out
          ·exact HLT.out i (by omega)
         have HAQ6:=Lib.hid (HAQ.out.trans HX6.out);(repeat (first | go_big_skip | go_big_want | go_big_move | go_big_op | go_step | go_upon | go_back));exact ⟨⟨p + 1,by go_num,by omega,HAQ6.out,HLT2.out⟩,by simp [intOf];omega⟩
        | false =>
         have HINS:Hid (insL l cu = if p = cu.length \/ lexB l (cu.getD p []) = true then cu.take p ++ l :: cu.drop p else cu):=Lib.hid (insL_at hp HLT.out (fun _=>HR1.out));have HAW6:=Lib.hid (HAWQ.out.drewN _ HX6.out);(repeat (first | go_big_skip | go_big_want | go_big_move | go_big_op | go_step | go_upon | go_back));refine wp_region_valsG hmx 90 rfl (by kernel_rfl) (by kernel_rfl) [.int .i64 p,.slice (some ⟨g,0,none⟩) cu.length sc,.int .i64 cu.length,.bool false,.bool false,.slice (some ⟨gl,0,none⟩) M.length mc,.int .i64 k2,.pointer (some ⟨gl,k2,none⟩),.slice Al l.length cl,.slice (some ⟨g,0,none⟩) cu.length sc,.int .i64 p,.pointer (some ⟨g,p,none⟩),.slice Ap q dp,.bool r2,.bool r2] rfl (fun X=>Aft X6 X) (Aft.drew _) ?step2 ?fin2
         case step2 =>
          intro i' o v ho hv
          match i',ho,hv with
          | 0,ho,hv =>
           cases ho;cases hv;refine .inl ⟨rfl,fun a X hk hX K hK=>?_⟩;have e_10:a.eval (.tmp 10) = .int .i64 p:=(hk.same 10 (by decide)).trans rfl;exact op_val (by simp [go_sem,ev' e_10]) (hK _ hX)
          | 1,ho,hv =>
           cases ho;cases hv;refine .inl ⟨rfl,fun a X hk hX K hK=>?_⟩;have e_6:a.eval (.tmp 6) = .slice (some ⟨g,0,none⟩) cu.length sc:=(hk.same 6 (by decide)).trans rfl;exact op_val (by simp [go_sem,ev' e_6]) (hK _ hX)
          | 2,ho,hv =>
           cases ho;cases hv;refine .inl ⟨rfl,fun a X hk hX K hK=>?_⟩;have e_54:a.eval (.tmp 54) = .slice (some ⟨g,0,none⟩) cu.length sc:=hk.at_ 1 _ 54 _ rfl (by decide) _ rfl rfl rfl;exact op_val (by simp [go_sem,ev' e_54]) (hK _ hX)
          | 3,ho,hv =>
           cases ho;cases hv;refine .inl ⟨rfl,fun a X hk hX K hK=>?_⟩;have e_53:a.eval (.tmp 53) = .int .i64 p:=hk.at_ 0 _ 53 _ rfl (by decide) _ rfl rfl rfl;have e_55:a.eval (.tmp 55) = .int .i64 cu.length:=hk.at_ 2 _ 55 _ rfl (by decide) _ rfl rfl rfl;exact op_val (by simp [go_sem,ev' e_53,ev' e_55,hpI]) (hK _ hX)
          | 4,ho,hv =>
           cases ho;cases hv;refine .inl ⟨rfl,fun a X hk hX K hK=>?_⟩;have e_56:a.eval (.tmp 56) = .bool false:=hk.at_ 3 _ 56 _ rfl (by decide) _ rfl rfl rfl;exact op_val (by simp [go_sem,ev' e_56]) (hK _ hX)
          | 5,ho,hv =>
           cases ho;cases hv;refine .inl ⟨rfl,fun a X hk hX K hK=>?_⟩;have e_8:a.eval (.tmp 8) = .slice (some ⟨gl,0,none⟩) M.length mc:=(hk.same 8 (by decide)).trans rfl;exact op_val (by simp [go_sem,ev' e_8]) (hK _ hX)
          | 6,ho,hv =>
           cases ho;cases hv;refine .inl ⟨rfl,fun a X hk hX K hK=>?_⟩;have e_9:a.eval (.tmp 9) = .int .i64 k2:=(hk.same 9 (by decide)).trans rfl;exact op_val (by simp [go_sem,ev' e_9]) (hK _ hX)
          | 7,ho,hv =>
           cases ho;cases hv;refine .inl ⟨rfl,fun a X hk hX K hK=>?_⟩;have e_58:a.eval (.tmp 58) = .slice (some ⟨gl,0,none⟩) M.length mc:=hk.at_ 5 _ 58 _ rfl (by decide) _ rfl rfl rfl;have e_59:a.eval (.tmp 59) = .int .i64 k2:=hk.at_ 6 _ 59 _ rfl (by decide) _ rfl rfl rfl;exact op_val (by simp [go_sem,ev' e_58,ev' e_59,iM]) (hK _ hX)
          | 8,ho,hv =>
           cases ho;cases hv;refine .inl ⟨rfl,fun a X hk hX K hK=>?_⟩;have e_60:a.eval (.tmp 60) = .pointer (some ⟨gl,k2,none⟩):=hk.at_ 7 _ 60 _ rfl (by decide) _ rfl rfl rfl;have hc:=HLC.out X (HAQ.out.trans (HX6.out.trans hX));exact op_val (by simp [go_sem,ev' e_60,hc]) (hK _ hX)
          | 9,ho,hv =>
           cases ho;cases hv;refine .inl ⟨rfl,fun a X hk hX K hK=>?_⟩;have e_6:a.eval (.tmp 6) = .slice (some ⟨g,0,none⟩) cu.length sc:=(hk.same 6 (by decide)).trans rfl;exact op_val (by simp [go_sem,ev' e_6]) (hK _ hX)
          | 10,ho,hv =>
           cases ho;cases hv;refine .inl ⟨rfl,fun a X hk hX K hK=>?_⟩;have e_10:a.eval (.tmp 10) = .int .i64 p:=(hk.same 10 (by decide)).trans rfl;exact op_val (by simp [go_sem,ev' e_10]) (hK _ hX)
          | 11,ho,hv =>
           cases ho;cases hv;refine .inl ⟨rfl,fun a X hk hX K hK=>?_⟩;have e_62:a.eval (.tmp 62) = .slice (some ⟨g,0,none⟩) cu.length sc:=hk.at_ 9 _ 62 _ rfl (by decide) _ rfl rfl rfl;have e_63:a.eval (.tmp 63) = .int .i64 p:=hk.at_ 10 _ 63 _ rfl (by decide) _ rfl rfl rfl;exact op_val (by simp [go_sem,ev' e_62,ev' e_63,ip]) (hK _ hX)
          | 12,ho,hv =>
           cases ho;cases hv;refine .inl ⟨rfl,fun a X hk hX K hK=>?_⟩;have e_64:a.eval (.tmp 64) = .pointer (some ⟨g,p,none⟩):=hk.at_ 11 _ 64 _ rfl (by decide) _ rfl rfl rfl;have hc:=HCP.out X (HX6.out.trans hX);exact op_val (by simp [go_sem,ev' e_64,hc]) (hK _ hX)
          | 13,ho,hv =>
           cases ho;cases hv;refine .inl ⟨rfl,fun a X hk hX K hK=>?_⟩;have e_61:a.eval (.tmp 61) = .slice Al l.length cl:=hk.at_ 8 _ 61 _ rfl (by decide) _ rfl rfl rfl;have e_65:a.eval (.tmp 65) = .slice Ap q dp:=hk.at_ 12 _ 65 _ rfl (by decide) _ rfl rfl rfl;refine op_call2 Tryz.func59 (by kernel_rfl) (by kernel_rfl) _ _ rfl e_61 e_65 (HBF2.out X (HX6.out.trans hX)) ?_;rintro e x6 ⟨rfl,ha⟩;exact ⟨_,rfl,hK _ (hX.trans ha)⟩
          | 14,ho,hv =>
           cases ho;cases hv;refine .inl ⟨rfl,fun a X hk hX K hK=>?_⟩;have e_57:a.eval (.tmp 57) = .bool false:=hk.at_ 4 _ 57 _ rfl (by decide) _ rfl rfl rfl;have e_66:a.eval (.tmp 66) = .bool r2:=hk.at_ 13 _ 66 _ rfl (by decide) _ rfl rfl rfl;exact op_val (by simp [go_sem,ev' e_57,ev' e_66]) (hK _ hX)
          | _ + 15,ho,_=>cases ho
         case fin2 =>
          intro X7 hX7;simp only [List.zip_cons_cons,List.zip_nil_right,putAll,Act.put,List.setIfInBounds_toArray,List.set_cons_succ,List.set_cons_zero];have HAW7:=Lib.hid (HAW6.out.drewN _ hX7);have HLC7:=Lib.hid (fun W hW=>HLC.out W (HAQ.out.trans (HX6.out.trans (hX7.trans hW))));have HIL7:=Lib.hid (HIL.out.aft (HAQ.out.trans (HX6.out.trans hX7)));clear hX7
          cases r2 with
          | false =>
           have hnp:¬(p = cu.length \/ lexB l (cu.getD p []) = true):=fun h=>h.elim (fun h=>by omega) (fun h=>by rw [HR2.out] at h;cases h)
           have HEQ:Hid (insL l cu = cu):=Lib.hid (by rw [HINS.out,if_neg hnp]);have hgt:decide ((200:Int) < (cu.length:Int)) = false:=decide_eq_false (by omega);have hgt2:decide (200 < cu.length) = false:=decide_eq_false (by omega);have HAI4:Hid (AI T k M (k2 + 1) cu):=Lib.hid (by
            rcases HPUT.out with ⟨_,h⟩ | ⟨h,_⟩
            ·rw [HEQ.out] at h;exact h
            ·rw [HEQ.out] at h;omega)
           (repeat (first | go_big_skip | go_big_want | go_big_move | go_big_op | go_step | go_upon | go_back));exact ⟨⟨k2 + 1,cu,by go_num,by omega,HAW7.out,HAI4.out⟩,by simp [intOf];omega⟩
          | true =>
           have HEQ:Hid (insL l cu = cu.take p ++ l :: cu.drop p):=Lib.hid (by rw [HINS.out,if_pos (.inr HR2.out)]);have HLNE:Hid (∀ x ∈ cu,x ≠ []):=Lib.hid fun x hx e=>by have:=HCL.out x hx;have:=HLE.out;rw [e] at *;simp at *;omega
           have HAWa:=Lib.hid (HAW7.out.drewN _ (Aft.alloc X7 (.cells #[.slice none 0 0] 24)));obtain ⟨haft,vs,hown,hrows⟩:=HAWa.out.1;have HAFT:=Lib.hid haft;have HOWN:=Lib.hid hown;have HROWS:=Lib.hid hrows;have hvsl:vs.length = cu.length:=by simpa using hown.1
           have hcn:cu.length <= 1000000:=by omega
           clear haft hown hrows;go_upto_region 18 with (at_builtin;go_loud (refine wpList_app1 ty41 rfl _ _ rfl HAFT.out.size rfl HOWN.out rfl (Blk.new _ _ _) rfl (fun u hu=>by rw [List.mem_singleton] at hu;subst hu;rfl) hcn (by decide) ?_;intro v' w6 hown6 hg6 hat6;have HO6:=Lib.hid hown6;have HG6:Hid ((X7.alloc (.cells #[.slice none 0 0] 24)).grownBy w6 (Value.slice (some ⟨g,0,none⟩) cu.length sc).ownBlock):=Lib.hid hg6;have HT6:Hid (v'.ownBlock = (Value.slice (some ⟨g,0,none⟩) cu.length sc).ownBlock \/ v'.ownBlock = some (X7.alloc (.cells #[.slice none 0 0] 24)).heap.size):=Lib.hid hat6;obtain ⟨g',c',ev'⟩:=own_pos hown6;subst ev';clear hown6 hg6 hat6))
           have hcap:cu.length + 1 <= c':=by
            rcases HO6.out.2 with ⟨h0,_⟩ | ⟨_,_,_,e1,_,_,hc,_⟩
            ·cases h0
            ·cases e1;exact hc
           have hsl1:(0:Int) <= (p:Int) + 1 /\ (p:Int) + 1 <= ((cu.length + 1:Nat):Int):=by omega
           have hsl2:(0:Int) <= (p:Int) /\ (p:Int) <= ((cu.length + 1:Nat):Int):=by omega
           refine wp_region_tail 7 (by kernel_rfl) (by kernel_rfl) ?_;simp only [List.take_succ_cons,List.take_zero,List.drop_succ_cons,List.drop_zero];repeat (first | go_big_quiet_skip | (go_big_quiet_want;go_big_quiet_op;go_big_quiet_on))
           refine wpQuiet_nil ?_;have hpv:p < cu.length:=by omega
           obtain ⟨cur7,hh7,hfit7,hlen7,hsrc7,hrow7⟩:=own_shift (own_aft HO6.out (Aft.drew w6)) hpv
           have hone:∀ u ∈ vs.drop p,u.oneCell' = true:=fun u hu=>by
            obtain ⟨j,hj,rfl⟩:=List.getElem_of_mem (List.mem_of_mem_drop hu);obtain ⟨A9,c9,e9,-⟩:=HROWS.out j (by omega);rw [List.getElem?_eq_getElem hj] at e9;injection e9 with e9
            rw [e9];rfl
           refine wpList_copy_own rfl _ _ 37 37 rfl 24 (by kernel_rfl) (by kernel_rfl) _ _ _ _ _ _ _ rfl rfl cur7 _ hh7 (vs.drop p) (by rw [hlen7];show _ = min _ _;omega) (fun j u hj=>by rw [Addr.add_lit];exact hsrc7 j u hj) hfit7 hone ?_;have hg7:w6.grownBy _ (some g'):=(only_aft (only_refl w6 (some g')) (Aft.drew w6)).trans (grownBy_setRow w6.drew g' (cur7.toList.take (p + 1) ++ (vs.drop p ++ cur7.toList.drop (p + 1 + (vs.drop p).length))).toArray);generalize w6.drew.setRow g' (cur7.toList.take (p + 1) ++ (vs.drop p ++ cur7.toList.drop (p + 1 + (vs.drop p).length))).toArray = w7 at *;have HV7:Hid (∀ x,(vs.take (p + 1) ++ vs.drop p).set p x = vs.take p ++ x :: vs.drop p):=Lib.hid fun x=>set_shift (by omega)
           generalize vs.take (p + 1) ++ vs.drop p = V7 at *;clear hh7 hfit7 hlen7 hsrc7 hone;have HR7:=Lib.hid hrow7;have HG7:=Lib.hid hg7;have HS:=Lib.hid (fun x=>own_set HR7.out (show p < cu.length + 1 by omega) x);obtain ⟨u7,hu7⟩:=Option.ne_none_iff_exists'.1 (HS.out (.bool true)).2.1;have f7:=(HS.out (.bool true)).2.2.1;have hlt7:=(HS.out (.bool true)).2.2.2;have HMB:=Lib.hid (HLS.out.own.lt gl rfl)
           have hgl:(Value.slice (some ⟨g,0,none⟩) cu.length sc).ownBlock ≠ some gl:=fun e=>by
            have h1:=HMB.out;rcases HAWa.out.2.2 with h2 | h2
            ·have:=HOB.out gl (by rw [<- h2];exact e);omega
            ·have:=h2 gl e;omega
           have hglA:gl < (X7.alloc (.cells #[.slice none 0 0] 24)).heap.size:=Nat.lt_of_lt_of_le HMB.out.2 HAWa.out.2.1.size
           have hgl':g' ≠ gl:=fun e=>by
            rcases HT6.out with h | h
            ·exact hgl (h.symm.trans (congrArg some e))
            ·have h':some g' = some (X7.alloc (.cells #[.slice none 0 0] 24)).heap.size:=h;injection h' with h'
             omega
           have hl7:w7.cell? ⟨gl,k2,none⟩ = some (.slice Al l.length cl):=by
            rw [grown_cell HG7.out (Nat.lt_of_lt_of_le hglA HG6.out.size) (fun e=>by injection e with e;exact hgl' e),grown_cell HG6.out hglA hgl];exact HLC7.out _ (Aft.alloc X7 _)
           have hlne:l ≠ []:=fun e=>by have:=HLE.out;rw [e] at this;simp at this
           have HO8:Hid (OutI Y (cu.take p ++ l :: cu.drop p) (.slice (some ⟨g',0,none⟩) (cu.length + 1) c') (w7.setCell ⟨g',p,none⟩ (.slice Al l.length cl))):=Lib.hid (OutI.put HAFT.out HOWN.out HROWS.out HLNE.out hlne rfl (HIL7.out.aft (Aft.alloc X7 _)) HLB.out (by omega) rfl HG6.out HT6.out (only_setCell HG7.out (.inl rfl) _) (by rw [<- HV7.out];exact (HS.out _).1));have HAW8:Hid (AW Y Z vZ (cu.take p ++ l :: cu.drop p) (.slice (some ⟨g',0,none⟩) (cu.length + 1) c') (w7.setCell ⟨g',p,none⟩ (.slice Al l.length cl))):=Lib.hid (HAWa.out.put HO8.out HG6.out HT6.out (only_setCell HG7.out (.inl rfl) _));have hlen8:(insL l cu).length = cu.length + 1:=by rw [HEQ.out];simp only [List.length_append,List.length_take,List.length_cons,List.length_drop];omega
           have ip7:(0:Int) <= (p:Int) /\ (p:Int) < ((cu.length + 1:Nat):Int):=by omega
           rcases HPUT.out with ⟨hle,hai8⟩ | ⟨hgt,hall⟩
           ·have HAI8:Hid (AI T k M (k2 + 1) (cu.take p ++ l :: cu.drop p)):=Lib.hid (by rw [<- HEQ.out];exact hai8);have hgt1:decide ((200:Int) < ((cu.length + 1:Nat):Int)) = false:=decide_eq_false (by omega);have hgt2:decide ((200:Int) < (cu.length:Int) + 1) = false:=decide_eq_false (by omega);have hgt3:decide (200 < cu.length + 1) = false:=decide_eq_false (by omega);clear hle hai8 hlen8 hlne hgl hgl' hglA hrow7 hg7;(repeat (first | go_big_skip | go_big_want | go_big_move | go_big_op | go_step | go_upon | go_back));exact ⟨⟨k2 + 1,cu.take p ++ l :: cu.drop p,by go_num,by omega,HAW8.out,HAI8.out⟩,by simp [intOf];omega⟩
           ·have HRT:=Lib.hid (HER.out hall _ (HAY.out.trans HO8.out.aft));have hgt1:decide ((200:Int) < ((cu.length + 1:Nat):Int)) = true:=decide_eq_true (by omega);have hgt2:decide ((200:Int) < (cu.length:Int) + 1) = true:=decide_eq_true (by omega);have hgt3:decide (200 < cu.length + 1) = true:=decide_eq_true (by omega);clear hgt hall hlen8 hlne hgl hgl' hglA hrow7 hg7;(repeat (first | go_big_skip | go_big_want | go_big_move | go_big_op | go_step | go_upon | go_back));go_ret2;exact HRT.out
      ·have hdecp:decide (p < cu.length) = false:=decide_eq_false hpn;obtain rfl:p = cu.length:=by omega
       have hc200':=hc200;have hirr:decide ((cu.length:Int) < (cu.length:Int)) = false:=decide_eq_false (by omega);have hirr2:decide (cu.length < cu.length) = false:=decide_eq_false (by omega);have hbeq:((cu.length:Int) == (cu.length:Int)) = true:=by simp
       (repeat (first | go_big_skip | go_big_want | go_big_move | go_big_op | go_step | go_upon | go_back));refine wp_region_valsG hmx 90 rfl (by kernel_rfl) (by kernel_rfl) [.int .i64 cu.length,.slice sA cu.length sc,.int .i64 cu.length,.bool false,.bool false,undef,undef,undef,undef,undef,undef,undef,undef,undef,.bool false] rfl (fun X=>Aft wr X) (Aft.drew _) ?step ?fin
       case step =>
        intro i' o v ho hv
        match i',ho,hv with
        | 0,ho,hv =>
         cases ho;cases hv;refine .inl ⟨rfl,fun a X hk hX K hK=>?_⟩;have e_10:a.eval (.tmp 10) = .int .i64 cu.length:=(hk.same 10 (by decide)).trans rfl;exact op_val (by simp [go_sem,ev' e_10]) (hK _ hX)
        | 1,ho,hv =>
         cases ho;cases hv;refine .inl ⟨rfl,fun a X hk hX K hK=>?_⟩;have e_6:a.eval (.tmp 6) = .slice sA cu.length sc:=(hk.same 6 (by decide)).trans rfl;exact op_val (by simp [go_sem,ev' e_6]) (hK _ hX)
        | 2,ho,hv =>
         cases ho;cases hv;refine .inl ⟨rfl,fun a X hk hX K hK=>?_⟩;have e_37:a.eval (.tmp 37) = .slice sA cu.length sc:=hk.at_ 1 _ 37 _ rfl (by decide) _ rfl rfl rfl;exact op_val (by simp [go_sem,ev' e_37]) (hK _ hX)
        | 3,ho,hv =>
         cases ho;cases hv;refine .inl ⟨rfl,fun a X hk hX K hK=>?_⟩;have e_36:a.eval (.tmp 36) = .int .i64 cu.length:=hk.at_ 0 _ 36 _ rfl (by decide) _ rfl rfl rfl;have e_38:a.eval (.tmp 38) = .int .i64 cu.length:=hk.at_ 2 _ 38 _ rfl (by decide) _ rfl rfl rfl;exact op_val (by simp [go_sem,ev' e_36,ev' e_38,hirr,hirr2]) (hK _ hX)
        | 4,ho,hv =>
         cases ho;cases hv;refine .inl ⟨rfl,fun a X hk hX K hK=>?_⟩;have e_39:a.eval (.tmp 39) = .bool false:=hk.at_ 3 _ 39 _ rfl (by decide) _ rfl rfl rfl;exact op_val (by simp [go_sem,ev' e_39]) (hK _ hX)
        | 5,ho,hv | 6,ho,hv | 7,ho,hv | 8,ho,hv | 9,ho,hv | 10,ho,hv | 11,ho,hv | 12,ho,hv | 13,ho,hv =>
         cases ho;cases hv;exact .inr ⟨rfl,rfl⟩
        | 14,ho,hv =>
         cases ho;cases hv;refine .inl ⟨rfl,fun a X hk hX K hK=>?_⟩;have e_40:a.eval (.tmp 40) = .bool false:=hk.at_ 4 _ 40 _ rfl (by decide) _ rfl rfl rfl;have e_49:a.eval (.tmp 49) = undef:=hk.at_ 13 _ 49 _ rfl (by decide) _ rfl rfl rfl;exact op_val (by simp [go_sem,ev' e_40,ev' e_49]) (hK _ hX)
        | _ + 15,ho,_=>cases ho
       case fin =>
        intro X6 hX6;simp only [List.zip_cons_cons,List.zip_nil_right,putAll,Act.put,List.setIfInBounds_toArray,List.set_cons_succ,List.set_cons_zero];have HX6:=Lib.hid hX6;clear hX6;have HINS:Hid (insL l cu = if cu.length = cu.length \/ lexB l (cu.getD cu.length []) = true then cu.take cu.length ++ l :: cu.drop cu.length else cu):=Lib.hid (insL_at (Nat.le_refl _) HLT.out (fun h=>absurd h (Nat.lt_irrefl _)));have HAW6:=Lib.hid (HAWQ.out.drewN _ HX6.out);(repeat (first | go_big_skip | go_big_want | go_big_move | go_big_op | go_step | go_upon | go_back));refine wp_region_valsG hmx 90 rfl (by kernel_rfl) (by kernel_rfl) [.int .i64 cu.length,.slice sA cu.length sc,.int .i64 cu.length,.bool true,.bool true,undef,undef,undef,undef,undef,undef,undef,undef,undef,.bool true] rfl (fun X=>Aft X6 X) (Aft.drew _) ?step2 ?fin2
        case step2 =>
         intro i' o v ho hv
         match i',ho,hv with
         | 0,ho,hv =>
          cases ho;cases hv;refine .inl ⟨rfl,fun a X hk hX K hK=>?_⟩;have e_10:a.eval (.tmp 10) = .int .i64 cu.length:=(hk.same 10 (by decide)).trans rfl;exact op_val (by simp [go_sem,ev' e_10]) (hK _ hX)
         | 1,ho,hv =>
          cases ho;cases hv;refine .inl ⟨rfl,fun a X hk hX K hK=>?_⟩;have e_6:a.eval (.tmp 6) = .slice sA cu.length sc:=(hk.same 6 (by decide)).trans rfl;exact op_val (by simp [go_sem,ev' e_6]) (hK _ hX)
         | 2,ho,hv =>
          cases ho;cases hv;refine .inl ⟨rfl,fun a X hk hX K hK=>?_⟩;have e_54:a.eval (.tmp 54) = .slice sA cu.length sc:=hk.at_ 1 _ 54 _ rfl (by decide) _ rfl rfl rfl;exact op_val (by simp [go_sem,ev' e_54]) (hK _ hX)
         | 3,ho,hv =>
          cases ho;cases hv;refine .inl ⟨rfl,fun a X hk hX K hK=>?_⟩;have e_53:a.eval (.tmp 53) = .int .i64 cu.length:=hk.at_ 0 _ 53 _ rfl (by decide) _ rfl rfl rfl;have e_55:a.eval (.tmp 55) = .int .i64 cu.length:=hk.at_ 2 _ 55 _ rfl (by decide) _ rfl rfl rfl;exact op_val (by simp [go_sem,ev' e_53,ev' e_55,hbeq]) (hK _ hX)
         | 4,ho,hv =>
          cases ho;cases hv;refine .inl ⟨rfl,fun a X hk hX K hK=>?_⟩;have e_56:a.eval (.tmp 56) = .bool true:=hk.at_ 3 _ 56 _ rfl (by decide) _ rfl rfl rfl;exact op_val (by simp [go_sem,ev' e_56]) (hK _ hX)
         | 5,ho,hv | 6,ho,hv | 7,ho,hv | 8,ho,hv | 9,ho,hv | 10,ho,hv | 11,ho,hv | 12,ho,hv | 13,ho,hv =>
          cases ho;cases hv;exact .inr ⟨rfl,rfl⟩
         | 14,ho,hv =>
          cases ho;cases hv;refine .inl ⟨rfl,fun a X hk hX K hK=>?_⟩;have e_57:a.eval (.tmp 57) = .bool true:=hk.at_ 4 _ 57 _ rfl (by decide) _ rfl rfl rfl;have e_66:a.eval (.tmp 66) = undef:=hk.at_ 13 _ 66 _ rfl (by decide) _ rfl rfl rfl;exact op_val (by simp [go_sem,ev' e_57,ev' e_66]) (hK _ hX)
         | _ + 15,ho,_=>cases ho
        case fin2 =>
         intro X7 hX7;simp only [List.zip_cons_cons,List.zip_nil_right,putAll,Act.put,List.setIfInBounds_toArray,List.set_cons_succ,List.set_cons_zero];have HAW7:=Lib.hid (HAW6.out.drewN _ hX7);have HLC7:=Lib.hid (fun W hW=>HLC.out W (HAQ.out.trans (HX6.out.trans (hX7.trans hW))));have HIL7:=Lib.hid (HIL.out.aft (HAQ.out.trans (HX6.out.trans hX7)));clear hX7;have HEQ:Hid (insL l cu = cu.take cu.length ++ l :: cu.drop cu.length):=Lib.hid (by rw [HINS.out,if_pos (.inl rfl)]);have HLNE:Hid (∀ x ∈ cu,x ≠ []):=Lib.hid fun x hx e=>by have:=HCL.out x hx;have:=HLE.out;rw [e] at *;simp at *;omega
         have HAWa:=Lib.hid (HAW7.out.drewN _ (Aft.alloc X7 (.cells #[.slice none 0 0] 24)));obtain ⟨haft,vs,hown,hrows⟩:=HAWa.out.1;have HAFT:=Lib.hid haft;have HOWN:=Lib.hid hown;have HROWS:=Lib.hid hrows;have hvsl:vs.length = cu.length:=by simpa using hown.1
         have hcn:cu.length <= 1000000:=by omega
         clear haft hown hrows;go_upto_region 18 with (at_builtin;go_loud (refine wpList_app1 ty41 rfl _ _ rfl HAFT.out.size rfl HOWN.out rfl (Blk.new _ _ _) rfl (fun u hu=>by rw [List.mem_singleton] at hu;subst hu;rfl) hcn (by decide) ?_;intro v' w6 hown6 hg6 hat6;have HO6:=Lib.hid hown6;have HG6:Hid ((X7.alloc (.cells #[.slice none 0 0] 24)).grownBy w6 (Value.slice sA cu.length sc).ownBlock):=Lib.hid hg6;have HT6:Hid (v'.ownBlock = (Value.slice sA cu.length sc).ownBlock \/ v'.ownBlock = some (X7.alloc (.cells #[.slice none 0 0] 24)).heap.size):=Lib.hid hat6;obtain ⟨g',c',ev'⟩:=own_pos hown6;subst ev';clear hown6 hg6 hat6))
         have hcap:cu.length + 1 <= c':=by
          rcases HO6.out.2 with ⟨h0,_⟩ | ⟨_,_,_,e1,_,_,hc,_⟩
          ·cases h0
          ·cases e1;exact hc
         have hsl1:(0:Int) <= (cu.length:Int) + 1 /\ (cu.length:Int) + 1 <= ((cu.length + 1:Nat):Int):=by omega
         have hsl2:(0:Int) <= (cu.length:Int) /\ (cu.length:Int) <= ((cu.length + 1:Nat):Int):=by omega
         refine wp_region_tail 7 (by kernel_rfl) (by kernel_rfl) ?_;simp only [List.take_succ_cons,List.take_zero,List.drop_succ_cons,List.drop_zero];repeat (first | go_big_quiet_skip | (go_big_quiet_want;go_big_quiet_op;go_big_quiet_on))
         refine wpQuiet_nil ?_;refine wpList_copy_nothing rfl _ _ 37 37 rfl 24 (by kernel_rfl) (by kernel_rfl) _ _ _ _ _ _ rfl rfl (by show min _ _ = 0;omega) ?_;have hrow7:=own_aft HO6.out (Aft.drew w6);have hg7:w6.grownBy w6.drew (some g'):=only_aft (only_refl w6 (some g')) (Aft.drew w6);generalize w6.drew = w7 at *;have HV7:Hid (∀ x,(vs ++ [Value.slice none 0 0]).set cu.length x = vs.take cu.length ++ x :: vs.drop cu.length):=Lib.hid fun x=>set_end hvsl.symm
         generalize vs ++ [Value.slice none 0 0] = V7 at *;have HR7:=Lib.hid hrow7;have HG7:=Lib.hid hg7;have HS:=Lib.hid (fun x=>own_set HR7.out (show cu.length < cu.length + 1 by omega) x);obtain ⟨u7,hu7⟩:=Option.ne_none_iff_exists'.1 (HS.out (.bool true)).2.1;have f7:=(HS.out (.bool true)).2.2.1;have hlt7:=(HS.out (.bool true)).2.2.2;have HMB:=Lib.hid (HLS.out.own.lt gl rfl)
         have hgl:(Value.slice sA cu.length sc).ownBlock ≠ some gl:=fun e=>by
          have h1:=HMB.out;rcases HAWa.out.2.2 with h2 | h2
          ·have:=HOB.out gl (by rw [<- h2];exact e);omega
          ·have:=h2 gl e;omega
         have hglA:gl < (X7.alloc (.cells #[.slice none 0 0] 24)).heap.size:=Nat.lt_of_lt_of_le HMB.out.2 HAWa.out.2.1.size
         have hgl':g' ≠ gl:=fun e=>by
          rcases HT6.out with h | h
          ·exact hgl (h.symm.trans (congrArg some e))
          ·have h':some g' = some (X7.alloc (.cells #[.slice none 0 0] 24)).heap.size:=h;injection h' with h'
           omega
         have hl7:w7.cell? ⟨gl,k2,none⟩ = some (.slice Al l.length cl):=by
          rw [grown_cell HG7.out (Nat.lt_of_lt_of_le hglA HG6.out.size) (fun e=>by injection e with e;exact hgl' e),grown_cell HG6.out hglA hgl];exact HLC7.out _ (Aft.alloc X7 _)
         have hlne:l ≠ []:=fun e=>by have:=HLE.out;rw [e] at this;simp at this
         have HO8:Hid (OutI Y (cu.take cu.length ++ l :: cu.drop cu.length) (.slice (some ⟨g',0,none⟩) (cu.length + 1) c') (w7.setCell ⟨g',cu.length,none⟩ (.slice Al l.length cl))):=Lib.hid (OutI.put HAFT.out HOWN.out HROWS.out HLNE.out hlne rfl (HIL7.out.aft (Aft.alloc X7 _)) HLB.out (by omega) rfl HG6.out HT6.out (only_setCell HG7.out (.inl rfl) _) (by rw [<- HV7.out];exact (HS.out _).1));have HAW8:Hid (AW Y Z vZ (cu.take cu.length ++ l :: cu.drop cu.length) (.slice (some ⟨g',0,none⟩) (cu.length + 1) c') (w7.setCell ⟨g',cu.length,none⟩ (.slice Al l.length cl))):=Lib.hid (HAWa.out.put HO8.out HG6.out HT6.out (only_setCell HG7.out (.inl rfl) _));have hlen8:(insL l cu).length = cu.length + 1:=by rw [HEQ.out];simp only [List.length_append,List.length_take,List.length_cons,List.length_drop];omega
         have ip7:(0:Int) <= (cu.length:Int) /\ (cu.length:Int) < ((cu.length + 1:Nat):Int):=by omega
         rcases HPUT.out with ⟨hle,hai8⟩ | ⟨hgt,hall⟩
         ·have HAI8:Hid (AI T k M (k2 + 1) (cu.take cu.length ++ l :: cu.drop cu.length)):=Lib.hid (by rw [<- HEQ.out];exact hai8);have hgt1:decide ((200:Int) < ((cu.length + 1:Nat):Int)) = false:=decide_eq_false (by omega);have hgt2:decide ((200:Int) < (cu.length:Int) + 1) = false:=decide_eq_false (by omega);have hgt3:decide (200 < cu.length + 1) = false:=decide_eq_false (by omega);clear hle hai8 hlen8 hlne hgl hgl' hglA hrow7 hg7;(repeat (first | go_big_skip | go_big_want | go_big_move | go_big_op | go_step | go_upon | go_back));exact ⟨⟨k2 + 1,cu.take cu.length ++ l :: cu.drop cu.length,by go_num,by omega,HAW8.out,HAI8.out⟩,by simp [intOf];omega⟩
         ·have HRT:=Lib.hid (HER.out hall _ (HAY.out.trans HO8.out.aft));have hgt1:decide ((200:Int) < ((cu.length + 1:Nat):Int)) = true:=decide_eq_true (by omega);have hgt2:decide ((200:Int) < (cu.length:Int) + 1) = true:=decide_eq_true (by omega);have hgt3:decide (200 < cu.length + 1) = true:=decide_eq_true (by omega);clear hgt hall hlen8 hlne hgl hgl' hglA hrow7 hg7;(repeat (first | go_big_skip | go_big_want | go_big_move | go_big_op | go_step | go_upon | go_back));go_ret2;exact HRT.out
    ·have hdecM:decide (k2 < M.length) = false:=decide_eq_false hkM;obtain rfl:k2 = M.length:=by omega
     have HAI3:=Lib.hid (HNX.out _ HAI2.out);have HOI3:=Lib.hid HAW.out.1;(repeat (first | go_big_skip | go_big_want | go_big_move | go_big_op | go_step | go_upon | go_back));exact ⟨⟨k + 1,cu,by go_num,by omega,HOI3.out,HAI3.out⟩,by simp [intOf];omega⟩
  ·have hdec:decide (k < n0) = false:=decide_eq_false hkn;obtain rfl:k = n0:=by omega
   obtain ⟨A',c',ev,hll⟩:=HOI.out.lists (by omega);cases ev;have HRES:=Lib.hid (HOKK.out cur _ vc wr HAI.out hll (HAY.out.trans HOI.out.aft));clear hll;(repeat (first | go_big_skip | go_big_want | go_big_move | go_big_op | go_step | go_upon | go_back));go_ret2;exact HRES.out
theorem allRef_bad (w:World) (T:Treaty) (a1 a2 a3 a4:Option Addr) (c1 c2 c3 c4:Nat) (hT:TRep w T a1 a2 a3 a4) (hz:checkE T ≠ 0):Calls Tryz.prog 16 #[.agg #[.int .i64 T.places,.slice a1 T.ways.length c1,.slice a2 T.words.length c2,.slice a3 T.starts.length c3,.slice a4 T.legs.length c4]] w (AllU w T):=by
 have HCK:=Lib.hid (fun (y:World) (hy:Aft w y)=>checkRef_any y T a1 a2 a3 a4 c1 c2 c3 c4 (hT.aft hy));have hE:allE T = checkE T:=by unfold allE;rw [if_neg hz]
 have hx:allX T = []:=by unfold allX;rw [if_neg (by rw [hE];exact hz)]
 unfold AllU;rw [hx,hE];have hne:(checkE T != 0) = true:=by simpa using hz
 clear hT hx hz hE;generalize checkE T = E at *;go_enter Tryz.func16,Tryz.ntmps16;go_upto_region 1 with fail
 have hb:=Blk.new w 35 #[.int .i64 T.places,.slice a1 T.ways.length c1,.slice a2 T.words.length c2,.slice a3 T.starts.length c3,.slice a4 T.legs.length c4];have ha:=Aft.alloc w (.cells #[.int .i64 T.places,.slice a1 T.ways.length c1,.slice a2 T.words.length c2,.slice a3 T.starts.length c3,.slice a4 T.legs.length c4] 35);generalize w.alloc (.cells #[.int .i64 T.places,.slice a1 T.ways.length c1,.slice a2 T.words.length c2,.slice a3 T.starts.length c3,.slice a4 T.legs.length c4] 35) = X at *;generalize w.heap.size = B0 at *;have HA:=Lib.hid ha;obtain ⟨k0,k1,k2',k3,k4⟩:=boxC hb;clear hb ha;(repeat (first | go_big_skip | go_big_want | go_big_move | go_big_op | go_step | go_upon | go_back));go_at_call 53;refine (HCK.out X HA.out).mono ?_;rintro e Y ⟨rfl,haY⟩;dsimp only;clear k0 k1 k2' k3 k4;(repeat (first | go_big_skip | go_big_want | go_big_move | go_big_op | go_step | go_upon | go_back));go_ret2;exact ⟨HA.out.trans haY,none,0,rfl,lists_nil _⟩
theorem allRefTop_any (w:World) (T:Treaty) (a1 a2 a3 a4:Option Addr) (c1 c2 c3 c4:Nat) (hT:TRep w T a1 a2 a3 a4):Calls Tryz.prog 16 #[.agg #[.int .i64 T.places,.slice a1 T.ways.length c1,.slice a2 T.words.length c2,.slice a3 T.starts.length c3,.slice a4 T.legs.length c4]] w (AllU w T):=by
 by_cases hz:checkE T = 0
 ·exact allRef_good w T a1 a2 a3 a4 c1 c2 c3 c4 hT hz
 ·exact allRef_bad w T a1 a2 a3 a4 c1 c2 c3 c4 hT hz
end Go.Proofs
end
