/- Own texts, merged: Xf CtAw0 CtAw CtLa0 CtWo0 CtSv0 CtRe CtRg. -/
import Derived.Test.YtbchfakfdikkjaaGreatS12
import Derived.BigGuard
import Derived.Shelf.Slices.Cells
import Derived.Deep.AppendLies
import Derived.Laws.OwnMore
import Derived.Laws.MakeOwn
set_option linter.unusedSimpArgs false
set_option linter.unusedVariables false
set_option linter.unnecessarySimpa false
section
/- Walks: lists of lists cloned,and compared. -/
namespace Go.Proofs
open Go.RowKit
set_option maxHeartbeats 1000000 in
theorem cloneAll_any (w:World) (A:Option Addr) (ls:List (List Int)) (c:Nat) (hA:Lists w A ls) (hl:ls.length <= 1000) :
  Calls Tryz.prog 53 #[.slice A ls.length c] w fun e w'=>∃ v,e = .returned v /\ OwnLists w' w.heap.size v ls /\ Aft w w':=by
 go_enter Tryz.func53,Tryz.ntmps53;go_wp2_with fail
 go_loopw [3,8] (fun v i wr=>∃ k:Nat,i = .int .i64 k /\ k <= ls.length /\ Aft w wr /\ ∃ vs,OwnLs wr w.heap.size v vs (ls.take k)) (fun _ i _=>ls.length - (intOf i).toNat)
 case atStart=>exact ⟨0,rfl,by omega,Aft.refl _,[],OwnLs.nil⟩
 case round =>
  obtain ⟨k,rfl,hk,hw,vs,hown⟩:=hrel;have HO:=Lib.hid hown;clear hown;by_cases hkl:k < ls.length
  ·obtain ⟨b,o,rfl,hb,hc⟩:=(hA.aft hw).at hkl;obtain ⟨Ai,ci,h1,h2⟩:=hc k hkl;have hlr:=h2.len;have HCL:=Lib.hid (kitClone_int Ai ls[k] ci wr h2);have HT:=Lib.hid (show ls.take (k + 1) = ls.take k ++ [ls[k]] from List.take_succ_eq_append_getElem hkl);have hll:(ls.take k).length <= 1000000:=by rw [List.length_take];omega
   have hws:w.heap.size <= wr.heap.size:=hw.size;clear hc h2;generalize ls[k] = r at *
   go_wp2_with (first
    | (go_at_call 24;refine HCL.out.mono ?_;rintro e w1 ⟨v1,rfl,hrow,u,rfl⟩;obtain ⟨A1,c1,rfl,_,_⟩:=own_ints hrow hlr;have HROW:=Lib.hid hrow;clear hrow)
    | (at_builtin;refine wpList_app_list rfl _ _ rfl (W:=wr) HO.out hws rfl rfl (cell_new1 _ _ _) rfl ((Aft.lat _ _).then_alloc _) (own_aft HROW.out (Aft.alloc _ _)) hll ?_;intro v' vs' w5 hown5 hg5))
   have hlt:∀ g,u3.ownBlock = some g -> w.heap.size <= g:=fun g hg=>(HO.out.own.lt g hg).1
   refine ⟨⟨k + 1,by go_num,by omega,(((hw.then_lat u).then_alloc _).grown hg5 hlt),vs',?_⟩,by simp [intOf];omega⟩;rw [HT.out];exact hown5
  ·obtain rfl:k = ls.length:=by omega
   have ho:=HO.out;rw [List.take_of_length_le (Nat.le_refl _)] at ho;go_wp2_with fail
   go_ret;exact ⟨_,rfl,⟨vs,ho⟩,hw⟩
set_option maxRecDepth 100000 in
set_option maxHeartbeats 1000000 in
theorem equalAll_any (w:World) (A A':Option Addr) (l l':List (List Int)) (c c':Nat) (hA:Lists w A l) (hA':Lists w A' l') :
  Calls Tryz.prog 29 #[.slice A l.length c,.slice A' l'.length c'] w fun e w'=>e = .returned (.bool (eqB l l')) /\ Aft w w':=by
 have hl:=hA.len;have hl':=hA'.len;go_enter Tryz.func29,Tryz.ntmps29;go_wp2_with fail
 go_loopw [8] (fun i wr=>∃ k:Nat,i = .int .i64 k /\ k <= l.length /\ k <= l'.length /\ (∀ j,(h:j < l.length) -> (h':j < l'.length) -> j < k -> l[j] = l'[j]) /\ Aft w wr) (fun i _=>l.length - (intOf i).toNat)
 case atStart=>exact ⟨0,rfl,by omega,by omega,fun j _ _ h=>by omega,Aft.refl _⟩
 case round =>
  obtain ⟨k,rfl,hk,hk',hh,hw⟩:=hrel;have HH:=Lib.hid hh;clear hh;by_cases hkl:k < l.length
  ·by_cases hkl':k < l'.length
   ·obtain ⟨b,o,rfl,hb,hc⟩:=(hA.aft hw.then_drew).at hkl;obtain ⟨A1,c1,h1,h2⟩:=hc k hkl;obtain ⟨b',o',rfl,hb',hc'⟩:=(hA'.aft hw.then_drew).at hkl';obtain ⟨A2,c2,h1',h2'⟩:=hc' k hkl';have HEQ:=Lib.hid (kitEqual_int A1 A2 l[k] l'[k] c1 c2 wr.drew h2 h2')
    have HST:=Lib.hid (show l[k] = l'[k] -> ∀ j,(h:j < l.length) -> (h':j < l'.length) -> j < k + 1 -> l[j] = l'[j] from fun e j h h' hj=>by
     by_cases e2:j = k
     ·subst e2;exact e
     ·exact HH.out j h h' (by omega))
    have HNE:=Lib.hid (show ¬ l[k] = l'[k] -> eqB l l' = false from fun e=>decide_eq_false fun e2=>e (by subst e2;rfl));have hge:decide (l'.length <= k) = false:=by simp;omega
    have i1:(0:Int) <= (k:Int) /\ (k:Int) < (l.length:Int):=by omega
    have i2:(0:Int) <= (k:Int) /\ (k:Int) < (l'.length:Int):=by omega
    clear hc hc' h2 h2';generalize l[k] = r at *;generalize l'[k] = r' at *;cases he:eqB r r'
    all_goals
     rw [he] at HEQ;have HE:=Lib.hid he;clear he;go_wp2_with fail
     refine wp_region_tail 13 (by kernel_rfl) (by kernel_rfl) ?_;simp only [List.take_succ_cons,List.take_zero,List.drop_succ_cons,List.drop_zero];repeat (first | go_big_quiet_skip | (go_big_quiet_want;go_big_quiet_op;go_big_quiet_on))
     refine wpQuiet_nil ?_;go_wp2_with (go_at_call 17;refine HEQ.out.mono ?_;rintro e w2 ⟨rfl,ha⟩)
    ·go_ret;exact ⟨ret_bool (HNE.out (of_decide_eq_false HE.out)).symm,hw.then_drew.trans ha⟩
    ·refine ⟨⟨k + 1,by go_num,by omega,by omega,HST.out (of_decide_eq_true HE.out),hw.then_drew.trans ha⟩,by simp [intOf];omega⟩
   ·have hge:decide (l'.length <= k) = true:=by simp;omega
    go_wp2_with fail
    refine wp_region_tail 13 (by kernel_rfl) (by kernel_rfl) ?_;simp only [List.take_succ_cons,List.take_zero,List.drop_succ_cons,List.drop_zero];repeat (first | go_big_quiet_skip | (go_big_quiet_want;go_big_quiet_op;go_big_quiet_on))
    refine wpQuiet_nil ?_;go_wp2_with fail
    go_ret;exact ⟨ret_bool (decide_eq_false fun e=>by subst e;omega).symm,hw.then_drew⟩
  ·go_wp2_with fail
   go_ret;refine ⟨ret_bool ?_,hw⟩;unfold eqB;by_cases e:l.length = l'.length
   ·rw [e];have:l = l':=eq_of_steps l l' (fun i h h'=>HH.out i h h' (by omega)) e;rw [decide_eq_true this];simp
   ·rw [decide_eq_false (fun e2=>e (by rw [e2]))]
    simp;omega
end Go.Proofs
end
section
/- What awake asks,with its answers. -/
namespace Go.Proofs
open Go.RowKit
open Court (refL begF noS award winB tryW FewIs hears)
set_option maxRecDepth 100000
theorem aw_r:foundL (award fiveC.strikes noS 5 (begF (refL []))) 5 = [1,2,0,0,0]:=by kernel_rfl
theorem aw_r0:foundL (award fiveC.strikes noS 5 (begF (refL [0]))) 5 = [2,1,2,1,2]:=by kernel_rfl
theorem aw_e:openE fiveC [] = 0:=by kernel_rfl
theorem aw_e0:openE fiveC [0] = 0:=by kernel_rfl
theorem aw_he:holdsE fiveC [] [1,2,0,0,0] [1,2,0,0,0] = 0:=by kernel_rfl
theorem aw_hb:((List.range 5).all fun n=>heldB fiveC.strikes noS (refL []) (overF [1,2,0,0,0] (begF (refL []))) (overF [1,2,0,0,0] fun _=>0) (n:Nat)) = true:=by kernel_rfl
theorem aw_fe:fullE fiveC [] = 0:=by kernel_rfl
theorem aw_fl:fullsL fiveC [] = [[0,2,4],[0,3]]:=by kernel_rfl
theorem aw_ae:alwaysE fiveC [] = 0:=by kernel_rfl
theorem aw_al:alwaysL fiveC [] = [0]:=by kernel_rfl
theorem aw_de:decidingE fiveC 0 = 0:=by kernel_rfl
theorem aw_dl:idxL (fun (i:Nat)=>decidesB fiveC 0 i) 14 = [0,1]:=by kernel_rfl
theorem aw_se:surveyingE fiveC 4 = 0:=by kernel_rfl
theorem aw_sl:idxL (fun i=>decidesB fiveC i 4) 2 = [1]:=by kernel_rfl
theorem aw_we:fewE fiveC 4 = 0:=by kernel_rfl
theorem aw_w0:tryW fiveC.strikes 5 4 5 0 0 [] = none:=by kernel_rfl
theorem aw_w1:tryW fiveC.strikes 5 4 5 0 1 [] = some [3]:=by kernel_rfl
theorem aw_oe:heardE fiveC [] [4,3,2,1,0] = 0:=by kernel_rfl
theorem aw_ol:foundL (hears fiveC.strikes noS (begF (refL [])) [4,3,2,1,0]) 5 = [1,0,0,0,0]:=by kernel_rfl
theorem few_five {L:List Int} (h:FewIs fiveC.strikes 5 4 L):L = [3]:=by
 obtain ⟨m,h1,h2⟩:=h
 match m,h1,h2 with
 | 0,h1,_=>rw [aw_w0] at h1;cases h1
 | 1,h1,_=>rw [aw_w1] at h1;cases h1;rfl
 | m + 2,_,h2=>have:=h2 1 (by omega);rw [aw_w1] at this;cases this
theorem sorted_two {L:List (List Int)} (hp:L.Perm [[0,2,4],[0,3]]) (hs:SortedZ L):L = [[0,2,4],[0,3]] :=
 sortedZ_eq hp hs (List.Pairwise.cons (fun y hy=>by rw [List.mem_singleton] at hy;subst hy;decide) (List.Pairwise.cons (fun y hy=>by cases hy) List.Pairwise.nil))
def AwG (n:Nat) (L:List Int) (W:World) (e:Ending) (w':World):Prop:=Aft W w' /\ ∃ A c,e = .returned (.tuple #[.slice A n c,.int .i64 0]) /\ Ints w' A L
theorem al1 (w:World) (t:TypeId) (cs:Array Value):Blk (w.alloc (.cells cs t)) w.heap.size t cs:=Blk.new w t cs
theorem al2 (w:World) (x:Obj) (t:TypeId) (cs:Array Value):Blk ((w.alloc x).alloc (.cells cs t)) (w.heap.size + 1) t cs:=by
 have h:=Blk.new (w.alloc x) t cs
 rwa [World.size_alloc] at h
theorem al3 (w:World) (x y:Obj) (t:TypeId) (cs:Array Value):Blk (((w.alloc x).alloc y).alloc (.cells cs t)) (w.heap.size + 1 + 1) t cs:=by
 have h:=al2 (w.alloc x) y t cs
 rwa [World.size_alloc] at h
theorem lists_blk33 {w:World} {b:Nat} {cs:Array Value} {l:List (List Int)} (hb:Blk w b 33 cs) (hl:l.length <= 17592186043904)
  (h:∀ i,(hi:i < l.length) -> ∃ A c,cs[i]? = some (.slice A l[i].length c) /\ Ints w A l[i]):Lists w (some ⟨b,0,none⟩) l:=by
 refine ⟨by simpa using hl,.inr ⟨b,0,rfl,hb.lt,fun i hi=>?_⟩⟩;obtain ⟨A,c,h1,h2⟩:=h i hi;refine ⟨[.slice A l[i].length c],rfl,⟨A,c,rfl,h2⟩,fun j hj=>?_⟩;have:j = 0:=by simp at hj;omega
 subst this;have:=(hb.cell i).trans h1;simpa using this
section
variable {W:World} {a1 a2:Option Addr} {c1 c2:Nat}
theorem ints_none (W:World):Ints W none []:=⟨by simp,.inl rfl⟩
theorem aw39 (hC:CRep W fiveC a1 a2):Calls Tryz.prog 39 #[.agg #[.int .i64 5,.slice a1 5 c1,.slice a2 2 c2],.slice none 0 0] W (AwG 5 [1,2,0,0,0] W):=by
 refine (award_good fiveC a1 a2 c1 c2 [] none 0 W hC (ints_none W) aw_e 5 rfl).mono ?_;rintro e w' ⟨v,rfl,hv,ha⟩;rw [aw_r] at hv;obtain ⟨A,c,rfl,_,hi⟩:=own_ints hv (by decide);exact ⟨ha,A,c,rfl,hi⟩
theorem aw43 (hC:CRep W fiveC a1 a2) {g k:Nat} (hg:Blk W g 3 #[.int .i64 1,.int .i64 2,.int .i64 0,.int .i64 0,.int .i64 0]) (hk:Blk W k 3 #[.int .i64 1,.int .i64 2,.int .i64 0,.int .i64 0,.int .i64 0]):Calls Tryz.prog 43 #[.agg #[.int .i64 5,.slice a1 5 c1,.slice a2 2 c2],.slice none 0 0,.slice (some ⟨g,0,none⟩) 5 5,.slice (some ⟨k,0,none⟩) 5 5] W fun e w'=>e = .returned (.tuple #[.bool true,.int .i64 0]) /\ Aft W w':=by
 have h:=holds_good fiveC a1 a2 c1 c2 [] [1,2,0,0,0] [1,2,0,0,0] none (some ⟨g,0,none⟩) (some ⟨k,0,none⟩) 0 5 5 W hC (ints_none W) (Nums.ints hg (nums_self [1,2,0,0,0]) (by decide)) (Nums.ints hk (nums_self [1,2,0,0,0]) (by decide)) aw_he 5 rfl;rw [aw_hb] at h;exact h
theorem aw27 (hC:CRep W fiveC a1 a2):Calls Tryz.prog 27 #[.agg #[.int .i64 5,.slice a1 5 c1,.slice a2 2 c2],.slice none 0 0] W fun e w'=>Aft W w' /\ ∃ A c,e = .returned (.tuple #[.slice A 2 c,.int .i64 0]) /\ Lists w' A [[0,2,4],[0,3]]:=by
 refine (full27_good fiveC a1 a2 c1 c2 [] none 0 W hC (ints_none W) aw_fe).mono ?_;rintro e w' ⟨A,c,L,rfl,hL,hp,hs,ha⟩;rw [aw_fl] at hp;have:=sorted_two hp hs;subst this;exact ⟨ha,A,c,rfl,hL⟩
theorem aw30 (hC:CRep W fiveC a1 a2):Calls Tryz.prog 30 #[.agg #[.int .i64 5,.slice a1 5 c1,.slice a2 2 c2],.slice none 0 0] W (AwG 1 [0] W):=by
 refine (always_good fiveC a1 a2 c1 c2 [] none 0 W hC (ints_none W) aw_ae).mono ?_;rintro e w' ⟨A,c,rfl,hi,ha⟩;rw [aw_al] at hi ⊢;exact ⟨ha,A,c,rfl,hi⟩
theorem aw39b (hC:CRep W fiveC a1 a2) {g:Nat} (hg:Blk W g 3 #[.int .i64 0]):Calls Tryz.prog 39 #[.agg #[.int .i64 5,.slice a1 5 c1,.slice a2 2 c2],.slice (some ⟨g,0,none⟩) 1 1] W (AwG 5 [2,1,2,1,2] W):=by
 refine (award_good fiveC a1 a2 c1 c2 [0] (some ⟨g,0,none⟩) 1 W hC (Nums.ints hg (nums_self [0]) (by decide)) aw_e0 5 rfl).mono ?_;rintro e w' ⟨v,rfl,hv,ha⟩;rw [aw_r0] at hv;obtain ⟨A,c,rfl,_,hi⟩:=own_ints hv (by decide);exact ⟨ha,A,c,rfl,hi⟩
theorem aw15 (hC:CRep W fiveC a1 a2):Calls Tryz.prog 15 #[.agg #[.int .i64 5,.slice a1 5 c1,.slice a2 2 c2],.int .i64 0] W (AwG 2 [0,1] W):=by
 refine (decides15_good fiveC a1 a2 c1 c2 0 W hC aw_de).mono ?_;rintro e w' ⟨A,c,rfl,hi,ha⟩;rw [aw_dl] at hi ⊢;exact ⟨ha,A,c,rfl,hi⟩
theorem aw18 (hC:CRep W fiveC a1 a2):Calls Tryz.prog 18 #[.agg #[.int .i64 5,.slice a1 5 c1,.slice a2 2 c2],.int .i64 4] W (AwG 1 [1] W):=by
 refine (surveys_good fiveC a1 a2 c1 c2 4 W hC aw_se).mono ?_;rintro e w' ⟨A,c,rfl,hi,ha⟩;have e2:idxL (fun i=>decidesB fiveC i (4:Nat)) fiveC.surveys.length = [1]:=aw_sl;rw [e2] at hi ⊢;exact ⟨ha,A,c,rfl,hi⟩
theorem aw20 (hC:CRep W fiveC a1 a2):Calls Tryz.prog 20 #[.agg #[.int .i64 5,.slice a1 5 c1,.slice a2 2 c2],.int .i64 4] W (AwG 1 [3] W):=by
 refine (few20_good fiveC a1 a2 c1 c2 4 W hC aw_we).mono ?_;rintro e w' ⟨L,hf,v,rfl,hv,ha⟩;have:=few_five hf;subst this;obtain ⟨A,c,rfl,_,hi⟩:=own_ints hv (by decide);exact ⟨ha,A,c,rfl,hi⟩
theorem aw35 (hC:CRep W fiveC a1 a2) {g:Nat} (hg:Blk W g 3 #[.int .i64 4,.int .i64 3,.int .i64 2,.int .i64 1,.int .i64 0]):Calls Tryz.prog 35 #[.agg #[.int .i64 5,.slice a1 5 c1,.slice a2 2 c2],.slice none 0 0,.slice (some ⟨g,0,none⟩) 5 5] W (AwG 5 [1,0,0,0,0] W):=by
 refine (heard_good fiveC a1 a2 c1 c2 [] [4,3,2,1,0] none (some ⟨g,0,none⟩) 0 5 W hC (ints_none W) (Nums.ints hg (nums_self [4,3,2,1,0]) (by decide)) aw_oe 5 rfl).mono ?_;rintro e w' ⟨v,rfl,hv,ha⟩;rw [aw_ol] at hv;obtain ⟨A,c,rfl,_,hi⟩:=own_ints hv (by decide);exact ⟨ha,A,c,rfl,hi⟩
theorem aw17 {X:World} {A A':Option Addr} {c c':Nat} (l:List Int) (hA:Ints X A l) (hA':Ints X A' l) :
  Calls Tryz.prog 17 #[.slice A l.length c,.slice A' l.length c'] X fun e w'=>e = .returned (.bool true) /\ Aft X w':=by
 refine (kitEqual_int A A' l l c c' X hA hA').mono ?_;rintro e w' ⟨rfl,ha⟩;exact ⟨by simp [eqB],ha⟩
theorem aw29 {A:Option Addr} {c k1 k2 k:Nat} (hA:Lists W A [[0,2,4],[0,3]]) (h1:Blk W k1 3 #[.int .i64 0,.int .i64 2,.int .i64 4]) (h2:Blk W k2 3 #[.int .i64 0,.int .i64 3]) (hk:Blk W k 33 #[.slice (some ⟨k1,0,none⟩) 3 3,.slice (some ⟨k2,0,none⟩) 2 2]) :
  Calls Tryz.prog 29 #[.slice A 2 c,.slice (some ⟨k,0,none⟩) 2 2] W fun e w'=>e = .returned (.bool true) /\ Aft W w' :=
 (equalAll_any W A _ [[0,2,4],[0,3]] [[0,2,4],[0,3]] c 2 hA (lists_blk33 hk (by decide) fun i hi=>by
  match i,hi with
  | 0,_=>exact ⟨_,3,rfl,Nums.ints h1 (nums_self [0,2,4]) (show ([0,2,4]:List Int).length <= 17592186043904 by decide)⟩
  | 1,_=>exact ⟨_,2,rfl,Nums.ints h2 (nums_self [0,3]) (show ([0,3]:List Int).length <= 17592186043904 by decide)⟩)).mono fun e w' ⟨h,ha⟩=>⟨by rw [h];simp [eqB],ha⟩
end
end Go.Proofs
end
section
/- Walks: what the program asks of itself before it holds anything. -/
namespace Go.Proofs
open Go.RowKit
set_option maxRecDepth 100000 in
set_option maxHeartbeats 4000000 in
theorem awake_any (w:World):Calls Tryz.prog 12 #[] w fun e w'=>e = .returned (.bool true) /\ Aft w w':=by
 go_enter Tryz.func12,Tryz.ntmps12;go_upto_region 2 with (first | (go_at_call 32;refine (five_any _).mono ?_;rintro e x ⟨a1,a2,c1,c2,rfl,hC,ha⟩;have HC:=Lib.hid hC;have HA:=Lib.hid ha;clear hC ha) | (go_at_call 39;refine (aw39 HC.out).mono ?_;rintro e x1 ⟨ha,A1,d1,rfl,hi⟩;have HA:=Lib.hid (HA.out.trans ha);have H1:=Lib.hid hi;clear hi ha))
 clear HC;go_upto_region 3 with (first | (go_at_call 32;refine (five_any _).mono ?_;rintro e x2 ⟨a1,a2,c1,c2,rfl,hC,ha⟩;have HC:=Lib.hid hC;have H1:=Lib.hid (H1.out.aft ha);have HA:=Lib.hid (HA.out.trans ha);clear hC ha) | (go_at_call 43;refine (aw43 (HC.out.aft ((Aft.alloc _ _).then_alloc _)) ((al1 _ _ _).alloc _) (al2 _ _ _ _)).mono ?_;rintro e x3 ⟨rfl,ha⟩;have H1:=Lib.hid (H1.out.aft (((Aft.alloc _ _).then_alloc _).trans ha));have HA:=Lib.hid (HA.out.trans (((Aft.alloc _ _).then_alloc _).trans ha));clear ha))
 clear HC;go_upto_region 4 with (first | (go_at_call 32;refine (five_any _).mono ?_;rintro e x4 ⟨a1,a2,c1,c2,rfl,hC,ha⟩;have HC:=Lib.hid hC;have H1:=Lib.hid (H1.out.aft ha);have HA:=Lib.hid (HA.out.trans ha);clear hC ha) | (go_at_call 27;refine (aw27 HC.out).mono ?_;rintro e x5 ⟨ha,A3,d3,rfl,hl⟩;have H3:=Lib.hid hl;have H1:=Lib.hid (H1.out.aft ha);have HA:=Lib.hid (HA.out.trans ha);clear ha hl))
 clear HC;go_upto_region 5 with (first | (go_at_call 32;refine (five_any _).mono ?_;rintro e x6 ⟨a1,a2,c1,c2,rfl,hC,ha⟩;have HC:=Lib.hid hC;have H1:=Lib.hid (H1.out.aft ha);have H3:=Lib.hid (H3.out.aft ha);have HA:=Lib.hid (HA.out.trans ha);clear hC ha) | (go_at_call 30;refine (aw30 HC.out).mono ?_;rintro e x7 ⟨ha,A4,d4,rfl,hi⟩;have H4:=Lib.hid hi;have H1:=Lib.hid (H1.out.aft ha);have H3:=Lib.hid (H3.out.aft ha);have HA:=Lib.hid (HA.out.trans ha);clear ha hi))
 clear HC;apply wp_region_lit;(repeat (first | go_big_skip | go_big_want | go_big_move | go_big_op | go_step | go_upon | go_back));go_at_call 17;refine (aw17 [1,2,0,0,0] (H1.out.aft (Aft.alloc _ _)) (Nums.ints (al1 _ _ _) (nums_self [1,2,0,0,0]) (by decide))).mono ?_;rintro e x ⟨rfl,ha⟩;dsimp only;have H3:=Lib.hid (H3.out.aft ((Aft.alloc _ _).trans ha));have H4:=Lib.hid (H4.out.aft ((Aft.alloc _ _).trans ha));have HA:=Lib.hid (HA.out.trans ((Aft.alloc _ _).trans ha));clear ha H1;(repeat (first | go_big_skip | go_big_want | go_big_move | go_big_op | go_step | go_upon | go_back));go_at_call 29;refine (aw29 (H3.out.aft (((Aft.alloc _ _).then_alloc _).then_alloc _)) (((al1 _ _ _).alloc _).alloc _) ((al2 _ _ _ _).alloc _) (al3 _ _ _ _ _)).mono ?_;rintro e x ⟨rfl,ha⟩;dsimp only;have H4:=Lib.hid (H4.out.aft ((((Aft.alloc _ _).then_alloc _).then_alloc _).trans ha));have HA:=Lib.hid (HA.out.trans ((((Aft.alloc _ _).then_alloc _).then_alloc _).trans ha));clear ha H3;(repeat (first | go_big_skip | go_big_want | go_big_move | go_big_op | go_step | go_upon | go_back));go_at_call 17;refine (aw17 [0] (H4.out.aft (Aft.alloc _ _)) (Nums.ints (al1 _ _ _) (nums_self [0]) (by decide))).mono ?_;rintro e x ⟨rfl,ha⟩;dsimp only;have HA:=Lib.hid (HA.out.trans ((Aft.alloc _ _).trans ha));clear ha H4;(repeat (first | go_big_skip | go_big_want | go_big_move | go_big_op | go_step | go_upon | go_back));go_at_call 32;refine (five_any _).mono ?_;rintro e x ⟨a1,a2,c1,c2,rfl,hC,ha⟩;dsimp only;have HC:=Lib.hid hC;have HA:=Lib.hid (HA.out.trans ha);clear ha hC;(repeat (first | go_big_skip | go_big_want | go_big_move | go_big_op | go_step | go_upon | go_back));go_at_call 39;refine (aw39b (HC.out.aft (Aft.alloc _ _)) (al1 _ _ _)).mono ?_;rintro e x ⟨ha,A5,d5,rfl,hi⟩;dsimp only;have H5:=Lib.hid hi;have HA:=Lib.hid (HA.out.trans ((Aft.alloc _ _).trans ha));clear ha hi HC
 (repeat (first | go_big_skip | go_big_want | go_big_move | go_big_op | go_step | go_upon | go_back));go_at_call 32;refine (five_any _).mono ?_;rintro e x ⟨a1,a2,c1,c2,rfl,hC,ha⟩;dsimp only;have HC:=Lib.hid hC;have H5:=Lib.hid (H5.out.aft (ha));have HA:=Lib.hid (HA.out.trans ha);clear ha hC;(repeat (first | go_big_skip | go_big_want | go_big_move | go_big_op | go_step | go_upon | go_back));go_at_call 15;refine (aw15 HC.out).mono ?_;rintro e x ⟨ha,A6,d6,rfl,hi⟩;dsimp only;have H6:=Lib.hid hi;have H5:=Lib.hid (H5.out.aft (ha));have HA:=Lib.hid (HA.out.trans (ha));clear ha hi HC;(repeat (first | go_big_skip | go_big_want | go_big_move | go_big_op | go_step | go_upon | go_back));go_at_call 32;refine (five_any _).mono ?_;rintro e x ⟨a1,a2,c1,c2,rfl,hC,ha⟩;dsimp only;have HC:=Lib.hid hC;have H5:=Lib.hid (H5.out.aft (ha));have H6:=Lib.hid (H6.out.aft (ha));have HA:=Lib.hid (HA.out.trans ha);clear ha hC;(repeat (first | go_big_skip | go_big_want | go_big_move | go_big_op | go_step | go_upon | go_back));go_at_call 18;refine (aw18 HC.out).mono ?_;rintro e x ⟨ha,A7,d7,rfl,hi⟩;dsimp only;have H7:=Lib.hid hi;have H5:=Lib.hid (H5.out.aft (ha));have H6:=Lib.hid (H6.out.aft (ha));have HA:=Lib.hid (HA.out.trans (ha));clear ha hi HC;(repeat (first | go_big_skip | go_big_want | go_big_move | go_big_op | go_step | go_upon | go_back));go_at_call 32;refine (five_any _).mono ?_;rintro e x ⟨a1,a2,c1,c2,rfl,hC,ha⟩;dsimp only;have HC:=Lib.hid hC;have H5:=Lib.hid (H5.out.aft (ha));have H6:=Lib.hid (H6.out.aft (ha));have H7:=Lib.hid (H7.out.aft (ha));have HA:=Lib.hid (HA.out.trans ha);clear ha hC;(repeat (first | go_big_skip | go_big_want | go_big_move | go_big_op | go_step | go_upon | go_back));go_at_call 20;refine (aw20 HC.out).mono ?_;rintro e x ⟨ha,A8,d8,rfl,hi⟩;dsimp only;have H8:=Lib.hid hi;have H5:=Lib.hid (H5.out.aft (ha));have H6:=Lib.hid (H6.out.aft (ha))
 have H7:=Lib.hid (H7.out.aft (ha));have HA:=Lib.hid (HA.out.trans (ha));clear ha hi HC;(repeat (first | go_big_skip | go_big_want | go_big_move | go_big_op | go_step | go_upon | go_back));go_at_call 32;refine (five_any _).mono ?_;rintro e x ⟨a1,a2,c1,c2,rfl,hC,ha⟩;dsimp only;have HC:=Lib.hid hC;have H5:=Lib.hid (H5.out.aft (ha));have H6:=Lib.hid (H6.out.aft (ha));have H7:=Lib.hid (H7.out.aft (ha));have H8:=Lib.hid (H8.out.aft (ha));have HA:=Lib.hid (HA.out.trans ha);clear ha hC;(repeat (first | go_big_skip | go_big_want | go_big_move | go_big_op | go_step | go_upon | go_back));go_at_call 35;refine (aw35 (HC.out.aft (Aft.alloc _ _)) (al1 _ _ _)).mono ?_;rintro e x ⟨ha,A9,d9,rfl,hi⟩;dsimp only;have H9:=Lib.hid hi;have H5:=Lib.hid (H5.out.aft ((Aft.alloc _ _).trans ha));have H6:=Lib.hid (H6.out.aft ((Aft.alloc _ _).trans ha));have H7:=Lib.hid (H7.out.aft ((Aft.alloc _ _).trans ha));have H8:=Lib.hid (H8.out.aft ((Aft.alloc _ _).trans ha));have HA:=Lib.hid (HA.out.trans ((Aft.alloc _ _).trans ha));clear ha hi HC;(repeat (first | go_big_skip | go_big_want | go_big_move | go_big_op | go_step | go_upon | go_back));go_at_call 17;refine (aw17 [2,1,2,1,2] (H5.out.aft (Aft.alloc _ _)) (Nums.ints (al1 _ _ _) (nums_self [2,1,2,1,2]) (by decide))).mono ?_;rintro e x ⟨rfl,ha⟩;dsimp only;have H6:=Lib.hid (H6.out.aft ((Aft.alloc _ _).trans ha));have H7:=Lib.hid (H7.out.aft ((Aft.alloc _ _).trans ha));have H8:=Lib.hid (H8.out.aft ((Aft.alloc _ _).trans ha));have H9:=Lib.hid (H9.out.aft ((Aft.alloc _ _).trans ha));have HA:=Lib.hid (HA.out.trans ((Aft.alloc _ _).trans ha));clear ha H5;(repeat (first | go_big_skip | go_big_want | go_big_move | go_big_op | go_step | go_upon | go_back));go_at_call 17;refine (aw17 [0,1] (H6.out.aft (Aft.alloc _ _)) (Nums.ints (al1 _ _ _) (nums_self [0,1]) (by decide))).mono ?_;rintro e x ⟨rfl,ha⟩;dsimp only;have H7:=Lib.hid (H7.out.aft ((Aft.alloc _ _).trans ha))
 have H8:=Lib.hid (H8.out.aft ((Aft.alloc _ _).trans ha));have H9:=Lib.hid (H9.out.aft ((Aft.alloc _ _).trans ha));have HA:=Lib.hid (HA.out.trans ((Aft.alloc _ _).trans ha));clear ha H6;(repeat (first | go_big_skip | go_big_want | go_big_move | go_big_op | go_step | go_upon | go_back));go_at_call 17;refine (aw17 [1] (H7.out.aft (Aft.alloc _ _)) (Nums.ints (al1 _ _ _) (nums_self [1]) (by decide))).mono ?_;rintro e x ⟨rfl,ha⟩;dsimp only;have H8:=Lib.hid (H8.out.aft ((Aft.alloc _ _).trans ha));have H9:=Lib.hid (H9.out.aft ((Aft.alloc _ _).trans ha));have HA:=Lib.hid (HA.out.trans ((Aft.alloc _ _).trans ha));clear ha H7;(repeat (first | go_big_skip | go_big_want | go_big_move | go_big_op | go_step | go_upon | go_back));go_at_call 17;refine (aw17 [3] (H8.out.aft (Aft.alloc _ _)) (Nums.ints (al1 _ _ _) (nums_self [3]) (by decide))).mono ?_;rintro e x ⟨rfl,ha⟩;dsimp only;have H9:=Lib.hid (H9.out.aft ((Aft.alloc _ _).trans ha));have HA:=Lib.hid (HA.out.trans ((Aft.alloc _ _).trans ha));clear ha H8;(repeat (first | go_big_skip | go_big_want | go_big_move | go_big_op | go_step | go_upon | go_back));go_at_call 17;refine (aw17 [1,0,0,0,0] (H9.out.aft (Aft.alloc _ _)) (Nums.ints (al1 _ _ _) (nums_self [1,0,0,0,0]) (by decide))).mono ?_;rintro e x ⟨rfl,ha⟩;dsimp only;have HA:=Lib.hid (HA.out.trans ((Aft.alloc _ _).trans ha));clear ha H9;(repeat (first | go_big_skip | go_big_want | go_big_move | go_big_op | go_step | go_upon | go_back));go_ret;exact ⟨rfl,HA.out⟩
end Go.Proofs
end
section
/- Words: what stands while a law is walked;what the laws ask,as contracts. -/
namespace Go.Proofs
open Go.RowKit
open Court (refL begF noS struckB nextR hears award Done HeldP)
def IntsS (b:Nat) (w:World) (A:Option Addr) (l:List Int):Prop:=∀ X,Sm b w X -> Ints X A l
theorem IntsS.of_own {b base:Nat} {w:World} {v:Value} {l:List Int} (h:w.ownsRow base 3 1 v l.length (l.map (Value.int .i64))) (hl:l.length <= 17592186043904) (hb:b <= base):∃ A c,v = .slice A l.length c /\ IntsS b w A l:=by
 obtain ⟨A,c,e,_,_⟩:=own_ints h hl;refine ⟨A,c,e,fun X hX=>?_⟩;obtain ⟨A',c',e',_,hi⟩:=own_ints (own_sm h hX hb) hl;rw [e] at e';cases e';exact hi
section
variable {S:List (Int × Int)} {ref:Int -> Bool} {N:Nat} {f r:Int -> Nat}
theorem hears_outN {o:List Int} {f0:Int -> Nat} (ho:∀ n ∈ o,0 <= n /\ n < N) {n:Int} (hn:¬ (0 <= n /\ n < N)):hears S noS f0 o n = f0 n:=Court.hears_out o f0 n fun h=>hn (ho n h)
theorem beg_out (href:∀ n,ref n = true -> 0 <= n /\ n < N) {n:Int} (hn:¬ (0 <= n /\ n < N)):begF ref n = 0:=by
 unfold begF;rw [if_neg fun h=>hn (href n h)]
theorem award_out (href:∀ n,ref n = true -> 0 <= n /\ n < N) {n:Int} (hn:¬ (0 <= n /\ n < N)):award S noS N (begF ref) n = 0:=by
 obtain ⟨o,ho,e⟩:=Court.award_reach S noS N (begF ref);rw [e,hears_outN ho hn,beg_out href hn]
theorem award_three:Court.Three (award S noS N (begF ref)):=(Court.award_reach S noS N (begF ref)).three (Court.begF_three ref)
theorem over_found {g:Int -> Nat} (h:∀ n:Int,¬ (0 <= n /\ n < N) -> g n = f n):overF (foundL f N) g = f:=by
 funext n
 unfold overF;rw [foundL_len];by_cases hn:0 <= n /\ n < N
 ·rw [if_pos hn];obtain ⟨k,rfl⟩:=Int.eq_ofNat_of_zero_le hn.1;have hk:k < (foundL f N).length:=by rw [foundL_len];omega
  rw [Int.toNat_natCast,List.getD_eq_getElem?_getD,List.getElem?_eq_getElem hk,Option.getD_some,foundL_get,Int.toNat_natCast]
 ·rw [if_neg hn,h n hn]
theorem heldB_iff {sure:Int -> Bool} {n:Int} (h3:f n <= 2):heldB S sure ref f r n = true ↔ HeldP S sure ref f r n:=by
 unfold heldB HeldP;by_cases hr:ref n = true
 ·rw [if_pos hr,if_pos hr];simp
 ·rw [if_neg hr,if_neg hr];by_cases h0:f n = 0
  ·rw [if_pos h0,if_pos h0];simp
  ·rw [if_neg h0,if_neg h0];by_cases h1:f n = 1
   ·rw [if_pos h1,if_pos h1];unfold freeB;simp [and_assoc]
   ·rw [if_neg h1,if_neg h1,List.any_eq_true];constructor
    ·rintro ⟨x,hx,h⟩;unfold strikers at hx;obtain ⟨s,hs,rfl⟩:=List.mem_map.1 hx;obtain ⟨hs1,hs2⟩:=List.mem_filter.1 hs;simp at hs2 h;exact ⟨hs2.2,s,hs1,hs2.1,h.1,h.2⟩
    ·rintro ⟨hsu,s,hs,e,e1,e2⟩;refine ⟨s.1,?_,by simp [e1,e2]⟩;unfold strikers;exact List.mem_map.2 ⟨s,List.mem_filter.2 ⟨hs,by simp [e,hsu]⟩,rfl⟩
theorem all_held {r:Int -> Nat} (href:∀ n,ref n = true -> 0 <= n /\ n < N) (hh:HeardS S noS N (begF ref) (award S noS N (begF ref)) r) :
  ((List.range N).all fun n=>heldB S noS ref (overF (foundL (award S noS N (begF ref)) N) (begF ref)) (overF (foundL r N) fun _=>0) (n:Nat)) = true:=by
 have hok:=hh.ok (Court.begF_three ref);have e1:overF (foundL (award S noS N (begF ref)) N) (begF ref) = award S noS N (begF ref):=over_found fun n hn=>by rw [award_out href hn,beg_out href hn]
 have e2:overF (foundL r N) (fun _=>0) = r:=over_found fun n hn=>(hok.zero n (award_out href hn)).symm
 rw [e1,e2];refine List.all_eq_true.2 fun n hn=>?_
 have hn:=List.mem_range.1 hn;exact (heldB_iff (award_three n)).2 (Court.ranks_hold hok (Court.award_done S noS N (begF ref)) ⟨by omega,by omega⟩)
end
theorem foundL_mem {f:Int -> Nat} {N b:Nat} (h:∀ n,f n <= b):∀ x ∈ foundL f N,0 <= x /\ x <= b:=fun x hx=>by
 unfold foundL at hx;obtain ⟨i,-,rfl⟩:=List.mem_map.1 hx;have:=h i;omega
theorem openE_zero {C:CaseL} {R:List Int} (h:caseE C = 0) (h1:∀ x ∈ R,0 <= x /\ x < C.claims) (h2:risesB R = true):openE C R = 0:=by
 unfold openE;rw [if_pos h,listedE_zero h1 h2]
theorem holdsE_zero {C:CaseL} {R F K:List Int} (h:openE C R = 0) (h1:(F.length:Int) = C.claims) (h2:(K.length:Int) = C.claims) (h3:∀ x ∈ F,0 <= x /\ x <= 2) (h4:∀ x ∈ K,0 <= x /\ x <= 14):holdsE C R F K = 0:=by
 unfold holdsE;rw [if_pos h,if_neg (fun e=>e.elim (fun e=>e h1) (fun e=>e h2)),if_pos];rw [Bool.and_eq_true];exact ⟨List.all_eq_true.2 fun x hx=>fromB_iff.2 (h3 x hx),List.all_eq_true.2 fun x hx=>fromB_iff.2 (h4 x hx)⟩
end Go.Proofs
end
section
/- Words: lists without a claim;worlds that differ in one block. -/
namespace Go.Proofs
open Go.RowKit
attribute [local go_sem] Oper.semAt_some
structure Ex (d:Nat) (w W:World):Prop where
 size:w.heap.size <= W.heap.size
 same:∀ k,k < w.heap.size -> k ≠ d -> W.heap[k]? = w.heap[k]?
theorem Ex.refl (d:Nat) (w:World):Ex d w w:=⟨Nat.le_refl _,fun _ _ _=>rfl⟩
theorem Ex.next {d:Nat} {w W W':World} {row:Option Nat} (h:Ex d w W) (hg:W.grownBy W' row) (hr:∀ k,row = some k -> k = d \/ w.heap.size <= k):Ex d w W' :=
 ⟨Nat.le_trans h.size hg.size,fun k h1 h2=>(hg.block k (Nat.lt_of_lt_of_le h1 h.size) (fun e=>by have:=hr k e.symm;omega)).trans (h.same k h1 h2)⟩
theorem Ex.deal {d:Nat} {w W W':World} (h:Ex d w W) (hg:W.grownBy W' (some d)):Ex d w W':=h.next hg fun k e=>by cases e;exact .inl rfl
theorem Ex.aft {d:Nat} {w W W':World} (h:Ex d w W) (ha:Aft W W'):Ex d w W':=h.deal (only_of_aft ha _)
theorem Ex.sm {d b:Nat} {w W:World} (h:Ex d w W) (hd:d < b):Sm b w W:=⟨h.size,fun k h1 h2=>h.same k h2 (by omega)⟩
theorem blk_ex {d:Nat} {w W:World} {g:Nat} {t:TypeId} {cs:Array Value} (h:Blk w g t cs) (hs:Ex d w W) (hg:g ≠ d):Blk W g t cs:=(hs.same g h.lt hg).trans h
theorem own_intsX {d base:Nat} {w:World} {v:Value} {l:List Int} (h:w.ownsRow base 3 1 v l.length (l.map (Value.int .i64))) (hl:l.length <= 17592186043904) (hd:d < base):∃ A c,v = .slice A l.length c /\ ∀ W,Ex d w W -> Ints W A l:=by
 obtain ⟨A,c,e,hi⟩:=IntsS.of_own (b:=base) h hl (Nat.le_refl _);exact ⟨A,c,e,fun W hW=>hi W (hW.sm hd)⟩
open Court (refL begF noS award winB FewIs)
end Go.Proofs
end
section
/- Words: surveys that are looked at from outside. -/
namespace Go.Proofs
open Go.RowKit
open Court (refL begF noS award)
def blR (N:Nat) (f:Nat -> Bool):Array Value:=((List.range N).map fun i=>Value.bool (f i)).toArray
theorem blR_get {N:Nat} (f:Nat -> Bool) {i:Nat} (h:i < N):(blR N f)[i]? = some (.bool (f i)):=by unfold blR;simp [h]
theorem blR_set {N:Nat} (f:Nat -> Bool) {i:Nat} (v:Bool):(blR N f).setIfInBounds i (.bool v) = blR N (fun k=>if k = i then v else f k):=by
 unfold blR;rw [List.setIfInBounds_toArray]
 congr 1
 apply List.ext_getElem?;intro k;rw [List.getElem?_set,List.getElem?_map,List.getElem?_map];by_cases hk:k < N
 ·rw [List.getElem?_range hk];by_cases e:i = k
  ·subst e;simp [hk]
  ·rw [if_neg e];simp [Ne.symm e]
 ·rw [List.getElem?_eq_none (by simp;omega)];by_cases e:i = k
  ·subst e;rw [if_pos rfl,if_neg (by simp;omega)];simp
  ·rw [if_neg e];rfl
theorem blR_no (N:Nat):(Go.madeCells #[.bool false] N) = blR N (fun _=>false):=by
 apply Array.ext_getElem?;intro i;by_cases h:i < N
 ·rw [blR_get _ h];simp [Go.madeCells,h,Nat.mod_one]
 ·rw [Array.getElem?_eq_none (by simp [Go.madeCells];omega),Array.getElem?_eq_none (by unfold blR;simp;omega)]
end Go.Proofs
end
section
/- Walks: the reference's decides 58. -/
namespace Go.Proofs
open Go.RowKit
open Court (refL begF noS struckB award)
attribute [local go_sem] Oper.semAt_some
theorem ty29:SliceTy Tryz.prog 29 84 2 16:=.mk' (z:=.agg #[.int .i64 0,.int .i64 0]) Tryz.underlying29 (by kernel_rfl) rfl (by decide)
theorem own_strs84 {w:World} {base:Nat} {v:Value} {L:List (Int × Int)} (h:w.ownsRow base 84 2 v L.length (strC L)) (hl:L.length <= 1000000):∃ A c,v = .slice A L.length c /\ Strs w A L /\ ∀ b o,A = some ⟨b,o,none⟩ -> base <= b:=by
 rcases h.2 with ⟨rfl,h0⟩ | ⟨g,cap,cur,rfl,hg,hh,hc,hm,hs,ht⟩
 ·have:L = []:=List.eq_nil_of_length_eq_zero h0;subst this;exact ⟨none,0,rfl,⟨by simp,.inl rfl⟩,fun b o h=>by cases h⟩
 ·refine ⟨_,cap,rfl,⟨by omega,.inr ⟨g,0,rfl,(Array.getElem?_eq_some_iff.1 hh).1,fun i hi=>⟨_,by simp,rfl,fun j hj=>?_⟩⟩⟩,fun b o h=>by cases h;exact hg⟩;obtain ⟨h1,h2⟩:=strC_get L i hi
  match j,hj with
  | 0,_ =>
   have:=h.cells (g:=g) rfl (2 * i) _ h1;rw [Addr.add_lit] at this;simpa [Nat.mul_comm] using this
  | 1,_ =>
   have:=h.cells (g:=g) rfl (2 * i + 1) _ h2;rw [Addr.add_lit] at this;simpa [Nat.mul_comm] using this
theorem wpList_push29 {w:World} {ops:Array Oper} {rest:List Oper} {o:Oper} {a:Act} {Q:Exit -> Act -> World -> Prop}
  (hgd:o.guard = none) (s x:Operand) (ho:o.op = .call { callee:=.builtin .append,args:=#[s,x],argTypes:=#[29,29] })
  {base:Nat} {v:Value} {L:List (Int × Int)} (hown:w.ownsRow base 84 2 v L.length (strC L)) (hbase:base <= w.heap.size) (hs:a.eval s = v)
  {y0 y1:Int} {c:Nat} {b:Nat} (hx:a.eval x = .slice (some ⟨b,0,none⟩) 1 c) (hb0:w.cell? ⟨b,0,none⟩ = some (.int .i64 y0)) (hb1:w.cell? ⟨b,1,none⟩ = some (.int .i64 y1)) (hl:L.length <= 1000000)
  (hn:∀ v' w',w'.ownsRow base 84 2 v' (L ++ [(y0,y1)]).length (strC (L ++ [(y0,y1)])) -> w.grownBy w' v.ownBlock -> wpList Tryz.prog ops Q rest (a.put o.dst v') w'):wpList Tryz.prog ops Q (o :: rest) a w:=by
 obtain ⟨ht,⟨i,z,hi,hz,hsize,hby,hzs⟩,hsz⟩:=ty29;refine wpList_append_own_at (w:=w) hgd s x 29 ho base 84 i z 2 16 ht hi hz hsize hby hzs hsz v L.length _ hs hown ⟨b,0,none⟩ 1 c [.int .i64 y0,.int .i64 y1] hx rfl (fun j u hj=>?_) (fun u hu=>by simp at hu;rcases hu with rfl | rfl <;> rfl)
  (by unfold maxLen;omega) (by omega) hbase fun v2 w2 h2 h3 _ _=>hn v2 w2 (by rw [strC_snoc];simpa using h2) h3
 match j,hj with
 | 0,hj=>simp at hj;subst hj;rw [Addr.add_lit];simpa using hb0
 | 1,hj=>simp at hj;subst hj;rw [Addr.add_lit];simpa using hb1
theorem ty66b:SliceTy Tryz.prog 66 4 1 1:=.mk' (z:=.bool false) Tryz.underlying66 (by kernel_rfl) rfl (by decide)
theorem bools_make (w:World) (N:Nat) (hN:N <= 1000):(Instr.makeSlice 66 (.int .i64 N) (.int .i64 N)).run Tryz.prog w = .ok (.slice (some ⟨w.heap.size,0,none⟩) N N) (w.alloc (.cells (blR N fun _=>false) 4)):=by
 obtain ⟨ht,⟨i,z,hi,hz,hsize,hby,hzs⟩,hsz⟩:=ty66b;have hzz:(Tryz.prog.info? 4).bind (·.zero) = some (.bool false):=by kernel_rfl
 rw [hi] at hzz;have hzz:i.zero = some (.bool false):=hzz;rw [hz] at hzz;cases hzz;have h:=run_makeSlice (P:=Tryz.prog) (w:=w) 66 4 i (.bool false) ht hi hz .i64 .i64 N N (by omega) (Int.le_refl _) (by rw [hsize];simp;omega) (by rw [hby];omega) (by omega);rw [Int.toNat_natCast,hsize,Nat.mul_one] at h;rw [<- blR_no];exact h
theorem info31:(Tryz.prog.info? 31).map (·.size) = some 3:=by kernel_rfl
theorem all_range_succ (p:Nat -> Bool) (m:Nat):(List.range (m + 1)).all p = ((List.range m).all p && p m):=by
 rw [List.range_succ,List.all_append]
 simp
theorem all_range_no {p:Nat -> Bool} {m q:Nat} (h:m < q) (hp:p m = false):(List.range q).all p = false:=by
 rw [Bool.eq_false_iff];intro h';have:=List.all_eq_true.1 h' m (List.mem_range.2 h);rw [hp] at this;cases this
set_option maxRecDepth 100000 in
set_option maxHeartbeats 16000000 in
theorem decidesR_any (N:Nat) (S:List (Int × Int)) (T:List (List Int)) (a1 a2:Option Addr) (c1 c2:Nat) (l:List Int) (A:Option Addr) (c:Nat) (n:Nat) (w:World) (hC:CRep w ⟨N,S,T⟩ a1 a2) (hN:1 <= N /\ N <= 14) (hS60:S.length <= 60) (hin:∀ s ∈ S,(0 <= s.1 /\ s.1 < N) /\ (0 <= s.2 /\ s.2 < N)) (hA:Ints w A l) (hlr:∀ x ∈ l,0 <= x /\ x < N) (hll:l.length <= 6) (hn:n < N) :
  Calls Tryz.prog 58 #[(.agg #[.int .i64 N,.slice a1 S.length c1,.slice a2 T.length c2]),.slice A l.length c,.int .i64 n] w fun e w'=>e = .returned (.bool (decT ⟨N,S,T⟩ l N (2 ^ l.length) n)) /\ Aft w w':=by
 have H0:=Lib.hid (Aft.alloc w (.cells #[.int .i64 N,.slice a1 S.length c1,.slice a2 T.length c2] 31));have HB:=Lib.hid (Blk.new w 31 #[.int .i64 N,.slice a1 S.length c1,.slice a2 T.length c2]);have HC:=Lib.hid (hC.aft H0.out);have HA:=Lib.hid (hA.aft H0.out);rw [decT_filter ⟨N,S,T⟩ l N (2 ^ l.length) (n:=(n:Int)) (by omega)];dsimp only;obtain ⟨q,hq⟩:∃ q,2 ^ l.length = q:=⟨_,rfl⟩;have hq64:q <= 64:=by rw [<- hq];exact Nat.le_trans (Nat.pow_le_pow_right (by omega) hll) (by decide)
 have q0:wrap64 ((2:Int) ^ l.length) = (q:Int):=by
  have e:(2:Int) ^ l.length = (q:Int):=by rw [<- hq];push_cast;rfl
  rw [e];unfold wrap64;omega
 rw [hq];clear hq hC hA;obtain ⟨PD,hPD⟩:∃ PD:Nat -> Bool,PD = fun m=>decide (award (S.filter fun s=>!refL (onTo m l l.length) s.2) noS N (begF (refL (offTo m l l.length))) n ≠ 0):=⟨_,rfl⟩
 have HPD:Hid (∀ m,PD m = decide (award (S.filter fun s=>!refL (onTo m l l.length) s.2) noS N (begF (refL (offTo m l l.length))) n ≠ 0)):=Lib.hid fun m=>by rw [hPD]
 rw [<- hPD];clear hPD;have inN:(0:Int) <= (n:Int) /\ (n:Int) < (N:Int):=by omega
 obtain ⟨bC,hbC⟩:∃ bC,w.heap.size = bC:=⟨_,rfl⟩;rw [hbC] at HB;have HBC:=Lib.hid hbC;clear hbC;go_enter Tryz.func58,Tryz.ntmps58;go_upto_block 0 with fail
 rw [HBC.out];generalize w.alloc (.cells #[.int .i64 N,.slice a1 S.length c1,.slice a2 T.length c2] 31) = W0 at *;refine wp_block ?_;go_loopw [7] (fun i wr=>∃ m:Nat,i = .int .i64 m /\ m <= q /\ Aft W0 wr /\ Hid ((List.range m).all PD = true)) (fun i _=>q - (intOf i).toNat)
 case atStart=>exact ⟨0,rfl,by omega,Aft.refl _,Lib.hid rfl⟩
 case round =>
  obtain ⟨m,rfl,hm,hy,HAL⟩:=hrel;have HY:=Lib.hid hy;clear hy;by_cases hmq:m < q
  ·have t1:decide (m < q) = true:=by simpa using hmq
   obtain ⟨W1,rfl⟩:∃ W1,W1 = wr:=⟨_,rfl⟩;obtain ⟨k0,k1,k2⟩:=box31 (HB.out.aft HY.out);have k3:=(HB.out.aft HY.out).lt;go_upto_region 5 with (refine wpList_store_new rfl 31 (.tmp 8) (.tmp 22) rfl rfl rfl info31 rfl (all_oneCell_toArray (by intro v hv;simp at hv;rcases hv with rfl | rfl | rfl <;> rfl)) ?_)
   try simp only [Act.put]
   rw [q0];have HB8:=Lib.hid (Blk.new W1 31 #[.int .i64 N,.slice none 0 0,.slice none 0 0]);have HA8:=Lib.hid (Aft.alloc W1 (.cells #[.int .i64 N,.slice none 0 0,.slice none 0 0] 31));have hz8:W1.heap.size < (W1.alloc (.cells #[.int .i64 N,.slice none 0 0,.slice none 0 0] 31)).heap.size:=by simp
   obtain ⟨b8,hb8⟩:∃ b8,W1.heap.size = b8:=⟨_,rfl⟩;rw [hb8] at HB8 hz8 ⊢;have HE8:=Lib.hid hb8;clear hb8 k0 k1 k2 k3;generalize W1.alloc (.cells #[.int .i64 N,.slice none 0 0,.slice none 0 0] 31) = W2 at *;obtain ⟨k0,k1,k2⟩:=box31 (HB.out.aft (HY.out.trans HA8.out));have k3:=(HB.out.aft (HY.out.trans HA8.out)).lt;have hmk:=bools_make W2 N (by omega);go_upto_block 2 with fail
   have HB10:=Lib.hid (Blk.new W2 4 (blR N fun _=>false));have HA10:=Lib.hid (HA8.out.then_alloc (.cells (blR N fun _=>false) 4))
   replace HB8:=Lib.hid (HB8.out.aft (Aft.alloc W2 (.cells (blR N fun _=>false) 4)))
   have hz10:W2.heap.size < (W2.alloc (.cells (blR N fun _=>false) 4)).heap.size:=by simp
   obtain ⟨b10,hb10⟩:∃ b10,W2.heap.size = b10:=⟨_,rfl⟩;rw [hb10] at HB10 hz10 hz8 ⊢;clear hb10 hmk k0 k1 k2 k3;generalize W2.alloc (.cells (blR N fun _=>false) 4) = W3 at *;have HO0:=Lib.hid (World.ownsRow_nil W3 W3.heap.size 3 1);have HW8:Hid (W1.heap.size <= b8):=Lib.hid (Nat.le_of_eq HE8.out);clear HA8 HE8;refine wp_block ?_;go_loopw [9,11] (fun v i wr=>∃ k:Nat,i = .int .i64 k /\ k <= l.length /\ wr.ownsRow W3.heap.size 3 1 v (offTo m l k).length ((offTo m l k).map (Value.int .i64)) /\ Blk wr b10 4 (blR N fun i=>(onTo m l k).contains (i:Int)) /\ Blk wr b8 31 #[.int .i64 N,.slice none 0 0,.slice none 0 0] /\ Aft W1 wr /\ W3.heap.size <= wr.heap.size) (fun _ i _=>l.length - (intOf i).toNat)
   case atStart =>
    refine ⟨0,rfl,by omega,HO0.out,?_,HB8.out,HA10.out,Nat.le_refl _⟩
    have:(blR N fun i=>(onTo m l 0).contains (i:Int)) = blR N fun _=>false:=by
     congr 1
    rw [this];exact HB10.out
   case round =>
    obtain ⟨k,rfl,hk,hown,hb10,hb8,hz,hsz⟩:=hrel;have HO:=Lib.hid hown;have HB10:=Lib.hid hb10;have HB8:=Lib.hid hb8;have HZ:=Lib.hid hz;clear hown hb10 hb8 hz;by_cases hkl:k < l.length
    ·have t2:decide (k < l.length) = true:=by simpa using hkl
     have ik:(0:Int) <= (k:Int) /\ (k:Int) < (l.length:Int):=by omega
     have ik64:(0:Int) <= (k:Int) /\ (k:Int) <= 64:=by omega
     obtain ⟨bl,ol,hbl,hltl,hcl⟩:=(HA.out.aft (HY.out.trans HZ.out)).at hkl;subst hbl;have x0:=hcl k hkl;have hx:=hlr l[k] (List.getElem_mem hkl);have hxk:l.getD k 0 = l[k]:=by rw [List.getD_eq_getElem?_getD,List.getElem?_eq_getElem hkl];rfl
     have HON:=Lib.hid (onTo_succ m l k);have HOF:=Lib.hid (offTo_succ m l k);have hof:=offTo_len m l k;rw [hxk] at HON HOF;clear hxk hcl;obtain ⟨X,hX⟩:=Int.eq_ofNat_of_zero_le hx.1;rw [hX] at x0 hx HON HOF;have hXN:X < N:=by omega
     have iX:(0:Int) <= (X:Int) /\ (X:Int) < (N:Int):=by omega
     have hbit:=bits_at (m:=m) (k:=k) (by omega);clear hX hx;cases hb:m.testBit k
     ·rw [hb] at hbit HON HOF;clear hb;rw [if_neg (by decide),List.append_nil] at HON;rw [if_neg (by decide)] at HOF;have HTA:=Lib.hid (own_aft HO.out (Aft.alloc wr (.cells #[.int .i64 X] 3)));have hbase:W3.heap.size <= (wr.alloc (.cells #[.int .i64 X] 3)).heap.size:=by simp;omega
      have hge:=own_ge HO.out;go_wp2_with (at_builtin;refine wpList_push rfl _ _ rfl HTA.out hbase rfl rfl (cell_new1 _ _ _) (by omega) ?_;intro v6 w6 ho6 hg6;have HO6:=Lib.hid ho6;have HG6:=Lib.hid hg6;clear ho6 hg6)
      refine ⟨⟨k + 1,by go_num,by omega,by rw [HOF.out];exact HO6.out,?_,(HB8.out.aft (Aft.alloc _ _)).grown HG6.out (fun e=>by have:=hge b8 e.symm;omega),(HZ.out.then_alloc _).grown HG6.out (fun g e=>by have:=hge g e;have:=HW8.out;omega),Nat.le_trans hbase HG6.out.size⟩,by simp [intOf];omega⟩;rw [HON.out];exact (HB10.out.aft (Aft.alloc _ _)).grown HG6.out (fun e=>by have:=hge b10 e.symm;omega)
     ·rw [hb] at hbit HON HOF;clear hb;rw [if_pos rfl] at HON HOF;rw [List.append_nil] at HOF;have y0:=(HB10.out.cell X).trans (blR_get _ hXN);have y1:=HB10.out.frozen X;have y2:=HB10.out.lt;go_wp2_with fail
      have hset:wr.grownBy (wr.setCell ⟨b10,X,none⟩ (.bool true)) (some b10):=only_setCell (only_refl wr (some b10)) (p:=⟨b10,X,none⟩) (.inl rfl) _;refine ⟨⟨k + 1,by go_num,by omega,?_,?_,HB8.out.grown hset (fun e=>by cases e;omega),HZ.out.grown hset (fun g e=>by cases e;have:=HW8.out;omega),by simpa using hsz⟩,by simp [intOf];omega⟩
      ·rw [HOF.out];exact own_sm HO.out (Sm.of_grown (b:=b10 + 1) hset fun k e=>by cases e;omega) (by omega)
      ·have:=HB10.out.store X (.bool true);rw [blR_set] at this
       have e:(fun i:Nat=>(onTo m l (k + 1)).contains (i:Int)) = fun i=>if i = X then true else (onTo m l k).contains (i:Int):=by
        funext i
        rw [HON.out];by_cases e:i = X
        ·subst e;rw [if_pos rfl];simp
        ·rw [if_neg e];have:¬ ((i:Int) = (X:Int)):=by omega
         simp [this]
       rw [e];exact this
    ·have t2:decide (k < l.length) = false:=by simpa using hkl
     obtain rfl:l.length = k:=by omega
     obtain ⟨W4,rfl⟩:∃ W4,W4 = wr:=⟨_,rfl⟩;have HPM:=Lib.hid (HPD.out m);have hoff:=offTo_len m l l.length;obtain ⟨on,hon⟩:∃ on,onTo m l l.length = on:=⟨_,rfl⟩;obtain ⟨off,hoffe⟩:∃ off,offTo m l l.length = off:=⟨_,rfl⟩;have HOFM:Hid (∀ x ∈ off,0 <= x /\ x < N):=Lib.hid fun x hx=>by rw [<- hoffe] at hx;exact hlr x (offTo_mem hx)
     rw [hon] at HB10 HPM;rw [hoffe] at HO HPM hoff;clear hon hoffe hkl HO0;obtain ⟨A9,c9,rfl,hi9⟩:=own_intsX (d:=b8) HO.out (by omega) (by omega);have HI9:=Lib.hid hi9;have HOS0:=Lib.hid (World.ownsRow_nil W4 W4.heap.size 84 2);have hb8lt:=HB8.out.lt;clear hi9 HO;go_upto_block 4 with fail
     refine wp_block ?_;go_loopw [12] (fun i wr=>∃ (k:Nat) (vS:Value) (L2:List (Int × Int)),i = .int .i64 k /\ k <= S.length /\ Hid (L2 = (S.take k).filter fun s=>!refL on s.2) /\ L2.length <= k /\ wr.ownsRow W4.heap.size 84 2 vS L2.length (strC L2) /\ Blk wr b8 31 #[.int .i64 N,vS,.slice none 0 0] /\ Ex b8 W4 wr /\ Aft W1 wr) (fun i _=>S.length - (intOf i).toNat)
     case atStart=>exact ⟨0,_,[],rfl,by omega,Lib.hid rfl,by simp,HOS0.out,HB8.out,Ex.refl _ _,HZ.out⟩
     case round =>
      obtain ⟨k,vS,L2,rfl,hk,HL2,hL2l,hown,hbk,hex,hax⟩:=hrel;have HOS:=Lib.hid hown;have HBK:=Lib.hid hbk;have HX:=Lib.hid hex;have HAX:=Lib.hid hax;clear hown hbk hex hax;obtain ⟨k0,k1,k2⟩:=box31 (HB.out.aft (HY.out.trans HAX.out));have k3:=(HB.out.aft (HY.out.trans HAX.out)).lt;by_cases hkL:k < S.length
      ·have t3:decide (k < S.length) = true:=by simpa using hkL
       have ik:(0:Int) <= (k:Int) /\ (k:Int) < (S.length:Int):=by omega
       obtain ⟨bs,os,hbs,hlts,hcs⟩:=(HC.out.aft (HY.out.trans HAX.out)).strikes.at hkL;subst hbs;obtain ⟨x1,x2⟩:=hcs k hkL;have hin1:=hin _ (List.getElem_mem hkL);have HFS:Hid ((S.take (k + 1)).filter (fun s=>!refL on s.2) = (S.take k).filter (fun s=>!refL on s.2) ++ if refL on S[k].2 then [] else [S[k]]):=Lib.hid (by
        rw [List.take_succ_eq_append_getElem hkL,List.filter_append]
        congr 1
        cases h:refL on S[k].2 <;> simp [h])
       obtain ⟨⟨y0,y1⟩,hyz⟩:∃ s,S[k] = s:=⟨_,rfl⟩;rw [hyz] at x1 x2 hin1 HFS;dsimp only at x1 x2 hin1 HFS;obtain ⟨⟨ha0,ha1⟩,hb0,hb1⟩:=hin1;obtain ⟨Y1,rfl⟩:=Int.eq_ofNat_of_zero_le hb0;have hY1:Y1 < N:=by omega
       have iY1:(0:Int) <= (Y1:Int) /\ (Y1:Int) < (N:Int):=by omega
       have x3:=((blk_ex HB10.out HX.out (by omega)).cell Y1).trans (blR_get _ hY1);rw [show on.contains (Y1:Int) = refL on (Y1:Int) from rfl] at x3;rw [<- HL2.out] at HFS;clear hcs hyz ha0 ha1 hb0 hb1;cases hrf:refL on (Y1:Int)
       ·rw [hrf] at x3 HFS;rw [if_neg (by decide)] at HFS;obtain ⟨A8,c8,rfl,hst8,_⟩:=own_strs84 HOS.out (by omega);have HVS:Hid (∀ W,Aft wr W -> W.cell? ⟨b8,1,none⟩ = some (.slice A8 L2.length c8)):=Lib.hid fun W h=>(HBK.out.aft h).cell 1
        have HV7:Hid (∀ W,Aft wr W -> W.cell? ⟨bC,1,none⟩ = some (.slice (some ⟨bs,os,none⟩) S.length c1)):=Lib.hid fun W h=>(HB.out.aft (HY.out.trans (HAX.out.trans h))).cell 1
        have HS0:Hid (∀ W,Aft wr W -> W.cell? ⟨bs,os + k * 2,none⟩ = some (.int .i64 y0)):=Lib.hid fun W h=>cellA x1 hlts h
        have HS1:Hid (∀ W,Aft wr W -> W.cell? ⟨bs,os + k * 2 + 1,none⟩ = some (.int .i64 Y1)):=Lib.hid fun W h=>cellA x2 hlts h
        clear hst8;go_upto_region 17 with fail
        clear x1 x2 x3 k0 k1 k2 k3;refine wp_region_valsT (by kernel_rfl) 8 84 rfl (by kernel_rfl) (by kernel_rfl) (by kernel_rfl) [.pointer (some ⟨b8,1,none⟩),.slice A8 L2.length c8,.pointer (some ⟨bC,1,none⟩),.slice (some ⟨bs,os,none⟩) S.length c1,.int .i64 k,.pointer (some ⟨bs,os + k * 2,none⟩),.agg #[.int .i64 y0,.int .i64 Y1],.slice (some ⟨wr.heap.size,0,none⟩) 1 1] rfl (fun done W=>Aft wr W /\ (if done 7 = true then W = wr.drew.alloc (.cells #[.int .i64 y0,.int .i64 Y1] 84) else W = wr.drew)) (⟨Aft.drew _,by simp⟩) ?st1 ?fi1
        case st1 =>
         intro i o v ho hv
         match i,ho,hv with
         | 0,ho,hv =>
          cases ho;cases hv;refine .inl ⟨rfl,fun done a W hd hp hk hw K hK=>?_⟩;have e8:=hk.s 8;exact op_val (by simp [go_sem,ev' e8]) (hK _ (⟨hw.1,by rw [upd_ne' (by decide)];exact hw.2⟩))
         | 1,ho,hv =>
          cases ho;cases hv;refine .inl ⟨rfl,fun done a W hd hp hk hw K hK=>?_⟩;have e67:=hk.t 0;exact op_val (by simp [go_sem,ev' e67,HVS.out W hw.1]) (hK _ (⟨hw.1,by rw [upd_ne' (by decide)];exact hw.2⟩))
         | 2,ho,hv =>
          cases ho;cases hv;refine .inl ⟨rfl,fun done a W hd hp hk hw K hK=>?_⟩;have e3:=hk.s 3;exact op_val (by simp [go_sem,ev' e3]) (hK _ (⟨hw.1,by rw [upd_ne' (by decide)];exact hw.2⟩))
         | 3,ho,hv =>
          cases ho;cases hv;refine .inl ⟨rfl,fun done a W hd hp hk hw K hK=>?_⟩;have e69:=hk.t 2;exact op_val (by simp [go_sem,ev' e69,HV7.out W hw.1]) (hK _ (⟨hw.1,by rw [upd_ne' (by decide)];exact hw.2⟩))
         | 4,ho,hv =>
          cases ho;cases hv;refine .inl ⟨rfl,fun done a W hd hp hk hw K hK=>?_⟩;have e12:=hk.s 12;exact op_val (by simp [go_sem,ev' e12]) (hK _ (⟨hw.1,by rw [upd_ne' (by decide)];exact hw.2⟩))
         | 5,ho,hv =>
          cases ho;cases hv;refine .inl ⟨rfl,fun done a W hd hp hk hw K hK=>?_⟩;have e70:=hk.t 3;have e71:=hk.t 4;exact op_val (by simp [go_sem,ev' e70,ev' e71,ik]) (hK _ (⟨hw.1,by rw [upd_ne' (by decide)];exact hw.2⟩))
         | 6,ho,hv =>
          cases ho;cases hv;refine .inl ⟨rfl,fun done a W hd hp hk hw K hK=>?_⟩;have e72:=hk.t 5;exact op_val (by simp [go_sem,ev' e72,HS0.out W hw.1,HS1.out W hw.1]) (hK _ (⟨hw.1,by rw [upd_ne' (by decide)];exact hw.2⟩))
         | 7,ho,hv =>
          cases ho;cases hv;refine .inl ⟨rfl,fun done a W hd hp hk hw K hK=>?_⟩;have e73:=hk.t 6;have h2:=hw.2;rw [hd] at h2;simp only [Bool.false_eq_true,if_false] at h2;subst h2;exact op_valW (v:=.slice (some ⟨wr.heap.size,0,none⟩) 1 1) (w':=wr.drew.alloc (.cells #[.int .i64 y0,.int .i64 Y1] 84)) (by simp [go_sem,ev' e73]) (hK _ ⟨(Aft.drew wr).then_alloc _,by rw [upd_same',if_pos rfl]⟩)
         | _ + 8,_,hv=>cases hv
        intro done W hd hw;simp only [List.drop_succ_cons,List.drop_zero,List.zip_cons_cons,List.zip_nil_right,putAll];simp only [Act.put,List.setIfInBounds_toArray,List.set];have hw2:=hw.2;rw [if_pos (hd 7 (by decide))] at hw2;clear hw hd;subst hw2;have HTA:=Lib.hid (own_aft HOS.out ((Aft.drew wr).then_alloc (.cells #[.int .i64 y0,.int .i64 Y1] 84)));have hbase2:W4.heap.size <= (wr.drew.alloc (.cells #[.int .i64 y0,.int .i64 Y1] 84)).heap.size:=Nat.le_trans HX.out.size ((Aft.drew wr).then_alloc (.cells #[.int .i64 y0,.int .i64 Y1] 84)).size;have HC0:Hid ((wr.drew.alloc (.cells #[.int .i64 y0,.int .i64 Y1] 84)).cell? ⟨wr.heap.size,0,none⟩ = some (.int .i64 y0)):=Lib.hid ((Blk.new wr.drew 84 #[.int .i64 y0,.int .i64 Y1]).cell 0);have HC1:Hid ((wr.drew.alloc (.cells #[.int .i64 y0,.int .i64 Y1] 84)).cell? ⟨wr.heap.size,1,none⟩ = some (.int .i64 Y1)):=Lib.hid ((Blk.new wr.drew 84 #[.int .i64 y0,.int .i64 Y1]).cell 1);have HBK2:=Lib.hid (HBK.out.aft ((Aft.drew wr).then_alloc (.cells #[.int .i64 y0,.int .i64 Y1] 84)));have HX2:=Lib.hid (HX.out.aft ((Aft.drew wr).then_alloc (.cells #[.int .i64 y0,.int .i64 Y1] 84)));have HAX2:=Lib.hid (HAX.out.trans ((Aft.drew wr).then_alloc (.cells #[.int .i64 y0,.int .i64 Y1] 84)));clear HVS HV7 HS0 HS1 HOS HX HAX HBK;generalize wr.drew.alloc (.cells #[.int .i64 y0,.int .i64 Y1] 84) = W5 at *;have hge:=own_ge HTA.out;go_wp2_with (at_builtin;refine wpList_push29 rfl _ _ rfl HTA.out hbase2 rfl rfl HC0.out HC1.out (by omega) ?_;intro v8 w8 ho8 hg8;obtain ⟨A80,c80,rfl,_,_⟩:=own_strs84 ho8 (by simp;omega);have HO8:=Lib.hid ho8;have HG8:=Lib.hid hg8;have y2:=HBK2.out.grown hg8 (fun e=>by have:=hge b8 e.symm;omega);have HB80:=Lib.hid y2;have y5:=y2.cell 1;have y6:=y2.frozen 1;have y7:=y2.lt;clear ho8)
        have hset:w8.grownBy (w8.setCell ⟨b8,1,none⟩ (.slice A80 (L2.length + 1) c80)) (some b8):=only_setCell (only_refl w8 (some b8)) (p:=⟨b8,1,none⟩) (.inl rfl) _;have hO9:=HO8.out;rw [show (L2 ++ [(y0,(Y1:Int))]).length = L2.length + 1 by simp] at hO9;have hO9:=own_sm hO9 (Sm.of_grown (b:=b8 + 1) hset fun k e=>by cases e;omega) (by omega);have hX9:=(HX2.out.next HG8.out (fun g e=>.inr (hge g e))).next hset (fun g e=>by cases e;exact .inl rfl);have hA9:=(HAX2.out.grown HG8.out (fun g e=>by have:=hge g e;have:=HZ.out.size;omega)).grown hset (fun g e=>by cases e;exact HW8.out)
        have hB9:Blk (w8.setCell ⟨b8,1,none⟩ (.slice A80 (L2.length + 1) c80)) b8 31 #[.int .i64 N,.slice A80 (L2.length + 1) c80,.slice none 0 0]:=by
         have:=HB80.out.store 1 (.slice A80 (L2.length + 1) c80);simpa using this
        have hO10:(w8.setCell ⟨b8,1,none⟩ (.slice A80 (L2.length + 1) c80)).ownsRow W4.heap.size 84 2 (.slice A80 (L2.length + 1) c80) (L2 ++ [(y0,(Y1:Int))]).length (strC (L2 ++ [(y0,(Y1:Int))])):=by
         rw [show (L2 ++ [(y0,(Y1:Int))]).length = L2.length + 1 by simp];exact hO9
        exact ⟨⟨k + 1,_,L2 ++ [(y0,(Y1:Int))],by go_num,by omega,Lib.hid HFS.out.symm,by simp;omega,hO10,hB9,hX9,hA9⟩,by simp [intOf];omega⟩
       ·rw [hrf] at x3 HFS;rw [if_pos rfl,List.append_nil] at HFS;go_wp2_with fail
        exact ⟨⟨k + 1,vS,L2,by go_num,by omega,Lib.hid HFS.out.symm,by omega,HOS.out,HBK.out,HX.out,HAX.out⟩,by simp [intOf];omega⟩
      ·have t3:decide (k < S.length) = false:=by simpa using hkL
       have HLE:Hid (L2 = S.filter fun s=>!refL on s.2):=Lib.hid (by
        have:=HL2.out
        rwa [List.take_of_length_le (by omega)] at this)
       obtain ⟨A8,c8,rfl,hst8,_⟩:=own_strs84 HOS.out (by omega);have hC2:CRep wr ⟨N,L2,[]⟩ A8 none:=⟨hst8,⟨by simp,.inl rfl⟩⟩
       have hinL:∀ s ∈ L2,0 <= s.1 /\ s.1 < N:=fun s hs=>by
        rw [HLE.out] at hs;exact (hin s (List.mem_filter.1 hs).1).1
       obtain ⟨F,hF⟩:∃ F,foundL (award L2 noS N (begF (refL off))) N = F:=⟨_,rfl⟩;have HFL:Hid (F.length = N):=Lib.hid (by rw [<- hF,foundL_len]);obtain ⟨fv,hfv⟩:∃ fv,award L2 noS N (begF (refL off)) n = fv:=⟨_,rfl⟩
       have HFN:Hid (∀ h:n < F.length,F[n] = (fv:Int)):=Lib.hid fun h=>by
        subst hF;rw [foundL_get,hfv]
       have H65:Hid (Calls Tryz.prog 65 #[.agg #[.int .i64 N,.slice A8 L2.length c8,.slice none 0 0],.slice A9 off.length c9] wr (MadeI F wr)):=Lib.hid (by
        rw [<- hF];exact awardR_any N L2 [] A8 none c8 0 off A9 c9 wr hC2 hN hinL (HI9.out wr HX.out) HOFM.out)
       have HPV:Hid (PD m = decide (fv ≠ 0)):=Lib.hid (by
        rw [HPM.out,<- HLE.out,hfv])
       obtain ⟨j0,j1,j2⟩:=box31 HBK.out;have j3:=HBK.out.lt;clear hst8 hC2 hinL hF hfv HL2 HLE HI9 HPM HOFM HOS HBK HX;by_cases hf0:fv = 0
       ·have q1:((fv:Int) == 0) = true:=by simp;omega
        have HFA:Hid ((List.range q).all PD = false):=Lib.hid (all_range_no hmq (by rw [HPV.out];simp [hf0]));go_wp2_with (go_at_call 65;refine H65.out.mono ?_;rintro e W6 ⟨g,rfl,hg,hb,ha⟩;have HA6:=Lib.hid ha;rw [HFL.out];have y0:=ivs_cell hb (i:=n) (by rw [HFL.out];exact hn);have y1:=hb.lt;rw [HFN.out] at y0;clear hg hb ha)
        go_ret;exact ⟨ret_bool HFA.out.symm,H0.out.trans (HY.out.trans (HAX.out.trans HA6.out))⟩
       ·have q1:((fv:Int) == 0) = false:=by simp;omega
        have HAL2:Hid ((List.range (m + 1)).all PD = true):=Lib.hid (by
         rw [all_range_succ,HAL.out,HPV.out];simp [hf0])
        go_wp2_with (go_at_call 65;refine H65.out.mono ?_;rintro e W6 ⟨g,rfl,hg,hb,ha⟩;have HA6:=Lib.hid ha;rw [HFL.out];have y0:=ivs_cell hb (i:=n) (by rw [HFL.out];exact hn);have y1:=hb.lt;rw [HFN.out] at y0;clear hg hb ha)
        exact ⟨⟨m + 1,by go_num,by omega,HY.out.trans (HAX.out.trans HA6.out),HAL2⟩,by simp [intOf];omega⟩
  ·have t1:decide (m < q) = false:=by simpa using hmq
   obtain rfl:m = q:=by omega
   go_wp2_with fail
   go_ret;exact ⟨ret_bool HAL.out.symm,H0.out.trans HY.out⟩
end Go.Proofs
end
section
/- Walks: the reference's Decides 16,Surveys 19. -/
namespace Go.Proofs
open Go.RowKit
open Court (refL begF noS struckB award)
attribute [local go_sem] Oper.semAt_some
set_option maxRecDepth 100000 in
set_option maxHeartbeats 4000000 in
theorem decidesTop_bad (C:CaseL) (a1 a2:Option Addr) (c1 c2:Nat) (n:Int) (w:World) (hC:CRep w C a1 a2) (he:decidingE C n ≠ 0) :
  Calls Tryz.prog 16 #[(.agg #[.int .i64 C.claims,.slice a1 C.strikes.length c1,.slice a2 C.surveys.length c2]),.int .i64 n] w (BadS (decidingE C n) w):=by
 have H0:=Lib.hid (Aft.alloc w (.cells #[.int .i64 C.claims,.slice a1 C.strikes.length c1,.slice a2 C.surveys.length c2] 31));have HB:=Lib.hid (Blk.new w 31 #[.int .i64 C.claims,.slice a1 C.strikes.length c1,.slice a2 C.surveys.length c2]);unfold BadS;unfold decidingE at he ⊢;by_cases h1:caseE C = 0
 ·rw [if_pos h1] at he ⊢;have hok:=caseE_ok h1
  have hf:fromB n 0 ((C.surveys.length:Int) - 1) = false:=by
   cases h:fromB n 0 ((C.surveys.length:Int) - 1)
   ·rfl
   ·rw [h] at he;exact absurd rfl he
  rw [hf,if_neg (by decide)];have H1:Hid (Calls Tryz.prog 56 #[(.agg #[.int .i64 C.claims,.slice a1 C.strikes.length c1,.slice a2 C.surveys.length c2])] (w.alloc (.cells #[.int .i64 C.claims,.slice a1 C.strikes.length c1,.slice a2 C.surveys.length c2] 31)) fun e w'=>e = .returned (.int .i64 0) /\ Aft (w.alloc (.cells #[.int .i64 C.claims,.slice a1 C.strikes.length c1,.slice a2 C.surveys.length c2] 31)) w'):=Lib.hid (by rw [<- h1];exact checkR_any C a1 a2 c1 c2 _ (hC.aft H0.out));have hfs:=hok.fews;have e1:IntKind.i64.wrap ((C.surveys.length:Int) - 1) = (C.surveys.length:Int) - 1:=by rw [IntWalk.i64_in _ (by omega)]
  have HF:=Lib.hid hf;obtain ⟨k0,k1,k2⟩:=box31 HB.out;have hlt:=HB.out.lt;clear hC he h1 hok hf;go_enter Tryz.func16,Tryz.ntmps16;go_wp2_with (first | (go_at_call 56;refine H1.out.mono ?_;rintro e w1 ⟨rfl,ha1⟩;have HA1:=Lib.hid ha1;obtain ⟨j0,j1,j2⟩:=box31 (HB.out.aft ha1);have hlt1:=(HB.out.aft ha1).lt;clear ha1) | (go_at_call 57;refine (beside_any n 0 ((C.surveys.length:Int) - 1) _).mono ?_;rintro e w2 ⟨rfl,rfl⟩;rw [HF.out]))
  go_ret2;exact ⟨rfl,H0.out.trans HA1.out⟩
 ·rw [if_neg h1] at he ⊢;have H1:=Lib.hid (checkR_any C a1 a2 c1 c2 _ (hC.aft H0.out));have t1:(caseE C != 0) = true:=by simpa using h1
  obtain ⟨k0,k1,k2⟩:=box31 HB.out;have hlt:=HB.out.lt;clear hC he h1;generalize caseE C = E at *;go_enter Tryz.func16,Tryz.ntmps16;go_wp2_with (go_at_call 56;refine H1.out.mono ?_;rintro e w1 ⟨rfl,ha1⟩;have HA1:=Lib.hid ha1;clear ha1)
  go_ret2;exact ⟨rfl,H0.out.trans HA1.out⟩
set_option maxRecDepth 100000 in
set_option maxHeartbeats 4000000 in
theorem decidesTop_good (N:Nat) (S:List (Int × Int)) (T:List (List Int)) (a1 a2:Option Addr) (c1 c2:Nat) (n:Nat) (w:World) (hC:CRep w ⟨N,S,T⟩ a1 a2) (he:decidingE ⟨N,S,T⟩ n = 0) :
  Calls Tryz.prog 16 #[(.agg #[.int .i64 N,.slice a1 S.length c1,.slice a2 T.length c2]),.int .i64 n] w (GoodL (idxL (fun (i:Nat)=>decT ⟨N,S,T⟩ (T.getD n []) N (2 ^ (T.getD n []).length) i) N) w):=by
 have H0:=Lib.hid (Aft.alloc w (.cells #[.int .i64 N,.slice a1 S.length c1,.slice a2 T.length c2] 31));have HB:=Lib.hid (Blk.new w 31 #[.int .i64 N,.slice a1 S.length c1,.slice a2 T.length c2]);unfold decidingE at he;by_cases h1:caseE ⟨N,S,T⟩ = 0
 ·rw [if_pos h1] at he
  have hf:fromB (n:Int) 0 ((T.length:Int) - 1) = true:=by
   cases h:fromB (n:Int) 0 ((T.length:Int) - 1)
   ·rw [h] at he;cases he
   ·rfl
  have hnT:n < T.length:=by have:=fromB_iff.1 hf;omega
  have H1:Hid (Calls Tryz.prog 56 #[(.agg #[.int .i64 N,.slice a1 S.length c1,.slice a2 T.length c2])] (w.alloc (.cells #[.int .i64 N,.slice a1 S.length c1,.slice a2 T.length c2] 31)) fun e w'=>e = .returned (.int .i64 0) /\ Aft (w.alloc (.cells #[.int .i64 N,.slice a1 S.length c1,.slice a2 T.length c2] 31)) w'):=Lib.hid (by rw [<- h1];exact checkR_any ⟨N,S,T⟩ a1 a2 c1 c2 _ (hC.aft H0.out));have hok:=caseE_ok h1;have hn1:=hok.n1;have hn2:=hok.n2;have hfs:=hok.fews;have hss:=hok.few;have HIN:=Lib.hid hok.ins;have hsv:=hok.svs T[n] (List.getElem_mem hnT);have hlr:=(listedE_ok hsv.2).1;dsimp only at hn1 hn2 hfs hss hsv hlr HIN;have hgd:T.getD n [] = T[n]:=by rw [List.getD_eq_getElem?_getD,List.getElem?_eq_getElem hnT];rfl
  have e1:IntKind.i64.wrap ((T.length:Int) - 1) = (T.length:Int) - 1:=by rw [IntWalk.i64_in _ (by omega)]
  have inT:(0:Int) <= (n:Int) /\ (n:Int) < (T.length:Int):=by omega
  have HF:=Lib.hid hf;have HC:=Lib.hid hC;rw [hgd];obtain ⟨bt,ot,A',c',hbt,hltt,x1,hil⟩:=hC.surveys.row hnT;dsimp only at hbt x1 hil;subst hbt;obtain ⟨l,hl0⟩:∃ l,T[n] = l:=⟨_,rfl⟩;rw [hl0] at x1 hil hsv hlr ⊢;have hll:=hsv.1.2;have HIL:=Lib.hid hil;obtain ⟨PT,hPT⟩:∃ PT:Nat -> Bool,PT = fun (i:Nat)=>decT ⟨N,S,T⟩ l N (2 ^ l.length) i:=⟨_,rfl⟩
  have H58:Hid (∀ (i:Nat) (W:World),i < N -> Aft w W -> Calls Tryz.prog 58 #[.agg #[.int .i64 N,.slice a1 S.length c1,.slice (some ⟨bt,ot,none⟩) T.length c2],.slice A' l.length c',.int .i64 i] W fun e w'=>e = .returned (.bool (PT i)) /\ Aft W w'):=Lib.hid fun i W hi h=>by
   rw [hPT];exact decidesR_any N S T a1 (some ⟨bt,ot,none⟩) c1 c2 l A' c' i W (HC.out.aft h) (by omega) hss (fun s hs=>HIN.out s hs) (HIL.out.aft h) hlr hll hi
  rw [<- hPT];have HX1:Hid (∀ W,Aft w W -> W.cell? ⟨bt,ot + n,none⟩ = some (.slice A' l.length c')):=Lib.hid fun W h=>cellA x1 hltt h
  have hw0:w.heap.size < (w.alloc (.cells #[.int .i64 N,.slice a1 S.length c1,.slice (some ⟨bt,ot,none⟩) T.length c2] 31)).heap.size:=by simp
  obtain ⟨bC,hbC⟩:∃ bC,w.heap.size = bC:=⟨_,rfl⟩;rw [hbC] at HB hw0;have HBC:=Lib.hid hbC;clear hbC he h1 hok hf hPT HIN hsv hlr hgd hC hl0 hil HIL HC x1;unfold GoodL;rw [HBC.out];go_enter Tryz.func16,Tryz.ntmps16;go_upto_region 1 with fail
  rw [HBC.out];generalize w.alloc (.cells #[.int .i64 N,.slice a1 S.length c1,.slice (some ⟨bt,ot,none⟩) T.length c2] 31) = W0 at *;obtain ⟨k0,k1,k2⟩:=box31 HB.out;have k3:=HB.out.lt;go_upto_block 0 with (first | (go_at_call 56;refine H1.out.mono ?_;rintro e W1 ⟨rfl,ha1⟩;have HA1:=Lib.hid ha1;obtain ⟨j0,j1,j2⟩:=box31 (HB.out.aft ha1);have hlt1:=(HB.out.aft ha1).lt;clear ha1) | (go_at_call 57;refine (beside_any (n:Int) 0 ((T.length:Int) - 1) _).mono ?_;rintro e w2 ⟨rfl,rfl⟩;rw [HF.out]))
  clear k0 k1 k2 k3 j0 j1 j2 hlt1 H1 HF;have HO0:=Lib.hid (World.ownsRow_nil W1 W0.heap.size 3 1);refine wp_block ?_;go_loopw [7,8] (fun v i wr=>∃ k:Nat,i = .int .i64 k /\ k <= N /\ wr.ownsRow W0.heap.size 3 1 v (idxL PT k).length ((idxL PT k).map (Value.int .i64)) /\ Aft W0 wr) (fun _ i _=>N - (intOf i).toNat)
  case atStart=>exact ⟨0,rfl,by omega,HO0.out,HA1.out⟩
  case round =>
   obtain ⟨k,rfl,hk,hown,hy⟩:=hrel;have HO:=Lib.hid hown;have HY:=Lib.hid hy;clear hown hy;obtain ⟨k0,k1,k2⟩:=box31 (HB.out.aft HY.out);have k3:=(HB.out.aft HY.out).lt;by_cases hkN:k < N
   ·have t2:decide (k < N) = true:=by simpa using hkN
    have HP:=Lib.hid (idxL_succ PT k);have hpl:=idxL_len PT k;have HC0:Hid (∀ W,Aft wr W -> W.cell? ⟨bC,0,none⟩ = some (.int .i64 N) /\ W.cell? ⟨bC,1,none⟩ = some (.slice a1 S.length c1) /\ W.cell? ⟨bC,2,none⟩ = some (.slice (some ⟨bt,ot,none⟩) T.length c2)):=Lib.hid fun W h=>box31 (HB.out.aft (HY.out.trans h))
    have HX2:Hid (∀ W,Aft wr W -> W.cell? ⟨bt,ot + n,none⟩ = some (.slice A' l.length c')):=Lib.hid fun W h=>HX1.out W (H0.out.trans (HY.out.trans h))
    obtain ⟨bb,hbb⟩:∃ bb,PT k = bb:=⟨_,rfl⟩;have H58k:Hid (∀ W,Aft wr W -> Calls Tryz.prog 58 #[.agg #[.int .i64 N,.slice a1 S.length c1,.slice (some ⟨bt,ot,none⟩) T.length c2],.slice A' l.length c',.int .i64 k] W fun e w'=>e = .returned (.bool bb) /\ Aft W w'):=Lib.hid fun W h=>by rw [<- hbb];exact H58.out k W hkN (H0.out.trans (HY.out.trans h))
    rw [hbb] at HP;clear hbb;go_upto_region 10 with fail
    clear k0 k1 k2 k3;refine wp_region_valsG (by kernel_rfl) 39 rfl (by kernel_rfl) (by kernel_rfl) [(.agg #[.int .i64 N,.slice a1 S.length c1,.slice (some ⟨bt,ot,none⟩) T.length c2]),.pointer (some ⟨bC,2,none⟩),.slice (some ⟨bt,ot,none⟩) T.length c2,.int .i64 n,.pointer (some ⟨bt,ot + n,none⟩),.slice A' l.length c',.int .i64 k,.bool bb] rfl (fun W=>Aft wr W) (Aft.drew _) ?st1 ?fi1
    case st1 =>
     intro i o v ho hv
     match i,ho,hv with
     | 0,ho,hv =>
      cases ho;cases hv;refine .inl ⟨rfl,fun a W hk hw K hK=>?_⟩;have e2:=hk.s 2;obtain ⟨j0,j1,j2⟩:=HC0.out W hw;exact op_val (v:=(.agg #[.int .i64 N,.slice a1 S.length c1,.slice (some ⟨bt,ot,none⟩) T.length c2])) (by simp [go_sem,ev' e2,j0,j1,j2]) (hK _ hw)
     | 1,ho,hv =>
      cases ho;cases hv;refine .inl ⟨rfl,fun a W hk hw K hK=>?_⟩;have e2:=hk.s 2;exact op_val (by simp [go_sem,ev' e2]) (hK _ hw)
     | 2,ho,hv =>
      cases ho;cases hv;refine .inl ⟨rfl,fun a W hk hw K hK=>?_⟩;have e27:=hk.t 1;exact op_val (by simp [go_sem,ev' e27,(HC0.out W hw).2.2]) (hK _ hw)
     | 3,ho,hv =>
      cases ho;cases hv;refine .inl ⟨rfl,fun a W hk hw K hK=>?_⟩;have e1:=hk.s 1;exact op_val (by simp [go_sem,ev' e1]) (hK _ hw)
     | 4,ho,hv =>
      cases ho;cases hv;refine .inl ⟨rfl,fun a W hk hw K hK=>?_⟩;have e28:=hk.t 2;have e29:=hk.t 3;exact op_val (by simp [go_sem,ev' e28,ev' e29,inT]) (hK _ hw)
     | 5,ho,hv =>
      cases ho;cases hv;refine .inl ⟨rfl,fun a W hk hw K hK=>?_⟩;have e30:=hk.t 4;exact op_val (by simp [go_sem,ev' e30,HX2.out W hw]) (hK _ hw)
     | 6,ho,hv =>
      cases ho;cases hv;refine .inl ⟨rfl,fun a W hk hw K hK=>?_⟩;have e8:=hk.s 8;exact op_val (by simp [go_sem,ev' e8]) (hK _ hw)
     | 7,ho,hv =>
      cases ho;cases hv;refine .inl ⟨rfl,fun a W hk hw K hK=>?_⟩;have e26:=hk.t 0;have e31:=hk.t 5;have e32:=hk.t 6;refine op_callN rfl rfl rfl _ rfl (vs:=#[(.agg #[.int .i64 N,.slice a1 S.length c1,.slice (some ⟨bt,ot,none⟩) T.length c2]),.slice A' l.length c',.int .i64 k]) (by simp [e26,e31,e32]) (H58k.out W hw) fun e w' h=>?_
      obtain ⟨rfl,ha⟩:=h;exact ⟨_,rfl,hK _ (hw.trans ha)⟩
     | _ + 8,_,hv=>cases hv
    intro W hw;simp only [List.drop_succ_cons,List.drop_zero,List.zip_cons_cons,List.zip_nil_right,putAll];simp only [Act.put,List.setIfInBounds_toArray,List.set];cases bb
    ·rw [if_neg (by decide),List.append_nil] at HP;go_wp2_with fail
     exact ⟨⟨k + 1,by go_num,by omega,by rw [HP.out];exact own_aft HO.out hw,HY.out.trans hw⟩,by simp [intOf];omega⟩
    ·rw [if_pos rfl] at HP;have HTA:=Lib.hid (own_aft (own_aft HO.out hw) (Aft.alloc W (.cells #[.int .i64 k] 3)));have hbase:W0.heap.size <= (W.alloc (.cells #[.int .i64 k] 3)).heap.size:=Nat.le_trans (HY.out.trans hw).size (Aft.alloc _ _).size;have hge:=own_ge HO.out;go_wp2_with (at_builtin;refine wpList_push rfl _ _ rfl HTA.out hbase rfl rfl (cell_new1 _ _ _) (by omega) ?_;intro v6 w6 ho6 hg6;have HO6:=Lib.hid ho6;have HG6:=Lib.hid hg6;clear ho6 hg6)
     exact ⟨⟨k + 1,by go_num,by omega,by rw [HP.out];exact HO6.out,((HY.out.trans hw).then_alloc _).grown HG6.out hge⟩,by simp [intOf];omega⟩
   ·have t2:decide (k < N) = false:=by simpa using hkN
    obtain rfl:k = N:=by omega
    go_wp2_with fail
    go_ret2;exact ⟨_,rfl,own_base HO.out (Nat.le_of_lt hw0),H0.out.trans HY.out⟩
 ·rw [if_neg h1] at he;exact absurd he h1
set_option maxRecDepth 100000 in
set_option maxHeartbeats 4000000 in
theorem surveysTop_bad (C:CaseL) (a1 a2:Option Addr) (c1 c2:Nat) (n:Int) (w:World) (hC:CRep w C a1 a2) (he:surveyingE C n ≠ 0) :
  Calls Tryz.prog 19 #[(.agg #[.int .i64 C.claims,.slice a1 C.strikes.length c1,.slice a2 C.surveys.length c2]),.int .i64 n] w (BadS (surveyingE C n) w):=by
 have H0:=Lib.hid (Aft.alloc w (.cells #[.int .i64 C.claims,.slice a1 C.strikes.length c1,.slice a2 C.surveys.length c2] 31));have HB:=Lib.hid (Blk.new w 31 #[.int .i64 C.claims,.slice a1 C.strikes.length c1,.slice a2 C.surveys.length c2]);unfold BadS;unfold surveyingE at he ⊢;by_cases h1:caseE C = 0
 ·rw [if_pos h1] at he ⊢;have hok:=caseE_ok h1
  have hf:Cl n C.claims = false:=by
   cases h:Cl n C.claims
   ·rfl
   ·rw [h] at he;exact absurd rfl he
  rw [hf,if_neg (by decide)];have H1:Hid (Calls Tryz.prog 56 #[(.agg #[.int .i64 C.claims,.slice a1 C.strikes.length c1,.slice a2 C.surveys.length c2])] (w.alloc (.cells #[.int .i64 C.claims,.slice a1 C.strikes.length c1,.slice a2 C.surveys.length c2] 31)) fun e w'=>e = .returned (.int .i64 0) /\ Aft (w.alloc (.cells #[.int .i64 C.claims,.slice a1 C.strikes.length c1,.slice a2 C.surveys.length c2] 31)) w'):=Lib.hid (by rw [<- h1];exact checkR_any C a1 a2 c1 c2 _ (hC.aft H0.out));have hn1:=hok.n1;have hn2:=hok.n2;have e1:IntKind.i64.wrap (C.claims - 1) = C.claims - 1:=by rw [IntWalk.i64_in _ (by omega)]
  have HF:Hid (fromB n 0 (C.claims - 1) = false):=Lib.hid hf;obtain ⟨k0,k1,k2⟩:=box31 HB.out;have hlt:=HB.out.lt;clear hC he h1 hok hf;go_enter Tryz.func19,Tryz.ntmps19;go_wp2_with (first | (go_at_call 56;refine H1.out.mono ?_;rintro e w1 ⟨rfl,ha1⟩;have HA1:=Lib.hid ha1;obtain ⟨j0,j1,j2⟩:=box31 (HB.out.aft ha1);have hlt1:=(HB.out.aft ha1).lt;clear ha1) | (go_at_call 57;refine (beside_any n 0 (C.claims - 1) _).mono ?_;rintro e w2 ⟨rfl,rfl⟩;rw [HF.out]))
  go_ret2;exact ⟨rfl,H0.out.trans HA1.out⟩
 ·rw [if_neg h1] at he ⊢;have H1:=Lib.hid (checkR_any C a1 a2 c1 c2 _ (hC.aft H0.out));have t1:(caseE C != 0) = true:=by simpa using h1
  obtain ⟨k0,k1,k2⟩:=box31 HB.out;have hlt:=HB.out.lt;clear hC he h1;generalize caseE C = E at *;go_enter Tryz.func19,Tryz.ntmps19;go_wp2_with (go_at_call 56;refine H1.out.mono ?_;rintro e w1 ⟨rfl,ha1⟩;have HA1:=Lib.hid ha1;clear ha1)
  go_ret2;exact ⟨rfl,H0.out.trans HA1.out⟩
set_option maxRecDepth 100000 in
set_option maxHeartbeats 4000000 in
theorem surveysTop_good (N:Nat) (S:List (Int × Int)) (T:List (List Int)) (a1 a2:Option Addr) (c1 c2:Nat) (n:Nat) (w:World) (hC:CRep w ⟨N,S,T⟩ a1 a2) (he:surveyingE ⟨N,S,T⟩ n = 0) :
  Calls Tryz.prog 19 #[(.agg #[.int .i64 N,.slice a1 S.length c1,.slice a2 T.length c2]),.int .i64 n] w (GoodL (idxL (fun i=>decT ⟨N,S,T⟩ (T.getD i []) N (2 ^ (T.getD i []).length) n) T.length) w):=by
 have H0:=Lib.hid (Aft.alloc w (.cells #[.int .i64 N,.slice a1 S.length c1,.slice a2 T.length c2] 31));have HB:=Lib.hid (Blk.new w 31 #[.int .i64 N,.slice a1 S.length c1,.slice a2 T.length c2]);unfold surveyingE at he;by_cases h1:caseE ⟨N,S,T⟩ = 0
 ·rw [if_pos h1] at he
  have hf:Cl (n:Int) N = true:=by
   cases h:Cl (n:Int) N
   ·rw [h] at he;cases he
   ·rfl
  have hnN:n < N:=by have:=Cl_iff.1 hf;omega
  have H1:Hid (Calls Tryz.prog 56 #[(.agg #[.int .i64 N,.slice a1 S.length c1,.slice a2 T.length c2])] (w.alloc (.cells #[.int .i64 N,.slice a1 S.length c1,.slice a2 T.length c2] 31)) fun e w'=>e = .returned (.int .i64 0) /\ Aft (w.alloc (.cells #[.int .i64 N,.slice a1 S.length c1,.slice a2 T.length c2] 31)) w'):=Lib.hid (by rw [<- h1];exact checkR_any ⟨N,S,T⟩ a1 a2 c1 c2 _ (hC.aft H0.out));have hok:=caseE_ok h1;have hn1:=hok.n1;have hn2:=hok.n2;have hfs:=hok.fews;have hss:=hok.few;have HIN:=Lib.hid hok.ins;have HSV:=Lib.hid hok.svs;dsimp only at hn1 hn2 hfs hss HSV HIN;have e1:IntKind.i64.wrap ((N:Int) - 1) = (N:Int) - 1:=by rw [IntWalk.i64_in _ (by omega)]
  have HF:Hid (fromB (n:Int) 0 ((N:Int) - 1) = true):=Lib.hid hf;have HC:=Lib.hid (hC.aft H0.out);obtain ⟨PT,hPT⟩:∃ PT:Nat -> Bool,PT = fun i=>decT ⟨N,S,T⟩ (T.getD i []) N (2 ^ (T.getD i []).length) n:=⟨_,rfl⟩
  have HPT:Hid (∀ k,(h:k < T.length) -> decT ⟨N,S,T⟩ T[k] N (2 ^ T[k].length) n = PT k):=Lib.hid fun k h=>by
   have hgd:T.getD k [] = T[k]:=by rw [List.getD_eq_getElem?_getD,List.getElem?_eq_getElem h];rfl
   rw [hPT];dsimp only;rw [hgd]
  rw [<- hPT];have hw0:w.heap.size < (w.alloc (.cells #[.int .i64 N,.slice a1 S.length c1,.slice a2 T.length c2] 31)).heap.size:=by simp
  obtain ⟨bC,hbC⟩:∃ bC,w.heap.size = bC:=⟨_,rfl⟩;rw [hbC] at HB hw0;have HBC:=Lib.hid hbC;clear hbC he h1 hok hf hPT hC;unfold GoodL;rw [HBC.out];go_enter Tryz.func19,Tryz.ntmps19;go_upto_region 1 with fail
  rw [HBC.out];generalize w.alloc (.cells #[.int .i64 N,.slice a1 S.length c1,.slice a2 T.length c2] 31) = W0 at *;obtain ⟨k0,k1,k2⟩:=box31 HB.out;have k3:=HB.out.lt;go_upto_block 0 with (first | (go_at_call 56;refine H1.out.mono ?_;rintro e W1 ⟨rfl,ha1⟩;have HA1:=Lib.hid ha1;obtain ⟨j0,j1,j2⟩:=box31 (HB.out.aft ha1);have hlt1:=(HB.out.aft ha1).lt;clear ha1) | (go_at_call 57;refine (beside_any (n:Int) 0 ((N:Int) - 1) _).mono ?_;rintro e w2 ⟨rfl,rfl⟩;rw [HF.out]))
  clear k0 k1 k2 k3 j0 j1 j2 hlt1 H1 HF;have HO0:=Lib.hid (World.ownsRow_nil W1 W0.heap.size 3 1);refine wp_block ?_;go_loopw [7,8] (fun v i wr=>∃ k:Nat,i = .int .i64 k /\ k <= T.length /\ wr.ownsRow W0.heap.size 3 1 v (idxL PT k).length ((idxL PT k).map (Value.int .i64)) /\ Aft W0 wr) (fun _ i _=>T.length - (intOf i).toNat)
  case atStart=>exact ⟨0,rfl,by omega,HO0.out,HA1.out⟩
  case round =>
   obtain ⟨k,rfl,hk,hown,hy⟩:=hrel;have HO:=Lib.hid hown;have HY:=Lib.hid hy;clear hown hy;obtain ⟨k0,k1,k2⟩:=box31 (HB.out.aft HY.out);have k3:=(HB.out.aft HY.out).lt;by_cases hkT:k < T.length
   ·have t2:decide (k < T.length) = true:=by simpa using hkT
    have ik:(0:Int) <= (k:Int) /\ (k:Int) < (T.length:Int):=by omega
    have HP:=Lib.hid (idxL_succ PT k);have hpl:=idxL_len PT k;obtain ⟨bt,ot,A',c',hbt,hltt,x1,hil⟩:=(HC.out.aft HY.out).surveys.row hkT;dsimp only at hbt x1 hil;subst hbt;have hsv:=HSV.out T[k] (List.getElem_mem hkT);have hlr:=(listedE_ok hsv.2).1;have hpk:=HPT.out k hkT;obtain ⟨l,hl0⟩:∃ l,T[k] = l:=⟨_,rfl⟩;rw [hl0] at x1 hil hsv hlr hpk;have HIL:=Lib.hid hil;have HX2:Hid (∀ W,Aft wr W -> W.cell? ⟨bt,ot + k,none⟩ = some (.slice A' l.length c')):=Lib.hid fun W h=>cellA x1 hltt h
    have HC0:Hid (∀ W,Aft wr W -> W.cell? ⟨bC,0,none⟩ = some (.int .i64 N) /\ W.cell? ⟨bC,1,none⟩ = some (.slice a1 S.length c1) /\ W.cell? ⟨bC,2,none⟩ = some (.slice (some ⟨bt,ot,none⟩) T.length c2)):=Lib.hid fun W h=>box31 (HB.out.aft (HY.out.trans h))
    obtain ⟨bb,hbb⟩:∃ bb,PT k = bb:=⟨_,rfl⟩
    have H58k:Hid (∀ W,Aft wr W -> Calls Tryz.prog 58 #[.agg #[.int .i64 N,.slice a1 S.length c1,.slice (some ⟨bt,ot,none⟩) T.length c2],.slice A' l.length c',.int .i64 n] W fun e w'=>e = .returned (.bool bb) /\ Aft W w'):=Lib.hid fun W h=>by
     rw [<- hbb,<- hpk];exact decidesR_any N S T a1 (some ⟨bt,ot,none⟩) c1 c2 l A' c' n W (HC.out.aft (HY.out.trans h)) (by omega) hss (fun s hs=>HIN.out s hs) (HIL.out.aft h) hlr hsv.1.2 hnN
    rw [hbb] at HP;clear hbb hpk hl0 hil hsv hlr x1;go_upto_region 10 with fail
    clear k0 k1 k2 k3;refine wp_region_valsG (by kernel_rfl) 39 rfl (by kernel_rfl) (by kernel_rfl) [(.agg #[.int .i64 N,.slice a1 S.length c1,.slice (some ⟨bt,ot,none⟩) T.length c2]),.pointer (some ⟨bC,2,none⟩),.slice (some ⟨bt,ot,none⟩) T.length c2,.int .i64 k,.pointer (some ⟨bt,ot + k,none⟩),.slice A' l.length c',.int .i64 n,.bool bb] rfl (fun W=>Aft wr W) (Aft.drew _) ?st2 ?fi2
    case st2 =>
     intro i o v ho hv
     match i,ho,hv with
     | 0,ho,hv =>
      cases ho;cases hv;refine .inl ⟨rfl,fun a W hk hw K hK=>?_⟩;have e2:=hk.s 2;obtain ⟨j0,j1,j2⟩:=HC0.out W hw;exact op_val (v:=(.agg #[.int .i64 N,.slice a1 S.length c1,.slice (some ⟨bt,ot,none⟩) T.length c2])) (by simp [go_sem,ev' e2,j0,j1,j2]) (hK _ hw)
     | 1,ho,hv =>
      cases ho;cases hv;refine .inl ⟨rfl,fun a W hk hw K hK=>?_⟩;have e2:=hk.s 2;exact op_val (by simp [go_sem,ev' e2]) (hK _ hw)
     | 2,ho,hv =>
      cases ho;cases hv;refine .inl ⟨rfl,fun a W hk hw K hK=>?_⟩;have e27:=hk.t 1;exact op_val (by simp [go_sem,ev' e27,(HC0.out W hw).2.2]) (hK _ hw)
     | 3,ho,hv =>
      cases ho;cases hv;refine .inl ⟨rfl,fun a W hk hw K hK=>?_⟩;have e8:=hk.s 8;exact op_val (by simp [go_sem,ev' e8]) (hK _ hw)
     | 4,ho,hv =>
      cases ho;cases hv;refine .inl ⟨rfl,fun a W hk hw K hK=>?_⟩;have e28:=hk.t 2;have e29:=hk.t 3;exact op_val (by simp [go_sem,ev' e28,ev' e29,ik]) (hK _ hw)
     | 5,ho,hv =>
      cases ho;cases hv;refine .inl ⟨rfl,fun a W hk hw K hK=>?_⟩;have e30:=hk.t 4;exact op_val (by simp [go_sem,ev' e30,HX2.out W hw]) (hK _ hw)
     | 6,ho,hv =>
      cases ho;cases hv;refine .inl ⟨rfl,fun a W hk hw K hK=>?_⟩;have e1:=hk.s 1;exact op_val (by simp [go_sem,ev' e1]) (hK _ hw)
     | 7,ho,hv =>
      cases ho;cases hv;refine .inl ⟨rfl,fun a W hk hw K hK=>?_⟩;have e26:=hk.t 0;have e31:=hk.t 5;have e32:=hk.t 6;refine op_callN rfl rfl rfl _ rfl (vs:=#[(.agg #[.int .i64 N,.slice a1 S.length c1,.slice (some ⟨bt,ot,none⟩) T.length c2]),.slice A' l.length c',.int .i64 n]) (by simp [e26,e31,e32]) (H58k.out W hw) fun e w' h=>?_
      obtain ⟨rfl,ha⟩:=h;exact ⟨_,rfl,hK _ (hw.trans ha)⟩
     | _ + 8,_,hv=>cases hv
    intro W hw;simp only [List.drop_succ_cons,List.drop_zero,List.zip_cons_cons,List.zip_nil_right,putAll];simp only [Act.put,List.setIfInBounds_toArray,List.set];cases bb
    ·rw [if_neg (by decide),List.append_nil] at HP;go_wp2_with fail
     exact ⟨⟨k + 1,by go_num,by omega,by rw [HP.out];exact own_aft HO.out hw,HY.out.trans hw⟩,by simp [intOf];omega⟩
    ·rw [if_pos rfl] at HP;have HTA:=Lib.hid (own_aft (own_aft HO.out hw) (Aft.alloc W (.cells #[.int .i64 k] 3)));have hbase:W0.heap.size <= (W.alloc (.cells #[.int .i64 k] 3)).heap.size:=Nat.le_trans (HY.out.trans hw).size (Aft.alloc _ _).size;have hge:=own_ge HO.out;go_wp2_with (at_builtin;refine wpList_push rfl _ _ rfl HTA.out hbase rfl rfl (cell_new1 _ _ _) (by omega) ?_;intro v6 w6 ho6 hg6;have HO6:=Lib.hid ho6;have HG6:=Lib.hid hg6;clear ho6 hg6)
     exact ⟨⟨k + 1,by go_num,by omega,by rw [HP.out];exact HO6.out,((HY.out.trans hw).then_alloc _).grown HG6.out hge⟩,by simp [intOf];omega⟩
   ·have t2:decide (k < T.length) = false:=by simpa using hkT
    obtain rfl:T.length = k:=by omega
    go_wp2_with fail
    go_ret2;exact ⟨_,rfl,own_base HO.out (Nat.le_of_lt hw0),H0.out.trans HY.out⟩
 ·rw [if_neg h1] at he;exact absurd he h1
end Go.Proofs
end
