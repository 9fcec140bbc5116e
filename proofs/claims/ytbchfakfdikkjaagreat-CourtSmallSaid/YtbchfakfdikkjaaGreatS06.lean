/- Own texts, merged: CtJ CtK CtL0 CtL CtM. -/
import Derived.Test.YtbchfakfdikkjaaGreatS05
import Derived.Laws.StructEq
import Derived.Deep.WholeRow
set_option linter.unusedSimpArgs false
set_option linter.unusedVariables false
set_option linter.unnecessarySimpa false
section
/- Walks: strikes;free;steps. -/
namespace Go.Proofs
open Go.RowKit
open Court (refL begF noS struckB nextR)
attribute [local go_sem] Oper.semAt_some
set_option maxRecDepth 100000 in
set_option maxHeartbeats 2000000 in
theorem strikes_any (w0 w:World) (d:Nat) (C:CaseL) (a1 a2:Option Addr) (c1 c2:Nat) (ref sure:Int -> Bool) (f r:Int -> Nat) (hD:DeskAt w0 w d C a1 a2 c1 c2 ref sure f r) (L:Int -> Bool) (n:Nat) (hn:n < 14) (hS:∀ s ∈ C.strikes,0 <= s.1 /\ s.1 < 14) :
  Calls Tryz.prog 102 #[.pointer (some ⟨d,0,none⟩),.agg (mk L),.int .i64 n] w fun e w'=>e = .returned (.bool ((strikers C.strikes sure n).any L)) /\ Aft w w':=by
 have HL:Hid (∀ (k:Nat) (x:Int),(strikers C.strikes sure n)[k]? = some x -> 0 <= x /\ x < 14):=Lib.hid fun k x h=>by
  obtain ⟨s,hs,rfl⟩:=strikers_mem (List.mem_of_getElem? h);exact hS s hs
 have HD:=Lib.hid hD;have F0:=((((Fr.start w).alloc rfl 87 (mk L)).alloc (by simp) 4 #[.bool false]).alloc (by simp) 95 #[.pointer (some ⟨d,0,none⟩)]).alloc (by simp) 3 #[.int .i64 n];simp only [List.nil_append,List.cons_append] at F0;have HF0:=Lib.hid F0;clear hD hS F0;refine (callsIn_wide (n:=5)).1 ?_;refine callsIn_of_wp_marks Tryz.func102 rfl trivial ?_ rfl;simp only [Tryz.ntmps102,List.size_toArray,List.length_cons,List.length_nil,Nat.reduceAdd,Nat.reduceSub,Array.replicate_succ,Array.replicate_zero,List.push_toArray,List.append_toArray,List.nil_append,List.cons_append];refine wpIn_wide.2 ?_;go_upto_block 0 with (go_at_call 103;refine (striking_any d n _).mono ?_;rintro e w' ⟨rfl,rfl⟩)
 have hz:((((w.alloc (.cells (mk L) 87)).alloc (.cells #[.bool false] 4)).alloc (.cells #[.pointer (some ⟨d,0,none⟩)] 95)).alloc (.cells #[.int .i64 n] 3)).heap.size = w.heap.size + 1 + 1 + 1 + 1:=by simp
 generalize (((w.alloc (.cells (mk L) 87)).alloc (.cells #[.bool false] 4)).alloc (.cells #[.pointer (some ⟨d,0,none⟩)] 95)).alloc (.cells #[.int .i64 n] 3) = W5 at *;have HL0:=Lib.hid (show ∀ (j:Nat) (x:Int),j < 0 -> (strikers C.strikes sure n)[j]? = some x -> L x = false from fun j x h=>absurd h (Nat.not_lt_zero _));obtain ⟨S,hS⟩:∃ S,w.heap.size = S:=⟨_,rfl⟩;rw [hS] at HF0 hz ⊢;refine wp_block ?_;refine (wpIn_wide (n:=5)).1 ?_;refine wpIn_striking (w0:=w0) (bd:=S + 1 + 1) (bn:=S + 1 + 1 + 1) (d:=d) (C:=C) (a1:=a1) (a2:=a2) (c1:=c1) (c2:=c2) (ref:=ref) (sure:=sure) (m:=n) hn rfl
  (fun k W=>Fr w (S + 1 + 1 + 1 + 1) [(S,87,mk L),(S + 1,4,#[.bool false]),(S + 1 + 1,95,#[.pointer (some ⟨d,0,none⟩)]),(S + 1 + 1 + 1,3,#[.int .i64 n])] W /\ ∀ (j:Nat) (x:Int),j < k -> (strikers C.strikes sure n)[j]? = some x -> L x = false)
  (fun c W=>Fr w (S + 1 + 1 + 1 + 1) [(S + 1,4,#[.bool true])] W /\ c = .ret /\ ((strikers C.strikes sure n).any L) = true)
  (by rw [hz];exact Fr.three) (fun k W W' h ha=>⟨h.1.later ha,h.2⟩) (fun c=>by rw [hz];exact Fr.three)
  (fun k W h=>⟨(h.1.nth 2 rfl).cell 0,(h.1.nth 3 rfl).cell 0,(h.1.nth 2 rfl).lt,(h.1.nth 3 rfl).lt,f,r,HD.out.later h.1.aft⟩) ⟨HF0.out,HL0.out⟩
  (fun v'=>{ tmps:=#[.pointer (some ⟨d,0,none⟩),.agg (mk L),.int .i64 n,undef,.pointer (some ⟨S,0,none⟩),undef,.pointer (some ⟨S + 1,0,none⟩),v',.pointer (some ⟨d,0,none⟩),.int .i64 n,.func (.func 118) #[] #[.pointer (some ⟨S + 1 + 1,0,none⟩),.pointer (some ⟨S + 1 + 1 + 1,0,none⟩)],v',undef,undef,undef],defers:=[] }) ?assign ?body ?done ?stop
 case assign =>
  intro l v W K hK;gi_wp2_with fail
  exact hK
 case body =>
  intro l k x W hx hI hsz;obtain ⟨x0,x1⟩:=HL.out k x hx;obtain ⟨m,rfl⟩:∃ m:Nat,x = m:=⟨x.toNat,by omega⟩;have hm14:m < 14:=by omega
  have q1:=((hI.1.nth 0 rfl).cell m).trans (mk_get L hm14);have q7:=(hI.1.nth 0 rfl).lt;have b2:=hI.1.nth 1 rfl;have q5:=b2.frozen 0;have q4:=b2.cell 0;have q6:=b2.lt;have hn14:(0:Int) <= (m:Int) /\ (m:Int) < 14:=by omega
  have HI:=Lib.hid hI;clear hI b2;refine wpIn_block ?_;refine wpIn_seq_k fun K1 H1=>?_
  refine wpIn_region_of_list (by kernel_rfl) ?_;cases hfv:L m
  ·have HFV:=Lib.hid hfv;rw [hfv] at q1;clear hfv;go_wp2_with fail
   change K1 _ _;refine H1 _ _ ?_;clear H1;refine wpIn_cond_false (by simp [Act.eval]) ?_;refine wpIn_skip ?_;refine ⟨Kept3.of_aft (Aft.refl W) (by omega),HI.out.1,fun j x hj hjx=>?_⟩;by_cases e:j < k
   ·exact HI.out.2 j x e hjx
   ·obtain rfl:j = k:=by omega
    rw [hx] at hjx;cases hjx;exact HFV.out
  ·have HFV:=Lib.hid hfv;rw [hfv] at q1;clear hfv;go_wp2_with fail
   change K1 _ _;refine H1 _ _ ?_;clear H1;refine wpIn_cond_true (by simp [Act.eval]) ?_;refine wpIn_seq_k fun K2 H2=>?_
   refine wpIn_region_of_list (by kernel_rfl) ?_;go_wp2_with fail
   change K2 _ _;refine H2 _ _ ?_;clear H2;refine wpIn_ret ?_;refine ⟨(Kept3.of_aft (Aft.refl W) (by omega)).setCell (p:=⟨S + 1,0,none⟩) (by left;show S + 1 < W5.heap.size;omega) _,(HI.out.1.store (g:=S + 1) (t:=4) (cs:=#[.bool false]) (by simp) 0 (.bool true) (by simp)),rfl,List.any_eq_true.2 ⟨_,List.mem_of_getElem? hx,HFV.out⟩⟩
 case done =>
  intro D W hDD hI hd;have b2:=hI.1.nth 1 rfl;have q4:=b2.cell 0;have q5:=b2.frozen 0;have q6:=b2.lt;have HI:=Lib.hid hI;have HN:Hid (((strikers C.strikes sure n).any L) = false):=Lib.hid (by
   rw [Bool.eq_false_iff];intro h;obtain ⟨x,hx,h2⟩:=List.any_eq_true.1 h;obtain ⟨j,hj,rfl⟩:=List.getElem_of_mem hx;rw [hI.2 j _ hj (List.getElem?_eq_getElem hj)] at h2;cases h2)
  have hd2:(W.setCell ⟨S + 1,0,none⟩ (.bool false)).heap[D]? = some (.deferred (some [])):=(Below.heap_setCell W ⟨S + 1,0,none⟩ (.bool false) D (by show D ≠ S + 1;omega)).trans hd;have HB2:=Lib.hid (b2.store 0 (.bool false));have HD2:=Lib.hid hd2;clear hI b2 hd2 hd;go_wp2_with fail
  refine ⟨by simp,.inl ⟨_,_,rfl,run_takeDeferred HD2.out,?_⟩⟩;have y1:=(HB2.out.grown (grownBy_putObj' _ D (.deferred none)) (fun e=>by cases e;omega)).cell 0;refine ⟨.bool false,?_,by rw [HN.out],(HI.out.1.aft.then_setCell (p:=⟨S + 1,0,none⟩) (by show w.heap.size <= S + 1;omega) _).grown (grownBy_putObj' _ D (.deferred none)) (fun k e=>by cases e;omega)⟩;generalize ((W.setCell ⟨S + 1,0,none⟩ (.bool false)).putObj D (.deferred none)) = X at *;have y1':X.cell? ⟨S + 1,0,none⟩ = some (.bool false):=y1;simp [results,Tryz.results102,go_sem,y1']
 case stop =>
  intro D c W hDD hI hd;obtain ⟨hF,rfl,hany⟩:=hI;refine wpIn_ret ?_;refine ⟨by simp,.inl ⟨_,_,rfl,run_takeDeferred hd,?_⟩⟩;have y1:=((hF.nth 0 rfl).grown (grownBy_putObj' W D (.deferred none)) (fun e=>by cases e;omega)).cell 0;refine ⟨.bool true,?_,by rw [hany],hF.aft.grown (grownBy_putObj' _ D (.deferred none)) (fun k e=>by cases e;omega)⟩;generalize (W.putObj D (.deferred none)) = X at *;have y1':X.cell? ⟨S + 1,0,none⟩ = some (.bool true):=y1;simp [results,Tryz.results102,go_sem,y1']
def freeB (S:List (Int × Int)) (sure:Int -> Bool) (f:Int -> Nat) (n:Int):Bool:=!struckB S sure f n 1 && !struckB S sure f n 0
set_option maxHeartbeats 1000000 in
theorem free_any (w0 w:World) (d:Nat) (C:CaseL) (a1 a2:Option Addr) (c1 c2:Nat) (ref sure:Int -> Bool) (f r:Int -> Nat) (hD:DeskAt w0 w d C a1 a2 c1 c2 ref sure f r) (n:Nat) (hn:n < 14) (hS:∀ s ∈ C.strikes,0 <= s.1 /\ s.1 < 14) :
  Calls Tryz.prog 116 #[.pointer (some ⟨d,0,none⟩),.int .i64 n] w fun e w'=>e = .returned (.bool (freeB C.strikes sure f n)) /\ Aft w w':=by
 have H1:Hid (∀ W,Aft w W -> Calls Tryz.prog 115 #[.pointer (some ⟨d,0,none⟩),.int .i64 n,.int .i64 1] W fun e w'=>e = .returned (.bool (struckB C.strikes sure f n 1)) /\ Aft W w'):=Lib.hid fun W h=>struck_any w0 W d C a1 a2 c1 c2 ref sure f r (hD.later h) n 1 hn hS
 have H0:Hid (∀ W,Aft w W -> Calls Tryz.prog 115 #[.pointer (some ⟨d,0,none⟩),.int .i64 n,.int .i64 0] W fun e w'=>e = .returned (.bool (struckB C.strikes sure f n 0)) /\ Aft W w'):=Lib.hid fun W h=>struck_any w0 W d C a1 a2 c1 c2 ref sure f r (hD.later h) n 0 hn hS
 clear hD hS;unfold freeB;go_enter Tryz.func116,Tryz.ntmps116;cases h1:struckB C.strikes sure f n 1
 ·rw [h1] at H1;cases h0:struckB C.strikes sure f n 0
  all_goals
   rw [h0] at H0;clear h0 h1;go_wp2_with (first | (go_at_call_of 115 (Value.int IntKind.i64 1);refine (H1.out _ (Aft.refl _)).mono ?_;rintro e w' ⟨rfl,u,rfl⟩) | (go_at_call_of 115 (Value.int IntKind.i64 0);refine (H0.out _ (Aft.lat _ _)).mono ?_;rintro e w' ⟨rfl,u2,rfl⟩))
   go_ret;exact ⟨rfl,(Aft.lat _ _).then_lat _⟩
 ·rw [h1] at H1;clear h1;go_wp2_with (go_at_call_of 115 (Value.int IntKind.i64 1);refine (H1.out _ (Aft.refl _)).mono ?_;rintro e w' ⟨rfl,u,rfl⟩)
  go_ret;exact ⟨rfl,Aft.lat _ _⟩
set_option maxHeartbeats 1000000 in
theorem step1_any (w0 w:World) (d b:Nat) (C:CaseL) (a1 a2:Option Addr) (c1 c2:Nat) (ref sure:Int -> Bool) (f r:Int -> Nat) (hD:DeskAt w0 w d C a1 a2 c1 c2 ref sure f r) (n:Nat) (hn:n < 14) (hS:∀ s ∈ C.strikes,0 <= s.1 /\ s.1 < 14) (hb:Blk w b 95 #[.pointer (some ⟨d,0,none⟩)]) :
  Calls Tryz.prog 130 #[.int .i64 n,.pointer (some ⟨b,0,none⟩)] w fun e w'=>e = .returned (.bool (struckB C.strikes sure f n 1)) /\ Aft w w':=by
 have H1:Hid (∀ W,Aft w W -> Calls Tryz.prog 115 #[.pointer (some ⟨d,0,none⟩),.int .i64 n,.int .i64 1] W fun e w'=>e = .returned (.bool (struckB C.strikes sure f n 1)) /\ Aft W w'):=Lib.hid fun W h=>struck_any w0 W d C a1 a2 c1 c2 ref sure f r (hD.later h) n 1 hn hS
 have k0:w.cell? ⟨b,0,none⟩ = some (.pointer (some ⟨d,0,none⟩)):=hb.cell 0;have hlt:=hb.lt;clear hD hS hb;go_enter Tryz.func130,Tryz.ntmps130;go_wp2_with (go_at_call 115;refine (H1.out _ (Aft.refl _)).mono ?_;rintro e w' ⟨rfl,u,rfl⟩)
 go_ret;exact ⟨rfl,Aft.lat _ _⟩
set_option maxHeartbeats 1000000 in
theorem steps_any (d:Nat) (w:World) :
  Calls Tryz.prog 112 #[.pointer (some ⟨d,0,none⟩)] w fun e w'=>e = .returned (.agg #[.func (.func 130) #[] #[.pointer (some ⟨w.heap.size,0,none⟩)],.int .i64 2,.func (.func 116) #[.pointer (some ⟨d,0,none⟩)] #[],.int .i64 1]) /\ Aft w w' /\ Blk w' w.heap.size 95 #[.pointer (some ⟨d,0,none⟩)]:=by
 go_enter Tryz.func112,Tryz.ntmps112;go_wp2_with fail
 refine bodyPost_ret (v:=.agg #[.func (.func 130) #[] #[.pointer (some ⟨w.heap.size,0,none⟩)],.int .i64 2,.func (.func 116) #[.pointer (some ⟨d,0,none⟩)] #[],.int .i64 1]) (by simp [results,Tryz.results112,go_sem]) rfl ?_;exact ⟨rfl,(Aft.alloc _ _).then_alloc _,(Blk.new w 95 _).alloc _⟩
end Go.Proofs
end
section
/- Walks: hear. -/
namespace Go.Proofs
open Go.RowKit
open Court (refL begF noS struckB nextR hearR rule setF)
attribute [local go_sem] Oper.semAt_some
def Hearing (w0 w:World) (d:Nat) (C:CaseL) (a1 a2:Option Addr) (c1 c2:Nat) (ref sure:Int -> Bool) (f r:Int -> Nat) (e:Ending) (w':World):Prop:=(∃ v,e = .returned v) /\ w.grownBy w' (some d) /\ DeskAt w0 w' d C a1 a2 c1 c2 ref sure f r
theorem hearR_no {S:List (Int × Int)} {sure:Int -> Bool} {f r:Int -> Nat} {n:Int} (h:f n ≠ 0):hearR S sure (f,r) n = (f,r):=by unfold hearR;rw [if_neg (fun h'=>h h'.1)]
theorem hearR_two {S:List (Int × Int)} {sure:Int -> Bool} {f r:Int -> Nat} {n:Int} (h:f n = 0) (h1:struckB S sure f n 1 = true):hearR S sure (f,r) n = (setF f n 2,setF r n (nextR S sure r n)):=by
 have hr:rule S sure f n = 2:=Court.rule_two.2 h1;unfold hearR;rw [if_pos ⟨h,by rw [hr];decide⟩,hr]
theorem hearR_one {S:List (Int × Int)} {sure:Int -> Bool} {f r:Int -> Nat} {n:Int} (h:f n = 0) (h1:struckB S sure f n 1 = false) (h2:freeB S sure f n = true):hearR S sure (f,r) n = (setF f n 1,setF r n (nextR S sure r n)):=by
 have hr:rule S sure f n = 1:=Court.rule_one.2 ⟨h1,by unfold freeB at h2;rw [h1] at h2;simpa using h2⟩;unfold hearR;rw [if_pos ⟨h,by rw [hr];decide⟩,hr]
theorem hearR_zero {S:List (Int × Int)} {sure:Int -> Bool} {f r:Int -> Nat} {n:Int} (h1:struckB S sure f n 1 = false) (h2:freeB S sure f n = false):hearR S sure (f,r) n = (f,r):=by
 have hr:rule S sure f n = 0:=Court.rule_zero.2 ⟨h1,by unfold freeB at h2;rw [h1] at h2;simpa using h2⟩;unfold hearR;rw [if_neg (fun h=>h.2 hr)]
structure HearI (S:List (Int × Int)) (sure:Int -> Bool) (f:Int -> Nat) (n:Int) (w1:World) (k:Nat) (wr:World):Prop where
 le:k <= 2
 aft:Aft w1 wr
 one:1 <= k -> struckB S sure f n 1 = false
 two:k = 2 -> freeB S sure f n = false
set_option maxRecDepth 100000 in
theorem index138_0 (g1 g2:Value) (x y:Int) (h1:g1.cells = #[g1]) (W:World) (f1 f2:Fn) (a b c e:Array Value) (e1:g1 = .func f1 a b) (e2:g2 = .func f2 c e):(Instr.index 138 (.agg #[g1,.int .i64 x,g2,.int .i64 y]) (.int .i64 0)).run Tryz.prog W = .ok (.agg #[g1,.int .i64 x]) W:=by
 subst e1 e2;kernel_rfl
set_option maxRecDepth 100000 in
theorem index138_1 (f1 f2:Fn) (a b c e:Array Value) (x y:Int) (W:World):(Instr.index 138 (.agg #[.func f1 a b,.int .i64 x,.func f2 c e,.int .i64 y]) (.int .i64 1)).run Tryz.prog W = .ok (.agg #[.func f2 c e,.int .i64 y]) W:=by kernel_rfl
set_option maxRecDepth 100000 in
set_option maxHeartbeats 2000000 in
theorem hear_any (w0 w:World) (d:Nat) (C:CaseL) (a1 a2:Option Addr) (c1 c2:Nat) (ref sure:Int -> Bool) (f r:Int -> Nat) (hD:DeskAt w0 w d C a1 a2 c1 c2 ref sure f r) (n:Nat) (hn:n < 14) (hS:∀ s ∈ C.strikes,0 <= s.1 /\ s.1 < 14) (hr:∀ x,r x <= 1000) :
  Calls Tryz.prog 86 #[.pointer (some ⟨d,0,none⟩),.int .i64 n] w (Hearing w0 w d C a1 a2 c1 c2 ref sure (hearR C.strikes sure (f,r) n).1 (hearR C.strikes sure (f,r) n).2):=by
 have HD:=Lib.hid hD;have q1:=hD.found hn;have hlt:=hD.lt;have hn14:(0:Int) <= (n:Int) /\ (n:Int) < 14:=by omega
 have H1:Hid (∀ W b,Aft w W -> Blk W b 95 #[.pointer (some ⟨d,0,none⟩)] -> Calls Tryz.prog 130 #[.int .i64 n,.pointer (some ⟨b,0,none⟩)] W fun e w'=>e = .returned (.bool (struckB C.strikes sure f n 1)) /\ Aft W w'):=Lib.hid fun W b h hb=>step1_any w0 W d b C a1 a2 c1 c2 ref sure f r (hD.later h) n hn hS hb
 have H2:Hid (∀ W,Aft w W -> Calls Tryz.prog 116 #[.pointer (some ⟨d,0,none⟩),.int .i64 n] W fun e w'=>e = .returned (.bool (freeB C.strikes sure f n)) /\ Aft W w'):=Lib.hid fun W h=>free_any w0 W d C a1 a2 c1 c2 ref sure f r (hD.later h) n hn hS
 have H3:Hid (∀ W f',DeskAt w0 W d C a1 a2 c1 c2 ref sure f' r -> Calls Tryz.prog 113 #[.pointer (some ⟨d,0,none⟩),.int .i64 n] W fun e w'=>e = .returned (.int .i64 (nextR C.strikes sure r n:Nat)) /\ Aft W w'):=Lib.hid fun W f' h=>next_any w0 W d C a1 a2 c1 c2 ref sure f' r h n hn hS hr
 clear hD hS hr;by_cases h0:f n = 0
 ·have t0:(((f n:Nat):Int) != 0) = false:=by simp [h0]
  have HF0:=Lib.hid h0;clear h0;go_enter Tryz.func86,Tryz.ntmps86;go_wp2_with (go_at_call 112;refine (steps_any d w).mono ?_;rintro e w1 ⟨rfl,ha1,hb1⟩;have HA1:=Lib.hid ha1;have HB1:=Lib.hid hb1;clear ha1 hb1)
  go_loopw [15] (fun i wr=>∃ k:Nat,i = .int .i64 k /\ HearI C.strikes sure f n w1 k wr) (fun i _=>2 - (intOf i).toNat)
  case atStart=>exact ⟨0,rfl,by omega,Aft.refl _,fun h=>by omega,fun h=>by omega⟩
  case round =>
   obtain ⟨k,rfl,hki⟩:=hrel;have hk:=hki.le;have HKI:=Lib.hid hki;have HAR:=Lib.hid (HA1.out.trans hki.aft);have HBR:=Lib.hid (HB1.out.aft hki.aft);have hszr:=(HA1.out.trans hki.aft).size;have hdr:d < wr.heap.size:=by omega
   clear hki;by_cases hk0:k = 0
   ·subst hk0;have hix:=index138_0 (.func (.func 130) #[] #[.pointer (some ⟨w.heap.size,0,none⟩)]) (.func (.func 116) #[.pointer (some ⟨d,0,none⟩)] #[]) 2 1 rfl wr _ _ _ _ _ _ rfl rfl;cases hs:struckB C.strikes sure f n 1
    ·have HS1:=Lib.hid hs;rw [hs] at H1;clear hs;go_wp2_with (go_at_call 130;refine (H1.out _ _ (HAR.out.then_alloc _) (HBR.out.alloc _)).mono ?_;rintro e w' ⟨rfl,u,rfl⟩)
     exact ⟨⟨1,by go_num,by omega,((HKI.out.aft.then_alloc _).then_lat _),fun _=>HS1.out,fun h=>by omega⟩,by simp [intOf]⟩
    ·have HS1:=Lib.hid hs;rw [hs] at H1;clear hs;have HH:=Lib.hid (hearR_two (r:=r) HF0.out HS1.out);go_upto_region 5 with (go_at_call 130;refine (H1.out _ _ (HAR.out.then_alloc _) (HBR.out.alloc _)).mono ?_;rintro e w' ⟨rfl,u,rfl⟩)
     have HBX:=Lib.hid ((Blk.new wr 137 #[.func (.func 130) #[] #[.pointer (some ⟨w.heap.size,0,none⟩)],.int .i64 2]).lat u);obtain ⟨X0,hX0⟩:∃ X0,((wr.alloc (.cells #[.func (.func 130) #[] #[.pointer (some ⟨w.heap.size,0,none⟩)],.int .i64 2] 137)).lat u) = X0:=⟨_,rfl⟩;have HAX:Hid (Aft w X0):=Lib.hid (hX0 ▸ (HAR.out.then_alloc _).then_lat _);have HBX2:Hid (Blk X0 wr.heap.size 137 #[.func (.func 130) #[] #[.pointer (some ⟨w.heap.size,0,none⟩)],.int .i64 (2:Nat)]):=Lib.hid (hX0 ▸ HBX.out);rw [hX0];have HDX:Hid (DeskAt w0 X0.drew d C a1 a2 c1 c2 ref sure f r):=Lib.hid ((HD.out.later HAX.out).later (Aft.drew _));have z1:=HBX2.out.cell 1;simp only [List.getElem?_toArray,List.getElem?_cons_zero,List.getElem?_cons_succ] at z1;have hb5:=HBX2.out.lt;have hb5d:some wr.heap.size ≠ some d:=by simp;omega
     clear hX0 HBX hix;generalize wr.heap.size = b5 at *;refine wp_region_valsT (by kernel_rfl) 15 38 rfl (by kernel_rfl) (by kernel_rfl) (by kernel_rfl) [.pointer (some ⟨d,0,none⟩),.int .i64 n,.pointer (some ⟨d,0,none⟩),.int .i64 n,.pointer (some ⟨b5,1,none⟩),.int .i64 (2:Nat),.pointer (some ⟨d,0,none⟩),.int .i64 n,.int .i64 (nextR C.strikes sure r n:Nat),.pointer (some ⟨d,0,none⟩),.pointer (some ⟨d,31,none⟩),.pointer (some ⟨d,31 + n,none⟩),undef,.pointer (some ⟨d,0,none⟩),.pointer (some ⟨d,45,none⟩)] rfl (fun done W=>X0.grownBy W (some d) /\ DeskAt w0 W d C a1 a2 c1 c2 ref sure (if done 12 = true then setF f n 2 else f) r) (⟨only_drew (only_refl _ _),HDX.out⟩) ?st1 ?fi1
     case st1 =>
      intro i o v ho hv
      match i,ho,hv with
      | 0,ho,hv =>
       cases ho;cases hv;refine .inl ⟨rfl,fun done a W hd hp hk hw K hK=>?_⟩;have e0:=hk.s 0;exact op_val (by simp [go_sem,ev' e0]) (hK _ hw)
      | 1,ho,hv =>
       cases ho;cases hv;refine .inl ⟨rfl,fun done a W hd hp hk hw K hK=>?_⟩;have e1:=hk.s 1;exact op_val (by simp [go_sem,ev' e1]) (hK _ hw)
      | 2,ho,hv =>
       cases ho;cases hv;refine .inl ⟨rfl,fun done a W hd hp hk hw K hK=>?_⟩;have e0:=hk.s 0;exact op_val (by simp [go_sem,ev' e0]) (hK _ hw)
      | 3,ho,hv =>
       cases ho;cases hv;refine .inl ⟨rfl,fun done a W hd hp hk hw K hK=>?_⟩;have e1:=hk.s 1;exact op_val (by simp [go_sem,ev' e1]) (hK _ hw)
      | 4,ho,hv =>
       cases ho;cases hv;refine .inl ⟨rfl,fun done a W hd hp hk hw K hK=>?_⟩;have e5:=hk.s 5;exact op_val (by simp [go_sem,ev' e5]) (hK _ hw)
      | 5,ho,hv =>
       cases ho;cases hv;refine .inl ⟨rfl,fun done a W hd hp hk hw K hK=>?_⟩;have e26:=hk.t 4;exact op_val (by simp [go_sem,ev' e26,cell_grown9 hw.1 hb5 hb5d,z1]) (hK _ hw)
      | 6,ho,hv =>
       cases ho;cases hv;refine .inl ⟨rfl,fun done a W hd hp hk hw K hK=>?_⟩;have e0:=hk.s 0;exact op_val (by simp [go_sem,ev' e0]) (hK _ hw)
      | 7,ho,hv =>
       cases ho;cases hv;refine .inl ⟨rfl,fun done a W hd hp hk hw K hK=>?_⟩;have e1:=hk.s 1;exact op_val (by simp [go_sem,ev' e1]) (hK _ hw)
      | 8,ho,hv =>
       cases ho;cases hv;refine .inl ⟨rfl,fun done a W hd hp hk hw K hK=>?_⟩;have e28:=hk.t 6;have e29:=hk.t 7;refine op_callN rfl rfl rfl _ rfl (vs:=#[.pointer (some ⟨d,0,none⟩),.int .i64 n]) (by simp [e28,e29]) (H3.out _ _ hw.2) ?_;rintro e w' ⟨rfl,hw'⟩;exact ⟨_,rfl,hK _ ⟨only_aft hw.1 hw',hw.2.later hw'⟩⟩
      | 9,ho,hv =>
       cases ho;cases hv;refine .inl ⟨rfl,fun done a W hd hp hk hw K hK=>?_⟩;have e22:=hk.t 0;exact op_val (by simp [go_sem,ev' e22]) (hK _ hw)
      | 10,ho,hv =>
       cases ho;cases hv;refine .inl ⟨rfl,fun done a W hd hp hk hw K hK=>?_⟩;have e31:=hk.t 9;exact op_val (by simp [go_sem,ev' e31]) (hK _ hw)
      | 11,ho,hv =>
       cases ho;cases hv;refine .inl ⟨rfl,fun done a W hd hp hk hw K hK=>?_⟩;have e23:=hk.t 1;have e32:=hk.t 10;exact op_val (by simp [go_sem,ev' e23,ev' e32,hn14]) (hK _ hw)
      | 12,ho,hv =>
       cases ho;cases hv;refine .inl ⟨rfl,fun done a W hd hp hk hw K hK=>?_⟩;have e27:=hk.t 5;have e33:=hk.t 11;have c1:=hw.2.found hn;have c2:=hw.2.fz (31 + n);have c3:=hw.2.lt;refine op_skipW (w':=W.setCell ⟨d,31 + n,none⟩ (.int .i64 (2:Nat))) (by simp [go_sem,ev' e33,ev' e27,c1,c2,c3]) (hK _ ⟨only_setCell hw.1 (.inl rfl) _,?_⟩);have h12:done 12 = false:=hd;have:=hw.2.setFound hn 2;rw [h12,if_neg (by decide)] at this;rw [show Go.upd done 12 12 = true from rfl,if_pos rfl];exact this
      | 13,ho,hv =>
       cases ho;cases hv;refine .inl ⟨rfl,fun done a W hd hp hk hw K hK=>?_⟩;have e24:=hk.t 2;exact op_val (by simp [go_sem,ev' e24]) (hK _ hw)
      | 14,ho,hv =>
       cases ho;cases hv;refine .inl ⟨rfl,fun done a W hd hp hk hw K hK=>?_⟩;have e34:=hk.t 13;exact op_val (by simp [go_sem,ev' e34]) (hK _ hw)
      | _ + 15,_,hv=>cases hv
     intro done W hd hw;simp only [List.drop_succ_cons,List.drop_zero,List.zip_cons_cons,List.zip_nil_right,putAll];simp only [Act.put,List.setIfInBounds_toArray,List.set];have hw2:=hw.2;rw [hd 12 (by decide),if_pos rfl] at hw2;have c1:=hw2.rank hn;have c2:=hw2.fz (45 + n);have c3:=hw2.lt;have HW2:=Lib.hid (hw2.setRank hn (nextR C.strikes sure r n));have HG:=Lib.hid hw.1;clear hw hw2 hd;go_wp2_with fail
     refine bodyPost_ret (v:=.tuple #[]) (by simp [results,Tryz.results86,go_sem]) rfl ?_;rw [HH.out];exact ⟨⟨_,rfl⟩,only_setCell ((only_of_aft HAX.out (some d)).trans HG.out) (.inl rfl) _,HW2.out⟩
   ·by_cases hk1:k = 1
    ·subst hk1;have hix:=index138_1 (.func 130) (.func 116) #[] #[.pointer (some ⟨w.heap.size,0,none⟩)] #[.pointer (some ⟨d,0,none⟩)] #[] 2 1 wr;cases hs:freeB C.strikes sure f n
     ·have HS1:=Lib.hid hs;rw [hs] at H2;clear hs;go_wp2_with (go_at_call 116;refine (H2.out _ (HAR.out.then_alloc _)).mono ?_;rintro e w' ⟨rfl,u,rfl⟩)
      exact ⟨⟨2,by go_num,by omega,((HKI.out.aft.then_alloc _).then_lat _),fun _=>HKI.out.one (by omega),fun _=>HS1.out⟩,by simp [intOf]⟩
     ·have HS1:=Lib.hid hs;rw [hs] at H2;clear hs;have HH:=Lib.hid (hearR_one (r:=r) HF0.out (HKI.out.one (by omega)) HS1.out);go_upto_region 5 with (go_at_call 116;refine (H2.out _ (HAR.out.then_alloc _)).mono ?_;rintro e w' ⟨rfl,u,rfl⟩)
      have HBX:=Lib.hid ((Blk.new wr 137 #[.func (.func 116) #[.pointer (some ⟨d,0,none⟩)] #[],.int .i64 1]).lat u);obtain ⟨X0,hX0⟩:∃ X0,((wr.alloc (.cells #[.func (.func 116) #[.pointer (some ⟨d,0,none⟩)] #[],.int .i64 1] 137)).lat u) = X0:=⟨_,rfl⟩;have HAX:Hid (Aft w X0):=Lib.hid (hX0 ▸ (HAR.out.then_alloc _).then_lat _);have HBX2:Hid (Blk X0 wr.heap.size 137 #[.func (.func 116) #[.pointer (some ⟨d,0,none⟩)] #[],.int .i64 (1:Nat)]):=Lib.hid (hX0 ▸ HBX.out);rw [hX0];have HDX:Hid (DeskAt w0 X0.drew d C a1 a2 c1 c2 ref sure f r):=Lib.hid ((HD.out.later HAX.out).later (Aft.drew _));have z1:=HBX2.out.cell 1;simp only [List.getElem?_toArray,List.getElem?_cons_zero,List.getElem?_cons_succ] at z1;have hb5:=HBX2.out.lt;have hb5d:some wr.heap.size ≠ some d:=by simp;omega
      clear hX0 HBX hix;generalize wr.heap.size = b5 at *;refine wp_region_valsT (by kernel_rfl) 15 38 rfl (by kernel_rfl) (by kernel_rfl) (by kernel_rfl) [.pointer (some ⟨d,0,none⟩),.int .i64 n,.pointer (some ⟨d,0,none⟩),.int .i64 n,.pointer (some ⟨b5,1,none⟩),.int .i64 (1:Nat),.pointer (some ⟨d,0,none⟩),.int .i64 n,.int .i64 (nextR C.strikes sure r n:Nat),.pointer (some ⟨d,0,none⟩),.pointer (some ⟨d,31,none⟩),.pointer (some ⟨d,31 + n,none⟩),undef,.pointer (some ⟨d,0,none⟩),.pointer (some ⟨d,45,none⟩)] rfl (fun done W=>X0.grownBy W (some d) /\ DeskAt w0 W d C a1 a2 c1 c2 ref sure (if done 12 = true then setF f n 1 else f) r) (⟨only_drew (only_refl _ _),HDX.out⟩) ?st2 ?fi2
      case st2 =>
       intro i o v ho hv
       match i,ho,hv with
       | 0,ho,hv =>
        cases ho;cases hv;refine .inl ⟨rfl,fun done a W hd hp hk hw K hK=>?_⟩;have e0:=hk.s 0;exact op_val (by simp [go_sem,ev' e0]) (hK _ hw)
       | 1,ho,hv =>
        cases ho;cases hv;refine .inl ⟨rfl,fun done a W hd hp hk hw K hK=>?_⟩;have e1:=hk.s 1;exact op_val (by simp [go_sem,ev' e1]) (hK _ hw)
       | 2,ho,hv =>
        cases ho;cases hv;refine .inl ⟨rfl,fun done a W hd hp hk hw K hK=>?_⟩;have e0:=hk.s 0;exact op_val (by simp [go_sem,ev' e0]) (hK _ hw)
       | 3,ho,hv =>
        cases ho;cases hv;refine .inl ⟨rfl,fun done a W hd hp hk hw K hK=>?_⟩;have e1:=hk.s 1;exact op_val (by simp [go_sem,ev' e1]) (hK _ hw)
       | 4,ho,hv =>
        cases ho;cases hv;refine .inl ⟨rfl,fun done a W hd hp hk hw K hK=>?_⟩;have e5:=hk.s 5;exact op_val (by simp [go_sem,ev' e5]) (hK _ hw)
       | 5,ho,hv =>
        cases ho;cases hv;refine .inl ⟨rfl,fun done a W hd hp hk hw K hK=>?_⟩;have e26:=hk.t 4;exact op_val (by simp [go_sem,ev' e26,cell_grown9 hw.1 hb5 hb5d,z1]) (hK _ hw)
       | 6,ho,hv =>
        cases ho;cases hv;refine .inl ⟨rfl,fun done a W hd hp hk hw K hK=>?_⟩;have e0:=hk.s 0;exact op_val (by simp [go_sem,ev' e0]) (hK _ hw)
       | 7,ho,hv =>
        cases ho;cases hv;refine .inl ⟨rfl,fun done a W hd hp hk hw K hK=>?_⟩;have e1:=hk.s 1;exact op_val (by simp [go_sem,ev' e1]) (hK _ hw)
       | 8,ho,hv =>
        cases ho;cases hv;refine .inl ⟨rfl,fun done a W hd hp hk hw K hK=>?_⟩;have e28:=hk.t 6;have e29:=hk.t 7;refine op_callN rfl rfl rfl _ rfl (vs:=#[.pointer (some ⟨d,0,none⟩),.int .i64 n]) (by simp [e28,e29]) (H3.out _ _ hw.2) ?_;rintro e w' ⟨rfl,hw'⟩;exact ⟨_,rfl,hK _ ⟨only_aft hw.1 hw',hw.2.later hw'⟩⟩
       | 9,ho,hv =>
        cases ho;cases hv;refine .inl ⟨rfl,fun done a W hd hp hk hw K hK=>?_⟩;have e22:=hk.t 0;exact op_val (by simp [go_sem,ev' e22]) (hK _ hw)
       | 10,ho,hv =>
        cases ho;cases hv;refine .inl ⟨rfl,fun done a W hd hp hk hw K hK=>?_⟩;have e31:=hk.t 9;exact op_val (by simp [go_sem,ev' e31]) (hK _ hw)
       | 11,ho,hv =>
        cases ho;cases hv;refine .inl ⟨rfl,fun done a W hd hp hk hw K hK=>?_⟩;have e23:=hk.t 1;have e32:=hk.t 10;exact op_val (by simp [go_sem,ev' e23,ev' e32,hn14]) (hK _ hw)
       | 12,ho,hv =>
        cases ho;cases hv;refine .inl ⟨rfl,fun done a W hd hp hk hw K hK=>?_⟩;have e27:=hk.t 5;have e33:=hk.t 11;have c1:=hw.2.found hn;have c2:=hw.2.fz (31 + n);have c3:=hw.2.lt;refine op_skipW (w':=W.setCell ⟨d,31 + n,none⟩ (.int .i64 (1:Nat))) (by simp [go_sem,ev' e33,ev' e27,c1,c2,c3]) (hK _ ⟨only_setCell hw.1 (.inl rfl) _,?_⟩);have h12:done 12 = false:=hd;have:=hw.2.setFound hn 1;rw [h12,if_neg (by decide)] at this;rw [show Go.upd done 12 12 = true from rfl,if_pos rfl];exact this
       | 13,ho,hv =>
        cases ho;cases hv;refine .inl ⟨rfl,fun done a W hd hp hk hw K hK=>?_⟩;have e24:=hk.t 2;exact op_val (by simp [go_sem,ev' e24]) (hK _ hw)
       | 14,ho,hv =>
        cases ho;cases hv;refine .inl ⟨rfl,fun done a W hd hp hk hw K hK=>?_⟩;have e34:=hk.t 13;exact op_val (by simp [go_sem,ev' e34]) (hK _ hw)
       | _ + 15,_,hv=>cases hv
      intro done W hd hw;simp only [List.drop_succ_cons,List.drop_zero,List.zip_cons_cons,List.zip_nil_right,putAll];simp only [Act.put,List.setIfInBounds_toArray,List.set];have hw2:=hw.2;rw [hd 12 (by decide),if_pos rfl] at hw2;have c1:=hw2.rank hn;have c2:=hw2.fz (45 + n);have c3:=hw2.lt;have HW2:=Lib.hid (hw2.setRank hn (nextR C.strikes sure r n));have HG:=Lib.hid hw.1;clear hw hw2 hd;go_wp2_with fail
      refine bodyPost_ret (v:=.tuple #[]) (by simp [results,Tryz.results86,go_sem]) rfl ?_;rw [HH.out];exact ⟨⟨_,rfl⟩,only_setCell ((only_of_aft HAX.out (some d)).trans HG.out) (.inl rfl) _,HW2.out⟩
    ·obtain rfl:k = 2:=by omega
     have HH:=Lib.hid (hearR_zero (r:=r) (HKI.out.one (by omega)) (HKI.out.two rfl));go_wp2_with fail
     go_end0;rw [HH.out];exact ⟨⟨_,rfl⟩,only_of_aft HAR.out _,HD.out.later HAR.out⟩
 ·rw [hearR_no h0];have t0:(((f n:Nat):Int) != 0) = true:=by simp [h0]
  clear h0;go_enter Tryz.func86,Tryz.ntmps86;go_wp2_with fail
  refine bodyPost_ret (v:=.tuple #[]) (by simp [results,Tryz.results86,go_sem]) rfl ?_;exact ⟨⟨_,rfl⟩,only_refl _ _,HD.out⟩
end Go.Proofs
end
section
/- Arrays of fourteen numbers compared. -/
namespace Go.Proofs
open Go.RowKit
theorem all_range_int:∀ (xs ys:List Int),xs.length = ys.length -> ((List.range xs.length).all fun i=>xs.getD i 0 == ys.getD i 0) = (xs == ys)
 | [],[],_=>rfl
 | x :: xs,y :: ys,h=>by
  have ih:=all_range_int xs ys (by simpa using h);rw [List.length_cons,List.range_succ_eq_map,List.all_cons,List.all_map];simp only [List.getD_cons_zero,Function.comp_def,List.getD_cons_succ,ih];simp [List.cons_beq_cons]
 | [],_ :: _,h=>by simp at h
 | _ :: _,[],h=>by simp at h
theorem run_equalIn_ints {P:Program} (w:World) (d:Nat) (t e:TypeId) (n:Nat) (ht:P.underlying t = some (.array n e)) (he:P.underlying e = some (.int .i64)) (hsz:∀ w,(sizeOf e).run P w = .ok 1 w)
  (xs ys:List Int) (hx:xs.length = n) (hy:ys.length = n) :
  (Op.equalIn (d + 2) t (.agg (xs.map (Value.int .i64)).toArray) (.agg (ys.map (Value.int .i64)).toArray)).run P w = .ok (xs == ys) w:=by
 rw [<- all_range_int xs ys (hx.trans hy.symm),hx,List.range_eq_range',Op.equalIn];simp only [Sem.run_bind,run_underlying ht,Result.andThen_ok,hsz,Std.Legacy.Range.forIn_eq_forIn_range',Std.Legacy.Range.size,Nat.sub_zero,Nat.add_sub_cancel,Nat.div_one];have hl:∀ i ∈ List.range' 0 n 1,i < n:=fun i hi=>by simpa using (List.mem_range'_1.1 hi).2
 generalize List.range' 0 n 1 = l at hl ⊢
 induction l with
 | nil=>simp
 | cons i l ih =>
  have hi:i < n:=hl i (by simp)
  have px:(part e (xs.map (Value.int .i64)).toArray (i * 1)).run P w = .ok (.int .i64 (xs.getD i 0)) w:=by
   simp [part,isAgg,run_underlying he,List.getD,List.getElem?_eq_getElem (show i < xs.length by omega)]
  have py:(part e (ys.map (Value.int .i64)).toArray (i * 1)).run P w = .ok (.int .i64 (ys.getD i 0)) w:=by
   simp [part,isAgg,run_underlying he,List.getD,List.getElem?_eq_getElem (show i < ys.length by omega)]
  have pe:(Op.equalIn (d + 1) e (.int .i64 (xs.getD i 0)) (.int .i64 (ys.getD i 0))).run P w = .ok (xs.getD i 0 == ys.getD i 0) w:=by
   rw [run_equalIn_int w d e .i64 .i64 _ _ he]
  simp only [List.forIn_cons,Sem.run_bind,px,py,pe,Result.andThen_ok,List.all_cons];cases hb:(xs.getD i 0 == ys.getD i 0)
  ·simp
  ·simp only [Bool.not_true,Bool.false_eq_true,if_false,Sem.run_pure,Result.andThen_ok,Bool.true_and];exact ih fun j hj=>hl j (by simp [hj])
theorem run_eql_ints {P:Program} (w:World) (t e:TypeId) (n:Nat) (ht:P.underlying t = some (.array n e)) (he:P.underlying e = some (.int .i64)) (hsz:∀ w,(sizeOf e).run P w = .ok 1 w)
  (xs ys:List Int) (hx:xs.length = n) (hy:ys.length = n) :
  (binOp .eql t (.agg (xs.map (Value.int .i64)).toArray) (.agg (ys.map (Value.int .i64)).toArray)).run P w = .ok (.bool (xs == ys)) w:=by
 rw [run_eql_struct,run_equalIn_ints w 9998 t e n ht he hsz xs ys hx hy];rfl
def i14 (f:Int -> Nat):List Int:=(List.range 14).map fun (i:Nat)=>((f i:Nat):Int)
theorem mnL_i14 (f:Int -> Nat):mnL f = (i14 f).map (Value.int .i64):=by unfold mnL i14;rw [List.map_map];rfl
theorem i14_len (f:Int -> Nat):(i14 f).length = 14:=by unfold i14;rw [List.length_map,List.length_range]
theorem i14_eq {f g:Int -> Nat}:(i14 f == i14 g) = true ↔ ∀ n:Nat,n < 14 -> f n = g n:=by
 rw [beq_iff_eq];unfold i14;constructor
 ·intro h n hn;have:=congrArg (fun l=>l[n]?) h;simp only [List.getElem?_map,List.getElem?_range hn,Option.map_some] at this;injection this with this
  exact Int.ofNat.inj this
 ·intro h;refine List.map_congr_left fun n hn=>?_
  rw [h n (List.mem_range.1 hn)]
theorem guard92:(Tryz.prog.eqGuardType Tryz.prog.depth 92) = false:=by kernel_rfl
theorem size3 (w:World):(sizeOf 3).run Tryz.prog w = .ok 1 w:=by kernel_rfl
theorem eql_found (f g:Int -> Nat) (w:World):(binOp .eql 92 (.agg (mnL f).toArray) (.agg (mnL g).toArray)).run Tryz.prog w = .ok (.bool (i14 f == i14 g)) w:=by
 rw [mnL_i14,mnL_i14];exact run_eql_ints w 92 3 14 Tryz.underlying92 Tryz.underlying3 size3 _ _ (i14_len f) (i14_len g)
theorem op_eql_found {o:Oper} {a:Act} {w:World} {x y:Operand} (ho:o.op = .binOp .eql 92 x y 92) {f g:Int -> Nat} (hx:a.eval x = .agg (mnL f).toArray) (hy:a.eval y = .agg (mnL g).toArray) :
  (execOp a.eval o).run Tryz.prog w = .ok (.value (.bool (i14 f == i14 g))) w:=by
 unfold execOp;simp only [ho,hx,hy];simp [eqGuard,guard92,eql_found,Sem.run_bind]
theorem wpList_store_new {P:Program} {ops:Array Oper} {Q:Exit -> Act -> World -> Prop} {o:Oper} {rest:List Oper} {a:Act} {w:World} (hgd:o.guard = none) (ty:TypeId) (x y:Operand) (ho:o.op = .store ty x y) {c c':Array Value} (hx:a.eval x = .pointer (some ⟨w.heap.size,0,none⟩)) (hy:a.eval y = .agg c')
  (hi:(P.info? ty).map (·.size) = some c'.size) (hs:c.size = c'.size) (h1:c'.all (·.oneCell') = true) (h:wpList P ops Q rest (a.put o.dst undef) (w.alloc (.cells c' ty))):wpList P ops Q (o :: rest) a (w.alloc (.cells c ty)) :=
 wpList_plain hgd fun K hK=>by
  unfold Oper.wp execOp;simp only [ho,hx,hy,run_storeAt_new w ty c c' hi hs h1,Sem.run_bind,Result.andThen_ok,Sem.run_pure];exact hK _ _ h
end Go.Proofs
end
section
/- Walks: award. -/
namespace Go.Proofs
open Go.RowKit
open Court (refL begF noS struckB nextR hearR hearsR rule setF allN RankOk openN round)
attribute [local go_sem] Oper.semAt_some
def HeardS (S:List (Int × Int)) (sure:Int -> Bool) (N:Nat) (f0 f r:Int -> Nat):Prop:=∃ o:List Int,(∀ n ∈ o,0 <= n /\ n < N) /\ (f,r) = hearsR S sure (f0,fun _=>0) o
section
variable {S:List (Int × Int)} {sure:Int -> Bool} {N:Nat} {f0 f r:Int -> Nat}
theorem HeardS.start (S:List (Int × Int)) (sure:Int -> Bool) (N:Nat) (f0:Int -> Nat):HeardS S sure N f0 f0 (fun _=>0):=⟨[],by simp,rfl⟩
theorem HeardS.ok (h:HeardS S sure N f0 f r) (h3:Court.Three f0):RankOk S sure N f0 (f,r):=by
 obtain ⟨o,ho,e⟩:=h;rw [e];exact (RankOk.start h3 N).hears o ho
theorem HeardS.rank (h:HeardS S sure N f0 f r) (h3:Court.Three f0) (n:Int):r n <= N:=by
 have h1:r n + openN N f <= N:=(h.ok h3).few n;omega
theorem HeardS.step (h:HeardS S sure N f0 f r) {n:Int} (hn:0 <= n /\ n < N):HeardS S sure N f0 (hearR S sure (f,r) n).1 (hearR S sure (f,r) n).2:=by
 obtain ⟨o,ho,e⟩:=h;refine ⟨o ++ [n],fun k hk=>?_,?_⟩
 ·rcases List.mem_append.1 hk with hk | hk
  ·exact ho k hk
  ·rw [List.mem_singleton] at hk;subst hk;exact hn
 ·unfold hearsR at e ⊢;rw [List.foldl_append,<- e];rfl
theorem HeardS.reach (h:HeardS S sure N f0 f r):Court.Reach S sure N f0 f:=by
 obtain ⟨o,ho,e⟩:=h;exact ⟨o,ho,by have:=Court.hearsR_fst (S:=S) (sure:=sure) o (f0,fun _=>0);rw [<- e] at this;exact this⟩
end
def allTo (k:Nat):List Int:=(List.range k).map fun (i:Nat)=>(i:Int)
theorem allTo_succ (k:Nat):allTo (k + 1) = allTo k ++ [(k:Int)]:=by unfold allTo;rw [List.range_succ,List.map_append];rfl
theorem hearsR_to (S:List (Int × Int)) (sure:Int -> Bool) (x:(Int -> Nat) × (Int -> Nat)) (k:Nat):hearsR S sure x (allTo (k + 1)) = hearR S sure (hearsR S sure x (allTo k)) k:=by
 unfold hearsR;rw [allTo_succ,List.foldl_append];rfl
theorem round_fst (S:List (Int × Int)) (sure:Int -> Bool) (N:Nat) (f r:Int -> Nat):(hearsR S sure (f,r) (allTo N)).1 = round S sure N f:=Court.hearsR_fst _ _
theorem round_14 {S:List (Int × Int)} {sure:Int -> Bool} {N:Nat} {f:Int -> Nat} (hN:N <= 14) (h:(i14 (round S sure N f) == i14 f) = true):round S sure N f = f:=by
 funext n
 by_cases hn:0 <= n /\ n < 14
 ·have:=i14_eq.1 h n.toNat (by omega)
  rwa [show ((n.toNat:Nat):Int) = n by omega] at this
 ·exact Court.hears_out _ _ _ fun hm=>hn (by have:=Court.mem_allN.1 hm;omega)
def Awarded (w0 w:World) (d:Nat) (C:CaseL) (a1 a2:Option Addr) (c1 c2:Nat) (ref sure:Int -> Bool) (N:Nat) (f0:Int -> Nat) (e:Ending) (w':World):Prop :=
 e = .returned (.pointer (some ⟨d,0,none⟩)) /\ w.grownBy w' (some d) /\ ∃ f r,DeskAt w0 w' d C a1 a2 c1 c2 ref sure f r /\ HeardS C.strikes sure N f0 f r /\ Court.Done C.strikes sure N f
structure AwI (w0 w:World) (d b:Nat) (C:CaseL) (a1 a2:Option Addr) (c1 c2:Nat) (ref sure:Int -> Bool) (N:Nat) (f0 f1 r1:Int -> Nat) (k:Nat) (W:World):Prop where
 le:k <= N
 was:Blk W b 92 (mnL f1).toArray
 ge:w.heap.size <= b
 grown:w.grownBy W (some d)
 desk:DeskAt w0 W d C a1 a2 c1 c2 ref sure (hearsR C.strikes sure (f1,r1) (allTo k)).1 (hearsR C.strikes sure (f1,r1) (allTo k)).2
 heard:HeardS C.strikes sure N f0 (hearsR C.strikes sure (f1,r1) (allTo k)).1 (hearsR C.strikes sure (f1,r1) (allTo k)).2
theorem AwI.step {w0 w W W':World} {d b:Nat} {C:CaseL} {a1 a2:Option Addr} {c1 c2:Nat} {ref sure:Int -> Bool} {N:Nat} {f0 f1 r1:Int -> Nat} {k:Nat} (h:AwI w0 w d b C a1 a2 c1 c2 ref sure N f0 f1 r1 k W) (hk:k < N) (hd:d < w.heap.size) {e:Ending}
  (hh:Hearing w0 W d C a1 a2 c1 c2 ref sure (hearR C.strikes sure ((hearsR C.strikes sure (f1,r1) (allTo k)).1,(hearsR C.strikes sure (f1,r1) (allTo k)).2) k).1 (hearR C.strikes sure ((hearsR C.strikes sure (f1,r1) (allTo k)).1,(hearsR C.strikes sure (f1,r1) (allTo k)).2) k).2 e W'):AwI w0 w d b C a1 a2 c1 c2 ref sure N f0 f1 r1 (k + 1) W':=by
 obtain ⟨_,hg,hd'⟩:=hh;refine ⟨by omega,h.was.grown hg (fun e=>by cases e;have:=h.ge;omega),h.ge,h.grown.trans hg,?_,?_⟩
 ·rw [hearsR_to];exact hd'
 ·rw [hearsR_to];exact h.heard.step (by omega)
set_option maxRecDepth 100000 in
set_option maxHeartbeats 2000000 in
theorem award_any (w0 w:World) (d:Nat) (C:CaseL) (a1 a2:Option Addr) (c1 c2:Nat) (ref sure:Int -> Bool) (f0 f r:Int -> Nat) (hD:DeskAt w0 w d C a1 a2 c1 c2 ref sure f r) (N:Nat) (hN:C.claims = N) (hN14:N <= 14) (hS:∀ s ∈ C.strikes,0 <= s.1 /\ s.1 < 14) (h3:Court.Three f0) (hH:HeardS C.strikes sure N f0 f r) :
  Calls Tryz.prog 62 #[.pointer (some ⟨d,0,none⟩)] w (Awarded w0 w d C a1 a2 c1 c2 ref sure N f0):=by
 have HD:=Lib.hid hD;have HH:=Lib.hid hH;have H3:=Lib.hid h3;have HN:=Lib.hid hN;have HS:=Lib.hid hS;clear hD hH h3 hN hS;go_enter Tryz.func62,Tryz.ntmps62;go_wp2_with fail
 go_loopg [] (openN N f) (fun gk wr=>∃ f r,openN N f = gk /\ w.grownBy wr (some d) /\ DeskAt w0 wr d C a1 a2 c1 c2 ref sure f r /\ HeardS C.strikes sure N f0 f r)
 case atStart=>exact ⟨f,r,rfl,only_refl _ _,HD.out,HH.out⟩
 case round =>
  obtain ⟨f1,r1,hgk,hg,hd1,hh1⟩:=hrel;have HGK:=Lib.hid hgk;have HG:=Lib.hid hg;have HD1:=Lib.hid hd1;have HH1:=Lib.hid hh1;have HR1:=Lib.hid hd1.founds;have k0:=hd1.k0;have hlt:=hd1.lt;rw [HN.out] at k0;clear hgk hg hd1 hh1;go_upto_block 2 with (first | (refine wpList_load_mid rfl 92 (.tmp 7) rfl d 31 rfl (mnL f1) _ HR1.out Tryz.underlying92 rfl (by rw [info92,mnL_len]) ?_) | (refine wpList_store_new rfl 92 (.tmp 3) (.tmp 8) rfl rfl rfl (by rw [info92,List.size_toArray,mnL_len]) (by simp [mnL_len]) (all_oneCell_toArray (mnL_one f1)) ?_))
  have HI0:Hid (AwI w0 w d wr.heap.size C a1 a2 c1 c2 ref sure N f0 f1 r1 0 (wr.alloc (.cells (mnL f1).toArray 92))):=Lib.hid ⟨by omega,Blk.new _ _ _,HG.out.size,only_aft HG.out (Aft.alloc _ _),HD1.out.later (Aft.alloc _ _),HH1.out⟩;have hdw:=HD.out.lt;generalize (wr.alloc (.cells (mnL f1).toArray 92)) = W2 at *;generalize wr.heap.size = b at *;clear k0 hlt;refine wp_block ?_;go_loopw [14] (fun i wr=>∃ k:Nat,i = .int .i64 k /\ AwI w0 w d b C a1 a2 c1 c2 ref sure N f0 f1 r1 k wr) (fun i _=>N - (intOf i).toNat)
  case atStart=>exact ⟨0,rfl,HI0.out⟩
  case round =>
   obtain ⟨k,rfl,hi⟩:=hrel;have hk:=hi.le;have HI:=Lib.hid hi;clear hi;by_cases hkN:k < N
   ·have t1:decide (k < N) = true:=by simpa using hkN
    have HE:=Lib.hid (fun (hr:∀ x,(hearsR C.strikes sure (f1,r1) (allTo k)).2 x <= 1000)=>hear_any w0 wr d C a1 a2 c1 c2 ref sure _ _ HI.out.desk k (by omega) HS.out hr);have HE2:=Lib.hid (HE.out (fun x=>by have:=HI.out.heard.rank H3.out x;omega));go_wp2_with (go_at_call 86;refine HE2.out.mono ?_;rintro e w' hh;have HH2:=Lib.hid (HI.out.step hkN hdw hh);obtain ⟨⟨v,rfl⟩,-,-⟩:=hh)
    exact ⟨⟨k + 1,by go_num,HH2.out⟩,by simp [intOf];omega⟩
   ·have t1:decide (k < N) = false:=by simpa using hkN
    obtain rfl:N = k:=by omega
    clear hkN;go_upto_region 7 with (fail)
    obtain ⟨g,hg⟩:∃ g,(hearsR C.strikes sure (f1,r1) (allTo N)).1 = g:=⟨_,rfl⟩;obtain ⟨s,hs⟩:∃ s,(hearsR C.strikes sure (f1,r1) (allTo N)).2 = s:=⟨_,rfl⟩;have HGR:Hid (round C.strikes sure N f1 = g):=Lib.hid (by rw [<- round_fst (r:=r1)];exact hg);have hdk:=HI.out.desk;have hhd:=HI.out.heard;rw [hg,hs] at hdk hhd;have HDK:=Lib.hid hdk;have HHD:=Lib.hid hhd;clear hdk hhd hg hs;refine wp_region_valsT (by kernel_rfl) 5 28 rfl (by kernel_rfl) (by kernel_rfl) (by kernel_rfl) [.pointer (some ⟨d,0,none⟩),.pointer (some ⟨d,0,none⟩),.pointer (some ⟨d,31,none⟩),.agg (mnL g).toArray,.agg (mnL f1).toArray] rfl (fun _ W=>W = wr.drew) (rfl) ?st1 ?fi1
    case st1 =>
     intro i o v ho hv
     match i,ho,hv with
     | 0,ho,hv =>
      cases ho;cases hv;refine .inl ⟨rfl,fun done a W hd hp hk hw K hK=>?_⟩;have e0:=hk.s 0;exact op_val (by simp [go_sem,ev' e0]) (hK _ hw)
     | 1,ho,hv =>
      cases ho;cases hv;refine .inl ⟨rfl,fun done a W hd hp hk hw K hK=>?_⟩;have e21:=hk.t 0;exact op_val (by simp [go_sem,ev' e21]) (hK _ hw)
     | 2,ho,hv =>
      cases ho;cases hv;refine .inl ⟨rfl,fun done a W hd hp hk hw K hK=>?_⟩;have e22:=hk.t 1;exact op_val (by simp [go_sem,ev' e22]) (hK _ hw)
     | 3,ho,hv =>
      cases ho;cases hv;refine .inl ⟨rfl,fun done a W hd hp hk hw K hK=>?_⟩;have e23:=hk.t 2;exact wp_load_mid 92 (.tmp 23) rfl d 31 e23 (mnL g) _ (by rw [hw];exact (HDK.out.later (Aft.drew _)).founds) Tryz.underlying92 rfl (by rw [info92,mnL_len]) (hK _ hw)
     | 4,ho,hv =>
      cases ho;cases hv;refine .inl ⟨rfl,fun done a W hd hp hk hw K hK=>?_⟩;have e3:=hk.s 3;exact wp_load_mid 92 (.tmp 3) rfl b 0 e3 (mnL f1) _ (by rw [hw];exact blk_range (HI.out.was.drew)) Tryz.underlying92 rfl (by rw [info92,mnL_len]) (hK _ hw)
     | _ + 5,_,hv=>cases hv
    intro done W hd hw;simp only [List.drop_succ_cons,List.drop_zero,List.zip_cons_cons,List.zip_nil_right,putAll];simp only [Act.put,List.setIfInBounds_toArray,List.set];clear hd;subst hw;refine wpList_val (w':=wr.drew) rfl (op_eql_found rfl (f:=g) (g:=f1) rfl rfl) ?_;simp only [Act.put,List.setIfInBounds_toArray,List.set];cases he:(i14 g == i14 f1)
    ·have HNE:Hid (openN N g < gk):=Lib.hid (by
      rw [<- HGK.out,<- HGR.out];refine Court.round_less fun e=>?_
      rw [HGR.out] at e;rw [e] at he;simp at he)
     clear he;go_wp2_with fail
     go_roundg (openN N g)
     case measure=>exact HNE.out
     case rel=>exact ⟨g,s,rfl,only_drew HI.out.grown,HDK.out.later (Aft.drew _),HHD.out⟩
    ·have HEQ:Hid (g = f1):=Lib.hid (by rw [<- HGR.out] at he ⊢;exact round_14 hN14 he);clear he;go_wp2_with fail
     go_ret;refine ⟨rfl,only_drew HI.out.grown,g,s,HDK.out.later (Aft.drew _),HHD.out,?_⟩;rw [HEQ.out];exact Court.done_of_round (HGR.out.trans HEQ.out)
end Go.Proofs
end
section
/- Walks: Award,Ranks. -/
namespace Go.Proofs
open Go.RowKit
open Court (refL begF noS struckB nextR hearR hearsR rule setF allN RankOk openN round award)
def foundL (f:Int -> Nat) (N:Nat):List Int:=(List.range N).map fun (i:Nat)=>((f i:Nat):Int)
theorem foundL_len (f:Int -> Nat) (N:Nat):(foundL f N).length = N:=by unfold foundL;rw [List.length_map,List.length_range]
theorem foundL_get (f:Int -> Nat) (N:Nat) {i:Nat} (h:i < (foundL f N).length):(foundL f N)[i] = (f i:Nat):=by simp [foundL]
theorem own_base {w:World} {b b':Nat} {e:TypeId} {size:Nat} {v:Value} {n:Nat} {xs:List Value} (h:w.ownsRow b e size v n xs) (hb:b' <= b):w.ownsRow b' e size v n xs:=by
 refine ⟨h.1,?_⟩;rcases h.2 with h2 | ⟨g,cap,cur,h1,hg,h3⟩
 ·exact .inl h2
 ·exact .inr ⟨g,cap,cur,h1,Nat.le_trans hb hg,h3⟩
def BadL (C:CaseL) (R:List Int) (w:World) (e:Ending) (w':World):Prop:=e = .returned (.tuple #[.slice none 0 0,.int .i64 (openE C R)]) /\ Aft w w'
def GoodL (L:List Int) (w:World) (e:Ending) (w':World):Prop:=∃ v,e = .returned (.tuple #[v,.int .i64 0]) /\ w'.ownsRow w.heap.size 3 1 v L.length (L.map (Value.int .i64)) /\ Aft w w'
theorem DeskAt.foundInts {w0 w:World} {d:Nat} {C:CaseL} {a1 a2:Option Addr} {c1 c2:Nat} {ref sure:Int -> Bool} {f r:Int -> Nat} (h:DeskAt w0 w d C a1 a2 c1 c2 ref sure f r) {N:Nat} (hN:N <= 14):Ints w (some ⟨d,31,none⟩) (foundL f N) :=
 ⟨by rw [foundL_len];omega,.inr ⟨d,31,rfl,h.lt,fun i hi=>⟨_,rfl,rfl,fun j hj=>by
  have hj0:j = 0:=by simp at hj;omega
  subst hj0;rw [foundL_len] at hi;rw [foundL_get];have:=h.found (i:=i) (by omega);simpa using this⟩⟩⟩
theorem DeskAt.rankInts {w0 w:World} {d:Nat} {C:CaseL} {a1 a2:Option Addr} {c1 c2:Nat} {ref sure:Int -> Bool} {f r:Int -> Nat} (h:DeskAt w0 w d C a1 a2 c1 c2 ref sure f r) {N:Nat} (hN:N <= 14):Ints w (some ⟨d,45,none⟩) (foundL r N) :=
 ⟨by rw [foundL_len];omega,.inr ⟨d,45,rfl,h.lt,fun i hi=>⟨_,rfl,rfl,fun j hj=>by
  have hj0:j = 0:=by simp at hj;omega
  subst hj0;rw [foundL_len] at hi;rw [foundL_get];have:=h.rank (i:=i) (by omega);simpa using this⟩⟩⟩
theorem openE_facts {C:CaseL} {R:List Int} (h:openE C R = 0):CaseOk C /\ (∀ n ∈ R,0 <= n /\ n < C.claims) /\ risesB R = true:=⟨caseE_ok (openE_ok h).1,(listedE_ok (openE_ok h).2).1,(listedE_ok (openE_ok h).2).2⟩
set_option maxRecDepth 100000 in
set_option maxHeartbeats 2000000 in
theorem award_bad (C:CaseL) (a1 a2:Option Addr) (c1 c2:Nat) (R:List Int) (A:Option Addr) (c:Nat) (w:World) (hC:CRep w C a1 a2) (hA:Ints w A R) (he:openE C R ≠ 0) :
  Calls Tryz.prog 39 #[(.agg #[.int .i64 C.claims,.slice a1 C.strikes.length c1,.slice a2 C.surveys.length c2]),.slice A R.length c] w (BadL C R w):=by
 have h0:Aft w (w.alloc (.cells #[.int .i64 C.claims,.slice a1 C.strikes.length c1,.slice a2 C.surveys.length c2] 25)):=Aft.alloc _ _;have H1:Hid (∀ W,Aft w W -> Calls Tryz.prog 68 #[(.agg #[.int .i64 C.claims,.slice a1 C.strikes.length c1,.slice a2 C.surveys.length c2]),.slice A R.length c] W fun e w'=>e = .returned (.tuple #[.pointer none,.int .i64 (openE C R)]) /\ Aft W w'):=Lib.hid fun W h=>opened_bad C a1 a2 c1 c2 R A c W (hC.aft h) (hA.aft h) he
 have H0:=Lib.hid h0;have t1:(openE C R != 0) = true:=by simpa using he
 clear hC hA h0 he;unfold BadL;generalize openE C R = E at *;go_enter Tryz.func39,Tryz.ntmps39;go_wp2_with (go_at_call 68;refine (H1.out _ H0.out).mono ?_;rintro e w' ⟨rfl,u,rfl⟩)
 go_ret2;exact ⟨rfl,H0.out.then_lat _⟩
set_option maxRecDepth 100000 in
set_option maxHeartbeats 2000000 in
theorem award_good (C:CaseL) (a1 a2:Option Addr) (c1 c2:Nat) (R:List Int) (A:Option Addr) (c:Nat) (w:World) (hC:CRep w C a1 a2) (hA:Ints w A R) (he:openE C R = 0) (N:Nat) (hN:C.claims = N) :
  Calls Tryz.prog 39 #[(.agg #[.int .i64 C.claims,.slice a1 C.strikes.length c1,.slice a2 C.surveys.length c2]),.slice A R.length c] w (GoodL (foundL (award C.strikes noS N (begF (refL R))) N) w):=by
 obtain ⟨hok,-,-⟩:=openE_facts he;have hN14:N <= 14:=by have:=hok.n2;omega
 have HS:=Lib.hid (show ∀ s ∈ C.strikes,0 <= s.1 /\ s.1 < 14 from fun s hs=>by have:=(hok.ins s hs).1;have:=hok.n2;omega);have h0:Aft w (w.alloc (.cells #[.int .i64 C.claims,.slice a1 C.strikes.length c1,.slice a2 C.surveys.length c2] 25)):=Aft.alloc _ _;have H1:Hid (∀ W,Aft w W -> Calls Tryz.prog 68 #[(.agg #[.int .i64 C.claims,.slice a1 C.strikes.length c1,.slice a2 C.surveys.length c2]),.slice A R.length c] W (Opened C a1 a2 c1 c2 R W)):=Lib.hid fun W h=>opened_good C a1 a2 c1 c2 R A c W (hC.aft h) (hA.aft h) he
 have H0:=Lib.hid h0;have HB:=Lib.hid (Blk.new w 25 #[.int .i64 C.claims,.slice a1 C.strikes.length c1,.slice a2 C.surveys.length c2]);have HN:=Lib.hid hN;clear hC hA h0 he hok hN;go_enter Tryz.func39,Tryz.ntmps39;go_upto_region 4 with (go_at_call 68;refine (H1.out _ H0.out).mono ?_;rintro e w1 ⟨d,rfl,hd⟩;have HD:=Lib.hid hd;clear hd)
 have HA1:Hid (Aft w w1):=Lib.hid (H0.out.trans HD.out.aft);have hdw:w.heap.size < d:=by have:=HD.out.base;simp at this;omega
 have HB1:=Lib.hid (HB.out.aft HD.out.aft);generalize (w.alloc (.cells #[.int .i64 C.claims,.slice a1 C.strikes.length c1,.slice a2 C.surveys.length c2] 25)) = W0 at *;have HAW:=Lib.hid (award_any W0 w1.drew d C a1 a2 c1 c2 (refL R) noS (begF (refL R)) (begF (refL R)) (fun _=>0) (HD.out.later (Aft.drew _)) N HN.out hN14 HS.out (Court.begF_three _) (HeardS.start _ _ _ _));have z0:w1.drew.cell? ⟨w.heap.size,0,none⟩ = some (.int .i64 N):=by rw [<- HN.out];exact HB1.out.drew.cell 0
 have hlt0:w.heap.size < w1.drew.heap.size:=HB1.out.drew.lt;refine wp_region_valsT (by kernel_rfl) 6 25 rfl (by kernel_rfl) (by kernel_rfl) (by kernel_rfl) [.pointer (some ⟨d,0,none⟩),.pointer (some ⟨d,0,none⟩),.pointer (some ⟨d,0,none⟩),.pointer (some ⟨d,31,none⟩),.pointer (some ⟨w.heap.size,0,none⟩),.int .i64 N] rfl (fun done W=>w1.drew.grownBy W (some d) /\ (done 1 = true -> ∃ f r,DeskAt W0 W d C a1 a2 c1 c2 (refL R) noS f r /\ HeardS C.strikes noS N (begF (refL R)) f r /\ Court.Done C.strikes noS N f) /\ (done 1 = false -> W = w1.drew)) (⟨only_refl _ _,(fun h=>by cases h),fun _=>rfl⟩) ?st1 ?fi1
 case st1 =>
  intro i o v ho hv
  match i,ho,hv with
  | 0,ho,hv =>
   cases ho;cases hv;refine .inl ⟨rfl,fun done a W hd hp hk hw K hK=>?_⟩;have e6:=hk.s 6;exact op_val (by simp [go_sem,ev' e6]) (hK _ hw)
  | 1,ho,hv =>
   cases ho;cases hv;refine .inl ⟨rfl,fun done a W hd hp hk hw K hK=>?_⟩;have e17:=hk.t 0;have e1:W = w1.drew:=hw.2.2 hd;subst e1;refine op_callN rfl rfl rfl _ rfl (vs:=#[.pointer (some ⟨d,0,none⟩)]) (by simp [e17]) HAW.out ?_;rintro e w' ⟨rfl,hg,hx⟩;exact ⟨_,rfl,hK _ ⟨hg,(fun _=>hx),fun h=>by cases h⟩⟩
  | 2,ho,hv =>
   cases ho;cases hv;refine .inl ⟨rfl,fun done a W hd hp hk hw K hK=>?_⟩;have e18:=hk.t 1;exact op_val (by simp [go_sem,ev' e18]) (hK _ hw)
  | 3,ho,hv =>
   cases ho;cases hv;refine .inl ⟨rfl,fun done a W hd hp hk hw K hK=>?_⟩;have e19:=hk.t 2;exact op_val (by simp [go_sem,ev' e19]) (hK _ hw)
  | 4,ho,hv =>
   cases ho;cases hv;refine .inl ⟨rfl,fun done a W hd hp hk hw K hK=>?_⟩;have e2:=hk.s 2;exact op_val (by simp [go_sem,ev' e2]) (hK _ hw)
  | 5,ho,hv =>
   cases ho;cases hv;refine .inl ⟨rfl,fun done a W hd hp hk hw K hK=>?_⟩;have e21:=hk.t 4;exact op_val (by simp [go_sem,ev' e21,cell_grown9 hw.1 hlt0 (by simp;omega),z0]) (hK _ hw)
  | _ + 6,_,hv=>cases hv
 intro done W hd hw;simp only [List.drop_succ_cons,List.drop_zero,List.zip_cons_cons,List.zip_nil_right,putAll];simp only [Act.put,List.setIfInBounds_toArray,List.set];obtain ⟨f,r,hdk,hhd,hdone⟩:=hw.2.1 (hd 1 (by decide));have HF:Hid (f = award C.strikes noS N (begF (refL R))):=Lib.hid (Court.award_eq (Court.begF_three _) hhd.reach hdone);have HHD:=Lib.hid hhd;have HDK:=Lib.hid hdk;have HCL:=Lib.hid (clone84 (some ⟨d,31,none⟩) (foundL f N) 14 W (hdk.foundInts hN14));rw [foundL_len] at HCL;have HG:=Lib.hid hw.1;have i1:(0:Int) <= (N:Int) /\ (N:Int) <= 14:=by omega
 clear hw hdk hhd hdone hd;go_wp2_with (go_at_call 63;refine HCL.out.mono ?_;rintro e w9 ⟨v,rfl,hown,ha9⟩;have HO:=Lib.hid hown;have HA9:=Lib.hid ha9;clear hown ha9)
 go_ret2;have hbig:Aft w w9:=((HA1.out.trans (Aft.drew _)).grown HG.out (fun k e=>by cases e;omega)).trans HA9.out;have hsz:=(HA1.out.trans (Aft.drew _)).size;have hsz2:=HG.out.size;refine ⟨v,rfl,?_,hbig⟩;rw [foundL_len];have:=HO.out;rw [foundL_len,HF.out] at this;exact own_base this (by omega)
def GoodR (S:List (Int × Int)) (sure:Int -> Bool) (N:Nat) (f0:Int -> Nat) (w:World) (e:Ending) (w':World):Prop:=∃ r,HeardS S sure N f0 (award S sure N f0) r /\ GoodL (foundL r N) w e w'
set_option maxRecDepth 100000 in
set_option maxHeartbeats 2000000 in
theorem ranks_bad (C:CaseL) (a1 a2:Option Addr) (c1 c2:Nat) (R:List Int) (A:Option Addr) (c:Nat) (w:World) (hC:CRep w C a1 a2) (hA:Ints w A R) (he:openE C R ≠ 0) :
  Calls Tryz.prog 42 #[(.agg #[.int .i64 C.claims,.slice a1 C.strikes.length c1,.slice a2 C.surveys.length c2]),.slice A R.length c] w (BadL C R w):=by
 have h0:Aft w (w.alloc (.cells #[.int .i64 C.claims,.slice a1 C.strikes.length c1,.slice a2 C.surveys.length c2] 25)):=Aft.alloc _ _;have H1:Hid (∀ W,Aft w W -> Calls Tryz.prog 68 #[(.agg #[.int .i64 C.claims,.slice a1 C.strikes.length c1,.slice a2 C.surveys.length c2]),.slice A R.length c] W fun e w'=>e = .returned (.tuple #[.pointer none,.int .i64 (openE C R)]) /\ Aft W w'):=Lib.hid fun W h=>opened_bad C a1 a2 c1 c2 R A c W (hC.aft h) (hA.aft h) he
 have H0:=Lib.hid h0;have t1:(openE C R != 0) = true:=by simpa using he
 clear hC hA h0 he;unfold BadL;generalize openE C R = E at *;go_enter Tryz.func42,Tryz.ntmps42;go_wp2_with (go_at_call 68;refine (H1.out _ H0.out).mono ?_;rintro e w' ⟨rfl,u,rfl⟩)
 go_ret2;exact ⟨rfl,H0.out.then_lat _⟩
set_option maxRecDepth 100000 in
set_option maxHeartbeats 2000000 in
theorem ranks_good (C:CaseL) (a1 a2:Option Addr) (c1 c2:Nat) (R:List Int) (A:Option Addr) (c:Nat) (w:World) (hC:CRep w C a1 a2) (hA:Ints w A R) (he:openE C R = 0) (N:Nat) (hN:C.claims = N) :
  Calls Tryz.prog 42 #[(.agg #[.int .i64 C.claims,.slice a1 C.strikes.length c1,.slice a2 C.surveys.length c2]),.slice A R.length c] w (GoodR C.strikes noS N (begF (refL R)) w):=by
 obtain ⟨hok,-,-⟩:=openE_facts he;have hN14:N <= 14:=by have:=hok.n2;omega
 have HS:=Lib.hid (show ∀ s ∈ C.strikes,0 <= s.1 /\ s.1 < 14 from fun s hs=>by have:=(hok.ins s hs).1;have:=hok.n2;omega);have h0:Aft w (w.alloc (.cells #[.int .i64 C.claims,.slice a1 C.strikes.length c1,.slice a2 C.surveys.length c2] 25)):=Aft.alloc _ _;have H1:Hid (∀ W,Aft w W -> Calls Tryz.prog 68 #[(.agg #[.int .i64 C.claims,.slice a1 C.strikes.length c1,.slice a2 C.surveys.length c2]),.slice A R.length c] W (Opened C a1 a2 c1 c2 R W)):=Lib.hid fun W h=>opened_good C a1 a2 c1 c2 R A c W (hC.aft h) (hA.aft h) he
 have H0:=Lib.hid h0;have HB:=Lib.hid (Blk.new w 25 #[.int .i64 C.claims,.slice a1 C.strikes.length c1,.slice a2 C.surveys.length c2]);have HN:=Lib.hid hN;clear hC hA h0 he hok hN;go_enter Tryz.func42,Tryz.ntmps42;go_upto_region 4 with (go_at_call 68;refine (H1.out _ H0.out).mono ?_;rintro e w1 ⟨d,rfl,hd⟩;have HD:=Lib.hid hd;clear hd)
 have HA1:Hid (Aft w w1):=Lib.hid (H0.out.trans HD.out.aft);have hdw:w.heap.size < d:=by have:=HD.out.base;simp at this;omega
 have HB1:=Lib.hid (HB.out.aft HD.out.aft);generalize (w.alloc (.cells #[.int .i64 C.claims,.slice a1 C.strikes.length c1,.slice a2 C.surveys.length c2] 25)) = W0 at *;have HAW:=Lib.hid (award_any W0 w1.drew d C a1 a2 c1 c2 (refL R) noS (begF (refL R)) (begF (refL R)) (fun _=>0) (HD.out.later (Aft.drew _)) N HN.out hN14 HS.out (Court.begF_three _) (HeardS.start _ _ _ _));have z0:w1.drew.cell? ⟨w.heap.size,0,none⟩ = some (.int .i64 N):=by rw [<- HN.out];exact HB1.out.drew.cell 0
 have hlt0:w.heap.size < w1.drew.heap.size:=HB1.out.drew.lt;refine wp_region_valsT (by kernel_rfl) 6 25 rfl (by kernel_rfl) (by kernel_rfl) (by kernel_rfl) [.pointer (some ⟨d,0,none⟩),.pointer (some ⟨d,0,none⟩),.pointer (some ⟨d,0,none⟩),.pointer (some ⟨d,45,none⟩),.pointer (some ⟨w.heap.size,0,none⟩),.int .i64 N] rfl (fun done W=>w1.drew.grownBy W (some d) /\ (done 1 = true -> ∃ f r,DeskAt W0 W d C a1 a2 c1 c2 (refL R) noS f r /\ HeardS C.strikes noS N (begF (refL R)) f r /\ Court.Done C.strikes noS N f) /\ (done 1 = false -> W = w1.drew)) (⟨only_refl _ _,(fun h=>by cases h),fun _=>rfl⟩) ?st2 ?fi2
 case st2 =>
  intro i o v ho hv
  match i,ho,hv with
  | 0,ho,hv =>
   cases ho;cases hv;refine .inl ⟨rfl,fun done a W hd hp hk hw K hK=>?_⟩;have e6:=hk.s 6;exact op_val (by simp [go_sem,ev' e6]) (hK _ hw)
  | 1,ho,hv =>
   cases ho;cases hv;refine .inl ⟨rfl,fun done a W hd hp hk hw K hK=>?_⟩;have e17:=hk.t 0;have e1:W = w1.drew:=hw.2.2 hd;subst e1;refine op_callN rfl rfl rfl _ rfl (vs:=#[.pointer (some ⟨d,0,none⟩)]) (by simp [e17]) HAW.out ?_;rintro e w' ⟨rfl,hg,hx⟩;exact ⟨_,rfl,hK _ ⟨hg,(fun _=>hx),fun h=>by cases h⟩⟩
  | 2,ho,hv =>
   cases ho;cases hv;refine .inl ⟨rfl,fun done a W hd hp hk hw K hK=>?_⟩;have e18:=hk.t 1;exact op_val (by simp [go_sem,ev' e18]) (hK _ hw)
  | 3,ho,hv =>
   cases ho;cases hv;refine .inl ⟨rfl,fun done a W hd hp hk hw K hK=>?_⟩;have e19:=hk.t 2;exact op_val (by simp [go_sem,ev' e19]) (hK _ hw)
  | 4,ho,hv =>
   cases ho;cases hv;refine .inl ⟨rfl,fun done a W hd hp hk hw K hK=>?_⟩;have e2:=hk.s 2;exact op_val (by simp [go_sem,ev' e2]) (hK _ hw)
  | 5,ho,hv =>
   cases ho;cases hv;refine .inl ⟨rfl,fun done a W hd hp hk hw K hK=>?_⟩;have e21:=hk.t 4;exact op_val (by simp [go_sem,ev' e21,cell_grown9 hw.1 hlt0 (by simp;omega),z0]) (hK _ hw)
  | _ + 6,_,hv=>cases hv
 intro done W hd hw;simp only [List.drop_succ_cons,List.drop_zero,List.zip_cons_cons,List.zip_nil_right,putAll];simp only [Act.put,List.setIfInBounds_toArray,List.set];obtain ⟨f,r,hdk,hhd,hdone⟩:=hw.2.1 (hd 1 (by decide));have HF:Hid (f = award C.strikes noS N (begF (refL R))):=Lib.hid (Court.award_eq (Court.begF_three _) hhd.reach hdone);have HHD:=Lib.hid hhd;have HDK:=Lib.hid hdk;have HCL:=Lib.hid (clone84 (some ⟨d,45,none⟩) (foundL r N) 14 W (hdk.rankInts hN14));rw [foundL_len] at HCL;have HG:=Lib.hid hw.1;have i1:(0:Int) <= (N:Int) /\ (N:Int) <= 14:=by omega
 clear hw hdk hhd hdone hd;go_wp2_with (go_at_call 63;refine HCL.out.mono ?_;rintro e w9 ⟨v,rfl,hown,ha9⟩;have HO:=Lib.hid hown;have HA9:=Lib.hid ha9;clear hown ha9)
 go_ret2;have hbig:Aft w w9:=((HA1.out.trans (Aft.drew _)).grown HG.out (fun k e=>by cases e;omega)).trans HA9.out;have hsz:=(HA1.out.trans (Aft.drew _)).size;have hsz2:=HG.out.size;have hh:=HHD.out;rw [HF.out] at hh;refine ⟨r,hh,v,rfl,?_,hbig⟩;rw [foundL_len];have:=HO.out;rw [foundL_len] at this;exact own_base this (by omega)
end Go.Proofs
end
